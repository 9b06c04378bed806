/- A part of a proof (see the text that ends in Proof). No conditions. -/
import Derived.Test.YtehlnpncgkmoaaaGreatDoorSfPA
import Derived.KernelRfl
set_option linter.unusedVariables false
set_option linter.unusedSimpArgs false
namespace Go.Lv
variable{a b:Int}{l:List UInt8}{n:Nat}{α:Type}
theorem Ar(h: -9223372036854775808<=a+b:=by omega)(h':a+b<=9223372036854775807:=by omega):Ad a b=a+b:=by rw[Adf,Gh h h']
theorem Km(h: -9223372036854775808<=a-b:=by omega)(h':a-b<=9223372036854775807:=by omega):Ag a b=a-b:=by rw[Adr,Gh h h']
theorem Nk(h: -9223372036854775808<=a*b:=by omega)(h':a*b<=9223372036854775807:=by omega):Bq a b=a*b:=by rw[Acx,Gh h h']
theorem nZ(c:UInt8):(Ae c:Int)=(c.toNat:Int):=by rw[eu,Gh]<;>have:=c.toNat_lt<;>omega
theorem yN(c:UInt32):(Ae c:Int)=(c.toNat:Int):=by rw[P0,Gh]<;>have:=c.toNat_lt<;>omega
theorem zN(c:UInt8):(Ae c:UInt64)=UInt64.ofNat c.toNat:=by simp only[Ae,Wn,Hg]
theorem Ie(c:UInt32):(Ae c:UInt64)=UInt64.ofNat c.toNat:=by simp only[Ae,Tc,Hg]
theorem KI(c:UInt64):(Ae c:UInt8)=UInt8.ofNat c.toNat:=by simp only[Ae,Lj,Ld]
theorem zX(c:UInt32):(Ae c:UInt8)=UInt8.ofNat c.toNat:=by simp only[Ae,Tc,Ld]
theorem IG(n:Nat):(Ae (n:Int):UInt64)=UInt64.ofNat n:=by simp only[Ae];exact Hg n
theorem R9(n:Nat):(Ae (n:Int):UInt32)=UInt32.ofNat n:=by simp only[Ae];exact Jm n
theorem S9{c:UInt64}(h:c.toNat<9223372036854775808):(Ae c:Int)=(c.toNat:Int):=by rw[O5,Gh]<;>omega
theorem J5:tT=17179869184:=F4
theorem Bd:36893488147419103231<As:=F4
theorem Cu{l:List α}(h:n<l.length:=by omega):Af l (n:Int)=some l[n]:=by simp[Af,h]
theorem EU{l:List α}(x:α)(h:n<l.length):Iy l (n:Int) x=some (l.set n x):=by simp[Iy,h]
theorem iZ{l:List α}(h:0<=a:=by omega)(h1:a<=b:=by omega)(h2:b<=l.length:=by omega):Df l a b=some ((l.take b.toNat).drop a.toNat):=by rw[Df,Abw ⟨h,h1,h2⟩]
theorem TN{l:List α}(h:0<=a:=by omega)(h1:a<=l.length:=by omega):Df l a (Ac l)=some (l.drop a.toNat):=by
 unfold Ac;rw[iZ h h1 (Int.le_refl _),Aex,Ajo]
theorem Tj{l:List α}(h:0<=b:=by omega)(h1:b<=l.length:=by omega):Df l 0 b=some (l.take b.toNat):=by rw[iZ (Int.le_refl _) h h1];rfl
theorem Ca{l m:List α}(h:l.length+m.length<=17179869184:=by omega):Ch l m=some (l++m):=by rw[Ch,J5,Abw h]
theorem wQ{n:Int}{z:α}(h:0<=n:=by omega)(h':n<=17179869184:=by omega):S6 n z=some (List.replicate n.toNat z):=by rw[S6,J5,Abw ⟨h,h'⟩]
theorem Cy{b:Bool}(h:b=true):Gu b=some ():=by rw[h];rfl
theorem Aa{β:Type}(a:α)(f:α->Option β):Option.bind (some a) f=f a:=rfl
theorem drop_cons{l:List α}(h:n<l.length):l.drop n=l[n]::l.drop (n+1):=List.drop_eq_getElem_cons h
theorem Wa{l:List α}(h:n<l.length):l.take (n+1)=l.take n++[l[n]]:=by rw[List.take_add_one,List.getElem?_eq_getElem h];rfl
def Ji:List UInt8->Nat
 |[]=>0
 |x::r=>x.toNat+256*Ji r
theorem C7:∀l:List UInt8,Ji l<256^l.length
 |[]=>by simp[Ji]
 |x::r=>by
  have h:=C7 r;have:=x.toNat_lt;simp only[Ji,Ae2,Aih];omega
def tU(l:List UInt8):UInt64:=UInt64.ofNat (Ji l)
theorem xg(h:l.length<=8):Ji l<18446744073709551616:=by
 have h1:=C7 l;have h2:256^l.length<=256^8:=Aey F0 h;exact Ae3 h1 (by simpa using h2)
theorem Abe(h:l.length<=4):Ji l<4294967296:=by
 have h1:=C7 l;have h2:256^l.length<=256^4:=Aey F0 h;exact Ae3 h1 (by simpa using h2)
theorem hH(h:l.length<=8):(tU l).toNat=Ji l:=by
 rw[tU,Af1,Ace (xg h)]
theorem KN(h:l.length<=4):(Ae (tU l):Int)=(Ji l:Int):=by
 have:=Abe h;rw[S9]<;>rw[hH F0];omega
def Zi(n:Nat):Nat->List UInt8
 |0=>[]
 |w+1=>UInt8.ofNat n::Zi (n/256) w
theorem Eo:∀(w n:Nat),(Zi n w).length=w
 |0,_=>rfl
 |w+1,n=>by simp[Zi,Eo w]
theorem uZ:∀(w n:Nat),Zi n (w+1)=Zi n w++[UInt8.ofNat (n/256^w)]
 |0,n=>by simp[Zi]
 |w+1,n=>by
  rw[Zi,uZ w (n/256),Zi];simp[Ajq,Aih,Ag4]
def Mu(p:List UInt8)(i:Nat):Nat:=(p.getD (i/8) 0).toNat/2^(i %8) %2
theorem kU(p:List UInt8)(i:Nat):Mu p i<2:=Ai5 _ F0
def Cp(p:List UInt8):Nat->Nat->Nat
 |_,0=>0
 |a,n+1=>Mu p a+2*Cp p (a+1) n
theorem Ws(p:List UInt8):∀(n a:Nat),Cp p a n<2^n
 |0,_=>by simp[Cp]
 |n+1,a=>by
  have:=Ws p n (a+1);have:=kU p a;rw[Cp,Aih];omega
theorem QP(p:List UInt8):∀(m n a:Nat),Cp p a (m+n)=Cp p a m+2^m*Cp p (a+m) n
 |0,n,a=>by simp[Cp]
 |m+1,n,a=>by
  rw[show m+1+n=(m+n)+1 by omega,Cp,Cp,QP p m n (a+1),show a+1+m=a+(m+1) by omega,Aih,Nat.mul_add,Ag4 (2^m) 2,Ahb];omega
theorem kH(p:List UInt8)(a:Nat):Cp p a 1=Mu p a:=by simp[Cp]
theorem cM(p:List UInt8)(a n:Nat):Cp p a (n+1)=Cp p a n+2^n*Mu p (a+n):=by rw[QP p n 1 a,kH]
theorem TF(p:List UInt8)(a:Nat):∀t:Nat,a %8+t<=8->Cp p a t=(p.getD (a/8) 0).toNat/2^(a %8) %2^t
 |0,_=>by simp[Cp,Nat.mod_one]
 |t+1,h=>by
  have h1:(a+t)/8=a/8:=F0
  have h2:(a+t) %8=a %8+t:=F0
  rw[cM,TF p a t F0,Mu,h1,h2,Nat.mod_pow_succ,Aj1,Ajq]
theorem oA{p:List UInt8}:∀(n a:Nat),(∀k,k<n->Mu p (a+k)=0)->Cp p a n=0
 |0,_,_=>rfl
 |n+1,a,h=>by
  have h0:=h 0 F0;rw[Cp,oA n (a+1) λk hk=>by have:=h (k+1) F0;rwa [show a+1+k=a+(k+1) by omega]];rw[Aiu]at h0;omega
def okB(p:List UInt8)(n:Nat):Prop:=n<=330000/\p.length=(n+7)/8/\∀k,n<=k->k<8*p.length->Mu p k=0
def Ur(p:List UInt8)(a n:Nat):List UInt8:=(List.range ((n+7)/8)).map λj=>UInt8.ofNat (Cp p (a+8*j) (min 8 (n-8*j)))
theorem Hc(p:List UInt8)(a n:Nat):(Ur p a n).length=(n+7)/8:=by simp[Ur]
theorem uV(p:List UInt8):∀(n a k:Nat),k<n->Cp p a n/2^k %2=Mu p (a+k)
 |n+1,a,0,_=>by have:=kU p a;rw[Cp];simp;omega
 |n+1,a,k+1,h=>by
  have hb:=kU p a;have e:(Mu p a+2*Cp p (a+1) n)/2=Cp p (a+1) n:=F0
  rw[Cp,Aih,Ag4 (2^k) 2,<-Ajq,e,uV p n (a+1) k F0,show a+1+k=a+(k+1) by omega]
theorem P1(p:List UInt8)(n a k:Nat)(h:n<=k):Cp p a n/2^k %2=0:=by
 have:=Ws p n a;rw[Ah6 (Ae3 this (Aey F0 h))]
theorem iJ(p:List UInt8)(a n k:Nat):Mu (Ur p a n) k=if k<n then Mu p (a+k)else 0:=by
 rw[Mu];by_cases hj:k/8<(n+7)/8
 ·have e:(Ur p a n).getD (k/8) 0=UInt8.ofNat (Cp p (a+8*(k/8)) (min 8 (n-8*(k/8)))):=by
   rw[List.getD_eq_getElem?_getD,List.getElem?_eq_getElem (by rw[Hc];exact hj)];simp[Ur]
  have hlt:Cp p (a+8*(k/8)) (min 8 (n-8*(k/8)))<256:=by
   have:=Ws p (min 8 (n-8*(k/8))) (a+8*(k/8));have h2:2^(min 8 (n-8*(k/8)))<=2^8:=Aey F0 F0;omega
  have hu:(UInt8.ofNat (Cp p (a+8*(k/8)) (min 8 (n-8*(k/8))))).toNat=Cp p (a+8*(k/8)) (min 8 (n-8*(k/8))):=by
   rw[Afb];exact Ace hlt
  rw[e,hu];by_cases hk:k<n
  ·rw[Abw hk,uV p _ _ _ F0,show a+8*(k/8)+k %8=a+k by omega]
  ·rw[Aa1 hk,P1 p _ _ _ F0]
 ·have e:(Ur p a n).getD (k/8) 0=0:=by
   rw[List.getD_eq_getElem?_getD,List.getElem?_eq_none (by rw[Hc];omega)];rfl
  rw[e,Aa1 F0];simp
theorem qL(p:List UInt8)(a n:Nat)(h:n<=330000):okB (Ur p a n) n:=⟨h,Hc p a n,λk hk _=>by rw[iJ,Aa1 F0]⟩
theorem uA{p q:List UInt8}(hl:p.length=q.length)(h:∀k,k<8*p.length->Mu p k=Mu q k):p=q:=by
 apply Air hl;intro i h1 h2;have hp:Cp p (8*i) 8=Cp q (8*i) 8:=by
  have key:∀(n a:Nat),a+n<=8*p.length->Cp p a n=Cp q a n:=by
   intro n
   induction n with
   |zero=>intros;rfl
   |succ n ih=>intro a ha;rw[Cp,Cp,h a F0,ih (a+1) F0]
  exact key 8 (8*i) F0
 rw[TF p _ 8 F0,TF q _ 8 F0]at hp;have e1:8*i/8=i:=F0
 have e2:8*i %8=0:=F0
 rw[e1,e2]at hp;have a1:p.getD i 0=p[i]:=by simp[List.getD_eq_getElem?_getD,h1]
 have a2:q.getD i 0=q[i]:=by simp[List.getD_eq_getElem?_getD,h2]
 rw[a1,a2]at hp;apply UInt8.toNat_inj.1;have:=p[i].toNat_lt;have:=q[i].toNat_lt;simp at hp;omega
end Go.Lv
namespace Go.Pl
open Go Go.Lv
variable{p:Prop}
theorem F2(h:p:=by rw[Aj,Ac];simp;omega):p:=h
theorem Aj5(h:p:=by rw[Aj];simp;omega):p:=h
theorem Aj9(h:p:=by simp[Aj,Bu];omega):p:=h
theorem Akd(h:p:=by rw[Kv];simp;omega):p:=h
theorem Aki(h:p:=by rw[Dh];simp;omega):p:=h
theorem Akf(h:p:=by unfold Ac;omega):p:=h
theorem Aj4(h:p:=by have:=Bd;omega):p:=h
theorem Akh(h:p:=by rw[Kv];simp):p:=h
end Go.Pl
namespace Go.Pl
open Go Go.Lv
theorem W8(b:LB)(hb:b.length<4611686018427387904):∀(j q:Nat),j<=b.length->j<q->Iv b q (tU (b.drop j)) ((j:Int)-1)=some (tU b)
 |0,q+1,_,_=>by
  rw[Iv,Qt,Aa1 Akh];simp[BW,AS]
 |j+1,q+1,hj,hq=>by
  rw[Iv,Qt,Abw Akh,show((j+1:Nat):Int)-1=(j:Int) by omega,Cu,Aa,Km];have h:Ad (Bq (256:UInt64) (tU (b.drop (j+1)))) (Ae b[j]:UInt64)=tU (b.drop j):=by
   rw[aR,aN,zN,drop_cons (n:=j) F0,tU,tU,Ji,UInt64.ofNat_add,UInt64.ofNat_mul];exact UInt64.add_comm _ _
  rw[h];exact W8 b hb j q F0 F0
theorem nk(b:LB)(hb:b.length<4611686018427387904):Cf b=some (tU b):=by
 have h:=W8 b hb b.length As (Afl _) Aj4;rw[Cf,BK,BM];have e:Ag (Ac b) 1=(b.length:Int)-1:=Km Akf Akf;rw[e,<-h,Ai1];rfl
def part(b:LB)(at' w:Nat):LB:=(b.take (at'+w)).drop at'
theorem He{b:LB}{a w:Nat}(h:a+w<=b.length:=by omega):(part b a w).length=w:=by simp[part];omega
theorem eP(w:Nat)(hw:w<=1000):∀(j i q:Nat) (n:UInt64) (acc:LB),i+j=w->j<q->acc.length+j<=1000000->Fm (w:Int) q n (i:Int) acc=some (acc++Zi n.toNat j)
 |0,i,q+1,n,acc,hi,_,_=>by
  rw[Fm,Ko,Aa1 Aj5];simp[Qv,Rg,Zi]
 |j+1,i,q+1,n,acc,hi,hq,ha=>by
  rw[Fm,Ko,Abw Aj5];have e:(Ae (Wl n (256:UInt64)):UInt8)=UInt8.ofNat n.toNat:=by
   rw[KI,Y0];apply UInt8.toNat_inj.1;rw[Afb,Afb,UInt64.toNat_mod]
   show n.toNat %256 %256=_;omega
  have e2:(Bs n (256:UInt64)).toNat=n.toNat/256:=by rw[ny,UInt64.toNat_div];rfl
  rw[Ca F6,Aa,Ar,e];have h:=eP w hw j (i+1) q (Bs n 256) (acc++[UInt8.ofNat n.toNat]) F0 F0 F6;rw[e2]at h;rw[show((i:Int)+1)=((i+1:Nat):Int) by omega,h,Zi];simp
theorem zV(n:UInt64)(w:Nat)(hw:w<=1000):Cv n (w:Int)=some (Zi n.toNat w):=by
 rw[Cv,Rj,Rb];have h:=eP w hw w 0 As n [] F0 Aj4 F6;simpa using h
theorem gP{α:Type}{l m:List α}{x y:α}{i:Nat}(h:l.length=i):(l++x::m).set i y=l++y::m:=by subst h;simp
theorem nN(n:UInt64)(l4:LB)(w:Nat)(hl:l4.length=w)(hw:w<=8):∀(j i q:Nat),i+j=w->j<q->Rk n l4 q (i:Int) (Zi n.toNat i++List.replicate j 0)=some (Zi n.toNat w,0)
 |0,i,q+1,hi,_=>by
  rw[Rk,DM,Aa1 F2];obtain rfl:i=w:=F0
  simp[OW,fI]
 |j+1,i,q+1,hi,hq=>by
  have hlen:(Zi n.toNat i++List.replicate (j+1) 0).length=i+(j+1):=by simp[Eo]
  rw[Rk,DM,Abw F2,Nk,Cy Akd,Aa,Cu (by rw[hlen];omega),Aa,EU _ (by rw[hlen];omega),Aa,Ar];have e:(Ae (Bo n (GI.toZ ((8:Int)*(i:Int))).toNat):UInt8)=UInt8.ofNat (n.toNat/256^i):=by
   have e:(GI.toZ ((8:Int)*(i:Int))).toNat=8*i:=by show((8:Int)*(i:Int)).toNat=_;omega
   rw[e,KI,Uj,Nat.pow_mul]
  rw[e,Ah9,gP (Eo _ _)];have h:=nN n l4 w hl hw j (i+1) q F0 F0;rw[uZ]at h;simpa using h
theorem Abx(n:UInt64)(w:Nat)(h1:1<=w)(h2:w<=8)(h:n.toNat<256^w):gZ n (w:Int)=some true:=by
 rw[gZ];by_cases h8:w=8
 ·subst h8;rw[Abw (by rw[Dh];rfl)]
 ·rw[Aa1 Aki,Nk,Cy Akd,Aa];have e:(GI.toZ ((8:Int)*(w:Int))).toNat=8*w:=by show((8:Int)*(w:Int)).toNat=_;omega
  rw[e,G6];have:Bo n (8*w)=0:=by
   apply UInt64.toNat_inj.1;rw[Uj,Nat.pow_mul];exact Ah6 h
  rw[this];rfl
theorem HJ(n:UInt64)(w:Nat)(h1:1<=w)(h2:w<=8)(h:n.toNat<256^w):Ru n (w:Int)=some (Zi n.toNat w,0):=by
 rw[Ru,QS,Aa1 Aj9,Abx n w h1 h2 h,Aa,Aa1 Aj6,wQ,Aa,Cy (by rw[Dh];simp),Aa,fJ];have h:=nN n (List.replicate (w:Int).toNat 0) w Aj6 h2 w 0 As F0 Aj4;simpa [Zi]using h
theorem Aj7{p:Prop}(h:p:=by rw[Bu];simp;omega):p:=h
end Go.Pl
namespace Go.Pl
open Go Go.Lv
variable{v:LU}{s t:UInt64}
theorem I9(n:Nat)(h:n<4611686018427387904):Dq (n:Int) (7:Int)=((n %8:Nat):Int):=by
 have e:Dq (n:Int) (7:Int)=wrap64 ((BitVec.ofInt 64 (n:Int)&&&BitVec.ofInt 64 7).toNat:Int):=rfl;rw[e,BitVec.toNat_and,Aiy,Aiy];have h1:((n:Int) %((2^64:Nat):Int)).toNat=n:=F0
 have h2:((7:Int) %((2^64:Nat):Int)).toNat=2^3-1:=F4
 rw[h1,h2,Aiv,Gh F0 F0]
theorem Ag0(n:Nat):sI (n:Int) (GI.toZ (3:UInt64)).toNat=((n/8:Nat):Int):=by
 have e:sI (n:Int) (GI.toZ (3:UInt64)).toNat=(n:Int).fdiv 8:=rfl;rw[e,Agf _ F0];omega
theorem kg{p:LB}{k:Nat}(h:k<p.length):Af p (k:Int)=some (p.getD k 0):=by
 rw[Cu h];simp[List.getD_eq_getElem?_getD,h]
def TV(p:LB)(a n:Nat):UInt64:=UInt64.ofNat (Cp p a n)
theorem RZ(p:LB)(a n:Nat)(h:n<=64):(TV p a n).toNat=Cp p a n:=by
 have h1:=Ws p n a;have h2:2^n<=2^64:=Aey F0 h;rw[TV,Af1,Ace F0]
theorem cT{p:LB}{n:Nat}(h:okB p n):Gz p (n:Int)=some 0:=by
 obtain⟨h1,h2,h3⟩:=h;have e7:Ad (n:Int) 7=((n+7:Nat):Int):=by rw[Ar];omega
 rw[Gz,e7,Ag0,Aa1 (by simp[Aj,Bu,Et,Ac,h2];omega),I9 _ F0];by_cases hz:n %8=0
 ·rw[Aa1 Aj7]
 ·have el:Ag (Ac p) 1=((p.length-1:Nat):Int):=by rw[Ac,Km];omega
  rw[Abw Aj7,el,kg F0,Aa,Cy Akd,Aa];have z:(GI.toZ ((n %8:Nat):Int)).toNat=n %8:=rfl;have hs:Bo (p.getD (p.length-1) 0) (n %8)=0:=by
   apply UInt8.toNat_inj.1;rw[L3];have hv:=TF p n (8-n %8) F0;have h0:Cp p n (8-n %8)=0:=oA _ _ λk hk=>h3 _ F0 F0;rw[h0,show n/8=p.length-1 by omega]at hv;have hlt:(p.getD (p.length-1) 0).toNat/2^(n %8)<2^(8-n %8):=by
    have:=(p.getD (p.length-1) 0).toNat_lt;rw[Nat.div_lt_iff_lt_mul (Ajw F0),<-Aj1,show 8-n %8+n %8=8 by omega];simpa using this
   rw[Ace hlt]at hv;exact hv.symm
  rw[z,hs,Aa1 (by rw[mo];simp)]
theorem lB(p:LB)(a n j:Nat)(h:j<(n+7)/8):(Ur p a n)[j]'(by rw[Hc];exact h)=UInt8.ofNat (Cp p (a+8*j) (min 8 (n-8*j))):=by simp[Ur]
theorem yB(p:LB)(a t:Nat)(h:t<=8):Cp p a t<256:=by
 have h1:=Ws p t a;have h2:2^t<=2^8:=Aey F0 h;omega
def room(p:LB)(a n:Nat):LB:=if n %8=0 then Ur p a n++[0]else Ur p a n
theorem Pd(p:LB)(a n:Nat):(room p a n).length=n/8+1:=by
 rw[room];split<;>simp[Hc]<;>omega
theorem xN(p:LB)(a n j:Nat)(h:j<n/8+1):(room p a n)[j]'(by rw[Pd];exact h)=UInt8.ofNat (Cp p (a+8*j) (min 8 (n-8*j))):=by
 have h0:(room p a n)[j]? =some (UInt8.ofNat (Cp p (a+8*j) (min 8 (n-8*j)))):=by
  rw[room];split
  ·by_cases hj:j<(n+7)/8
   ·rw[List.getElem?_append_left (by rw[Hc];exact hj),List.getElem?_eq_getElem (by rw[Hc];exact hj),lB p a n j hj]
   ·rw[List.getElem?_append_right (by rw[Hc];omega),Hc,show j-(n+7)/8=0 by omega,show n-8*j=0 by omega];rfl
  ·rw[List.getElem?_eq_getElem (by rw[Hc];omega),lB p a n j F0]
 rw[List.getElem?_eq_getElem (by rw[Pd];exact h)]at h0;exact Ajd h0
theorem xA(p:LB)(a n T:Nat)(h1:1<=T)(h:n %8+T<=8):(room p a n).set (n/8) (UInt8.ofNat (Cp p (a+8*(n/8)) (n %8+T)))=Ur p a (n+T):=by
 apply Air (by rw[Aju,Pd,Hc];omega);intro j g1 g2;rw[Aju,Pd]at g1;rw[List.getElem_set,lB p a (n+T) j (by rw[Hc]at g2;exact g2)];split
 ·rename_i e;subst e;rw[show min 8 (n+T-8*(n/8))=n %8+T by omega]
 ·rw[xN p a n j g1,show min 8 (n-8*j)=8 by omega,show min 8 (n+T-8*j)=8 by omega]
theorem oK(p:LB)(a n:Nat):(room p a n)[n/8]'(by rw[Pd];omega)=UInt8.ofNat (Cp p (a+8*(n/8)) (n %8)):=by
 rw[xN p a n _ F0,show min 8 (n-8*(n/8))=n %8 by omega]
theorem Ac5{t:Nat}(h:t<=8):Ag (Cr (1:UInt64) t) (1:UInt64)=UInt64.ofNat (2^t-1):=by
 have:t=0\/t=1\/t=2\/t=3\/t=4\/t=5\/t=6\/t=7\/t=8:=F0
 rcases this with rfl|rfl|rfl|rfl|rfl|rfl|rfl|rfl|rfl<;>decide
theorem Ag7(v:UInt64){t:Nat}(h:t<=8):(Dq v (Ag (Cr (1:UInt64) t) (1:UInt64))).toNat=v.toNat %2^t:=by
 have hp:2^t<=2^8:=Aey F0 h;rw[Ac5 h,vU,UInt64.toNat_and,Af1,Ace (by have:=Ajw (n:=t) (show 0<2 by omega);omega),Aiv]
theorem or8{v w i:Nat}(hv:v<2^i)(hw:w*2^i<256)(hi:i<8):rX (UInt8.ofNat v) (Cr (UInt8.ofNat w) i)=UInt8.ofNat (v+w*2^i):=by
 have hp:2^i<=2^8:=Aey F0 F0;have hpos:0<2^i:=Ajw F0;have hw2:w<256:=Aig (Ajm w hpos) hw;rw[Adb];apply UInt8.toNat_inj.1;have e1:(UInt8.ofNat v).toNat=v:=by rw[Afb,Ace F0]
 have e2:(UInt8.ofNat w).toNat=w:=by rw[Afb,Ace F0]
 rw[UInt8.toNat_or,Aak,e1,e2,Ace hw,Ag4 w,Nat.or_comm,<-Ain hv,Afb,Ajf v];rw[Ag4]at hw;have hb:2^i*w+v<256:=by
  rw[Ain hv];exact Nat.or_lt_two_pow (n:=8) hw F0
 rw[Ace hb]
theorem jg(p:LB)(a n T:Nat)(h:T<=n)(hn:n<=64):Bo (TV p a n) T=TV p (a+T) (n-T):=by
 apply UInt64.toNat_inj.1;rw[Uj,RZ p a n hn,RZ p (a+T) (n-T) F0];have:=Ws p T a
 conv=>lhs;rw[show n=T+(n-T) by omega,QP,Nat.add_mul_div_left _ _ (Ajw F0),Ah6 this,Aif]
theorem qb(p:LB)(a n T:Nat)(h:T<=n)(hn:n<=64):(TV p a n).toNat %2^T=Cp p a T:=by
 have:=Ws p T a;rw[RZ p a n hn]
 conv=>lhs;rw[show n=T+(n-T) by omega,QP,Nat.add_mul_mod_self_left,Ace this]
def Agv(p:LB):Nat->Nat->Nat
 |_,0=>0
 |a,m+1=>if Mu p a=1 then 1+Agv p (a+1) m else 0
theorem G5{n:Nat}(h:n<4294967296):(UInt32.ofNat n).toNat=n:=by rw[Aew];exact Ace h
def okD(k l:Nat)(s t:UInt64):Prop:=k<=24/\l<=24/\s.toNat<=68719476735/\t.toNat<=68719476735
theorem vR(a b:UInt64)(h:a.toNat<=b.toNat):Er a b=a:=by
 show(if _ then _ else _)=_;rw[Lj,Lj,Aa1 F0]
theorem ZO(a:UInt64):geq a a=true:=by rw[G6];simp
theorem Ac0{k l:Nat}(h:okD k l s t):CF (k:Int) (l:Int) s t=some 0:=by
 obtain⟨h1,h2,h3,h4⟩:=h;have e1:Er (aA (k:Int) 0) 24=(k:Int):=by rw[IW,sP];omega
 have e2:Er (aA (l:Int) 0) 24=(l:Int):=by rw[IW,sP];omega
 have e3:Er s (68719476735:UInt64)=s:=vR _ _ (by simpa using h3);have e4:Er t (68719476735:UInt64)=t:=vR _ _ (by simpa using h4);have e5:∀a:Int,geq a a=true:=λa=>by rw[Dh];simp
 rw[CF,Wx,FG,Wp,EL,WC,e1,e2,e3,e4,e5,e5,ZO,ZO];rfl
def SI(s n:UInt64):UInt64:=s+n-s/16
def kS(k:Nat)(s:UInt64):Nat:=if 0<k/\s.toNat<2^(k+4)then k-1 else if k<24/\2^(k+5)<s.toNat then k+1 else k
theorem Ach{k:Nat}(h:k<=24)(s:UInt64):kS k s<=24:=by
 unfold kS;by_cases h1:0<k/\s.toNat<2^(k+4)
 ·rw[Abw h1];omega
 ·rw[Aa1 h1];split<;>omega
theorem G7{n:UInt64}(h:s.toNat<=68719476735)(hn:n.toNat<=4294967295):(SI s n).toNat<=68719476735:=by
 have h1:=s.toNat_lt;have e:(s+n).toNat=s.toNat+n.toNat:=by rw[UInt64.toNat_add];omega
 have e2:(s/16).toNat=s.toNat/16:=by rw[UInt64.toNat_div];rfl
 rw[SI,UInt64.toNat_sub_of_le _ _ (by rw[UInt64.le_iff_toNat_le,e,e2];omega),e,e2];omega
theorem iE(s n:UInt64):Ad s (Ag n (Bo s (GI.toZ (4:UInt64)).toNat))=SI s n:=by
 have e:Bo s (GI.toZ (4:UInt64)).toNat=s/16:=by
  apply UInt64.toNat_inj.1;rw[Uj,UInt64.toNat_div];rfl
 rw[e,aR,xH,SI,UInt64.sub_eq_add_neg,UInt64.sub_eq_add_neg,UInt64.add_assoc]
theorem Afc{k:Nat}(h:k<=24):(Cr (16:UInt64) k).toNat=2^(k+4):=by
 have hp:2^k<=2^24:=Aey F0 h;rw[IF,Aj1]
 show 16*2^k %_=2^k*16;rw[Ace F0,Ag4]
theorem Aeg{k:Nat}(h:k<=24):(Cr (32:UInt64) k).toNat=2^(k+5):=by
 have hp:2^k<=2^24:=Aey F0 h;rw[IF,Aj1]
 show 32*2^k %_=2^k*32;rw[Ace F0,Ag4]
theorem Afn{k:Nat}(h:0<k)(h2:s.toNat<2^(k+4)):kS k s=k-1:=by rw[kS,Abw ⟨h,h2⟩]
theorem Acl{k:Nat}(h:¬(0<k/\s.toNat<2^(k+4)))(h2:k<24)(h3:2^(k+5)<s.toNat):kS k s=k+1:=by rw[kS,Aa1 h,Abw ⟨h2,h3⟩]
theorem H8{k:Nat}(h:¬(0<k/\s.toNat<2^(k+4)))(h2:¬(k<24/\2^(k+5)<s.toNat)):kS k s=k:=by rw[kS,Aa1 h,Aa1 h2]
theorem Acm{α:Type}(k:Nat)(hk:k<=24)(s:UInt64)(f:Int->Option α):
  (if(Ep (k:Int) (0:Int))=true then(
   Option.bind (Gu (Jd (k:Int) (0:Int))) λ_=>
   if(Ci s (Cr (16:UInt64) (GI.toZ (k:Int)).toNat))=true then f (Ag (k:Int) (1:Int))
   else(if(Ci (k:Int) (24:Int))=true then(
    Option.bind (Gu (Jd (k:Int) (0:Int))) λ_=>
    if(Ep s (Cr (32:UInt64) (GI.toZ (k:Int)).toNat))=true then f (Ad (k:Int) (1:Int))else f (k:Int))
    else f (k:Int)))
  else(if(Ci (k:Int) (24:Int))=true then(
    Option.bind (Gu (Jd (k:Int) (0:Int))) λ_=>
    if(Ep s (Cr (32:UInt64) (GI.toZ (k:Int)).toNat))=true then f (Ad (k:Int) (1:Int))else f (k:Int))
    else f (k:Int)))=f ((kS k s:Nat):Int):=by
 have z:(GI.toZ (k:Int)).toNat=k:=rfl;rw[z,Cy Akh];simp only[Aa];rw[K0,qY,Afc hk,Aeg hk];by_cases h0:0<k
 ·rw[Abw Aj7];by_cases h1:s.toNat<2^(k+4)
  ·rw[Abw (by simp[h1]),Afn h0 h1,Km];congr 1;omega
  ·rw[Aa1 F6];by_cases h2:k<24
   ·rw[Abw Aj5];by_cases h3:2^(k+5)<s.toNat
    ·rw[Abw (by simp[h3]),Acl (λh=>h1 h.2) h2 h3,Ar];rfl
    ·rw[Aa1 F6,H8 (λh=>h1 h.2) (λh=>h3 h.2)]
   ·rw[Aa1 Aj5,H8 (λh=>h1 h.2) (λh=>h2 h.1)]
 ·rw[Aa1 Aj7];by_cases h2:k<24
  ·rw[Abw Aj5];by_cases h3:2^(k+5)<s.toNat
   ·rw[Abw (by simp[h3]),Acl (λh=>h0 h.1) h2 h3,Ar];rfl
   ·rw[Aa1 F6,H8 (λh=>h0 h.1) (λh=>h3 h.2)]
  ·rw[Aa1 Aj5,H8 (λh=>h0 h.1) (λh=>h2 h.1)]
def G0(v:UInt32):UInt64:=UInt64.ofNat v.toNat
theorem Z1(v:UInt32):(G0 v).toNat<=4294967295:=by have:=v.toNat_lt;rw[G0,Af1,Ace F0];omega
def aM(k:Nat)(v:UInt32):UInt32:=UInt32.ofNat (v.toNat-2^k)
def lK(l:Nat)(t:UInt64)(k:Nat)(v:UInt32):Nat:=if v.toNat<2^k then l else kS l (SI t (G0 (aM k v)))
def lT(t:UInt64)(k:Nat)(v:UInt32):UInt64:=if v.toNat<2^k then t else SI t (G0 (aM k v))
theorem V6{k l:Nat}(h:okD k l s t)(v:UInt32):okD (kS k (SI s (G0 v))) (lK l t k v) (SI s (G0 v)) (lT t k v):=by
 obtain⟨h1,h2,h3,h4⟩:=h;refine⟨Ach h1 _,?_,G7 h3 (Z1 v),?_⟩
 ·unfold lK;split; · exact h2
  exact Ach h2 _
 ·unfold lT;split; · exact h4
  exact G7 h4 (Z1 _)
theorem uU(k l:Nat)(s t:UInt64)(hk:k<=24)(v:UInt32):Wi (k:Int) (l:Int) s t v=some (if v.toNat<2^k then(0,v)else(1,aM k v)):=by
 have hp:2^k<=2^24:=Aey F0 hk;have hpos:0<2^k:=Ajw F0;have hl:=v.toNat_lt;have z:(GI.toZ (k:Int)).toNat=k:=rfl;have e1:geq (Bo v k) (0:UInt32)=decide (v.toNat<2^k):=by
  rw[G4,Agz];simp only[Aiz,<-UInt32.toNat_inj,OX,Acs]
  show _/_=0↔_;rw[Nat.div_eq_zero_iff];omega
 have e2:¬v.toNat<2^k->Ag v (Cr (1:UInt32) k)=aM k v:=by
  intro h;have e3:(Cr (1:UInt32) k).toNat=2^k:=by rw[iC];show 1*2^k %_=_;rw[Ace F0,Agy]
  apply UInt32.toNat_inj.1;rw[jC,UInt32.toNat_sub_of_le _ _ (by rw[UInt32.le_iff_toNat_le,e3];omega),e3,aM,G5 F0]
 rw[Wi,Cy Akh,Aa,Aa,z,e1];by_cases h:v.toNat<2^k
 ·rw[Abw (by simp[h]),Abw h]
 ·rw[Aa1 F6,Aa1 h,e2 h]
abbrev Rd:=UInt32×Int×Int×Int×UInt64×UInt64×Int
abbrev DuN:=Nat×Nat×UInt64×UInt64
def okN(d:DuN):Prop:=okD d.1 d.2.1 d.2.2.1 d.2.2.2
def nxt(d:DuN)(v:UInt32):DuN:=(kS d.1 (SI d.2.2.1 (G0 v)),lK d.2.1 d.2.2.2 d.1 v,SI d.2.2.1 (G0 v),lT d.2.2.2 d.1 v)
def qh:DuN:=(10,10,16384,16384)
theorem Z9:okN qh:=⟨F4,F4,F4,F4⟩
theorem Ad2{d:DuN}(h:okN d)(v:UInt32):okN (nxt d v):=V6 h v
abbrev DuL:=Int×Int×UInt64×UInt64×Unit
def toI(d:DuN):DuL:=((d.1:Int),(d.2.1:Int),d.2.2.1,d.2.2.2,())
def zR(ch:Nat)(v:LU)(c:Nat):Nat->DuN
 |0=>qh
 |m+1=>if m %ch=c then nxt (zR ch v c m) (v.getD m 0)else zR ch v c m
theorem rF(ch:Nat)(v:LU)(c:Nat):∀m,okN (zR ch v c m)
 |0=>Z9
 |m+1=>by rw[zR];split;exact Ad2 (rF ch v c m) _;exact rF ch v c m
theorem K9(ch:Nat)(v w:LU)(c:Nat):∀m,m<=v.length->zR ch (v++w) c m=zR ch v c m
 |0,_=>rfl
 |m+1,h=>by
  have e:(v++w).getD m 0=v.getD m 0:=by simp[List.getD_eq_getElem?_getD,List.getElem?_append_left (show m<v.length by omega)]
  rw[zR,zR,K9 ch v w c m F0,e]
theorem qd{l:LU}{k:Nat}(h:k<l.length):Af l (k:Int)=some (l.getD k 0):=by
 rw[Cu h];simp[List.getD_eq_getElem?_getD,h]
theorem XG(a b:Nat):Ip (a:Int) (b:Int)=((a %b:Nat):Int):=by rw[Ip,Int.tmod_eq_emod_of_nonneg F0];omega
def now(ch:Nat)(v:LU):DuN:=zR ch v (v.length %ch) v.length
def win(N a:Nat):Nat:=min 81 (N-a)
def jl(ch:Nat)(v:LU):List DuL:=(List.range 6).map λc=>toI (zR ch v c v.length)
theorem Aaj{ch:Nat}{c:Nat}(h:c<6):Af (jl ch v) (c:Int)=some (toI (zR ch v c v.length)):=by
 rw[Cu (by simp[jl];exact h)];simp[jl]
theorem Abm{ch:Nat}{c:Nat}(x:UInt32)(h:c<6)(hc:c=v.length %ch):Iy (jl ch v) (c:Int) (toI (nxt (zR ch v c v.length) x))=some (jl ch (v++[x])):=by
 rw[EU _ (by simp[jl];exact h)];congr 1;apply Air (by simp[jl]);intro i h1 h2;rw[List.getElem_set];simp only[jl,List.getElem_map,List.getElem_range];have e:(v++[x]).getD v.length 0=x:=by simp
 rw[Abr,Ail,zR,e,K9 ch v [x] i v.length (Afl _)];by_cases hi:c=i
 ·subst hi;rw[Abw rfl,Abw hc.symm]
 ·rw[Aa1 hi,Aa1 F0]
theorem Abp{ch:Nat}{c:Nat}(hc:c=v.length %ch):zR ch v c v.length=now ch v:=by rw[now,hc]
theorem tJ(n:Int):(GI.ofZ n:Int32)=Int32.ofInt n:=rfl
theorem DU(a:Int32):GI.toZ a=a.toInt:=rfl
theorem uJ(a b:Int32):Ad a b=a+b:=by
 rw[Ad,DU,DU,tJ,Int32.ofInt_add,Ait,Ait]
theorem QD(a b:Int32):Ag a b=a-b:=by
 rw[Ag,DU,DU,tJ,Int32.ofInt_sub,Ait,Ait]
theorem H3(a b:Int32):geq a b=(a==b):=by
 rw[geq,DU,DU,Agz];simp[Int32.toInt_inj]
def mJ(p:Nat->Bool)(a b:LX):LX:=(List.range a.length).map λk=>if p k=true then a.getD k 0 else b.getD k 0
section
variable {p q:Nat->Bool} {a b:LX}
theorem DT:(mJ p a b).length=a.length:=by simp[mJ]
theorem ZJ{k:Nat}(h:k<a.length):a.getD k 0=a[k]:=by simp[List.getD_eq_getElem?_getD,h]
theorem Ng{k:Nat}(h:k<(mJ p a b).length):(mJ p a b)[k]=if p k=true then a.getD k 0 else b.getD k 0:=by simp[mJ]
theorem bI{k:Nat}(h:k<a.length):Af (mJ p a b) (k:Int)=some (if p k=true then a.getD k 0 else b.getD k 0):=by
 rw[Cu (by rw[DT];exact h),Ng]
theorem cI(h:∀k,k<a.length->p k=q k):mJ p a b=mJ q a b:=by
 apply Ajk;intro k hk;rw[h k (List.mem_range.1 hk)]
theorem sS{k:Nat}(h:k<a.length):Iy (mJ p a b) (k:Int) (a.getD k 0)=some (mJ (λj=>p j||decide (j=k)) a b):=by
 rw[EU _ (by rw[DT];exact h)];congr 1;apply Air (by simp[DT]);intro i h1 h2;rw[List.getElem_set,Ng,Ng];by_cases hi:k=i
 ·subst hi;simp
 ·have:¬i=k:=λe=>hi e.symm;simp[hi,this]
theorem J9(h:∀k,k<a.length->p k=true):mJ p a b=a:=by
 apply Air (by simp[DT]);intro i h1 h2;rw[Ng,Abw (h i h2),ZJ h2]
theorem uB(hl:b.length=a.length)(h:∀k,k<a.length->p k=false):mJ p a b=b:=by
 apply Air (by simp[DT,hl]);intro i h1 h2;rw[Ng,h i F0];simp[List.getD_eq_getElem?_getD,h2]
end
theorem Akc{p:Prop}(h:p:=by rw[Et];simp):p:=h
theorem Akj{p:Prop}(h:p:=by rw[Aj];simp):p:=h
end Go.Pl
namespace Go.Pl
open Go Go.Lv
variable{s bits:Int}{x w:Int32}{t p a b:LX}{i:Nat}
theorem V7(a b:Int32):Bq a b=a*b:=by
 rw[Bq,DU,DU,tJ,Int32.ofInt_mul,Ait,Ait]
theorem B5(a:Int32): -2147483648<=a.toInt/\a.toInt<2147483648:=⟨a.le_toInt,a.toInt_lt⟩
theorem pG(a:Int32):(Ae a:Int)=a.toInt:=by
 have:=B5 a
 show wrap64 a.toInt=_;rw[Gh]<;>omega
def OkF(s:Int)(t p:LX):Prop:=(s=9\/s=10)/\t.length=16/\p.length=16
theorem cR(h:OkF s t p):Wf s t p=some 0:=by
 obtain⟨rfl|rfl,_,_⟩:=h<;>rfl
theorem g32{l:LX}{k:Nat}(h:k<l.length):Af l (k:Int)=some (l.getD k 0):=by
 rw[Cu h];simp[List.getD_eq_getElem?_getD,h]
def J0(t p:LX):Nat->Int32
 |0=>0
 |i+1=>J0 t p i+t.getD i 0*p.getD i 0
def half(s:Int):Int32:=if s=9 then 256 else 512
def gF(s:Int)(t p:LX):Int32:=Int32.ofInt ((half s+J0 t p 16).toInt.fdiv (if s=9 then 512 else 1024))
theorem oI{s:Int}{t p:LX}(h:OkF s t p):∀(j i q:Nat),i+j=16->j<q->Md t s p q (half s+J0 t p i) (i:Int)=some (gF s t p,0)
 |0,i,q+1,hi,_=>by
  obtain rfl:i=16:=F0
  have hs:=h.1;rw[Md,Wu,Aa1 Akj,ER,WR,Cy Akd,Aa];obtain rfl|rfl:=hs<;>rfl
 |j+1,i,q+1,hi,hq=>by
  obtain⟨hs,ht,hp⟩:=h;rw[Md,Wu,Abw Aj5,g32 F0,Aa,g32 F0,Aa,Aa,Ar (b:=1) F0 F0,uJ,V7,Int32.add_assoc];exact oI ⟨hs,ht,hp⟩ j (i+1) q F0 F0
theorem jy(h:OkF s t p):BU s t p=some (gF s t p,0):=by
 have hs:=h.1;have h1:=oI h 16 0 As F0 Aj4;have e:Cr (1:Int32) (GI.toZ (Ag s (1:Int))).toNat=half s+J0 t p 0:=by
  obtain rfl|rfl:=hs<;>rfl
 rw[BU,EP,cR h,Aa,Aa1 Akc,Cy (by rw[Kv,Km];simp;omega),Aa,WJ,e];exact h1
def yL(i:Nat):Int32:=if i=0 then 4 else if i<4 then 2 else 1
def sg(x:Int32):Int32:=if x.toInt<0 then -1 else if 0<x.toInt then 1 else 0
def yS(t p:LX)(w:Int32):LX:=(List.range 16).map λi=>t.getD i 0+yL i*sg (p.getD i 0)*sg w
theorem KM(t p:LX)(w:Int32):(yS t p w).length=16:=by simp[yS]
theorem I6(t p:LX)(w:Int32)(h:i<16):(yS t p w).getD i 0=t.getD i 0+yL i*sg (p.getD i 0)*sg w:=by
 rw[ZJ (by rw[KM];exact h)];simp[yS]
theorem step_eq(i:Nat):GF (i:Int)=some (yL i):=by
 rw[GF,yL];by_cases h:i=0
 ·rw[Abw (by rw[Dh];simp[h]),Abw h]
 ·rw[Aa1 Aki,Aa1 h];by_cases h2:i<4
  ·rw[Abw Aj5,Abw h2]
  ·rw[Aa1 Aj5,Aa1 h2]
theorem zQ(a b:Int32):Ci a b=decide (a.toInt<b.toInt):=rfl
theorem Adq(a b:Int32):Ep a b=decide (b.toInt<a.toInt):=rfl
theorem J3:sg 0=0:=rfl
theorem toInt_ne(h:x≠0):x.toInt≠0:=λe=>h (Int32.toInt_inj.1 (by rw[e];rfl))
theorem qG(h:x.toInt<0):sg x= -1:=by rw[sg,Abw h]
theorem qI(h:x≠0)(h2:¬x.toInt<0):sg x=1:=by
 have:=toInt_ne h;rw[sg,Aa1 h2,Abw F0]
theorem TC(i:Nat):yL i=4\/yL i=2\/yL i=1:=by
 unfold yL;by_cases h:i=0
 ·rw[Abw h];exact .inl rfl
 ·rw[Aa1 h];split;exact .inr (.inl rfl);exact .inr (.inr rfl)
theorem Q1(hx:x≠0)(hw:w≠0)(h:(x.toInt<0)=(w.toInt<0))(i:Nat):yL i*sg x*sg w=yL i:=by
 by_cases h1:x.toInt<0
 ·rw[qG h1,qG (by rw[<-h];exact h1)];obtain e|e|e:=TC i<;>rw[e]<;>decide
 ·rw[qI hx h1,qI hw (by rw[<-h];exact h1)];obtain e|e|e:=TC i<;>rw[e]<;>decide
theorem yU(hx:x≠0)(hw:w≠0)(h:¬(x.toInt<0)=(w.toInt<0))(i:Nat)(a:Int32):a+yL i*sg x*sg w=a-yL i:=by
 have key:yL i*sg x*sg w=-yL i:=by
  by_cases h1:x.toInt<0
  ·have h2:¬w.toInt<0:=λh2=>h (propext ⟨λ_=>h2,λ_=>h1⟩);rw[qG h1,qI hw h2];obtain e|e|e:=TC i<;>rw[e]<;>decide
  ·have h2:w.toInt<0:=Decidable.by_contra λh2=>h (propext ⟨λh3=>absurd h3 h1,λh3=>absurd h3 h2⟩);rw[qI hx h1,qG h2];obtain e|e|e:=TC i<;>rw[e]<;>decide
 rw[key,Int32.sub_eq_add_neg]
def lN(i:Nat):Nat->Bool:=λj=>decide (j<i)
theorem xV(h:i<a.length):Iy (mJ (lN i) a b) (i:Int) (a.getD i 0)=some (mJ (lN (i+1)) a b):=by
 rw[sS h];congr 1;apply cI;intro k _;rw[Agz];simp only[lN,Ah5,Acs];omega
theorem R8(e:a.getD i 0=b.getD i 0):mJ (lN i) a b=mJ (lN (i+1)) a b:=by
 apply Ajk;intro k _;simp only[lN,Acs];by_cases h1:k<i
 ·rw[Abw h1,Abw F0]
 ·by_cases h2:k=i
  ·subst h2;rw[Aa1 h1,Abw F0,e]
  ·rw[Aa1 h1,Aa1 F0]
theorem oz(h:i<a.length):Af (mJ (lN i) a b) (i:Int)=some (b.getD i 0):=by
 rw[bI h,Aa1 (by simp[lN])]
theorem pJ{s:Int}{t p:LX}{w:Int32}(hw:w≠0)(ht:t.length=16)(hp:p.length=16):∀(j i q:Nat),i+j=16->j<q->Lz w p s q (i:Int) (mJ (lN i) (yS t p w) t)=some (s,yS t p w,p,0)
 |0,i,q+1,hi,_=>by
  obtain rfl:i=16:=F0
  rw[Lz,Wv,Aa1 Akj,J9 (λk hk=>by rw[KM]at hk;simpa [lN]using hk)];rfl
 |j+1,i,q+1,hi,hq=>by
  have hl:=KM t p w;have hg:=I6 t p w (i:=i) F0;rw[Lz,Wv,Abw Aj5,g32 F0,Aa,Ar (b:=1) F0 F0,oz F0,step_eq];simp only[Aa];rw[uJ,QD,H3,zQ,zQ,show(0:Int32).toInt=0 from rfl];have ih:=pJ (s:=s) hw ht hp j (i+1) q F0 F0;by_cases hx:p.getD i 0=0
  ·rw[Abw (by rw[hx];rfl),R8 (by rw[hg,hx,J3,Int32.mul_zero,Int32.zero_mul,Int32.add_zero])];exact ih
  ·rw[Aa1 (by simpa using hx)];by_cases hs:((p.getD i 0).toInt<0)=(w.toInt<0)
   ·rw[Abw (by rw[Aiz];simp only[hs]),show t.getD i 0+yL i=(yS t p w).getD i 0 by rw[hg,Q1 hx hw hs],xV F0,Aa];exact ih
   ·rw[Aa1 (by rw[Aiz,decide_eq_decide];exact λh=>hs (propext h)),show t.getD i 0-yL i=(yS t p w).getD i 0 by rw[hg,yU hx hw hs],xV F0,Aa];exact ih
theorem U8(p:LX)(ht:t.length=16):yS t p 0=t:=by
 apply Air (by rw[KM,ht]);intro i h1 h2;have:=I6 t p 0 (i:=i) F0;rw[ZJ h1,ZJ h2]at this;rw[this,J3,Int32.mul_zero,Int32.add_zero]
theorem jq(h:OkF s t p)(w:Int32):LM s t p w=some (s,yS t p w,p,0):=by
 rw[LM,EZ,cR h,Aa,Aa1 Akc,H3];by_cases hw:w=0
 ·rw[Abw (by simpa using hw),hw,U8 p h.2.1]
 ·have h1:=pJ (s:=s) hw h.2.1 h.2.2 16 0 As F0 Aj4;rw[uB (by rw[KM,h.2.1]) (λk _=>by simp[lN])]at h1;rw[Aa1 (by simpa using hw)];exact h1
theorem zq(h:p.length=16):∃a0 a1 a2 a3 a4 a5 a6 a7 a8 a9 b0 b1 b2 b3 b4 b5,p=[a0,a1,a2,a3,a4,a5,a6,a7,a8,a9,b0,b1,b2,b3,b4,b5]:=by
 match p,h with
 |[a0,a1,a2,a3,a4,a5,a6,a7,a8,a9,b0,b1,b2,b3,b4,b5],_=>exact⟨a0,a1,a2,a3,a4,a5,a6,a7,a8,a9,b0,b1,b2,b3,b4,b5,rfl⟩
theorem yg(h:OkF s t p)(x:Int32):TK s t p x=some (s,t,x::p.take 15,0):=by
 obtain⟨hs,ht,hp⟩:=h;rw[TK,Zz,cR ⟨hs,ht,hp⟩,Aa,Aa1 Akc,show ZD (16:Int) 1 16=some ()from rfl,Aa,show ZD (16:Int) 0 16=some ()from rfl,Aa,KA,ZS];obtain⟨a0,a1,a2,a3,a4,a5,a6,a7,a8,a9,b0,b1,b2,b3,b4,b5,rfl⟩:=zq hp;rfl
theorem W4(h:OkF s t p)(w x:Int32):OkF s (yS t p w) (x::p.take 15):=⟨h.1,KM _ _ _,by simp[h.2.2]⟩
def sB(bits:Int):Int:=if bits=16 then 9 else 10
def shB(bits:Int):Int:=if bits=8 then 4 else 5
def Eg(bits:Int):Prop:=bits=8\/bits=16\/bits=24
def gs(sh:Int)(last:Int32):Int32:=Ae (sI (Ag (Cr (Ae last:Int) sh.toNat) (Ae last)) sh.toNat)
theorem Afw(bits:Int):sB bits=9\/sB bits=10:=by unfold sB;split<;>simp
theorem Aas(bits:Int):0<=shB bits:=by unfold shB;split<;>omega
theorem Ag8(h:Eg bits)(t:LX):aV bits t=some (sB bits,t,List.replicate 16 0,0):=by
 obtain rfl|rfl|rfl:=h<;>rfl
theorem Aeq(h:Eg bits):QJ bits=some (shB bits,0):=by
 obtain rfl|rfl|rfl:=h<;>rfl
theorem Adc{sh:Int}(h:0<=sh)(last:Int32):DA sh last=some (gs sh last):=by
 rw[DA,Cy (by rw[Kv];simpa using h),Aa,Aa];rfl
theorem Adt(h:Eg bits)(last:Int32):Rh bits last=some (gs (shB bits) last,0):=by
 rw[Rh,Aeq h,Aa];simp only;rw[Aa1 Akc,Adc (Aas bits),Aa]
theorem D0(h:Eg bits)(last:Int32)(t p:LX):Rf bits last (sB bits) t p=some 0:=by
 rw[Rf,Ag8 h,Aa];simp only;rw[Aa1 (by rw[Et,Et];simp)]
def nP(n:UInt32):Int32:=if n.toNat %2=0 then Int32.ofInt ((n.toNat/2:Nat):Int)else Int32.ofInt (-((n.toNat/2:Nat):Int)-1)
theorem Aj8{p:Prop}(h:p:=by rw[Bu,Ac];simp;omega):p:=h
theorem Aka{p:Prop}(h:p:=by rw[Et];simp;omega):p:=h
end Go.Pl
namespace Go.Pl
open Go Go.Lv
variable{bits:Int}{v:LU}
theorem uW{c:Prop} [Decidable c](h:c):Gu (decide c)=some ():=by rw[decide_eq_true h];rfl
section
variable (ch:Nat) (m:LX)
theorem Y7(h1:1<=ch)(h6:ch<=6)(hm:m.length %ch=0)(hl2:m.length<=4000):HK (ch:Int) m=some 0:=by
 rw[HK,Aa1 Aj9,Aa1 Aj8,Cy Aka,Aa,Aa1];rw[Et,Ip,Ac,<-Int.ofNat_tmod,hm];simp
theorem lq{at' ch n:Nat}(ha:at' %ch=0)(hm:n %ch=0)(h:at'<n):at'+ch<=n:=by
 have d1:=Nat.div_add_mod at' ch;have d2:=Nat.div_add_mod n ch;rw[ha,Aiu]at d1;rw[hm,Aiu]at d2;have hlt:at'/ch<n/ch:=by
  rcases Aje (at'/ch) (n/ch)with h'|h'
  ·exact h'
  ·have:=Aij ch h';omega
 have:=Aij ch (show at'/ch+1<=n/ch from hlt);rw[Nat.mul_add]at this;omega
end
def pre{α:Type}(ch c:Nat)(f:α->Nat->α)(a0:α):Nat->α
 |0=>a0
 |m+1=>if m %ch=c then f (pre ch c f a0 m) m else pre ch c f a0 m
abbrev CS:=Int32×LX×LX
def V4(bits:Int)(s:CS)(y:Int32):Int32:=y+gF (sB bits) s.2.1 s.2.2+gs (shB bits) s.1
def vP(bits:Int)(s:CS)(y:Int32):CS:=(V4 bits s y,yS s.2.1 s.2.2 y,(y+gF (sB bits) s.2.1 s.2.2)::s.2.2.take 15)
def cst(bits:Int)(ch:Nat)(t:LX)(v:LU)(c:Nat):Nat->CS:=pre ch c (λs i=>vP bits s (nP (v.getD i 0))) (0,t,List.replicate 16 0)
def OkC(bits:Int)(s:CS):Prop:=OkF (sB bits) s.2.1 s.2.2
theorem qy(bits:Int)(ch:Nat){t:LX}(ht:t.length=16)(v:LU)(c:Nat):∀m,OkC bits (cst bits ch t v c m)
 |0=>⟨Afw bits,ht,by simp[cst,pre]⟩
 |m+1=>by
  have ih:=qy bits ch ht v c m;rw[cst,pre];split
  ·exact W4 ih _ _
  ·exact ih
abbrev CL:=Int×Int32×(Int×LX×LX×Unit)×Unit
def toC(bits:Int)(s:CS):CL:=(bits,s.1,(sB bits,s.2.1,s.2.2,()),())
def tq(bits:Int)(ch:Nat)(t:LX)(v:LU)(i:Nat):List CL:=(List.range 6).map λc=>toC bits (cst bits ch t v c i)
theorem Abk{ch:Nat}{t:LX}{i c:Nat}(h:c<6):Af (tq bits ch t v i) (c:Int)=some (toC bits (cst bits ch t v c i)):=by
 rw[Cu (by simp[tq];exact h)];simp[tq]
theorem uQ(bits:Int)(ch:Nat)(t:LX)(v:LU)(c m:Nat):cst bits ch t v c (m+1)=if m %ch=c then vP bits (cst bits ch t v c m) (nP (v.getD m 0))else cst bits ch t v c m:=rfl
theorem Aa6{ch:Nat}{t:LX}{i c:Nat}(h:c<6)(hc:i %ch=c):Iy (tq bits ch t v i) (c:Int) (toC bits (vP bits (cst bits ch t v c i) (nP (v.getD i 0))))=some (tq bits ch t v (i+1)):=by
 rw[EU _ (by simp[tq];exact h)];congr 1;apply Air (by simp[tq]);intro k h1 h2;rw[List.getElem_set];simp only[tq,List.getElem_map,List.getElem_range];by_cases hk:c=k
 ·subst hk;rw[Abw rfl,uQ,Abw hc]
 ·rw[Aa1 hk,uQ,Aa1 F0]
def hB(bits:Int):Int:=if bits=8 then 128 else if bits=16 then 32768 else 8388608
theorem zF(h:Eg bits):Kx bits=some (Int32.ofInt (-(hB bits)),Int32.ofInt (hB bits-1),0):=by
 obtain rfl|rfl|rfl:=h<;>decide
theorem Z6(h:Eg bits):Gf bits=some (hB bits):=by
 obtain rfl|rfl|rfl:=h<;>rfl
theorem iS(bits:Int):0<hB bits/\hB bits<=8388608:=by
 unfold hB;split; · omega
 ·split<;>omega
theorem kM{bits:Int}(h:Eg bits)(l:LX)(hl:l.length<=4000):∀(j i q:Nat),i+j=l.length->j<q->
  Kg (Int32.ofInt (-(hB bits))) (Int32.ofInt (hB bits-1)) l q (i:Int)=Cl l (hB bits) q (i:Int)
 |0,i,q+1,hi,_=>by
  rw[Kg,Sa,Cl,Gm,Aa1 F2,Aa1 F2];rfl
 |j+1,i,q+1,hi,hq=>by
  have hh:=iS bits;have ih:=kM h l hl j (i+1) q F0 F0;have e1:(Int32.ofInt (-(hB bits))).toInt= -(hB bits):=by rw[Ajx,Int.bmod_eq_of_le (by show -(4294967296/2:Int)<= _;omega) (by show _<(4294967296+1)/2;omega)]
  have e2:(Int32.ofInt (hB bits-1)).toInt=hB bits-1:=by rw[Ajx,Int.bmod_eq_of_le (by show -(4294967296/2:Int)<= _;omega) (by show _<(4294967296+1)/2;omega)]
  rw[Kg,Sa,Cl,Gm,Abw F2,Abw F2,g32 F0,Aa,Aa,Aa,pG,Z7,Gh F0 F0,Ar,zQ,Adq,e1,e2,Aj,Kv];generalize(l.getD i 0).toInt=X;by_cases h1:X< -(hB bits)
  ·rw[Abw F6,Abw F6]
  ·rw[Aa1 (c:=decide (X<0-hB bits)=true) F6];by_cases h2:hB bits<=X
   ·rw[Abw F6,Abw F6]
   ·rw[Aa1 F6,Aa1 F6];exact ih
theorem lH(h:Eg bits)(l:LX)(hl:l.length<=4000):Kw bits l=Ed bits l:=by
 have hh:=iS bits;rw[Kw,BZ,zF h,Aa,Ed,Mi,Z6 h,Aa];simp only;rw[Aa1 Akc,Aa1 Aj8,Aa1 Aki,Aa1 Aj8];exact kM h l hl l.length 0 As F0 Aj4
def QE(s:Nat):Nat:=(s/2)^^^ (if s %2=1 then 3988292384 else 0)
theorem lR{s:Nat}(h:s<4294967296):QE s<4294967296:=by
 unfold QE;exact Ahl (n:=32) F6 (by split<;>decide)
theorem vG(x y:Nat):(x^^^y)/2=(x/2)^^^ (y/2):=by
 have:=Nat.shiftRight_xor_distrib (a:=x) (b:=y) (i:=1);simpa [Nat.shiftRight_eq_div_pow]using this
theorem Q2(x y:Nat):QE (x^^^y)=QE x^^^QE y:=by
 have h:(x^^^y) %2=(x %2+y %2) %2:=by
  have:=Nat.xor_mod_two_eq_one (a:=x) (b:=y);have h1:(x^^^y) %2<2:=Ai5 _ F0;omega
 simp only[QE,vG,h];have hx:x %2=0\/x %2=1:=F0
 have hy:y %2=0\/y %2=1:=F0
 rcases hx with hx|hx<;>rcases hy with hy|hy<;>simp only[hx,hy]<;>simp
 ·rw[Aii]
 ·rw[Aii,Nat.xor_comm (y/2),Aii,Nat.xor_comm 3988292384 (y/2)]
 ·rw[Aii,Nat.xor_comm 3988292384,Aii,Nat.xor_self];simp
def Og:Nat->Nat->Nat
 |0,s=>s
 |k+1,s=>Og k (QE s)
theorem oP:∀(k x y:Nat),Og k (x^^^y)=Og k x^^^Og k y
 |0,_,_=>rfl
 |k+1,x,y=>by rw[Og,Q2,oP k];rfl
theorem nX:∀(k h:Nat),Og k (2^k*h)=h
 |0,h=>by simp[Og]
 |k+1,h=>by
  have:QE (2^(k+1)*h)=2^k*h:=by
   rw[Aih,Ag4 (2^k) 2,Ahb,QE,Aa1 F0,Nat.mul_div_cancel_left _ F0];simp
  rw[Og,this,nX k]
theorem iU:∀(k:Nat) {s:Nat},s<4294967296->Og k s<4294967296
 |0,_,h=>h
 |k+1,_,h=>iU k (lR h)
def fC(s c:Nat):Nat:=Og 8 (s^^^c)
theorem iQ{s c:Nat}(h:s<4294967296)(hc:c<256):fC s c<4294967296:=iU 8 (Ahl (n:=32) (by simpa using h) F6)
theorem vE{s c:Nat}(hc:c<256):fC s c=(s/256)^^^Og 8 ((s %256)^^^c):=by
 have h:s=(2^8*(s/256))^^^ (s %256):=by
  have h1:s %256<2^8:=by simpa using Ai5 s (by omega:256>0)
  have:=Ain h1 (s/256);have h2:2^8*(s/256)|||s %256=(2^8*(s/256))^^^ (s %256):=by
   apply Nat.eq_of_testBit_eq;intro i;rw[Nat.testBit_or,Nat.testBit_xor];by_cases hi:i<8
   ·have:(2^8*(s/256)).testBit i=false:=by rw[Nat.testBit_two_pow_mul];simp;omega
    rw[this];simp
   ·have:(s %256).testBit i=false:=Nat.testBit_lt_two_pow (Ae3 h1 (Aey F0 F0));rw[this];simp
  omega
 rw[fC]
 conv=>lhs;rw[h]
 rw[Aii,oP,nX]
def O3(s:Nat)(l:LB):Nat:=l.foldl (λs c=>fC s c.toNat) s
def Mz(b:LB):UInt32:=4294967295-UInt32.ofNat (O3 4294967295 b)
theorem zk(s:UInt32)(c:Nat)(hc:c<256):Ts s (Ae (Wl (UInt8.ofNat c) (2:UInt8)):Int)=some (UInt32.ofNat (s.toNat/2^^^ (if(s.toNat^^^c) %2=1 then 3988292384 else 0))):=by
 have h1:(Ae (Wl (UInt8.ofNat c) (2:UInt8)):Int)=((c %2:Nat):Int):=by
  rw[nZ,Abb,UInt8.toNat_mod,Afb];show((c %256 %2:Nat):Int)=_;omega
 have h2:geq (Wl s (2:UInt32)) (1:UInt32)=decide (s.toNat %2=1):=by
  rw[G4,X0,Agz];simp only[Aiz,Acs];rw[<-UInt32.toNat_inj,UInt32.toNat_mod];rfl
 have h3:Bs s (2:UInt32)=UInt32.ofNat (s.toNat/2):=by
  apply UInt32.toNat_inj.1;rw[Y5,UInt32.toNat_div,Aew]
  show s.toNat/2=_;have:=s.toNat_lt;omega
 have h4:Pn (Bs s (2:UInt32)) (3988292384:UInt32)=UInt32.ofNat (s.toNat/2^^^3988292384):=by
  apply UInt32.toNat_inj.1;rw[h3,FP,Ajn,Aew,Aew];have:=s.toNat_lt;rw[Ace (a:=s.toNat/2) F0,Ace]
  ·rfl
  ·exact Ahl (n:=32) F0 F4
 have hx:(s.toNat^^^c) %2=(s.toNat %2+c %2) %2:=by
  have:=Nat.xor_mod_two_eq_one (a:=s.toNat) (b:=c);have h1:(s.toNat^^^c) %2<2:=Ai5 _ F0;omega
 have hs:s.toNat %2=0\/s.toNat %2=1:=F0
 have hc2:c %2=0\/c %2=1:=F0
 rw[Ts,Xb,h1,h2,hx];rcases hs with hs|hs<;>rcases hc2 with hc2|hc2<;>simp[hs,hc2,Dh,Xf,Ya,FP,h3]
theorem eV:∀(j i q:Nat) (s:UInt32) (c:Nat),i+j=8->j<q->c<2^j->Hf q s (UInt8.ofNat c) (i:Int)=some (UInt32.ofNat (Og j (s.toNat^^^c)))
 |0,i,q+1,s,c,hi,_,hc=>by
  obtain rfl:i=8:=F0
  obtain rfl:c=0:=by simpa using hc
  rw[Hf,Nq,Aa1 Akj,Yo,Yh,Og];simp
 |j+1,i,q+1,s,c,hi,hq,hc=>by
  have hc8:c<256:=Ae3 hc (show 2^(j+1)<=2^8 from Aey F0 F0);rw[Hf,Nq,Abw Aj5,zk s c hc8,Aa,Ar];have e:Bs (UInt8.ofNat c) (2:UInt8)=UInt8.ofNat (c/2):=by
   apply UInt8.toNat_inj.1;rw[Aaw,UInt8.toNat_div,Afb,Afb]
   show c %256/2=_;omega
  rw[e];have h:=eV j (i+1) q (UInt32.ofNat (s.toNat/2^^^ (if(s.toNat^^^c) %2=1 then 3988292384 else 0))) (c/2) F0 F0 (by rw[Aih]at hc;omega);rw[show((i:Int)+1)=((i+1:Nat):Int) by omega,h,Aew,Og];congr 3;have:=s.toNat_lt;rw[Ace,QE,vG,Aii,Aii,Nat.xor_comm (c/2)];exact Ahl (n:=32) F0 (by split<;>decide)
theorem Aau(s:UInt32)(c:UInt8):DY s c=some (UInt32.ofNat (fC s.toNat c.toNat)):=by
 have h:=eV 8 0 As s c.toNat F0 Aj4 (by simpa using c.toNat_lt);rw[UInt8.ofNat_toNat]at h;exact h
theorem WH(b:LB)(hb:b.length<4611686018427387904):∀(j i q:Nat) (s:UInt32),i+j=b.length->j<q->Gc b q s (i:Int)=some (UInt32.ofNat (O3 s.toNat (b.drop i)))
 |0,i,q+1,s,hi,_=>by
  rw[Gc,Lc,Aa1 F2,show i=b.length by omega,Ai1];simp[Uo,Tg,O3]
 |j+1,i,q+1,s,hi,hq=>by
  have hlt:i<b.length:=F0
  rw[Gc,Lc,Abw F2,Cu hlt,Aa,Aau,Aa,Ar];have h:=WH b hb j (i+1) q (UInt32.ofNat (fC s.toNat b[i].toNat)) F0 F0;rw[show((i:Int)+1)=((i+1:Nat):Int) by omega,h,drop_cons hlt,Aew,Ace (iQ s.toNat_lt b[i].toNat_lt)];rfl
theorem Ae6(b:LB)(hb:b.length<4611686018427387904):Lt b=some (Mz b):=by
 have h:=WH b hb b.length 0 As 4294967295 F0 Aj4;rw[Lt,Zc,Ta,To,show((0:Int))=((0:Nat):Int)from rfl,h,Aa,jC];rfl
theorem Abc(c:UInt32):Pn (Bo c (GI.toZ (1:UInt64)).toNat) (Bq (3988292384:UInt32) (Dq c (1:UInt32)))=UInt32.ofNat (QE c.toNat):=by
 apply UInt32.toNat_inj.1;have e:(GI.toZ (1:UInt64)).toNat=1:=rfl;have h1:(Bo c 1).toNat=c.toNat/2:=by rw[OX]
 have h2:(Bq (3988292384:UInt32) (Dq c (1:UInt32))).toNat=if c.toNat %2=1 then 3988292384 else 0:=by
  rw[qg,uX,UInt32.toNat_mul,UInt32.toNat_and]
  show 3988292384*(c.toNat&&&1) %4294967296=_;rw[Nat.and_one_is_mod];have:c.toNat %2=0\/c.toNat %2=1:=F0
  rcases this with h|h<;>simp[h]
 rw[e,FP,Ajn,h1,h2,Aew,Ace (lR c.toNat_lt)];rfl
theorem tX(Ex:Int->LU->Option (UInt32×Int))(s:UInt32)(b:LB)(x:Int)(t:LU):∀(j i q:Nat) (c:UInt32),i+j=8->j<q->
  Ke Ex s b x t q c (i:Int)=Sv Ex s b x (UInt32.ofNat (Og j c.toNat)) t
 |0,i,q+1,c,hi,_=>by
  obtain rfl:i=8:=F0
  rw[Ke,Sm,Aa1 Akj,Og,UInt32.ofNat_toNat]
 |j+1,i,q+1,c,hi,hq=>by
  rw[Ke,Sm,Abw Aj5,Abc,Ar,show((i:Int)+1)=((i+1:Nat):Int) by omega,tX Ex s b x t j (i+1) q _ F0 F0,Aew,Ace (lR c.toNat_lt)];rfl
def I2(n:Nat):LU:=(List.range n).map λi=>UInt32.ofNat (Og 8 i)
theorem L9(s:UInt32)(b:LB):∀(j i q:Nat),i+j=256->j<q->Ik s b q (i:Int) (I2 i++List.replicate j 0)=BN s b (I2 256)
 |0,i,q+1,hi,_=>by
  obtain rfl:i=256:=F0
  rw[Ik,Tw,Aa1 Akj];simp
 |j+1,i,q+1,hi,hq=>by
  have hlen:(I2 i++List.replicate (j+1) 0).length=i+(j+1):=by simp[I2]
  rw[Ik,Tw,Abw Aj5,AO];have h:=tX (Ik s b q) s b (i:Int) (I2 i++List.replicate (j+1) 0) 8 0 As (Ae (i:Int)) F0 Aj4;rw[show((0:Int))=((0:Nat):Int)from rfl,h,Sv,QN,Cu (by rw[hlen];omega),Aa,EU _ (by rw[hlen];omega),Aa,RV,PJ,Ar];have e:(Ae (i:Int):UInt32).toNat=i:=by rw[R9,Aew,Ace F0]
  rw[e,Ah9,gP (by simp[I2])];have h2:=L9 s b j (i+1) q F0 F0;have h3:I2 (i+1)=I2 i++[UInt32.ofNat (Og 8 i)]:=by simp[I2,List.range_succ]
  rw[h3]at h2;rw[show((i:Int)+1)=((i+1:Nat):Int) by omega,<-h2];simp
theorem Aaf{i:Nat}(h:i<256):Af (I2 256) (i:Int)=some (UInt32.ofNat (Og 8 i)):=by
 rw[Cu (by simpa [I2]using h)];simp[I2]
theorem ru(s:UInt32)(c:UInt8):Af (I2 256) (GI.toZ (Pn (Ae s:UInt8) c))=some (UInt32.ofNat (Og 8 ((s.toNat %256)^^^c.toNat))):=by
 have e:GI.toZ (Pn (Ae s:UInt8) c)=(((s.toNat %256)^^^c.toNat:Nat):Int):=by
  rw[Wn,E9,UInt8.toNat_xor,zX,Afb]
 rw[e,Aaf];exact Ahl (n:=8) F6 (by simpa using c.toNat_lt)
theorem P7(s:UInt32)(c:UInt8):Pn (Bo s (GI.toZ (8:UInt64)).toNat) (UInt32.ofNat (Og 8 ((s.toNat %256)^^^c.toNat)))=UInt32.ofNat (fC s.toNat c.toNat):=by
 apply UInt32.toNat_inj.1;have hlt:Og 8 ((s.toNat %256)^^^c.toNat)<4294967296:=iU 8 (Ahl (n:=32) F6 (by have:=c.toNat_lt;simp;omega));have e:(GI.toZ (8:UInt64)).toNat=8:=rfl;rw[e,FP,Ajn,OX,Aew,Aew,Ace hlt,Ace (iQ s.toNat_lt c.toNat_lt),vE c.toNat_lt]
theorem wF(b:LB)(hb:b.length<4611686018427387904):∀(j i q:Nat) (s:UInt32),i+j=b.length->j<q->Ki b (I2 256) q s (i:Int)=some (UInt32.ofNat (O3 s.toNat (b.drop i)),0)
 |0,i,q+1,s,hi,_=>by
  rw[Ki,Tv,Aa1 F2,show i=b.length by omega,Ai1];simp[BB,PY,O3]
 |j+1,i,q+1,s,hi,hq=>by
  have hlt:i<b.length:=F0
  rw[Ki,Tv,Abw F2,Cu hlt,Aa,ru,Aa,Aa,P7,Ar];have h:=wF b hb j (i+1) q (UInt32.ofNat (fC s.toNat b[i].toNat)) F0 F0;rw[show((i:Int)+1)=((i+1:Nat):Int) by omega,h,drop_cons hlt,Aew,Ace (iQ s.toNat_lt b[i].toNat_lt)];rfl
theorem zf(s:UInt32)(b:LB)(hb:b.length<=100000):KX s b=some (UInt32.ofNat (O3 s.toNat b),0):=by
 have h:=L9 s b 256 0 As F0 Aj4;have h2:=wF b F0 b.length 0 As s F0 Aj4;rw[KX,ES,Aa1 Aj8,PQ];refine Eq.trans h ?_;rw[BN,BD,PZ,BL,BP];exact h2
theorem Y4(a:UInt32):A3 a=4294967295-a:=by
 have h:=a.toNat_lt;have e:A3 a=UInt32.ofNat (BitVec.ofInt 32 4294967295^^^BitVec.ofInt 32 (a.toNat:Int)).toNat:=Jm _;apply UInt32.toNat_inj.1;rw[e,Aew,UInt32.toNat_sub_of_le _ _ (by rw[UInt32.le_iff_toNat_le];show a.toNat<=4294967295;omega)];have h1:BitVec.ofInt 32 (a.toNat:Int)=a.toBitVec:=B7 a;have h2:(BitVec.ofInt 32 4294967295:BitVec 32)=BitVec.allOnes 32:=F4
 rw[h1,h2,BitVec.allOnes_xor,BitVec.toNat_not];show(4294967296-1-a.toNat) %4294967296=4294967295-a.toNat;omega
theorem zO(b:LB)(hb:b.length<=100000):Vz b=some (Mz b,0):=by
 rw[Vz,zf _ _ hb,Aa];simp only[Et,Y4];rfl
theorem RC(a b:Int32):a-b+b=a:=by
 apply Int32.toBitVec_inj.1;simp only[Int32.toBitVec_sub,Int32.toBitVec_add];apply BitVec.eq_of_toNat_eq;simp only[BitVec.toNat_sub,BitVec.toNat_add];have:=a.toBitVec.isLt;have:=b.toBitVec.isLt;omega
def mxV(f:Nat->Int32)(ch i:Nat):Int32:=if i+1<ch then f (i+1)-f i else if 1<ch then f (ch-1)-Bs (f (ch-1)-f (ch-2)) (2:Int32)else f (ch-1)
def mx(ch:Nat)(x:LX):LX:=(List.range x.length).map λk=>mxV (λi=>x.getD (k-k %ch+i) 0) ch (k %ch)
theorem PL(ch:Nat)(x:LX):(mx ch x).length=x.length:=by simp[mx]
theorem Ade{ch:Nat}{x:LX}{k:Nat}(h:k<x.length):(mx ch x).getD k 0=mxV (λi=>x.getD (k-k %ch+i) 0) ch (k %ch):=by
 rw[ZJ (by rw[PL];exact h)];simp[mx]
def bE(x:Int32):UInt32:=UInt32.ofNat (if 0<=x.toInt then 2*x.toInt.toNat else 2*(-x.toInt-1).toNat+1)
theorem Adw(x:Int32):nP (bE x)=x:=by
 have h:=B5 x;have e:(bE x).toNat=if 0<=x.toInt then 2*x.toInt.toNat else 2*(-x.toInt-1).toNat+1:=by
  rw[bE,Aew];split<;>exact Ace F0
 rw[nP,e];by_cases h0:0<=x.toInt
 ·rw[Abw h0,Abw F0,show((2*x.toInt.toNat/2:Nat):Int)=x.toInt by omega,Ait]
 ·rw[Aa1 h0,Aa1 F0,show -(((2*(-x.toInt-1).toNat+1)/2:Nat):Int)-1=x.toInt by omega,Ait]
theorem nV{α:Type}(ch c:Nat)(f g:α->Nat->α)(a0:α):∀m:Nat,(∀i,i<m->∀a,f a i=g a i)->pre ch c f a0 m=pre ch c g a0 m
 |0,_=>rfl
 |m+1,h=>by
  rw[pre,pre,nV ch c f g a0 m λi hi=>h i F0,h m F0]
theorem Aa0(bits:Int)(ch:Nat)(t:LX)(v w:LU)(c i:Nat)(h:i<=v.length):cst bits ch t (v++w) c i=cst bits ch t v c i:=by
 unfold cst;apply nV;intro j hj a;have:(v++w).getD j 0=v.getD j 0:=by
  rw[List.getD_eq_getElem?_getD,List.getD_eq_getElem?_getD,List.getElem?_append_left F0]
 rw[this]
def mQ(bits:Int)(s:CS)(x:Int32):Int32:=x-gs (shB bits) s.1-gF (sB bits) s.2.1 s.2.2
theorem O1(bits:Int)(s:CS)(x:Int32):V4 bits s (mQ bits s x)=x:=by
 rw[V4,mQ,RC,RC]
def iw(bits:Int)(ch:Nat)(t m:LX):Nat->LU
 |0=>[]
 |i+1=>iw bits ch t m i++[bE (mQ bits (cst bits ch t (iw bits ch t m i) (i %ch) i) (m.getD i 0))]
theorem sV(bits:Int)(ch:Nat)(t m:LX):∀i,(iw bits ch t m i).length=i
 |0=>rfl
 |i+1=>by rw[iw,Abr,sV bits ch t m i];rfl
theorem L6(bits:Int)(ch:Nat)(t m:LX):∀(j i:Nat),∃w,iw bits ch t m (i+j)=iw bits ch t m i++w
 |0,i=>⟨[],Aj6⟩
 |j+1,i=>by
  obtain⟨w,hw⟩:=L6 bits ch t m j i;rw[<-Af2,iw,hw];exact⟨_,Agt _ _ _⟩
theorem Akk{p:Prop}(h:p:=by rw[Abr];omega):p:=h
end Go.Pl
namespace Go.Pl
open Go Go.Lv
variable{b p:LB}{c d:List Bool}{a k l s i:Nat}
def tb(l:List Bool)(k:Nat):Nat:=if l.getD k false=true then 1 else 0
theorem E5(b:Bool)(l:List Bool):tb (b::l) 0=if b=true then 1 else 0:=rfl
theorem I0(b:Bool)(l:List Bool)(k:Nat):tb (b::l) (k+1)=tb l k:=by simp[tb]
theorem Aal{a b:List Bool}(h:k<a.length):tb (a++b) k=tb a k:=by
 rw[tb,tb,List.getD_eq_getElem?_getD,List.getD_eq_getElem?_getD,List.getElem?_append_left h]
theorem G1(a b:List Bool)(k:Nat):tb (a++b) (a.length+k)=tb b k:=by
 rw[tb,tb,List.getD_eq_getElem?_getD,List.getD_eq_getElem?_getD,List.getElem?_append_right F0,Nat.add_sub_cancel_left]
theorem A6{l:List Bool}(h:l.length<=k):tb l k=0:=by
 rw[tb,List.getD_eq_getElem?_getD,List.getElem?_eq_none h];rfl
def At(p:LB)(a:Nat)(c:List Bool):Prop:=∀i,i<c.length->Mu p (a+i)=tb c i
theorem At.left(h:At p a (c++d)):At p a c:=λi hi=>by
 rw[h i Akk,Aal hi]
theorem At.right(h:At p a (c++d)):At p (a+c.length) d:=λi hi=>by
 rw[Af2,h (c.length+i) Akk,G1]
theorem At.cons{b:Bool}(h:At p a (b::c)):Mu p a=(if b=true then 1 else 0)/\At p (a+1) c:=by
 have h0:=h 0 Aj6;rw[Aiu,E5]at h0;refine⟨h0,λi hi=>?_⟩;have:=h (i+1) F6;rw[I0]at this;rw[show a+1+i=a+(i+1) by omega,this]
def OR:Nat->Nat->List Bool
 |_,0=>[]
 |v,n+1=>decide (v %2=1)::OR (v/2) n
theorem Qx:∀(v n:Nat),(OR v n).length=n
 |_,0=>rfl
 |v,n+1=>by rw[OR,Ae2,Qx (v/2) n]
theorem SU(p:LB):∀(n a v:Nat),At p a (OR v n)->Cp p a n=v %2^n
 |0,a,v,_=>by rw[Cp,Nat.pow_zero,Nat.mod_one]
 |n+1,a,v,h=>by
  rw[OR]at h;obtain⟨h0,h1⟩:=h.cons;rw[Cp,h0,SU p n (a+1) (v/2) h1,Aih,Ag4 (2^n) 2,Nat.mod_mul];have:=Nat.mod_two_eq_zero_or_one v;rcases this with e|e<;>simp[e]
def ZT(l v:Nat):List Bool:=if 48<=v/2^l then List.replicate 48 true++OR v 32 else List.replicate (v/2^l) true++(false::OR (v %2^l) l)
theorem Q9{v:Nat}(hl:l<=24):1<= (ZT l v).length/\ (ZT l v).length<=80:=by
 rw[ZT];generalize v/2^l=q;split
 ·rw[Abr,Age,Qx];omega
 ·rw[Abr,Age,Ae2,Qx];omega
def Ua(k l:Nat)(v:UInt32):List Bool:=if v.toNat<2^k then false::OR v.toNat k else true::ZT l (v.toNat-2^k)
theorem SQ(v:UInt32)(hk:k<=24)(hl:l<=24):1<= (Ua k l v).length/\ (Ua k l v).length<=81:=by
 have:=Q9 (v:=v.toNat-2^k) hl;rw[Ua];split
 ·rw[Ae2,Qx];omega
 ·rw[Ae2];omega
def bv:List Bool->Nat
 |[]=>0
 |b::r=>(if b=true then 1 else 0)+2*bv r
theorem Acp:∀l:List Bool,bv l<2^l.length
 |[]=>by decide
 |b::r=>by
  have:=Acp r;rw[bv,Ae2,Aih];split<;>omega
theorem jf:∀(l:List Bool) (k:Nat),bv l/2^k %2=tb l k
 |[],k=>by simp[bv,tb]
 |b::r,0=>by
  rw[bv,E5,Nat.pow_zero,Nat.div_one];split<;>omega
 |b::r,k+1=>by
  have:((if b=true then 1 else 0)+2*bv r)/2=bv r:=by split<;>omega
  rw[bv,I0,Aih,Ag4 (2^k) 2,<-Ajq,this,jf r k]
def Ht(c:List Bool):LB:=(List.range ((c.length+7)/8)).map λj=>UInt8.ofNat (bv ((c.drop (8*j)).take 8))
theorem Nw(c:List Bool):(Ht c).length=(c.length+7)/8:=by simp[Ht]
theorem AJ(c:List Bool)(i:Nat):Mu (Ht c) i=tb c i:=by
 rw[Mu];by_cases h:i/8<(c.length+7)/8
 ·have hg:(Ht c).getD (i/8) 0=UInt8.ofNat (bv ((c.drop (8*(i/8))).take 8)):=by
   rw[List.getD_eq_getElem?_getD,List.getElem?_eq_getElem (by rw[Nw];exact h)];simp[Ht]
  have hlt:=Acp ((c.drop (8*(i/8))).take 8);have hl8:((c.drop (8*(i/8))).take 8).length<=8:=by rw[Acw];omega
  have hp:=Aey (show 0<2 by omega) hl8;have hn:(UInt8.ofNat (bv ((c.drop (8*(i/8))).take 8))).toNat=bv ((c.drop (8*(i/8))).take 8):=by
   rw[Afb];exact Ace F0
  rw[hg,hn,jf,tb,tb];have:((c.drop (8*(i/8))).take 8).getD (i %8) false=c.getD i false:=by
   rw[List.getD_eq_getElem?_getD,List.getD_eq_getElem?_getD,List.getElem?_take,Abw F0,List.getElem?_drop,show 8*(i/8)+i %8=i by omega]
  rw[this]
 ·have hg:(Ht c).getD (i/8) 0=0:=by
   rw[List.getD_eq_getElem?_getD,List.getElem?_eq_none (by rw[Nw];omega)];rfl
  rw[hg,A6 F0];simp
def CW(ch:Nat)(V:LU):Nat->List Bool
 |0=>[]
 |i+1=>CW ch V i++Ua (now ch (V.take i)).1 (now ch (V.take i)).2.1 (V.getD i 0)
theorem yO(ch:Nat)(v:LU):(now ch v).1<=24/\ (now ch v).2.1<=24:=by
 have:=rF ch v (v.length %ch) v.length;exact⟨this.1,this.2.1⟩
theorem FR(ch:Nat)(V:LU):∀i,(CW ch V i).length<=81*i
 |0=>by simp[CW]
 |i+1=>by
  have h:=yO ch (V.take i);have:=SQ (V.getD i 0) h.1 h.2;rw[CW,Abr];have:=FR ch V i;omega
def P64:Nat:=4823603603198064275
def CH(s:Nat):Nat:=(2*s %18446744073709551616)^^^ (s/9223372036854775808*P64)
theorem HZ(h:s<18446744073709551616):CH s<18446744073709551616:=by
 have h1:s/9223372036854775808=0\/s/9223372036854775808=1:=F0
 exact Ahl (n:=64) (Ai5 _ F4) (by rcases h1 with e|e<;>rw[e]<;>decide)
theorem Aby(x y:Nat):(x^^^y)/9223372036854775808=(x/9223372036854775808)^^^ (y/9223372036854775808):=by
 have:=Nat.shiftRight_xor_distrib (a:=x) (b:=y) (i:=63);simpa [Nat.shiftRight_eq_div_pow]using this
theorem Aat(x y:Nat):2*(x^^^y) %18446744073709551616=(2*x %18446744073709551616)^^^ (2*y %18446744073709551616):=by
 have h1:=Nat.shiftLeft_xor_distrib (a:=x) (b:=y) (i:=1);have h2:=Nat.xor_mod_two_pow (a:=2*x) (b:=2*y) (n:=64);have e:2*(x^^^y)=(2*x)^^^ (2*y):=by simpa [Nat.shiftLeft_eq,Ag4]using h1
 rw[e];exact h2
theorem Aai{b:Nat}(ha:a=0\/a=1)(hb:b=0\/b=1)(p:Nat):(a^^^b)*p=(a*p)^^^ (b*p):=by
 rcases ha with rfl|rfl<;>rcases hb with rfl|rfl<;>simp
theorem Ag1(a b c d:Nat):(a^^^b)^^^ (c^^^d)=(a^^^c)^^^ (b^^^d):=by
 rw[Aii,Aii,<-Aii b c d,Nat.xor_comm b c,Aii c b d]
theorem zL{x y:Nat}(hx:x<18446744073709551616)(hy:y<18446744073709551616):CH (x^^^y)=CH x^^^CH y:=by
 rw[CH,CH,CH,Aat,Aby,Aai F0 F0,Ag1]
def Lg:Nat->Nat->Nat
 |0,s=>s
 |k+1,s=>Lg k (CH s)
theorem cB:∀(k:Nat) {s:Nat},s<18446744073709551616->Lg k s<18446744073709551616
 |0,_,h=>h
 |k+1,_,h=>cB k (HZ h)
theorem kJ:∀(k:Nat) {x y:Nat},x<18446744073709551616->y<18446744073709551616->Lg k (x^^^y)=Lg k x^^^Lg k y
 |0,_,_,_,_=>rfl
 |k+1,x,y,hx,hy=>by rw[Lg,zL hx hy,kJ k (HZ hx) (HZ hy)];rfl
theorem iH:∀(k h:Nat),2^k*h<18446744073709551616->Lg k h=2^k*h
 |0,h,_=>by simp[Lg]
 |k+1,h,hl=>by
  have hpos:0<2^k:=Ajw F0;rw[Aih,Ahb]at hl;have h2:2*h<18446744073709551616:=Aig (Nat.le_mul_of_pos_left _ hpos) hl;have:CH h=2*h:=by rw[CH,Ace h2,show h/9223372036854775808=0 by omega];simp
  rw[Lg,this,iH k _ hl,Aih,Ahb]
def dT(s c:Nat):Nat:=Lg 8 (s^^^ (c*72057594037927936))
theorem c56{c:Nat}(hc:c<256):c*72057594037927936<18446744073709551616:=F0
theorem oN{c:Nat}(h:s<18446744073709551616)(hc:c<256):dT s c<18446744073709551616:=cB 8 (Ahl (n:=64) h (c56 hc))
theorem Aab(s:Nat):s=(s/72057594037927936*72057594037927936)^^^ (s %72057594037927936):=by
 have h1:s %72057594037927936<2^56:=Ai5 _ F4;have:=Ain h1 (s/72057594037927936);have h2:2^56*(s/72057594037927936)|||s %72057594037927936=(2^56*(s/72057594037927936))^^^ (s %72057594037927936):=by
  apply Nat.eq_of_testBit_eq;intro i;rw[Nat.testBit_or,Nat.testBit_xor];by_cases hi:i<56
  ·have:(2^56*(s/72057594037927936)).testBit i=false:=by rw[Nat.testBit_two_pow_mul];simp;omega
   rw[this];simp
  ·have:(s %72057594037927936).testBit i=false:=Nat.testBit_lt_two_pow (Ae3 h1 (Aey F0 F0));rw[this];simp
 rw[Ag4 (s/72057594037927936)]
 show s=(2^56*(s/72057594037927936))^^^ _;rw[<-h2,<-this];have:=Nat.div_add_mod s 72057594037927936
 show s=72057594037927936*_+_;omega
theorem N4(a c:Nat):(a^^^c)*72057594037927936=(a*72057594037927936)^^^ (c*72057594037927936):=by
 have h1:=Nat.shiftLeft_xor_distrib (a:=a) (b:=c) (i:=56);simpa [Nat.shiftLeft_eq]using h1
theorem qR{c:Nat}(h:s<18446744073709551616)(hc:c<256):dT s c=(256*s %18446744073709551616)^^^Lg 8 (((s/72057594037927936)^^^c)*72057594037927936):=by
 have hs:s/72057594037927936<2^8:=by show _<256;omega
 have hx:(s/72057594037927936)^^^c<256:=Ahl (n:=8) hs (by simpa using hc);have hl:s %72057594037927936<72057594037927936:=Ai5 _ F4;rw[dT]
 conv=>lhs;rw[Aab s]
 rw[Nat.xor_comm (s/72057594037927936*72057594037927936),Aii,<-N4,kJ 8 F0 (c56 hx),iH 8 _ (by show 256*_<_;omega)];congr 1
 show 256*(s %72057594037927936)=_;omega
def zI(s:Nat)(l:LB):Nat:=l.foldl (λs c=>dT s c.toNat) s
theorem N5{n:Nat}(h:n<18446744073709551616):(UInt64.ofNat n).toNat=n:=by rw[Af1];exact Ace h
def VX(b:LB):UInt64:=UInt64.ofNat (zI 0 b)
theorem zP(c:UInt64):Pn (Cr c (GI.toZ (1:UInt64)).toNat) (Bq (4823603603198064275:UInt64) (Bo c (GI.toZ (63:UInt64)).toNat))=UInt64.ofNat (CH c.toNat):=by
 have hc:=c.toNat_lt;apply UInt64.toNat_inj.1;have h1:(Cr c (GI.toZ (1:UInt64)).toNat).toNat=2*c.toNat %18446744073709551616:=by
  rw[show(GI.toZ (1:UInt64)).toNat=1 from rfl,IF,Ag4]
 have h2:(Bq (4823603603198064275:UInt64) (Bo c (GI.toZ (63:UInt64)).toNat)).toNat=c.toNat/9223372036854775808*P64:=by
  rw[show(GI.toZ (63:UInt64)).toNat=63 from rfl,aN,UInt64.toNat_mul,Uj]
  show 4823603603198064275*(c.toNat/9223372036854775808) %18446744073709551616=_;have h1:c.toNat/9223372036854775808=0\/c.toNat/9223372036854775808=1:=F0
  rcases h1 with e|e<;>rw[e]<;>decide
 rw[uD,UInt64.toNat_xor,h1,h2,N5 (HZ hc)];rfl
theorem eQ(Ex:Int->LQ->Option (UInt64×Int))(s:UInt64)(b:LB)(x:Int)(t:LQ):∀(j i q:Nat) (c:UInt64),i+j=8->j<q->
  Kl Ex s b x t q c (i:Int)=Sn Ex s b x (UInt64.ofNat (Lg j c.toNat)) t
 |0,i,q+1,c,hi,_=>by
  obtain rfl:i=8:=F0
  rw[Kl,Rw,Aa1 Akj,Lg,UInt64.ofNat_toNat]
 |j+1,i,q+1,c,hi,hq=>by
  rw[Kl,Rw,Abw Aj5,zP,Ar,show((i:Int)+1)=((i+1:Nat):Int) by omega,eQ Ex s b x t j (i+1) q _ F0 F0,N5 (HZ c.toNat_lt)];rfl
def ED(n:Nat):LQ:=(List.range n).map λi=>UInt64.ofNat (Lg 8 (i*72057594037927936))
theorem jW(s:UInt64)(b:LB):∀(j i q:Nat),i+j=256->j<q->Iw s b q (i:Int) (ED i++List.replicate j 0)=BR s b (ED 256)
 |0,i,q+1,hi,_=>by
  obtain rfl:i=256:=F0
  rw[Iw,Te,Aa1 Akj];simp
 |j+1,i,q+1,hi,hq=>by
  have hlen:(ED i++List.replicate (j+1) 0).length=i+(j+1):=by simp[ED]
  rw[Iw,Te,Abw Aj5,CM];have h:=eQ (Iw s b q) s b (i:Int) (ED i++List.replicate (j+1) 0) 8 0 As (Cr (Ae (i:Int):UInt64) (GI.toZ (56:UInt64)).toNat) F0 Aj4;rw[show((0:Int))=((0:Nat):Int)from rfl,h,Sn,PK,Cu (by rw[hlen];omega),Aa,EU _ (by rw[hlen];omega),Aa,PT,OQ,Ar];have e:(Cr (Ae (i:Int):UInt64) (GI.toZ (56:UInt64)).toNat).toNat=i*72057594037927936:=by
   rw[IF,IG,N5 F0]
   show i*72057594037927936 %18446744073709551616=_;omega
  rw[e,Ah9,gP (by simp[ED])];have h2:=jW s b j (i+1) q F0 F0;have h3:ED (i+1)=ED i++[UInt64.ofNat (Lg 8 (i*72057594037927936))]:=by simp[ED,List.range_succ]
  rw[h3]at h2;rw[show((i:Int)+1)=((i+1:Nat):Int) by omega,<-h2];simp
theorem Q7(h:i<256):Af (ED 256) (i:Int)=some (UInt64.ofNat (Lg 8 (i*72057594037927936))):=by
 rw[Cu (by simpa [ED]using h)];simp[ED]
theorem xW(s:UInt64)(c:UInt8):Af (ED 256) (GI.toZ (Pn (Ae (Bo s (GI.toZ (56:UInt64)).toNat):UInt8) c))=some (UInt64.ofNat (Lg 8 (((s.toNat/72057594037927936)^^^c.toNat)*72057594037927936))):=by
 have hs:=s.toNat_lt;have e:GI.toZ (Pn (Ae (Bo s (GI.toZ (56:UInt64)).toNat):UInt8) c)=(((s.toNat/72057594037927936)^^^c.toNat:Nat):Int):=by
  have e2:((Ae (Bo s (GI.toZ (56:UInt64)).toNat):UInt8)).toNat=s.toNat/72057594037927936:=by
   rw[KI,Afb,Uj]
   show s.toNat/72057594037927936 %256=_;omega
  rw[Wn,E9,UInt8.toNat_xor,e2]
 rw[e,Q7];exact Ahl (n:=8) (by show _<256;omega) (by simpa using c.toNat_lt)
theorem qW(s:UInt64)(c:UInt8):Pn (Cr s (GI.toZ (8:UInt64)).toNat) (UInt64.ofNat (Lg 8 (((s.toNat/72057594037927936)^^^c.toNat)*72057594037927936)))=UInt64.ofNat (dT s.toNat c.toNat):=by
 have hs:=s.toNat_lt;have hc:c.toNat<256:=by simpa using c.toNat_lt
 apply UInt64.toNat_inj.1;have hlt:Lg 8 (((s.toNat/72057594037927936)^^^c.toNat)*72057594037927936)<18446744073709551616:=cB 8 (c56 (Ahl (n:=8) (by show _<256;omega) (by simpa using c.toNat_lt)));have e:(GI.toZ (8:UInt64)).toNat=8:=rfl;rw[e,uD,UInt64.toNat_xor,IF,N5 hlt,N5 (oN hs hc),qR hs hc,Ag4 s.toNat]
theorem eS(b:LB)(s0:UInt64)(hb:b.length<4611686018427387904):∀(j i q:Nat) (s:UInt64),i+j=b.length->j<q->Kh b s0 (ED 256) q s (i:Int)=some (UInt64.ofNat (zI s.toNat (b.drop i)),0)
 |0,i,q+1,s,hi,_=>by
  rw[Kh,Td,Aa1 F2,show i=b.length by omega,Ai1];simp[BY,PA,QT,QR,zI]
 |j+1,i,q+1,s,hi,hq=>by
  have hlt:i<b.length:=F0
  have hc:=b[i].toNat_lt;rw[Kh,Td,Abw F2,Cu hlt,Aa,xW,Aa,Aa,qW,Ar];have h:=eS b s0 hb j (i+1) q (UInt64.ofNat (dT s.toNat b[i].toNat)) F0 F0;rw[show((i:Int)+1)=((i+1:Nat):Int) by omega,h,drop_cons hlt,N5 (oN s.toNat_lt (by simpa using hc))];rfl
theorem wN(b:LB)(hb:b.length<=100000):GP b=some (VX b,0):=by
 have h:=jW 0 b 256 0 As F0 Aj4;have h2:=eS b 0 F0 b.length 0 As 0 F0 Aj4;have hn:KJ 0 b=some (VX b,0):=by
  rw[KJ,FB,Aa1 Aj8,QG];refine Eq.trans h ?_;rw[BR,AR,AZ];exact h2
 rw[GP,hn,Aa]
theorem O0(p:LB)(hp:p.length<=64):AB p=some (Zi (VX p).toNat 8,0):=by
 rw[AB,dH,Aa1 Aj8,wN p F0,Aa,Aa];simp only;have h:=HJ (VX p) 8 F0 F0 (by simpa using(VX p).toNat_lt);rw[Aa1 Akc];exact congrArg (λo=>Option.bind o λx:LB×Int=>some (x.1,x.2)) h
def s8(n:Nat):Int32:=Int32.ofInt (if n<128 then(n:Int)else(n:Int)-256)
def aD(d:UInt64)(n:Nat):LX:=(List.range n).map λi=>s8 (d.toNat/256^i %256)
theorem dJ(d:UInt64)(n:Nat):(aD d n).length=n:=by simp[aD]
theorem C5(d:UInt64)(n:Nat):aD d (n+1)=aD d n++[s8 (d.toNat/256^n %256)]:=by simp[aD,List.range_succ]
theorem bm8(z:Nat):(z:Int).bmod Int8.size=if z %256<128 then((z %256:Nat):Int)else((z %256:Nat):Int)-256:=by
 rw[show Int8.size=256 from rfl,Int.bmod_def];split<;>split<;>omega
theorem J4(d:UInt64):∀(j i q:Nat),i+j=8->j<q->Wh d q (i:Int) (aD d i++List.replicate (16-i) 0)=some (aD d 8++List.replicate 8 0)
 |0,i,q+1,hi,_=>by
  obtain rfl:i=8:=F0
  rw[Wh,LK,Aa1 Akj];rfl
 |j+1,i,q+1,hi,hq=>by
  have hlen:(aD d i++List.replicate (16-i) 0).length=16:=by simp[dJ];omega
  have ih:=J4 d j (i+1) q F0 F0;have e8:Bq (8:Int) (i:Int)=((8*i:Nat):Int):=by rw[Nk];omega
  have ev:(Ae (Ae (Bo d (GI.toZ (((8*i:Nat):Int))).toNat):Int8):Int32)=s8 (d.toNat/256^i %256):=by
   have e1:(Bo d (GI.toZ (((8*i:Nat):Int))).toNat).toNat=d.toNat/256^i:=by
    rw[show(GI.toZ (((8*i:Nat):Int))).toNat=8*i from rfl,Uj,Nat.pow_mul]
   show Int32.ofInt (Int8.ofInt ((Bo d (GI.toZ (((8*i:Nat):Int))).toNat).toNat:Int)).toInt=_;rw[e1,s8,Int8.toInt_ofInt,bm8]
  rw[Wh,LK,Abw Aj5,e8,Cy Akd,Aa,ev,Cu,Aa,EU _ F0,Aa,Ar,show 16-i=(15-i)+1 by omega,Ah9,gP (dJ d i)];rw[C5,show 16-(i+1)=15-i by omega,Agt]at ih;exact ih
def Qj(p:LB):LX:=aD (VX p) 8++List.replicate 8 0
theorem jV(p:LB):(Qj p).length=16:=by simp[Qj,dJ]
theorem oT(p:LB)(hp:p.length<=64):HV p=some (Qj p,0):=by
 have h:=J4 (VX p) 8 0 As F0 Aj4;have h2:qC (VX p)=some (Qj p):=h;rw[HV,Aa1 Aj8,wN p F0,Aa];simp only;rw[Aa1 Akc,h2,Aa]
def u8(z:Int):UInt8:=UInt8.ofNat (z %256).toNat
def wB(bits:Int):Nat:=if bits=8 then 1 else if bits=16 then 2 else 3
theorem Aej{bits:Int}(h:Eg bits):Bs bits 8=(wB bits:Int):=by obtain rfl|rfl|rfl:=h<;>rfl
theorem W2(bits:Int):1<=wB bits/\wB bits<=3:=by
 unfold wB;split; · omega
 ·split<;>omega
def zn(bits:Int)(x:Int):LB:=if bits=8 then [u8 (x+128)]else if bits=16 then [u8 x,u8 (x/256)]else [u8 x,u8 (x/256),u8 (x/65536)]
theorem U5(bits x:Int):(zn bits x).length<=3:=by
 unfold zn;split; · simp
 ·split<;>simp
def YQ(bits:Int)(l:LX):LB:=l.flatMap λx=>zn bits x.toInt
theorem lX(bits:Int):∀l:LX,(YQ bits l).length<=3*l.length
 |[]=>by simp[YQ]
 |x::l=>by
  have h1:=lX bits l;have h2:=U5 bits x.toInt;simp only[YQ,List.flatMap_cons,Abr,Ae2]at*
  omega
def mh(bits:Int)(l:LX):Prop:=∀x∈l, -(hB bits)<=x.toInt/\x.toInt<hB bits
def XS:LB->Nat->Int×Int
 |[],n=>((n:Int),0)
 |c::r,n=>if 128<=c.toNat then(0,12)else XS r (128*n+c.toNat)
theorem M2:∀(l:LB) (n k:Nat),n<128^k->0<= (XS l n).1/\ (XS l n).1<((128^(k+l.length):Nat):Int)
 |[],n,k,h=>by simp[XS];exact_mod_cast h
 |c::r,n,k,h=>by
  rw[XS];split
  ·have:0<128^(k+(c::r).length):=Ajw F0;exact⟨Int.le_refl _,by simp only;exact_mod_cast this⟩
  ·have:=M2 r (128*n+c.toNat) (k+1) (by rw[Aih];omega);rw[Ae2,show k+(r.length+1)=k+1+r.length by omega];exact this
theorem qp(b:LB)(hb:b.length=4):∀(j i q n:Nat),i+j=4->j<q->n<128^i->Gq b q (n:Int) (i:Int)=some (XS (b.drop i) n)
 |0,i,q+1,n,hi,_,_=>by
  rw[Gq,Mm,Aa1 Aj5,show b.drop i=[] by simp;omega];rfl
 |j+1,i,q+1,n,hi,hq,hn=>by
  have hlt:i<b.length:=F0
  have hn2:n<268435456:=Ae3 hn (show 128^i<=128^4 from Aey F0 F0);rw[Gq,Mm,Abw Aj5,Cu hlt,Aa,drop_cons hlt,XS,Adx];have h128:(128:UInt8).toNat=128:=rfl;by_cases hc:128<=b[i].toNat
  ·rw[Abw (by simpa using hc),Abw hc]
  ·have h3:=b[i].toNat_lt;rw[Aa1 (by simpa using hc),Aa1 hc,Aa,nZ,Nk,Ar,Ar];have:=qp b hb j (i+1) q (128*n+b[i].toNat) F0 F0 (by rw[Aih];omega);rw[<-this];rfl
theorem S3(b:LB)(hb:b.length=4):Qn b=some (XS b 0):=by
 have h:=qp b hb 4 0 As 0 F0 Aj4 Aj6;rw[Qn,Vl,Aa1 (by rw[Et,Ac];simp;omega),Va];exact h
theorem X8(hb:b.length=4):0<= (XS b 0).1/\ (XS b 0).1<268435456:=by
 have:=M2 b 0 0 Aj6;rw[hb]at this;simpa using this
def H2(b:LB)(n:Int):Int×Int:=
 if 4000<n then(0,4)else if(b.length:Int)<n then(0,24)else
 if b.getD 5 0=16/\ (b.take n.toNat).drop (n-10).toNat≠ [51,68,73]++part b 3 7 then(0,12)else(n,0)
def J1(b:LB)(r:Int):Int×Int:=H2 b (r+10+(if b.getD 5 0=16 then 10 else 0))
def jS(b:LB):Int×Int:=
 if ¬(3<=b.length/\b.take 3=[73,68,51])then(0,6)else if b.length<10 then(0,24)else
 if(XS (part b 6 4) 0).2≠0\/b.getD 4 0≠0\/ ¬((b.getD 5 0=0/\2<= (b.getD 3 0).toNat/\ (b.getD 3 0).toNat<=4)\/ (b.getD 5 0=16/\b.getD 3 0=4))then(0,12)else
 J1 b (XS (part b 6 4) 0).1
theorem pT(h:i<b.length):Af b (i:Int)=some (b.getD i 0):=by
 rw[Cu h];simp[List.getD_eq_getElem?_getD,h]
theorem Pg(a w:Nat)(h:a+w<=b.length:=by omega):Df b (a:Int) ((a+w:Nat):Int)=some (part b a w):=by
 rw[iZ];rfl
theorem Aad(b:LB)(r:Int)(h10:10<=b.length)(h0:0<=r)(h1:r<268435456):Nd b r=some (J1 b r):=by
 have g5:Af b (5:Int)=some (b.getD 5 0):=pT (i:=5) F0;have key:∀n:Int,10<=n->n<268435500->Nb b n=some (H2 b n):=by
  intro n hn hn2;rw[Nb,Yd,H2];by_cases c1:4000<n
  ·rw[Abw (by rw[Bu];simpa using c1),Abw c1]
  ·rw[Aa1 (by rw[Bu];simpa using c1),Aa1 c1];by_cases c2:(b.length:Int)<n
   ·rw[Abw (by rw[Aj,Ac];simpa using c2),Abw c2]
   ·have e3:Df b (3:Int) (10:Int)=some (part b 3 7):=Pg 3 7;rw[Aa1 (by rw[Aj,Ac];simpa using c2),Aa1 c2,g5,Aa];by_cases c3:b.getD 5 0=16
    ·rw[Abw (by rw[cU];simpa using c3),Km,iZ,Aa,e3,Aa,Ca (by rw[He];simp),Aa];by_cases c4:(b.take n.toNat).drop (n-10).toNat=[51,68,73]++part b 3 7
     ·rw[Aa1 (by simpa using c4),Aa1 (by intro h;exact h.2 c4)]
     ·rw[Abw (by simpa using c4),Abw ⟨c3,c4⟩]
    ·rw[Aa1 (by rw[cU];simpa using c3),Aa1 (λh=>c3 h.1)]
 rw[Nd,Xe,g5,Aa,J1];by_cases c3:b.getD 5 0=16
 ·rw[Abw (by rw[cU];simpa using c3),Ar (by rw[Ar]<;>omega) (by rw[Ar]<;>omega),Ar,key _ F0 F0,Abw c3,show 10+r+10=r+10+10 by omega]
 ·rw[Aa1 (by rw[cU];simpa using c3),Ar,key _ F0 F0,Aa1 c3,show 10+r=r+10+0 by omega]
theorem om(b:LB)(hb:b.length<4611686018427387904):So b=some (jS b):=by
 rw[So,Xh,jS];by_cases h3:3<=b.length
 ·rw[Aa1 F2,Tj,Aa];by_cases hp:b.take 3=[73,68,51]
  ·rw[Aa1 (by simpa using hp),Aa1 (by simp[h3,hp]),Ym,Xs];by_cases h10:b.length<10
   ·rw[Abw F2,Abw h10]
   ·have e6:Df b (6:Int) (10:Int)=some (part b 6 4):=Pg 6 4;have g3:Af b (3:Int)=some (b.getD 3 0):=pT (i:=3) F0;have g4:Af b (4:Int)=some (b.getD 4 0):=pT (i:=4) F0;have g5:Af b (5:Int)=some (b.getD 5 0):=pT (i:=5) F0;obtain⟨v1,v2⟩:=X8 (b:=part b 6 4) (He);rw[Aa1 F2,Aa1 h10,e6,Aa,S3 _ (He),Aa];have ht:=Aad b (XS (part b 6 4) 0).1 F0 v1 v2;generalize XS (part b 6 4) 0=v at*
    obtain⟨v,e⟩:=v;simp only at ht v1 v2⊢;simp only[Aa,g3,g4,g5,ht];generalize b.getD 3 0=x at*
    generalize b.getD 4 0=y at*
    generalize b.getD 5 0=z at*
    simp only[mo,Adp,Aen,Et];by_cases he:e=0<;>by_cases hy:y=0<;>by_cases hz:z=0<;>by_cases hz2:z=16<;>by_cases hx:x=4<;>by_cases hx2:x.toNat<2<;>by_cases hx4:4<x.toNat<;>simp_all<;>(rw[Aa1 F0,Aa1 F0])
  ·rw[Abw (by simpa using hp),Abw (by simp[hp])]
 ·rw[Abw F2,Abw (by simp[h3])]
theorem um{n:Int}(h:jS b=(n,0)):10<=n/\n<=b.length/\n<=4000:=by
 unfold jS at h;split at h; · simp at h
 split at h; · simp at h
 split at h; · simp at h
 rename_i h10 _;obtain⟨v1,v2⟩:=X8 (b:=part b 6 4) (He);unfold J1 at h;generalize hm:(XS (part b 6 4) 0).1+10+(if b.getD 5 0=16 then 10 else 0)=m at h;unfold H2 at h;split at h; · simp at h
 split at h; · simp at h
 split at h; · simp at h
 simp only[Agr,and_true]at h;subst h;refine⟨?_,F0,F0⟩;rw[<-hm];split<;>omega
theorem Akb{p:Prop}(h:p:=by rw[He];omega):p:=h
theorem Akv{p:Prop}(h:p:=by simp[Eo]):p:=h
end Go.Pl
namespace Go.Pl
open Go Go.Lv
def APE:LB:=[65,80,69,84,65,71,69,88]
def eD(n m fl:Nat):LB:=APE++Zi 2000 4++Zi (n+32) 4++Zi m 4++Zi fl 4++List.replicate 8 0
theorem hD{n:Nat}(h:n<18446744073709551616):(UInt64.ofNat n).toNat=n:=by rw[Af1,Ace h]
theorem M0(n m:Nat)(fl:UInt64)(hn:n<=3000)(hm:m<=1000)(hf:fl.toNat<4294967296):Kk (n:Int) (m:Int) fl=some (eD n m fl.toNat):=by
 have e1:(Ae (Ad (n:Int) (32:Int)):UInt64).toNat=n+32:=by rw[Ar,show(n:Int)+32=((n+32:Nat):Int) by omega,IG,hD F0]
 have e2:(Ae (m:Int):UInt64).toNat=m:=by rw[IG,hD F0]
 have w:∀c:UInt64,Cv c 4=some (Zi c.toNat 4):=λc=>zV c 4 F0;have z2:Zi (2000:UInt64).toNat 4=Zi 2000 4:=rfl;rw[Kk];simp only[w,e1,e2,Aa];rw[Ca Akv,Aa,Ca Akv,Aa,Ca Akv,Aa,Ca Akv,Aa,wQ,Aa,Ca Akv,Aa,z2];rfl
theorem SO{b:LB}{a w k:Nat}(h:a+w<=k):part (b.take k) a w=part b a w:=by rw[part,part,List.take_take,Aia h]
def QX(b:LB):Bool:=decide (Ji (part b 12 4)<32\/3032<Ji (part b 12 4)\/1000<Ji (part b 16 4))
theorem Ael(b:LB)(h:20<=b.length):(((Ci (tU (part b 12 4)) (32:UInt64))||(Ep (tU (part b 12 4)) (3032:UInt64)))||(Ep (tU (part b 16 4)) (1000:UInt64)))=QX b:=by
 rw[K0,qY,qY,hH Akb,hH Akb,QX];show((decide (Ji (part b 12 4)<32)||decide (3032<Ji (part b 12 4)))||decide (1000<Ji (part b 16 4)))=_;simp[Bool.or_assoc]
theorem gq(b:LB)(h:20<=b.length)(hb:QX b=false):Ag (Ae (tU (part b 12 4)):Int) (32:Int)=((Ji (part b 12 4)-32:Nat):Int)/\ (Ae (tU (part b 16 4)):Int)=((Ji (part b 16 4):Nat):Int)/\Ji (part b 12 4)-32<=3000/\Ji (part b 16 4)<=1000:=by
 simp only[QX,Ahu]at hb;refine⟨?_,KN Akb,F0,F0⟩;rw[KN Akb,Km];omega
theorem V0(b:LB)(h:20<=b.length)(hl:b.length<4611686018427387904):
  Rz b=some (if QX b=true then(0,0,false)else(((Ji (part b 12 4)-32:Nat):Int),((Ji (part b 16 4):Nat):Int),true)):=by
 have a1:Df b 12 16=some (part b 12 4):=Pg 12 4;have a2:Df b 16 20=some (part b 16 4):=Pg 16 4;rw[Rz,a1,Aa,nk _ Akb,Aa,a2,Aa,nk _ Akb,Aa,Ael b h];cases hb:QX b with
 |true=>rfl
 |false=>
  obtain⟨i1,i2,i3,i4⟩:=gq b h hb;rw[i1,i2];rfl
def Mo(b:LB):Int×Int:=
 if ¬(8<=b.length/\b.take 8=APE)then(0,6)else if b.length<32 then(0,24)else
 if QX b=true\/b.take 32≠eD (Ji (part b 12 4)-32) (Ji (part b 16 4)) 2684354560 then(0,12)else
 if b.length<Ji (part b 12 4)+32 then(0,24)else
 if(b.take (Ji (part b 12 4)+32)).drop (Ji (part b 12 4))≠eD (Ji (part b 12 4)-32) (Ji (part b 16 4)) 2147483648 then(0,12)else(((Ji (part b 12 4)+32:Nat):Int),0)
theorem Z5(b:LB):QX (b.take 32)=QX b:=by rw[QX,QX,SO F0,SO F0]
section
variable {b:LB}
theorem fa1(h:¬(8<=b.length/\b.take 8=APE)):Mo b=(0,6):=by rw[Mo,Abw h]
theorem fa2(h:8<=b.length/\b.take 8=APE)(h2:b.length<32):Mo b=(0,24):=by rw[Mo,Aa1 (λh'=>h' h),Abw h2]
variable (h:8<=b.length/\b.take 8=APE) (h2:¬b.length<32)
include h h2
theorem fa3(h3:QX b=true):Mo b=(0,12):=by rw[Mo,Aa1 (λh'=>h' h),Aa1 h2,Abw (.inl h3)]
theorem fa4(h4:b.take 32≠eD (Ji (part b 12 4)-32) (Ji (part b 16 4)) 2684354560):Mo b=(0,12):=by rw[Mo,Aa1 (λh'=>h' h),Aa1 h2,Abw (.inr h4)]
variable (h3:QX b=false) (h4:b.take 32=eD (Ji (part b 12 4)-32) (Ji (part b 16 4)) 2684354560)
include h3 h4
theorem fa5(h5:b.length<Ji (part b 12 4)+32):Mo b=(0,24):=by
 rw[Mo,Aa1 (λh'=>h' h),Aa1 h2,Aa1 (λh'=>h'.elim (λe=>by rw[h3]at e;cases e) λe=>e h4),Abw h5]
theorem fa6(h5:¬b.length<Ji (part b 12 4)+32)(h6:(b.take (Ji (part b 12 4)+32)).drop (Ji (part b 12 4))≠eD (Ji (part b 12 4)-32) (Ji (part b 16 4)) 2147483648):Mo b=(0,12):=by
 rw[Mo,Aa1 (λh'=>h' h),Aa1 h2,Aa1 (λh'=>h'.elim (λe=>by rw[h3]at e;cases e) λe=>e h4),Aa1 h5,Abw h6]
theorem fa7(h5:¬b.length<Ji (part b 12 4)+32)(h6:(b.take (Ji (part b 12 4)+32)).drop (Ji (part b 12 4))=eD (Ji (part b 12 4)-32) (Ji (part b 16 4)) 2147483648):Mo b=(((Ji (part b 12 4)+32:Nat):Int),0):=by
 rw[Mo,Aa1 (λh'=>h' h),Aa1 h2,Aa1 (λh'=>h'.elim (λe=>by rw[h3]at e;cases e) λe=>e h4),Aa1 h5,Aa1 (λh'=>h' h6)]
end
theorem O6(b:LB)(hl:b.length<4611686018427387904):Qi b=some (Mo b):=by
 rw[Qi,Uz];by_cases h8:8<=b.length
 ·rw[Aa1 F2,Tj,Aa,show(8:Int).toNat=8 from rfl];by_cases ha:b.take 8=APE
  ·have hp:=And.intro h8 ha;rw[Aa1 (by simpa [APE]using ha),Vj,Vd];by_cases h32:b.length<32
   ·rw[Abw F2,fa2 hp h32]
   ·have t:=V0 (b.take 32) F6 F6;rw[Z5,SO F0,SO F0]at t;rw[Aa1 F2,Tj,Aa,show(32:Int).toNat=32 from rfl,t,Aa];cases hb:QX b with
    |true=>rw[fa3 hp h32 hb];simp
    |false=>
     obtain⟨i1,i2,i3,i4⟩:=gq b F0 hb;have i5:32<=Ji (part b 12 4):=by simp only[QX,Ahu]at hb;omega
     simp only[Agq,Ai7,false_or,Aa,Ajj];rw[DL,M0 _ _ _ i3 i4 F4,Aa,Aa];by_cases c1:b.take 32=eD (Ji (part b 12 4)-32) (Ji (part b 16 4)) 2684354560
     ·have c1':b.take 32=eD (Ji (part b 12 4)-32) (Ji (part b 16 4)) (2684354560:UInt64).toNat:=c1;rw[Aa1 (by simpa using c1'),Vr,Vk,Ar];have e1:64+((Ji (part b 12 4)-32:Nat):Int)=((Ji (part b 12 4)+32:Nat):Int):=F0
      rw[e1];by_cases c2:b.length<Ji (part b 12 4)+32
      ·rw[Abw F2,fa5 hp h32 hb c1 c2]
      ·rw[Aa1 F2,Km,iZ,Aa,EF,Abw rfl,M0 _ _ _ i3 i4 F4,Aa,Aa];rw[show(((Ji (part b 12 4)+32:Nat):Int)).toNat=Ji (part b 12 4)+32 by omega,show(((Ji (part b 12 4)+32:Nat):Int)-32).toNat=Ji (part b 12 4) by omega];by_cases c3:(b.take (Ji (part b 12 4)+32)).drop (Ji (part b 12 4))=eD (Ji (part b 12 4)-32) (Ji (part b 16 4)) 2147483648
       ·have c3':(b.take (Ji (part b 12 4)+32)).drop (Ji (part b 12 4))=eD (Ji (part b 12 4)-32) (Ji (part b 16 4)) (2147483648:UInt64).toNat:=c3;rw[Aa1 (by simpa using c3'),fa7 hp h32 hb c1 c2 c3]
       ·have c3':¬(b.take (Ji (part b 12 4)+32)).drop (Ji (part b 12 4))=eD (Ji (part b 12 4)-32) (Ji (part b 16 4)) (2147483648:UInt64).toNat:=c3;rw[Abw (by simpa using c3'),fa6 hp h32 hb c1 c2 c3]
     ·have c1':¬b.take 32=eD (Ji (part b 12 4)-32) (Ji (part b 16 4)) (2684354560:UInt64).toNat:=c1;rw[Abw (by simpa using c1'),fa4 hp h32 c1]
  ·rw[Abw (by simpa [APE]using ha),fa1 (λh=>ha h.2)]
 ·rw[Abw F2,fa1 (λh=>h8 h.1)]
theorem S5{b:LB}{n:Int}(h:Mo b=(n,0)):64<=n/\n<=b.length:=by
 unfold Mo at h;split at h; · simp at h
 split at h; · simp at h
 split at h; · simp at h
 rename_i hb;split at h; · simp at h
 split at h; · simp at h
 simp only[Agr,and_true]at h;have hb':¬QX b=true:=λe=>hb (.inl e);simp only[QX,Acs]at hb';omega
def Iq(b:LB):Int×Int:=if(jS b).2≠6 then jS b else Mo b
theorem wH{b:LB}{n:Int}(h:Iq b=(n,0)):10<=n/\n<=b.length:=by
 unfold Iq at h;split at h
 ·have:=um h;omega
 ·have:=S5 h;omega
def Fa(b:LB):Nat->Nat->LI×Int
 |0,_=>([],6)
 |j+1,p=>if(Iq (b.drop p)).2=6 then([],0)else if(Iq (b.drop p)).2≠0 then([],(Iq (b.drop p)).2)else
  if 4000<(p:Int)+(Iq (b.drop p)).1 then([],4)else
  if(Fa b j (p+(Iq (b.drop p)).1.toNat)).2=0 then((Iq (b.drop p)).1::(Fa b j (p+(Iq (b.drop p)).1.toNat)).1,0)else([],(Fa b j (p+(Iq (b.drop p)).1.toNat)).2)
theorem dZ(b:LB):∀(j p:Nat),p<=b.length->p<=4000-> (Fa b j p).2=0-> (∀x∈(Fa b j p).1,10<=x)/\ (p:Int)+(Fa b j p).1.sum<=b.length/\ (p:Int)+(Fa b j p).1.sum<=4000
 |0,p,_,_,h=>by simp[Fa]at h
 |j+1,p,hp,hq,h=>by
  rw[Fa]at h⊢;split at h
  ·rename_i h6;rw[Abw h6];simp;omega
  ·rename_i h6;split at h
   ·rename_i h0;exact absurd h h0
   ·rename_i h0;rw[Aa1 h6,Aa1 h0];have hz:Iq (b.drop p)=((Iq (b.drop p)).1,0):=by rw[Prod.ext_iff];exact⟨rfl,Classical.not_not.1 h0⟩
    have hs:=wH hz;rw[Ae0]at hs;split at h
    ·simp at h
    ·rename_i h4;rw[Aa1 h4];split at h
     ·rename_i h00;rw[Abw h00];obtain⟨i1,i2,i3⟩:=dZ b j _ F0 F0 h00;refine⟨λx hx=>?_,?_,?_⟩
      ·rcases List.mem_cons.1 hx with rfl|hx
       ·exact hs.1
       ·exact i1 x hx
      ·simp only[Ahh];omega
      ·simp only[Ahh];omega
     ·rename_i h00;exact absurd h h00
def Adh(b:LB)(j p:Nat):Int×Int:=if(Fa b j p).2=0 then((p:Int)+(Fa b j p).1.sum,0)else(0,(Fa b j p).2)
def W9(b:LB)(j p:Nat)(xs:LI):LI×Int:=if(Fa b j p).2=0 then(xs++(Fa b j p).1,0)else([],(Fa b j p).2)
theorem X9(bk:Int->LI->Option (LI×Int))(b:LB)(p:Nat)(hp:p<=b.length)(xs:LI)(hx:xs.length<=4000)(hl:b.length<4611686018427387904):Mn (Jf bk b) b (p:Int) xs=Jf bk b (p:Int) xs (Iq (b.drop p)).1 (Iq (b.drop p)).2:=by
 have hf:=O6 (b.drop p) F6;rw[Mn,TN,Aa,Aex,om _ F6,Aa];by_cases h:(jS (b.drop p)).2=6
 ·simp[Iq,h,Dh,hf]
 ·simp[Iq,h,Dh]
theorem oR(b:LB)(hl:b.length<4611686018427387904):∀(j p q:Nat) (xs:LI),p<=b.length->p<=4000->b.length-p<j->j<=q->xs.length<=p->Iz b q (p:Int) xs=some (W9 b j p xs)
 |0,p,q,_,_,_,h,_,_=>by omega
 |j+1,p,q,xs,hp,hp4,hj,hq,hx=>by
  obtain⟨q,rfl⟩:∃k,q=k+1:=⟨q-1,F0⟩;rw[Iz,X9 _ b p hp xs F0 hl,Jf,Vi,Dh,Et,W9];by_cases h6:(Iq (b.drop p)).2=6
  ·rw[Abw (by simpa using h6)];have:Fa b (j+1) p=([],0):=by rw[Fa,Abw h6]
   rw[this];simp
  ·rw[Aa1 (by simpa using h6)];by_cases h0:(Iq (b.drop p)).2=0
   ·have hz:Iq (b.drop p)=((Iq (b.drop p)).1,0):=by rw[Prod.ext_iff];exact⟨rfl,h0⟩
    have hs:=wH hz;rw[Ae0]at hs;rw[Aa1 (by simpa using h0),Ar,Bu];by_cases h4:4000<(p:Int)+(Iq (b.drop p)).1
    ·rw[Abw F6];have:Fa b (j+1) p=([],4):=by rw[Fa,Aa1 h6,Aa1 (λh=>h h0),Abw h4]
     rw[this];simp
    ·rw[Aa1 F6,Ca F6,Aa];have ih:=oR b hl j (p+(Iq (b.drop p)).1.toNat) q (xs++[(Iq (b.drop p)).1]) F0 F0 F0 F0 F6;rw[show(p:Int)+(Iq (b.drop p)).1=((p+(Iq (b.drop p)).1.toNat:Nat):Int) by omega,ih,W9];have:Fa b (j+1) p=if(Fa b j (p+(Iq (b.drop p)).1.toNat)).2=0 then((Iq (b.drop p)).1::(Fa b j (p+(Iq (b.drop p)).1.toNat)).1,0)else([],(Fa b j (p+(Iq (b.drop p)).1.toNat)).2):=by
      rw[Fa,Aa1 h6,Aa1 (λh=>h h0),Aa1 h4]
     rw[this];by_cases hr:(Fa b j (p+(Iq (b.drop p)).1.toNat)).2=0
     ·simp only[hr,Aj3];simp
     ·simp only[hr,Ai7]
   ·rw[Abw (by simpa using h0)];have:Fa b (j+1) p=([],(Iq (b.drop p)).2):=by rw[Fa,Aa1 h6,Abw h0]
    rw[this];simp[h0]
theorem gT:∀{l:LI},(∀x∈l,10<=x)->0<=l.sum/\ (l.length:Int)<=l.sum
 |[],_=>by simp
 |x::l,h=>by
  have h1:=h x Agn;have h2:=gT (l:=l) λy hy=>h y (Aek _ hy);simp only[Ahh,Ae2];omega
theorem iK(r:Int)(l:LI)(hl:l.length<=4000)(hx:∀x∈l,10<=x):∀(j i q:Nat) (n:Int),i+j=l.length->j<q->0<=n->n+(l.drop i).sum<=4000->Gl r l q n (i:Int)=some (n+(l.drop i).sum,r)
 |0,i,q+1,n,hi,_,_,_=>by
  rw[Gl,Me,Aa1 F2,show i=l.length by omega,Ai1];simp[Vq,Uy]
 |j+1,i,q+1,n,hi,hq,hn,hs=>by
  have hlt:i<l.length:=F0
  rw[drop_cons hlt,Ahh]at hs⊢;have h1:=hx l[i] (Aiq hlt);have h2:=gT (l:=l.drop (i+1)) λy hy=>hx y (Ai3 hy);rw[Gl,Me,Abw F2,Cu hlt,Aa,Aa,Ar,Ar];have ih:=iK r l hl hx j (i+1) q (n+l[i]) F0 F0 F0 F0;rw[show((i:Int)+1)=((i+1:Nat):Int) by omega,ih];congr 2;omega
def Nc(b:LB):Int×Int:=Adh b (b.length+1) 0
theorem rD(b:LB)(hl:b.length<4611686018427387904):Qs b=some (Nc b):=by
 have h:=oR b hl (b.length+1) 0 As [] F0 F0 F0 Aj4 Aj6;have h':AX b=some (W9 b (b.length+1) 0 []):=h;rw[Qs,Vh,h',Aa,Nc,Adh,W9];have ho:=dZ b (b.length+1) 0 F0 F0;by_cases h0:(Fa b (b.length+1) 0).2=0
 ·obtain⟨i1,i2,i3⟩:=ho h0;have hp:=gT i1;simp only[h0,Aj3,Ahz];have:=iK 0 (Fa b (b.length+1) 0).1 F0 i1 (Fa b (b.length+1) 0).1.length 0 As 0 F0 Aj4 F0 (by simpa using i3);simpa [Mf]using this
 ·simp only[h0,Ai7];have:=iK (Fa b (b.length+1) 0).2 [] Aj6 Aj6 0 0 As 0 Aj6 Aj4 F0 Aj6;simpa [Mf]using this
theorem N1{b:LB}(h:(Nc b).2=0):0<= (Nc b).1/\ (Nc b).1<=b.length/\ (Nc b).1<=4000:=by
 unfold Nc Adh at h⊢;split at h
 ·rename_i h0;rw[Abw h0];obtain⟨i1,i2,i3⟩:=dZ b (b.length+1) 0 F0 F0 h0;have hp:=gT i1;exact⟨by simp;omega,i2,i3⟩
 ·rename_i h0;exact absurd h h0
theorem Akq{p:Prop}(h:p:=by rw[Bu];simp):p:=h
end Go.Pl
namespace Go.Pl
open Go Go.Lv
variable{bits:Int}{r g n c f w k m v:Nat}
def Al(r:Nat):Nat:=max 1 (256*r/245)
theorem Kr(r:Nat):1<=Al r:=Nat.le_max_left _ _
theorem BS(h:r<=1048576):Al r<=1100000:=by unfold Al;omega
theorem lD(h:r<=1048576):aA (1:Int) (Bs (Bq (256:Int) (r:Int)) (245:Int))=(Al r:Int):=by
 rw[Nk,qT,Ai8 F0,Gh F0 F0,sP,Al];omega
def Dn(g n:Nat):LI:=List.replicate ((n-1)/g) (g:Int)++[((n-(n-1)/g*g:Nat):Int)]
theorem eU(g n:Nat):(Dn g n).length=(n-1)/g+1:=by simp[Dn]
theorem nD(h:n<=g)(h1:1<=n):Dn g n=[(n:Int)]:=by
 rw[Dn,Ah6 F0];simp
theorem xU(hg:1<=g)(h:g<n):Dn g n=(g:Int)::Dn g (n-g):=by
 have e:(n-1)/g=(n-g-1)/g+1:=by rw[<-Nat.add_div_right _ F0];congr 1;omega
 rw[Dn,Dn,e,Ah9,Ai9];congr 4;have:=Ai6 (n-g-1) g;rw[Ady,Agy];omega
theorem ZI(hg:1<=g)(h1:1<=n):(n+g-1)/g=(n-1)/g+1:=by
 rw[<-Nat.add_div_right _ F0];congr 1;omega
theorem SN(h1:1<=r)(h:r<=1048576):Nv (r:Int)=some ((Al r:Int),0):=by
 rw[Nv,Aa1 Aj9,lD h]
theorem jc(h:r<=1048576):Mw (r:Int)=some (Al r:Int):=by rw[Mw,lD h]
theorem zM(h1:1<=r)(h:r<=1048576)(n1:1<=n)(n2:n<=4000):Ww (r:Int) (n:Int)=some (if 1000<(n-1)/Al r+1 then(0,4)else((((n-1)/Al r+1:Nat):Int),0)):=by
 have hp:=Kr r;have hl:=BS h;have e:Bs (Ag (Ad (n:Int) (Al r:Int)) (1:Int)) (Al r:Int)=(((n-1)/Al r+1:Nat):Int):=by
  have:(n+Al r-1)/Al r<=n+Al r-1:=Agj _ _;rw[Ar,Km,qT,Ai8 F0,show(n:Int)+(Al r:Int)-1=((n+Al r-1:Nat):Int) by omega,<-Int.natCast_ediv,ZI hp n1];rw[ZI hp n1]at this;generalize(n-1)/Al r=k at*
  exact Gh F0 F0
 rw[Ww,SN h1 h,Aa];simp only;rw[Aa1 Akc,Aa1 Aj9,Cy Aka,Aa,e];by_cases hk:1000<(n-1)/Al r+1
 ·rw[Abw Aj7,Abw hk]
 ·rw[Aa1 Aj7,Aa1 hk]
theorem lI{r:Nat}(h:r<=1048576):∀(j n q:Nat) (acc:LI),n<=4000->n<=j->j<q->acc.length+n<=10000->Dd (r:Int) q (n:Int) acc=some (acc++(if n=0 then []else Dn (Al r) n))
 |0,n,q+1,acc,hn,hj,hq,ha=>by
  obtain rfl:n=0:=F0
  rw[Dd,Gn,Aa1 Akq];simp[Jg,Ja]
 |j+1,n,q+1,acc,hn,hj,hq,ha=>by
  have hp:=Kr r;have hl:=BS h;by_cases h0:n=0
  ·subst h0;rw[Dd,Gn,Aa1 Akq];simp[Jg,Ja]
  ·rw[Dd,Gn,Abw Aj7,jc h,Aa,Ca F6,Aa,Aa,Km,IW];by_cases hs:n<=Al r
   ·rw[show min (n:Int) (Al r:Int)=(n:Int) by omega,Aa1 h0,nD hs F0];have hz:∃k,q=k+1:=⟨q-1,F0⟩;obtain⟨q,rfl⟩:=hz;rw[Dd,Gn,Aa1 Aj7];simp[Jg,Ja]
   ·rw[show min (n:Int) (Al r:Int)=(Al r:Int) by omega,show(n:Int)-(Al r:Int)=((n-Al r:Nat):Int) by omega,lI h j (n-Al r) q _ F0 F0 F0 F6,Aa1 F0,Aa1 h0,xU hp (show Al r<n by omega)];simp
theorem jr(h:r<=1048576)(n1:1<=n)(n2:n<=4000):Iu (r:Int) (n:Int)=some (Dn (Al r) n):=by
 have:=lI h n n As [] n2 (Afl _) Aj4 F6;rw[Iu,Vg,Uw,this,Aa1 F0];rfl
theorem mul_one(m:Nat)(h:m<=100000):Wz (1:UInt64) (UInt64.ofNat m)=some (0,UInt64.ofNat m):=by
 have y1:(UInt64.ofNat m).toNat=m:=hD F0;have s1:Bo (1:UInt64) (GI.toZ (32:UInt64)).toNat=0:=F4
 have s2:Bo (UInt64.ofNat m) (GI.toZ (32:UInt64)).toNat=0:=by
  apply UInt64.toNat_inj.1;rw[Uj,y1];exact Ah6 (Aig h F4)
 have s0:Bo (0:UInt64) (GI.toZ (32:UInt64)).toNat=0:=F4
 have a1:Dq (1:UInt64) (4294967295:UInt64)=1:=F4
 have a0:Dq (0:UInt64) (4294967295:UInt64)=0:=F4
 have a2:Dq (UInt64.ofNat m) (4294967295:UInt64)=UInt64.ofNat m:=by
  apply UInt64.toNat_inj.1;rw[vU,UInt64.toNat_and,y1]
  show m&&& (2^32-1)=m;rw[Aiv,Ace F0]
 have m1:∀x:UInt64,Bq 1 x=x:=λx=>by rw[aN,UInt64.one_mul]
 have m0:∀x:UInt64,Bq 0 x=0:=λx=>by rw[aN,UInt64.zero_mul]
 have p0:∀x:UInt64,Ad 0 x=x:=λx=>by rw[aR,UInt64.zero_add]
 have p1:∀x:UInt64,Ad x 0=x:=λx=>by rw[aR,UInt64.add_zero]
 rw[Wz,Yx];simp only[s1,s2,a1,a2,m1,m0,p0,p1,s0,a0,Aa]
def Jq(f c w r n:Nat):Bool:=decide ((f=1\/f=2)/\ (1<=c/\c<=6)/\ (w=8\/w=16\/w=24)/\ (1<=r/\r<=1048576)/\1<=n)
def UJ(c r n:Nat):Bool:=decide (n<=4000/c/\ (n-1)/Al r+1<=1000)
theorem uF(f c w r n:Nat):Wo (f:Int) (c:Int) (w:Int) (r:Int) (n:Int)=some (Jq f c w r n):=by
 have e2:We (f:Int) (c:Int) (w:Int) (r:Int) (n:Int)=some (decide ((f=1\/f=2)/\ (1<=c/\c<=6)/\ (1<=r/\r<=1048576)/\1<=n)):=by
  rw[We,GK];congr 1;rw[Agz];simp only[Dh,Bu,MG,Ab7,Ah5,Aiz,Acs];omega
 have g:∀k:Nat,geq (w:Int) (k:Int)=decide (w=k):=λk=>by rw[Dh,Agz];simp;omega
 have g8:geq (w:Int) (8:Int)=decide (w=8):=g 8;have g16:geq (w:Int) (16:Int)=decide (w=16):=g 16;have g24:geq (w:Int) (24:Int)=decide (w=24):=g 24;rw[Wo,GA,e2,g8,g16,g24,Jq];by_cases h8:w=8
 ·subst h8;simp
 ·by_cases h16:w=16
  ·subst h16;simp
  ·by_cases h24:w=24
   ·subst h24;simp
   ·simp[h8,h16,h24]
theorem D2(f c w r n:Nat):Ox (f:Int) (c:Int) (w:Int) (r:Int) (n:Int)=some (Jq f c w r n):=by
 rw[Ox,Jq];simp only[Dh,Kv,MG,Ab7,Ah5,Aiz,Acs,Ajp];split
 ·rename_i h;congr 1;rw[Agz];simp only[Ab7,Ah5,Aiz,Acs];omega
 ·rename_i h;congr 1;symm;rw[Ahu];omega
theorem Aca(h:1<=c):Bs (4000:Int) (c:Int)=((4000/c:Nat):Int):=by
 have:4000/c<=4000:=Agj _ _;rw[qT,Ai8 F0,show(4000:Int)=((4000:Nat):Int)from rfl,<-Int.natCast_ediv];generalize 4000/c=k at*
 exact Gh F0 F0
theorem O8(h:Jq f c w r n=true):EA (f:Int) (c:Int) (w:Int) (r:Int) (n:Int)=some (UJ c r n):=by
 simp only[Jq,Acs]at h;have hd:4000/c<=4000:=Agj _ _;rw[EA,Cy Aka,Aa,Aca F0,UJ];generalize 4000/c=m at*
 by_cases h1:n<=m
 ·rw[Aa1 Aj7,zM F0 F0 F0 F0,Aa];generalize(n-1)/Al r+1=k;by_cases h2:1000<k
  ·rw[Abw h2];simp[Dh,MG];omega
  ·rw[Aa1 h2];simp[Dh,MG,h1];omega
 ·rw[Abw Aj7];simp[h1]
theorem tu(h:Jq f c w r n=true):Ub (f:Int) (c:Int) (w:Int) (r:Int) (n:Int)=some (!UJ c r n):=by
 simp only[Jq,Acs]at h;have hd:4000/c<=4000:=Agj _ _;rw[Ub,Cy Aka,Aa,Aca F0,UJ];generalize 4000/c=m at*
 by_cases h1:n<=m
 ·rw[Aa1 Aj7,jr F0 F0 F0,Aa,Ac,eU];generalize(n-1)/Al r+1=k;congr 1;rw[Bu,Agz];simp only[Acs,Afv,Ahu];omega
 ·rw[Abw Aj7];simp[h1]
def Yb:LB:=[84,84,65,49]
def f0(b:LB):Nat:=Ji (part b 4 2)
def f1(b:LB):Nat:=Ji (part b 6 2)
def f2(b:LB):Nat:=Ji (part b 8 2)
def f3(b:LB):Nat:=Ji (part b 10 4)
def f4(b:LB):Nat:=Ji (part b 14 4)
abbrev H6:=Int×Int×Int×Int×Int×Int
def Pm(b:LB):H6:=
 if b.take (min 4 b.length)≠Yb.take (min 4 b.length)then(0,0,0,0,0,12)else if b.length<22 then(0,0,0,0,0,24)else
 if(Mz (b.take 18)).toNat≠Ji (part b 18 4)then(0,0,0,0,0,22)else
 if Jq (f0 b) (f1 b) (f2 b) (f3 b) (f4 b)=false then(0,0,0,0,0,12)else
 if UJ (f1 b) (f3 b) (f4 b)=false then(0,0,0,0,0,4)else((f0 b:Int),(f1 b:Int),(f2 b:Int),(f3 b:Int),(f4 b:Int),0)
section
variable {b:LB}
theorem rs1(h:b.take (min 4 b.length)≠Yb.take (min 4 b.length)):Pm b=(0,0,0,0,0,12):=by rw[Pm,Abw h]
variable (h:b.take (min 4 b.length)=Yb.take (min 4 b.length))
include h
theorem rs2(h2:b.length<22):Pm b=(0,0,0,0,0,24):=by rw[Pm,Aa1 (λe=>e h),Abw h2]
variable (h2:¬b.length<22)
include h2
theorem rs3(h3:(Mz (b.take 18)).toNat≠Ji (part b 18 4)):Pm b=(0,0,0,0,0,22):=by rw[Pm,Aa1 (λe=>e h),Aa1 h2,Abw h3]
variable (h3:(Mz (b.take 18)).toNat=Ji (part b 18 4))
include h3
theorem rs4(h4:Jq (f0 b) (f1 b) (f2 b) (f3 b) (f4 b)=false):Pm b=(0,0,0,0,0,12):=by rw[Pm,Aa1 (λe=>e h),Aa1 h2,Aa1 (λe=>e h3),Abw h4]
variable (h4:Jq (f0 b) (f1 b) (f2 b) (f3 b) (f4 b)=true)
include h4
theorem rs5(h5:UJ (f1 b) (f3 b) (f4 b)=false):Pm b=(0,0,0,0,0,4):=by rw[Pm,Aa1 (λe=>e h),Aa1 h2,Aa1 (λe=>e h3),Aa1 (by rw[h4];simp),Abw h5]
theorem rs6(h5:UJ (f1 b) (f3 b) (f4 b)=true):Pm b=((f0 b:Int),(f1 b:Int),(f2 b:Int),(f3 b:Int),(f4 b:Int),0):=by rw[Pm,Aa1 (λe=>e h),Aa1 h2,Aa1 (λe=>e h3),Aa1 (by rw[h4];simp),Aa1 (by rw[h5];simp)]
end
theorem Ac3(b:LB)(h2:¬b.length<22):Bp (Ae (Mz (b.take 18)):UInt64) (tU (part b 18 4))=decide ((Mz (b.take 18)).toNat≠Ji (part b 18 4)):=by
 rw[qS,Ie,Agz];simp only[bne_iff_ne,ne_eq,Acs];rw[<-UInt64.toNat_inj,hD (by have:=(Mz (b.take 18)).toNat_lt;omega),hH Akb]
theorem Ag6(b:LB):Er (4:Int) (Ac b)=((min 4 b.length:Nat):Int):=by rw[IW,Ac];omega
theorem X5(b:LB)(hb:b.length<4611686018427387904):Tq b=some (Pm b):=by
 rw[Tq,Xl,Ag6,Tj,Aa,Aex,Tj F0 F6,Aa,Aex];by_cases h:b.take (min 4 b.length)=Yb.take (min 4 b.length)
 ·rw[Aa1 (by rw[h];simp[Yb]),Yg,Xo];by_cases h2:b.length<22
  ·rw[Abw F2,rs2 h h2]
  ·have a1:Df b 18 22=some (part b 18 4):=Pg 18 4;have c1:Df b 4 6=some (part b 4 2):=Pg 4 2;have c2:Df b 6 8=some (part b 6 2):=Pg 6 2;have c3:Df b 8 10=some (part b 8 2):=Pg 8 2;have c4:Df b 10 14=some (part b 10 4):=Pg 10 4;have c5:Df b 14 18=some (part b 14 4):=Pg 14 4;have hs:Bp (tU (part b 18 4)) (Ae (Mz (b.take 18)):UInt64)=decide ((Mz (b.take 18)).toNat≠Ji (part b 18 4)):=by
    rw[<-Ac3 b h2,qS,qS,Agz];simp only[bne_iff_ne,ne_eq];exact not_congr eq_comm
   have lp:∀a w,a+w<=b.length->Cf (part b a w)=some (tU (part b a w)):=λa w h=>nk _ (by rw[He h];omega);rw[Aa1 F2,a1,Aa,Tj,Aa,show(18:Int).toNat=18 from rfl,lp _ _ F0,Aa,Ae6 _ F6,Aa,hs];by_cases h3:(Mz (b.take 18)).toNat=Ji (part b 18 4)
   ·rw[Aa1 (by simpa using h3),Yi,Xv,c1,Aa,c2,Aa,c3,Aa,c4,Aa,c5,Aa,lp _ _ F0,Aa,lp _ _ F0,Aa,lp _ _ F0,Aa,lp _ _ F0,Aa,lp _ _ F0,Aa,
     Ye,Xu,KN Akb,KN Akb,KN Akb,KN Akb,KN Akb]
    rw[show Ji (part b 4 2)=f0 b from rfl,show Ji (part b 6 2)=f1 b from rfl,show Ji (part b 8 2)=f2 b from rfl,show Ji (part b 10 4)=f3 b from rfl,show Ji (part b 14 4)=f4 b from rfl,D2,Aa];cases h4:Jq (f0 b) (f1 b) (f2 b) (f3 b) (f4 b)with
    |false=>rw[rs4 h h2 h3 h4];rfl
    |true=>
     rw[tu h4,Aa1 Aj6,Aa];cases h5:UJ (f1 b) (f3 b) (f4 b)with
     |false=>rw[rs5 h h2 h3 h4 h5];rfl
     |true=>rw[rs6 h h2 h3 h4 h5];rfl
   ·rw[Abw (by simpa using h3),rs3 h h2 h3]
 ·rw[Abw (by simpa [Yb]using h),rs1 h]
def okL:LI->Int->Bool
 |[],_=>true
 |x::l,left=>decide (5<=x/\x<=left)&&okL l (left-x)
theorem Adg:∀l:LI,(∀x∈l,5<=x)->0<=l.sum
 |[],_=>by simp
 |x::l,h=>by
  have h1:=h x Agn;have h2:=Adg l λy hy=>h y (Aek _ hy);rw[Ahh];omega
theorem rZ:∀(l:LI) (left:Int),0<=left-> (okL l left=true↔(∀x∈l,5<=x)/\l.sum<=left)
 |[],left,h=>by simp[okL];exact h
 |x::l,left,h=>by
  rw[okL,Ab7,Acs,Ahh];by_cases hx:5<=x/\x<=left
  ·rw[rZ l (left-x) F0];constructor
   ·rintro⟨_,h1,h2⟩;exact⟨λy hy=>(List.mem_cons.1 hy).elim (λe=>e▸hx.1) (h1 y),F0⟩
   ·rintro⟨h1,h2⟩;exact⟨hx,λy hy=>h1 y (Aek _ hy),F0⟩
  ·constructor
   ·rintro⟨h1,_⟩;exact absurd h1 hx
   ·rintro⟨h1,h2⟩;have h3:=h1 x Agn;have:0<=l.sum:=Adg l λy hy=>h1 y (Aek _ hy);omega
theorem lP(l:LI)(hl:l.length<=1000):∀(j i q:Nat) (left:Int),i+j=l.length->j<q->0<=left->left<=100000->Kj l q left (i:Int)=some (if okL (l.drop i) left=true then 0 else 8)
 |0,i,q+1,left,hi,_,_,_=>by
  rw[Kj,Um,Aa1 F2,show i=l.length by omega,Ai1];rfl
 |j+1,i,q+1,left,hi,hq,h0,h1=>by
  have hlt:i<l.length:=F0
  rw[Kj,Um,Abw F2,Cu hlt,Aa,drop_cons hlt];by_cases h:5<=l[i]/\l[i]<=left
  ·rw[Aa1 Aj9,Km,Ar];have ih:=lP l hl j (i+1) q (left-l[i]) F0 F0 F0 F0;rw[show((i:Int)+1)=((i+1:Nat):Int) by omega,ih];simp[okL,h]
  ·rw[Abw Aj9];have:okL (l[i]::l.drop (i+1)) left=false:=by rw[okL,decide_eq_false h];rfl
   rw[this];rfl
def lM(l:LI):Bool:=decide (1<=l.length/\l.length<=1000)&&okL l 100000
theorem tQ(l:LI)(hl:l.length<=1000):Rq l=some (if lM l=true then 0 else 8):=by
 rw[Rq,Tr,lM];by_cases h:1<=l.length
 ·rw[Aa1 (by rw[Dh,Bu,Ac];simp;constructor;(intro e;subst e;simp at h);omega),QV];have:=lP l hl l.length 0 As 100000 F0 Aj4 F0 F0;rw[List.drop_zero]at this;rw[decide_eq_true (show 1<=l.length/\l.length<=1000 from⟨h,hl⟩),Ajg];exact this
 ·have:l=[]:=by
   cases l with
   |nil=>rfl
   |cons _ _=>simp at h
  subst this;rfl
theorem V8:∀{l:LI},(∀x∈l,5<=x)->∀x∈l,x<=l.sum
 |[],_,x,hx=>by simp at hx
 |y::l,h,x,hx=>by
  have h1:=h y Agn;have h2:=Adg l λz hz=>h z (Aek _ hz);rw[Ahh];rcases List.mem_cons.1 hx with rfl|hx
  ·omega
  ·have:=V8 (l:=l) (λz hz=>h z (Aek _ hz)) x hx;omega
theorem iB(l:LI):Rq l=some (if lM l=true then 0 else 8):=by
 by_cases hl:l.length<=1000
 ·exact tQ l hl
 ·rw[Rq,Tr,Abw Aj8,lM,decide_eq_false F0];rfl
def vQ(b:LB):LB:=b.drop (Nc b).1.toNat
theorem S1(l:LI)(i:Nat):(l.take i).sum+(l.drop i).sum=l.sum:=by
 conv=>rhs;rw[<-Aib i l,List.sum_append]
theorem yY(hg:1<=g)(hn:1<=n){x:Int}(h:x∈Dn g n):∃m:Nat,x=m/\1<=m/\m<=n:=by
 have hmul:=Ai6 (n-1) g;rw[Dn,List.mem_append]at h;rcases h with h|h
 ·rw[List.mem_replicate]at h;have h1:1<= (n-1)/g:=Nat.pos_of_ne_zero h.1;have:=Acb g h1;exact⟨g,h.2,hg,F0⟩
 ·rw[List.mem_singleton]at h;exact⟨_,h,F0,F0⟩
theorem X7(h:Jq f c w r n=true):(1<=c/\c<=6)/\Eg (w:Int)/\ (1<=r/\r<=1048576)/\1<=n/\ (f=1\/f=2):=by
 simp only[Jq,Acs]at h;refine⟨h.2.1,?_,h.2.2.2.1,h.2.2.2.2,h.1⟩;rcases h.2.2.1 with rfl|rfl|rfl
 ·exact .inl rfl
 ·exact .inr (.inl rfl)
 ·exact .inr (.inr rfl)
theorem FF{a b:Nat}(h:a<9223372036854775808:=by omega):Bs (a:Int) (b:Int)=((a/b:Nat):Int):=by
 have:a/b<=a:=Agj _ _;rw[qT,Ai8 F0,<-Int.natCast_ediv];generalize a/b=k at*
 exact Gh F0 F0
theorem N2(h:Eg bits)(x:Int):(zn bits x).length=wB bits:=by
 obtain rfl|rfl|rfl:=h<;>rfl
theorem eK{bits:Int}(h:Eg bits):∀l:LX,(YQ bits l).length=l.length*wB bits
 |[]=>by simp[YQ]
 |x::l=>by
  have h1:=eK h l;have h2:=N2 h x.toInt;simp only[YQ,List.flatMap_cons,Abr,Ae2,Aio]at*
  omega
def Af5(b:LB)(A:Nat)(l:LI)(k:Nat):LB:=(b.take ((A:Int)+(l.take (k+1)).sum).toNat).drop ((A:Int)+(l.take k).sum).toNat
structure Gts (b p:LB) (f c w r n A:Nat) (l:LI) (k m:Nat) (x:LX) (s:LB) (e:Int):Prop where
 mom:Af (Dn (Al r) n) (k:Int)=some (m:Int)
 pos:1<=m/\m*c<=4000
 got:cW b p (f:Int) (c:Int) (w:Int) (r:Int) (n:Int) (A:Int) l (k:Int)=some (s,e)
 none':e≠0->s=[]/\x=[]
 some':e=0->s=YQ (w:Int) x/\x.length=m*c/\Ed (w:Int) x=some 0/\xC (w:Int) x=some (s,0)/\ (A:Int)+(l.take (k+1)).sum<=b.length
 way:((b.length:Int)<(A:Int)+(l.take (k+1)).sum/\e=24)\/ ((A:Int)+(l.take (k+1)).sum<=b.length/\iA (c:Int) (w:Int) (Qj p) (m:Int) (Af5 b A l k)=some (x,e)/\Oo (c:Int) (w:Int) (Qj p) (m:Int) (Af5 b A l k)=some (x,e))
theorem Gts.lens{b p:LB}{A:Nat}{l:LI}{x:LX}{s:LB}{e:Int}(hw:Eg (w:Int))(g:Gts b p f c w r n A l k m x s e):s.length<=12000/\x.length<=4000/\ (e=0->s.length=m*c*wB (w:Int)):=by
 by_cases he:e=0
 ·obtain⟨h1,h2,_⟩:=g.some' he;have h3:=lX (w:Int) x;have h4:=eK hw x;have h5:=g.pos;rw[<-h1]at h3 h4;refine⟨F0,F0,λ_=>by rw[h4,h2]⟩
 ·obtain⟨h1,h2⟩:=g.none' he;exact⟨by simp[h1],by simp[h2],λh=>absurd h he⟩
def Jy(b:LB)(k:Nat):Nat:=(b.getD k 0).toNat
theorem bJ(b:LB)(k:Nat):Jy b k<256:=(b.getD k 0).toNat_lt
def sx(n:Nat)(b:LB)(a:Nat):Int:=
 if n=1 then(Jy b a:Int)-128 else
 if n=2 then(if Jy b a+256*Jy b (a+1)<32768 then(Jy b a+256*Jy b (a+1):Nat)else((Jy b a+256*Jy b (a+1):Nat):Int)-65536)else
 (if Jy b a+256*Jy b (a+1)+65536*Jy b (a+2)<8388608 then(Jy b a+256*Jy b (a+1)+65536*Jy b (a+2):Nat)else((Jy b a+256*Jy b (a+1)+65536*Jy b (a+2):Nat):Int)-16777216)
def UO(n m:Nat)(b:LB):LX:=(List.range m).map λx=>Int32.ofInt (sx n b (x*n))
theorem gU(n m:Nat)(b:LB):(UO n m b).length=m:=by simp[UO]
theorem jv(n m:Nat)(b:LB):UO n (m+1) b=UO n m b++[Int32.ofInt (sx n b (m*n))]:=by simp[UO,List.range_succ]
theorem RK{n:Int}(h: -2147483648<=n)(h':n<2147483648):(Int32.ofInt n).toInt=n:=by
 rw[Ajx,Int.bmod_def,show((Int32.size:Nat):Int)=4294967296 from rfl];split<;>omega
theorem TI{b:LB}(h:k<b.length):Af b (k:Int)=some (b.getD k 0):=by
 rw[Cu h];simp[List.getD_eq_getElem?_getD,h]
theorem CB(c:UInt8):(Ae c:Int32)=Int32.ofInt (c.toNat:Int):=rfl
theorem cZ(k:Nat)(hk:k<=32)(h:v<2147483648):Cr (Int32.ofInt (v:Int)) k=Int32.ofInt ((v*2^k:Nat):Int):=by
 have e:Cr (Int32.ofInt (v:Int)) k=Int32.ofInt ((Int32.ofInt (v:Int)).toInt*2^min k 32):=rfl;rw[e,RK F0 F0,Aia hk];simp
theorem Abi{i:Nat}(hv:v<2^i)(hw:w*2^i<2147483648)(hi:i<=31):rX (Int32.ofInt (v:Int)) (Int32.ofInt ((w*2^i:Nat):Int))=Int32.ofInt ((v+w*2^i:Nat):Int):=by
 have hv2:v<2147483648:=Ae3 hv (show 2^i<=2^31 from Aey F0 hi);have e:rX (Int32.ofInt (v:Int)) (Int32.ofInt ((w*2^i:Nat):Int))=Int32.ofInt ((BitVec.ofInt 32 (Int32.ofInt (v:Int)).toInt|||BitVec.ofInt 32 (Int32.ofInt ((w*2^i:Nat):Int)).toInt).toNat:Int):=rfl;rw[e,RK F0 F0,RK F0 F0,BitVec.toNat_or,Aiy,Aiy];have a1:((v:Int) %((2^32:Nat):Int)).toNat=v:=F0
 have a2:(((w*2^i:Nat):Int) %((2^32:Nat):Int)).toNat=w*2^i:=F0
 rw[a1,a2,Nat.or_comm,Ag4 w,<-Ain hv,Ajf]
theorem pL(w:Nat)(h:w<2147483648):rX (0:Int32) (Int32.ofInt (w:Int))=Int32.ofInt (w:Int):=by
 have:=Abi (v:=0) (w:=w) (i:=0) Aj6 (by simpa using h) F0;simpa using this
theorem carry(hk:k<=31)(h:v*2^k<4294967296)(hv:v<2147483648):Bo (Cr (Int32.ofInt (v:Int)) k) k=Int32.ofInt ((if v*2^k<2147483648 then((v*2^k:Nat):Int)else((v*2^k:Nat):Int)-4294967296).fdiv (2^k)):=by
 rw[cZ k F0 hv];have e:∀x:Int32,Bo x k=Int32.ofInt (x.toInt.fdiv (2^min k 32)):=λ_=>rfl;have hX:(Int32.ofInt ((v*2^k:Nat):Int)).toInt=if v*2^k<2147483648 then((v*2^k:Nat):Int)else((v*2^k:Nat):Int)-4294967296:=by
  rw[Ajx,Int.bmod_def,show((Int32.size:Nat):Int)=4294967296 from rfl];generalize v*2^k=X at*
  split<;>split<;>omega
 rw[e,Aia F0,hX]
theorem sx2(b:LB)(a:Nat):sx 2 b a=if Jy b a+256*Jy b (a+1)<32768 then((Jy b a+256*Jy b (a+1):Nat):Int)else((Jy b a+256*Jy b (a+1):Nat):Int)-65536:=rfl
theorem sx3(b:LB)(a:Nat):sx 3 b a=if Jy b a+256*Jy b (a+1)+65536*Jy b (a+2)<8388608 then((Jy b a+256*Jy b (a+1)+65536*Jy b (a+2):Nat):Int)else((Jy b a+256*Jy b (a+1)+65536*Jy b (a+2):Nat):Int)-16777216:=rfl
variable (b:LB)
theorem Af3(bk:Int->LX->Option (LX×Int))(a:Nat)(acc:LX)(h:a+1<=b.length)(hl:b.length<=100000)(ha:acc.length<=100000)(j25:Int->LX->Int32->Int->Option (LX×Int))(j30:LX->Option (LX×Int)):
  Ds (Fy bk 8 b) j25 j30 8 b (a:Int) acc=bk ((a+1:Nat):Int) (acc++[Int32.ofInt (sx 1 b a)]):=by
 have hb:=bJ b a;have e:Ag (Ae (b.getD a 0):Int32) (128:Int32)=Int32.ofInt (sx 1 b a):=by
  have e1:Ag (Ae (b.getD a 0):Int32) (128:Int32)=Int32.ofInt ((Int32.ofInt ((b.getD a 0).toNat:Int)).toInt-(128:Int32).toInt):=rfl;rw[e1,RK F0 (by have:=(b.getD a 0).toNat_lt;omega)];rfl
 have q8:Bs (8:Int) 8=1:=F4
 rw[Ds,Abw F2,Abw (by rw[Dh];rfl),TI F0,Aa,e,Ca F6,Aa,Fy,Mr,q8,Ar];rfl
theorem Ad7(bk:Int->LX->Option (LX×Int))(a:Nat)(acc:LX)(h:a+2<=b.length)(hl:b.length<=100000)(ha:acc.length<=100000)(j28:Int->LX->Option (LX×Int))(j30:LX->Option (LX×Int)):
  Ds j28 (Ho bk 16 b) j30 16 b (a:Int) acc=bk ((a+2:Nat):Int) (acc++[Int32.ofInt (sx 2 b a)]):=by
 have h0:=bJ b a;have h1:=bJ b (a+1);have q:Bs (16:Int) 8=2:=F4
 have hF:As=(As-3)+1+1+1:=by have:=Bd;omega
 have z0:(GI.toZ (Bq (8:Int) 0)).toNat=0:=F4
 have z1:(GI.toZ (Bq (8:Int) 1)).toNat=8:=F4
 have z16:(GI.toZ (Ag (32:Int) 16)).toNat=16:=F4
 have s0:Cr (Int32.ofInt (Jy b a:Int)) 0=Int32.ofInt (Jy b a:Int):=by have:=cZ (v:=Jy b a) 0 F0 F0;simpa using this
 have s1:Cr (Int32.ofInt (Jy b (a+1):Int)) 8=Int32.ofInt ((Jy b (a+1)*2^8:Nat):Int):=cZ 8 F0 F0;have o1:=Abi (v:=Jy b a) (w:=Jy b (a+1)) (i:=8) (by simpa using h0) F0 F0;have c:=carry (v:=Jy b a+Jy b (a+1)*2^8) (k:=16) F0 F0 F0;rw[Ds,Abw F2,Aa1 (by rw[Dh];decide),Ho,hF,Ct,Di,q,Abw F4,show Ad (a:Int) 0=((a:Nat):Int) by rw[Ar];omega,TI F0,Aa,Cy F4,Aa,z0,
  CB,show((b.getD a 0).toNat:Int)=(Jy b a:Int)from rfl,s0,pL _ F0,show Ad (0:Int) 1=1 by decide,
  Ct,Di,q,Abw F4,show Ad (a:Int) 1=((a+1:Nat):Int) by rw[Ar];omega,TI F0,Aa,Cy F4,Aa,z1,
  CB,show((b.getD (a+1) 0).toNat:Int)=(Jy b (a+1):Int)from rfl,s1,o1,show Ad (1:Int) 1=2 by decide,
  Ct,Di,q,Aa1 F4,Mx,Rt,Cy F4,Aa,Aa,z16,c,Ca F6,Aa,Fy,Mr,q,Ar]
 have e:((if(Jy b a+Jy b (a+1)*2^8)*2^16<2147483648 then(((Jy b a+Jy b (a+1)*2^8)*2^16:Nat):Int)else(((Jy b a+Jy b (a+1)*2^8)*2^16:Nat):Int)-4294967296).fdiv (2^16))=sx 2 b a:=by
  rw[Agf _ F0,sx2];split<;>split<;>omega
 rw[e];rfl
theorem Aea(bk:Int->LX->Option (LX×Int))(a:Nat)(acc:LX)(h:a+3<=b.length)(hl:b.length<=100000)(ha:acc.length<=100000)(j28:Int->LX->Option (LX×Int))(j30:LX->Option (LX×Int)):
  Ds j28 (Ho bk 24 b) j30 24 b (a:Int) acc=bk ((a+3:Nat):Int) (acc++[Int32.ofInt (sx 3 b a)]):=by
 have h0:=bJ b a;have h1:=bJ b (a+1);have h2:=bJ b (a+2);have q:Bs (24:Int) 8=3:=F4
 have hF:As=(As-4)+1+1+1+1:=by have:=Bd;omega
 have z0:(GI.toZ (Bq (8:Int) 0)).toNat=0:=F4
 have z1:(GI.toZ (Bq (8:Int) 1)).toNat=8:=F4
 have z2:(GI.toZ (Bq (8:Int) 2)).toNat=16:=F4
 have z8:(GI.toZ (Ag (32:Int) 24)).toNat=8:=F4
 have s0:Cr (Int32.ofInt (Jy b a:Int)) 0=Int32.ofInt (Jy b a:Int):=by have:=cZ (v:=Jy b a) 0 F0 F0;simpa using this
 have s1:Cr (Int32.ofInt (Jy b (a+1):Int)) 8=Int32.ofInt ((Jy b (a+1)*2^8:Nat):Int):=cZ 8 F0 F0;have s2:Cr (Int32.ofInt (Jy b (a+2):Int)) 16=Int32.ofInt ((Jy b (a+2)*2^16:Nat):Int):=cZ 16 F0 F0;have o1:=Abi (v:=Jy b a) (w:=Jy b (a+1)) (i:=8) (by simpa using h0) F0 F0;have o2:=Abi (v:=Jy b a+Jy b (a+1)*2^8) (w:=Jy b (a+2)) (i:=16) F0 F0 F0;have c:=carry (v:=Jy b a+Jy b (a+1)*2^8+Jy b (a+2)*2^16) (k:=8) F0 F0 F0;rw[Ds,Abw F2,Aa1 (by rw[Dh];decide),Ho,hF,Ct,Di,q,Abw F4,show Ad (a:Int) 0=((a:Nat):Int) by rw[Ar];omega,TI F0,Aa,Cy F4,Aa,z0,
  CB,show((b.getD a 0).toNat:Int)=(Jy b a:Int)from rfl,s0,pL _ F0,show Ad (0:Int) 1=1 by decide,
  Ct,Di,q,Abw F4,show Ad (a:Int) 1=((a+1:Nat):Int) by rw[Ar];omega,TI F0,Aa,Cy F4,Aa,z1,
  CB,show((b.getD (a+1) 0).toNat:Int)=(Jy b (a+1):Int)from rfl,s1,o1,show Ad (1:Int) 1=2 by decide,
  Ct,Di,q,Abw F4,show Ad (a:Int) 2=((a+2:Nat):Int) by rw[Ar];omega,TI F0,Aa,Cy F4,Aa,z2,
  CB,show((b.getD (a+2) 0).toNat:Int)=(Jy b (a+2):Int)from rfl,s2,o2,show Ad (2:Int) 1=3 by decide,
  Ct,Di,q,Aa1 F4,Mx,Rt,Cy F4,Aa,Aa,z8,c,Ca F6,Aa,Fy,Mr,q,Ar]
 have e:((if(Jy b a+Jy b (a+1)*2^8+Jy b (a+2)*2^16)*2^8<2147483648 then(((Jy b a+Jy b (a+1)*2^8+Jy b (a+2)*2^16)*2^8:Nat):Int)else(((Jy b a+Jy b (a+1)*2^8+Jy b (a+2)*2^16)*2^8:Nat):Int)-4294967296).fdiv (2^8))=sx 3 b a:=by
  rw[Agf _ F0,sx3];split<;>split<;>omega
 rw[e];rfl
theorem ZQ(bits:Int)(n m:Nat)(hn:1<=n)(hm:b.length=m*n)(hl:b.length<=100000)(step:∀(q a:Nat) (acc:LX),a+n<=b.length->acc.length<=100000->Cg bits b (q+1) (a:Int) acc=Cg bits b q ((a+n:Nat):Int) (acc++[Int32.ofInt (sx n b a)])):
  ∀(j x q:Nat),x+j=m->j<q->Cg bits b q ((x*n:Nat):Int) (UO n x b)=some (UO n m b,0)
 |0,x,q+1,hx,_=>by
  obtain rfl:x=m:=F0
  rw[Cg,Ds,Aa1 F2];rfl
 |j+1,x,q+1,hx,hq=>by
  have h1:(x+1)*n<=m*n:=Acb n F0;rw[Ady,Agy]at h1;have h2:m<=m*n:=Ajm m hn;rw[step q (x*n) _ F0 (by rw[gU];omega),<-jv,show x*n+n=(x+1)*n by rw[Ady,Agy]];exact ZQ bits n m hn hm hl step j (x+1) q F0 F0
theorem Afs(h:Eg bits)(hl:b.length<=100000)(q a:Nat)(acc:LX)(ha:a+wB bits<=b.length)(hc:acc.length<=100000):
  Cg bits b (q+1) (a:Int) acc=Cg bits b q ((a+wB bits:Nat):Int) (acc++[Int32.ofInt (sx (wB bits) b a)]):=by
 rw[Cg];obtain rfl|rfl|rfl:=h
 ·exact Af3 b _ a acc ha hl hc _ _
 ·exact Ad7 b _ a acc ha hl hc _ _
 ·exact Aea b _ a acc ha hl hc _ _
theorem pM(h:Eg bits)(hm:b.length=m*wB bits)(h4:m<=4000):Wr bits b=some (UO (wB bits) m b,0):=by
 have hn:=W2 bits;have hl:b.length<=12000:=by rw[hm];exact Aic h4 hn.2
 rw[Wr,Wg,zF h,Aa];simp only;rw[Aa1 Akc,Aej h,Cy Aka,Aa];have hr:Ip (Ac b) (wB bits:Int)=0:=by rw[Ac,XG,hm,Aid];rfl
 have hq:Bs (Ac b) (wB bits:Int)=(m:Int):=by rw[Ac,FF,hm,Nat.mul_div_cancel _ F0]
 rw[Aa1 (by rw[Et,hr];simp),Aa,hq,Aa1 Aj7,EB];have:=ZQ b bits (wB bits) m F0 hm F0 (λq a acc ha hc=>Afs b h F0 q a acc ha hc) m 0 As F0 Aj4;simpa [UO]using this
end Go.Pl
namespace Go.Pl
open Go Go.Lv
end Go.Pl
namespace Go.Pl
open Go Go.Lv
end Go.Pl
namespace Go.Pl
open Go Go.Lv
end Go.Pl
namespace Go.Pl
open Go Go.Lv
end Go.Pl
namespace Go.Pl
open Go Go.Lv
variable{bits:Int}
def Agw(b:LB):LI:=Dn (Al (f3 (vQ b))) (f4 (vQ b))
theorem ko{ch:Nat}(hb:Eg bits)(h1:1<=ch)(h6:ch<=6):Mc (ch:Int) bits=some 0:=by
 have hr:∃x y,Kx bits=some (x,y,0):=⟨_,_,zF hb⟩;obtain⟨x,y,hr⟩:=hr;rw[Mc,hr,Aa];simp only;rw[Aa1 (by simp[Et,Aj,Bu];omega)]
theorem pY(g:Nat):∀K:Nat,(List.replicate K (g:Int)).sum=((K*g:Nat):Int)
 |0=>by simp
 |K+1=>by
  rw[Ah9,Ahh,pY g K,Aio];omega
theorem fA{g n:Nat}(hn:1<=n):(Dn g n).sum=(n:Int):=by
 have h:=Ai6 (n-1) g;rw[Dn,List.sum_append,pY];simp only[Ahh,List.sum_nil];omega
theorem sZ:∀{l:LI},(∀x∈l,0<=x)->0<=l.sum
 |[],_=>by simp
 |x::l,h=>by
  have h1:=h x Agn;have h2:=sZ (l:=l) λy hy=>h y (Aek _ hy);rw[Ahh];omega
theorem Aaz{l:LI}(h:∀x∈l,0<=x)(i:Nat):0<= (l.take i).sum/\ (l.take i).sum<=l.sum:=by
 have h1:=sZ (l:=l.take i) λx hx=>h x (List.mem_of_mem_take hx);have h2:=sZ (l:=l.drop i) λx hx=>h x (Ai3 hx);have:=S1 l i;omega
def L5(c w:Nat)(fr:LI)(k:Nat):Int:=(((fr.take k).sum.toNat*(c*wB (w:Int)):Nat):Int)
section
variable {f c w r n:Nat} (h1:Jq f c w r n=true) (h2:UJ c r n=true)
include h1 h2
theorem A9:(∀x∈Dn (Al r) n,0<=x)/\ (Dn (Al r) n).sum=(n:Int)/\n<=4000:=by
 obtain⟨hc,hw,hr,hn,_⟩:=X7 h1;have hfit:n<=4000/c:=by simp only[UJ,Acs]at h2;exact h2.1
 have hn4:n<=4000:=by have:=Agj 4000 c;omega
 refine⟨λx hx=>?_,fA hn,hn4⟩;obtain⟨m,rfl,_⟩:=yY (Kr r) hn hx;omega
end
theorem zU(C W:Nat)(fr:LI):L5 C W fr 0=0:=by rw[L5,Aja,List.sum_nil];simp
theorem oV(h:Eg bits){l:LX}(hl:l.length<=4000)(hr:mh bits l):Ed bits l=some 0:=by
 have hh:=iS bits;have key:∀(j i q:Nat),i+j=l.length->j<q->Cl l (hB bits) q (i:Int)=some 0:=by
  intro j
  induction j with
  |zero=>
   intro i q hi hq;obtain⟨q,rfl⟩:∃k,q=k+1:=⟨q-1,F0⟩;rw[Cl,Gm,Aa1 F2];rfl
  |succ j ih=>
   intro i q hi hq;obtain⟨q,rfl⟩:∃k,q=k+1:=⟨q-1,F0⟩;have hx:=hr l[i] (Aiq F0);rw[Cl,Gm,Abw F2,Cu,Aa,Aa,pG,Z7,Gh F0 F0,Ar,Aj,Kv,Aa1 F6,Aa1 F6];exact ih (i+1) q F0 F0
 rw[Ed,Mi,Z6 h,Aa,Aa1 Aki,Aa1 Aj8];exact key l.length 0 As F0 Aj4
def Jt(bits:Int)(ch:Nat)(t x:LX):LU:=iw bits ch t (mx ch x) x.length
def vM(bits:Int)(ch:Nat)(t x:LX):LB:=Ht (CW ch (Jt bits ch t x) x.length)
def Vx(bits:Int)(ch:Nat)(t x:LX):LB:=vM bits ch t x++Zi (Mz (vM bits ch t x)).toNat 4
theorem Z2(bits:Int)(ch:Nat)(t x:LX)(h0:1<=x.length)(h4:x.length<=4000):1<= (vM bits ch t x).length/\ (vM bits ch t x).length<=40501:=by
 have h:=FR ch (Jt bits ch t x) x.length;obtain⟨k,hk⟩:∃k,x.length=k+1:=⟨x.length-1,F0⟩;have h1:1<= (CW ch (Jt bits ch t x) x.length).length:=by
  rw[hk,CW,Abr];have hn:=yO ch ((Jt bits ch t x).take k);have:=SQ ((Jt bits ch t x).getD k 0) hn.1 hn.2;omega
 rw[vM,Nw];omega
theorem vI(bits:Int)(ch:Nat)(t x:LX)(h0:1<=x.length)(h4:x.length<=4000):5<= (Vx bits ch t x).length/\ (Vx bits ch t x).length<=40505:=by
 have:=Z2 bits ch t x h0 h4;rw[Vx,Abr,Eo];omega
theorem Akp{p:Prop}(h:p:=by rw[Pd];omega):p:=h
end Go.Pl
namespace Go.Pl
open Go Go.Lv
variable{p:LB}
theorem wO(p:LB)(b0:UInt64)(a0:Int):∀(j m q:Nat),m+j<=300000->j<=64->j<q->
  Jn b0 a0 q (TV p m j) (j:Int) (m:Int) (Ur p 0 m)=some (Ur p 0 (m+j),((m+j:Nat):Int),0)
 |0,m,q+1,_,_,_=>by
  rw[Jn,Zy,Aa1 Akq,JE,ZE];rfl
 |j+1,m,q+1,hm,hj,hq=>by
  have hroom:Jn b0 a0 (q+1) (TV p m (j+1)) ((j+1:Nat):Int) (m:Int) (Ur p 0 m)=Zx (Jn b0 a0 q) b0 a0 (TV p m (j+1)) ((j+1:Nat):Int) (m:Int) (room p 0 m):=by
   rw[Jn,Zy,Abw Akq,I9 m F0,room];by_cases h0:m %8=0
   ·rw[Abw (by rw[Dh,h0];rfl),Ca (by rw[Hc];simp;omega),Aa,Abw h0]
   ·rw[Aa1 Aki,Aa1 h0]
  have hl:Ag (Ac (room p 0 m)) 1=((m/8:Nat):Int):=by
   rw[Ac,Pd,Km];omega
  have e2:Er ((j+1:Nat):Int) (Ag (8:Int) ((m %8:Nat):Int))=((min (j+1) (8-m %8):Nat):Int):=by
   rw[IW,Km];omega
  rw[hroom,Zx,aT,I9 m F0,e2,hl];generalize hT:min (j+1) (8-m %8)=T;have hT1:1<=T:=F0
  have hT8:m %8+T<=8:=F0
  have hg:Af (room p 0 m) ((m/8:Nat):Int)=some (UInt8.ofNat (Cp p (0+8*(m/8)) (m %8))):=by
   rw[Cu Akp,oK]
  have z1:(GI.toZ ((m %8:Nat):Int)).toNat=m %8:=rfl;have z2:(GI.toZ ((T:Nat):Int)).toNat=T:=rfl;have hlt:=yB p (0+8*(m/8)) (m %8+T) F0;have hadd:=QP p (m %8) T (0+8*(m/8));rw[show 0+8*(m/8)+m %8=m by omega]at hadd;have hbyte:(Ae (Dq (TV p m (j+1)) (Ag (Cr (1:UInt64) T) (1:UInt64))):UInt8)=UInt8.ofNat (Cp p m T):=by
   rw[KI,Ag7 _ F0,qb p m (j+1) T F0 hj]
  have hnew:rX (UInt8.ofNat (Cp p (0+8*(m/8)) (m %8))) (Cr (UInt8.ofNat (Cp p m T)) (m %8))=UInt8.ofNat (Cp p (0+8*(m/8)) (m %8+T)):=by
   rw[or8 (Ws _ _ _) (by rw[Ag4];omega) F0,hadd,Ag4 (2^(m %8))]
  rw[hg,z1,z2,hbyte];simp only[Aa];rw[Cy Akh,Aa,Cy Akd,Aa,hnew,EU _ Akp,Aa,xA p 0 m T hT1 hT8,bN,aS,I9 m F0,e2,hT,Cy Akh,Aa,z2,jg p m (j+1) T F0 hj,Km,Ar];have ih:=wO p b0 a0 (j+1-T) (m+T) q F0 F0 F0;rw[show m+T+(j+1-T)=m+(j+1) by omega]at ih;rw[<-ih,show((j+1:Nat):Int)-((T:Nat):Int)=((j+1-T:Nat):Int) by omega,show(m:Int)+((T:Nat):Int)=((m+T:Nat):Int) by omega]
theorem put_eq(p:LB)(m j:Nat)(hm:m+j<=300000)(hj:j<=63):CC (Ur p 0 m) (m:Int) (TV p m j) (j:Int)=some (Ur p 0 (m+j),((m+j:Nat):Int),0):=by
 have hz:Bp (Bo (TV p m j) (GI.toZ (j:Int)).toNat) 0=false:=by
  have:Bo (TV p m j) j=0:=by
   apply UInt64.toNat_inj.1;rw[Uj,RZ p m j F0,Ah6 (Ws p j m)];rfl
  rw[show(GI.toZ (j:Int)).toNat=j from rfl,this];rfl
 have hl:=Hc p 0 m;have U3:GM (Ur p 0 m) (m:Int)=some (Ur p 0 m,(m:Int)):=by
  rw[GM,Ax,Ca F6,Aa,Aa];rfl
 rw[CC,PH,cT (qL p 0 m F0),Aa,Aa1 F4,Aa1 Aj9,Abw Aj5,Cy Akh,Aa,hz,Aa1 F4,Ar,Aa1 Aj7,U3,Aa];exact wO p _ _ j m As hm F0 Aj4
theorem At.cat{a:Nat}{c d:List Bool}(h:At p a (c++d)):At p a c/\At p (a+c.length) d:=⟨h.left,h.right⟩
theorem wY(p:LB):∀(q a:Nat),At p a (List.replicate q true)->Cp p a q+1=2^q
 |0,a,_=>by rw[Cp]
 |q+1,a,h=>by
  rw[Ah9]at h;obtain⟨h0,h1⟩:=h.cons;have:=wY p q (a+1) h1;rw[Cp,h0,Aih,Abw rfl];omega
theorem bX{x:UInt64}{m n:Nat}(hn:n<=63)(h:x.toNat=Cp p m n):x=TV p m n:=by
 apply UInt64.toNat_inj.1;rw[h,RZ p m n F0]
theorem DO{n:Nat}(h:n<2^64):(UInt64.ofNat n).toNat=n:=by rw[Af1];exact Ace h
theorem nS{m q:Nat}(hq:q<=48)(hm:m+48<=300000)(h:At p m (List.replicate q true++(if q=48 then []else [false]))):
  DW (Ur p 0 m) (m:Int) (q:Int)=some (Ur p 0 (m+min (q+1) 48),((m+min (q+1) 48:Nat):Int),0):=by
 have h1:=h.left;have hv:=wY p q m h1;have Ajl:2^q<=2^48:=Aey F0 hq;have hval:Cp p m (min (q+1) 48)+1=2^q:=by
  by_cases h48:q=48
  ·subst h48;exact hv
  ·rw[Aa1 h48]at h;have h2:=h.right;rw[Age]at h2;have h0:=h2.cons.1;rw[show min (q+1) 48=q+1 by omega,cM,h0];simpa using hv
 have hx:(Ag (Cr (1:UInt64) q) (1:UInt64)).toNat=Cp p m (min (q+1) 48):=by
  have e1:(Cr (1:UInt64) q).toNat=2^q:=by rw[IF];show 1*2^q %_=_;rw[Agy];exact Ace F0
  have hpos:0<2^q:=Ajw F0;rw[xH,UInt64.toNat_sub_of_le _ _ (by rw[UInt64.le_iff_toNat_le,e1];exact hpos),e1]
  show 2^q-1=_;omega
 rw[DW,cT (qL p 0 m F0),Aa,Aa1 F4,KO,Aa1 Aj9,Aa];simp only;have e2:Er (Ad (q:Int) 1) 48=((min (q+1) 48:Nat):Int):=by rw[IW,Ar];omega
 rw[Aa1 F4,Cy Akh,Aa,e2,show(GI.toZ (q:Int)).toNat=q from rfl,bX F0 hx,put_eq p m _ F0 F0,Aa]
theorem Y8{m l:Nat}{v:UInt32}(hl:l<=24)(hm:m+81<=300000)(h:At p m (ZT l v.toNat)):
  JT (Ur p 0 m) (m:Int) v (l:Int)=some (Ur p 0 (m+(ZT l v.toNat).length),((m+(ZT l v.toNat).length:Nat):Int),0):=by
 have hvl:=v.toNat_lt;have hz:(GI.toZ (l:Int)).toNat=l:=rfl;have hlp:2^l<=2^24:=Aey F0 hl;have hpos:0<2^l:=Ajw F0;have Ahw:Uk v (l:Int)=some (decide (48<=v.toNat/2^l)):=by
  rw[Uk,Cy Akh,Aa,hz,zw,OX];rfl
 rw[JT,VY,cT (qL p 0 m F0),Aa,Aa1 F4,Aa1 Aj9,Cy Akh,Aa,Aa,Ahw,Aa];rw[ZT]at h⊢;by_cases h48:48<=v.toNat/2^l
 ·rw[Abw h48]at h⊢;obtain⟨h1,h2⟩:=h.cat;rw[Age]at h2;have hval:=SU p 32 (m+48) v.toNat h2;rw[Ace F0]at hval;have hu:=nS (p:=p) (m:=m) (q:=48) (Afl _) F0 (by rw[Abw rfl,Afk];exact h1);rw[Abw (by simpa using h48),EY,FI,show(48:Int)=((48:Nat):Int)from rfl,hu,Aa];simp only;rw[Aa1 F4,Ie,bX (x:=UInt64.ofNat v.toNat) (p:=p) (m:=m+48) (n:=32) F0 (by rw[DO F0,hval]),show(32:Int)=((32:Nat):Int)from rfl,show m+min (48+1) 48=m+48 by omega,put_eq p (m+48) 32 F0 F0,Aa,Abr,Age,Qx,Af2]
 ·rw[Aa1 h48]at h⊢;generalize hq:v.toNat/2^l=q at*
  obtain⟨h1,h2⟩:=h.cat;rw[Age]at h2;obtain⟨h3,h4⟩:=h2.cons;have hval:=SU p l (m+q+1) (v.toNat %2^l) h4;rw[Nat.mod_mod]at hval;have hqa:At p m (List.replicate q true++[false]):=by
   have:List.replicate q true++(false::OR (v.toNat %2^l) l)=(List.replicate q true++[false])++OR (v.toNat %2^l) l:=by simp
   rw[this]at h;exact h.left
  have hu:=nS (p:=p) (m:=m) (q:=q) F0 F0 (by rw[Aa1 F0];exact hqa);have hgq:(Ae (Bo v l):Int)=(q:Int):=by rw[yN,OX,hq]
  have hrest:(Ae (Dq v (Ag (Cr (1:UInt32) l) 1)):UInt64)=TV p (m+q+1) l:=by
   apply bX F0;have e1:(Cr (1:UInt32) l).toNat=2^l:=by rw[iC];show 1*2^l %_=_;rw[Agy];exact Ace F0
   have e2:(Ag (Cr (1:UInt32) l) (1:UInt32)).toNat=2^l-1:=by
    rw[jC,UInt32.toNat_sub_of_le _ _ (by rw[UInt32.le_iff_toNat_le,e1];exact hpos),e1];rfl
   have e3:(Dq v (Ag (Cr (1:UInt32) l) 1)).toNat=v.toNat %2^l:=by
    rw[uX,UInt32.toNat_and,e2,Aiv]
   rw[Ie,DO (by rw[e3];have:=Ai5 v.toNat hpos;omega),e3,hval]
  rw[Aa1 (by simpa using h48),EY,FI,hz,hgq,hu,Aa];simp only;rw[Aa1 F4,hrest,show m+min (q+1) 48=m+q+1 by omega,put_eq p (m+q+1) l F0 F0,Aa,Abr,Age,Ae2,Qx,show m+q+1+l=m+(q+(l+1)) by omega]
theorem qj{k l:Nat}{s t:UInt64}(h:okD k l s t)(v:UInt32):JN [] 0 (k:Int) (l:Int) s t v=
  some (Ht (Ua k l v),((Ua k l v).length:Int),((kS k (SI s (G0 v)):Nat):Int),((lK l t k v:Nat):Int),SI s (G0 v),lT t k v,0):=by
 obtain⟨h1,h2,h3,h4⟩:=h;have hvl:=v.toNat_lt;have hAt:At (Ht (Ua k l v)) 0 (Ua k l v):=λi hi=>by rw[Aif,AJ]
 have hlen:=SQ v h1 h2;have hfull:Ur (Ht (Ua k l v)) 0 (Ua k l v).length=Ht (Ua k l v):=by
  apply uA (by rw[Hc,Nw]);intro i hi;rw[iJ,Aif,AJ];by_cases hlt:i<(Ua k l v).length
  ·rw[Abw hlt]
  ·rw[Aa1 hlt,A6 F0]
 generalize hP:Ht (Ua k l v)=P at*
 have h0:Ur P 0 0=[]:=rfl;have Ago:∀(x:Int) (y:UInt64) (aj ai:Int),Pc v (k:Int) s ai P x y=some (P,ai,((kS k (SI s (G0 v)):Nat):Int),x,SI s (G0 v),y,0):=by
  intro x y aj ai;rw[Pc,EN,Ie,iE,Acm k h1];rw[WQ,EV,CN,Up,Ie,iE];rfl
 have hp7:∀ai:Int,EX v (k:Int) (l:Int) s t 0 ai P=some (P,ai,((kS k (SI s (G0 v)):Nat):Int),((lK l t k v:Nat):Int),SI s (G0 v),lT t k v,0):=by
  intro ai;rw[EX,EM,Aa1 F4,uU k l s t h1,Aa];by_cases hv:v.toNat<2^k
  ·rw[Abw hv];simp only;rw[Aa1 (by rw[Dh];simp),Ago _ _ 0,lK,Abw hv,lT,Abw hv]
  ·rw[Aa1 hv];simp only;rw[Abw (by rw[Dh];rfl),Ie,iE,Acm l h2 _ (λx=>Pc v (k:Int) s ai P x (SI t (UInt64.ofNat (aM k v).toNat))),Ago _ _ 0,lK,Aa1 hv,lT,Aa1 hv];rfl
 rw[JN,FJ,show Gz [] 0=some 0 from rfl,Aa,Aa1 F4,Ac0 ⟨h1,h2,h3,h4⟩,Aa,Aa1 F4,WA,FD,uU k l s t h1,Aa];have hput:=put_eq P 0 1 F0 F0;rw[h0,Aif,show((0:Nat):Int)=0 from rfl,show((1:Nat):Int)=1 from rfl]at hput;by_cases hv:v.toNat<2^k
 ·have hc:Ua k l v=false::OR v.toNat k:=by rw[Ua,Abw hv]
  rw[hc]at hAt hfull;obtain⟨b0,b1⟩:=hAt.cons;have hval:=SU P k 1 v.toNat b1;rw[Ace hv]at hval;have hz:(Ae (0:Int):UInt64)=TV P 0 1:=bX F0 (by rw[kH,b0];rfl);rw[Abw hv];simp only;rw[hz,hput,Aa];simp only;rw[Abw F4,Ie,bX (x:=UInt64.ofNat v.toNat) (p:=P) (m:=1) (n:=k) F0 (by rw[DO F0,hval]),show(1:Int)=((1:Nat):Int)from rfl,put_eq P 1 k F0 F0,Aa];simp only;rw[Ae2,Qx,Ajf k 1]at hfull;rw[hfull,hp7,hc,Ae2,Qx,Ajf k 1]
 ·have hc:Ua k l v=true::ZT l (v.toNat-2^k):=by rw[Ua,Aa1 hv]
  rw[hc]at hAt hfull;obtain⟨b0,b1⟩:=hAt.cons;have hsub:=Nat.sub_le v.toNat (2^k);have hlv:(aM k v).toNat=v.toNat-2^k:=by rw[aM,G5 F0]
  have hz:(Ae (1:Int):UInt64)=TV P 0 1:=bX F0 (by rw[kH,b0];rfl);have hr:=Y8 (p:=P) (m:=1) (l:=l) (v:=aM k v) h2 F0 (by rw[hlv];exact b1);rw[hlv,show((1:Nat):Int)=1 from rfl]at hr;rw[Aa1 hv];simp only;rw[hz,hput,Aa];simp only;rw[Aa1 F4,Abw F4,hr,Aa];simp only;rw[Ae2,Ajf _ 1]at hfull;rw[hfull,hp7,hc,Ae2,Ajf _ 1]
section
variable (ch:Nat) (x:LX)
theorem DK{at' i:Nat}(ha:at' %ch=0)(hi:i<ch)(h:at'+i<x.length):(mx ch x).getD (at'+i) 0=mxV (λi=>x.getD (at'+i) 0) ch i:=by
 have hb:(at'+i) %ch=i:=by rw[Nat.add_mod,ha,Aif,Nat.mod_mod,Ace hi]
 rw[Ade h,hb,show at'+i-i=at' by omega]
theorem wU(bk:Int->LX->Option (LX×Int))(at':Nat)(h1:1<=ch)(h6:ch<=6)(hm:at' %ch=0)(hl:at'+ch<=x.length)(hl2:x.length<=4000):∀(j i q:Nat),i+j=ch-1->j<q->
  Rl bk (ch:Int) (at':Int) q (i:Int) (mJ (λk=>decide (k<at'+i)) (mx ch x) x)=bk ((at'+ch:Nat):Int) (mJ (λk=>decide (k<at'+ch)) (mx ch x) x)
 |j,i,0,_,h=>absurd h (Ag2 _)
 |0,i,q+1,hi,_=>by
  have hlen:=PL ch x;have e1:Ag (Ad (at':Int) (ch:Int)-(at':Int)) 1=((ch-1:Nat):Int):=by rw[Ar,Km];omega
  have e2:Ad (at':Int) (ch:Int)-(at':Int)=(ch:Int):=by rw[Ar];omega
  have e4:Ad (at':Int) (ch:Int)=((at'+ch:Nat):Int):=by rw[Ar];omega
  rw[Rl,CZ,e1,Aa1 Aj5,OP,fP,e1,e2];obtain rfl:i=ch-1:=F0
  by_cases h2:1<ch
  ·have e3:Ag ((ch-1:Nat):Int) 1=((ch-2:Nat):Int):=by rw[Km];omega
   have hv:Ag (x.getD (at'+(ch-1)) 0) (Bs ((mx ch x).getD (at'+(ch-2)) 0) 2)=(mx ch x).getD (at'+(ch-1)) 0:=by
    rw[DK ch x hm F0 F0,DK ch x hm F0 F0,mxV,mxV,Abw F0,Aa1 F0,Abw h2,QD,show ch-2+1=ch-1 by omega]
   rw[Abw Aj7,uW F0,Aa,e3,uW F0,Aa,
    show(at':Int)+((ch-1:Nat):Int)=((at'+(ch-1):Nat):Int) by omega,show(at':Int)+((ch-2:Nat):Int)=((at'+(ch-2):Nat):Int) by omega,
    bI F0,Aa,bI F0,Aa,Aa,Aa1 Aj6,Abw F6,hv,sS F0,Aa,RJ,PC,e4]
   congr 1;apply cI;intro k _;rw[Agz];simp;omega
  ·obtain rfl:ch=1:=F0
   have hlast:x.getD at' 0=(mx 1 x).getD at' 0:=by
    have:=DK 1 x (i:=0) hm F0 F0;rw[Aiu]at this;rw[this,mxV,Aa1 F0,Aa1 F0];rfl
   rw[Aa1 Akq,RJ,PC,e4];congr 1;apply Air (by rw[DT,DT]);intro k g1 g2;rw[Ng,Ng];by_cases hk:k<at'
   ·rw[Abw F6,Abw F6]
   ·by_cases hk2:k=at'
    ·subst hk2;rw[Aa1 Aj6,Abw Aj6];exact hlast
    ·rw[Aa1 F6,Aa1 F6]
 |j+1,i,q+1,hi,hq=>by
  have hlen:=PL ch x;have e1:Ag (Ad (at':Int) (ch:Int)-(at':Int)) 1=((ch-1:Nat):Int):=by rw[Ar,Km];omega
  have e2:Ad (at':Int) (ch:Int)-(at':Int)=(ch:Int):=by rw[Ar];omega
  have e3:Ad (i:Int) 1=((i+1:Nat):Int):=by rw[Ar];omega
  have hv:Ag (x.getD (at'+(i+1)) 0) (x.getD (at'+i) 0)=(mx ch x).getD (at'+i) 0:=by
   rw[DK ch x hm F0 F0,mxV,Abw F0,QD]
  rw[Rl,CZ,e1,Abw Aj5,e2,e3,uW F0,Aa,uW F0,Aa,
   show(at':Int)+((i+1:Nat):Int)=((at'+(i+1):Nat):Int) by omega,show(at':Int)+(i:Int)=((at'+i:Nat):Int) by omega,
   bI F0,Aa,bI F0,Aa,Aa,Aa1 Aj6,Aa1 Aj6,hv,sS F0,Aa]
  have ih:=wU bk at' h1 h6 hm hl hl2 j (i+1) q F0 F0;rw[<-ih];congr 1;apply cI;intro k _;rw[Agz];simp;omega
theorem eJ(h1:1<=ch)(h6:ch<=6)(hm:x.length %ch=0)(hl2:x.length<=4000):∀(j at' q:Nat),at' %ch=0->at'<=x.length->x.length-at'<=j->j<q->
  Rr (ch:Int) q (at':Int) (mJ (λk=>decide (k<at')) (mx ch x) x)=some (mx ch x,0)
 |j,at',0,_,_,_,h=>absurd h (Ag2 _)
 |j,at',q+1,ha,hle,hj,hq=>by
  have hlen:=PL ch x;have hl:Ac (mJ (λk=>decide (k<at')) (mx ch x) x)=(x.length:Int):=by rw[Ac,DT,hlen]
  rw[Rr,OY,hl];by_cases h:at'<x.length
  ·have hb:=lq ha hm h;obtain⟨j,rfl⟩:∃k,j=k+1:=⟨j-1,F0⟩;have e4:Ad (at':Int) (ch:Int)=((at'+ch:Nat):Int):=by rw[Ar];omega
   have hi:=wU ch x (Rr (ch:Int) q) at' h1 h6 ha hb hl2 (ch-1) 0 As F0 Aj4;have hrest:=eJ h1 h6 hm hl2 j (at'+ch) q (by rw[Nat.add_mod_right,ha]) hb F0 F0;rw[Aiu]at hi;rw[Abw Aj5,show ZD (x.length:Int) (at':Int) (Ad (at':Int) (ch:Int))=some () by rw[e4,ZD,uW];omega,Aa];exact Eq.trans hi hrest
  ·rw[Aa1 Aj5,J9 (λk hk=>by simp;omega)];rfl
theorem S4(h1:1<=ch)(h6:ch<=6)(hm:x.length %ch=0)(hl2:x.length<=4000):hJ (ch:Int) x=some (mx ch x,0):=by
 have hlen:=PL ch x;have h:=eJ ch x h1 h6 hm hl2 x.length 0 As Aj6 F0 F0 Aj4;rw[hJ,XT,Y7 ch x h1 h6 hm hl2,Aa,Aa1 Akc,By,Ca F6,Aa,Aa,Ahz,eM];rw[uB hlen.symm (λk _=>by simp)]at h;exact h
end
theorem iy(a:Int32):SW a=some (bE a):=by
 have h:=B5 a;have hc:(Ae a:UInt32)=UInt32.ofNat (a.toInt %4294967296).toNat:=rfl;have hs:(Bo a (GI.toZ (31:UInt64)).toNat)=if 0<=a.toInt then(0:Int32)else -1:=by
  have e:Bo a 31=Int32.ofInt (a.toInt.fdiv (2^31)):=rfl;rw[show(GI.toZ (31:UInt64)).toNat=31 from rfl,e];by_cases h0:0<=a.toInt
  ·rw[Abw h0,show a.toInt.fdiv (2^31)=0 by rw[Agf _ F4];omega];rfl
  ·rw[Aa1 h0,show a.toInt.fdiv (2^31)= -1 by rw[Agf _ F4];omega];rfl
 rw[SW,hs,hc,bE];congr 1;have hsh:(Cr (UInt32.ofNat (a.toInt %4294967296).toNat) (GI.toZ (1:UInt64)).toNat).toNat=2*(a.toInt %4294967296).toNat %4294967296:=by
  rw[show(GI.toZ (1:UInt64)).toNat=1 from rfl,iC,Aew,Ace (show(a.toInt %4294967296).toNat<2^32 by omega)];omega
 by_cases h0:0<=a.toInt
 ·rw[Abw h0,Abw h0,show(Ae (0:Int32):UInt32)=0 from rfl];apply UInt32.toNat_inj.1;rw[show∀z:UInt32,Pn z (0:UInt32)=z^^^0 from λz=>by rw[FP],Ajn,hsh,Aew,Ace (show 2*a.toInt.toNat<2^32 by omega)]
  show _^^^0=_;rw[Nat.xor_zero];omega
 ·rw[Aa1 h0,Aa1 h0,show(Ae (-1:Int32):UInt32)=4294967295 from rfl];apply UInt32.toNat_inj.1;rw[show∀z:UInt32,Pn z (4294967295:UInt32)=z^^^4294967295 from λz=>by rw[FP],Ajn,hsh,Aew,Ace (show 2*(-a.toInt-1).toNat+1<2^32 by omega)]
  show _^^^4294967295=_;have key:∀n:Nat,n<4294967296->n^^^4294967295=4294967295-n:=by
   intro n hn;have:=BitVec.toNat_not (x:=BitVec.ofNat 32 n);rw[<-BitVec.xor_allOnes,BitVec.toNat_xor,BitVec.toNat_ofNat,Ace F0]at this;simpa using this
  rw[key _ F0];omega
theorem X6{bits:Int}(h:Eg bits){t p:LX}(hF:OkF (sB bits) t p)(last x:Int32):
  Ly bits last (sB bits) t p x=some (mQ bits (last,t,p) x,bits,x,sB bits,yS t p (mQ bits (last,t,p) x),(x-gs (shB bits) last)::p.take 15,0):=by
 rw[Ly,D0 h,Aa,Aa1 Akc,Adt h,Aa];simp only;rw[QD,EH,jy hF,Aa];simp only;rw[Aa1 Akc,QD,IZ,jq hF,Aa];simp only;rw[yg (s:=sB bits) (t:=yS t p _) (p:=p) ⟨hF.1,KM _ _ _,hF.2.2⟩,Aa,Aa];rfl
theorem Akl{p:Prop}(h:p:=by rw[Aj,Ac,Ac];simp;omega):p:=h
end Go.Pl
namespace Go.Pl
open Go Go.Lv
theorem jG(bits:Int)(ch:Nat)(t x:LX):(Jt bits ch t x).length=x.length:=sV _ _ _ _ _
theorem Y9{bits:Int}{ch:Nat}{t x:LX}{i:Nat}(h:i<x.length):(Jt bits ch t x).getD i 0=bE (mQ bits (cst bits ch t (Jt bits ch t x) (i %ch) i) ((mx ch x).getD i 0)):=by
 obtain⟨w,hw⟩:=L6 bits ch t (mx ch x) (x.length-(i+1)) (i+1);rw[show i+1+(x.length-(i+1))=x.length by omega,iw,Agt]at hw;have hli:=sV bits ch t (mx ch x) i;have hw':Jt bits ch t x=_:=hw;have hg:(Jt bits ch t x).getD i 0=bE (mQ bits (cst bits ch t (iw bits ch t (mx ch x) i) (i %ch) i) ((mx ch x).getD i 0)):=by
  rw[hw',List.getD_eq_getElem?_getD,List.getElem?_append_right F0,hli,Nat.sub_self];rfl
 have hc:cst bits ch t (Jt bits ch t x) (i %ch) i=cst bits ch t (iw bits ch t (mx ch x) i) (i %ch) i:=by rw[hw',Aa0 _ _ _ _ _ _ _ F0]
 rw[hg,hc]
section
variable {bits:Int} {ch:Nat} {t x:LX} (hb:Eg bits) (ht:t.length=16) (h1:1<=ch) (h6:ch<=6) (hx1:1<=x.length) (hx4:x.length<=4000) (hm:x.length %ch=0)
include hb ht h1 h6 hx1 hx4 hm
omit ht in
theorem Ac8(hr:mh bits x):Wq (ch:Int) bits x=some 0:=by
 rw[Wq,ko hb h1 h6,Aa,Aa1 F4,lH hb x hx4,oV hb hx4 hr,Aa,Aa1 F4,Aa1 (by rw[Dh,Ac,Aiz];omega),Cy Aka,Aa,Ac,XG,hm,Aa1 F4]
omit hm in
theorem oE:∀(j i q:Nat),i+j=x.length->j<q->
  Gy (mx ch x) (ch:Int) bits q (i:Int) (tq bits ch t (Jt bits ch t x) i) ((Jt bits ch t x).take i)=some (Jt bits ch t x,0)
 |j,i,0,_,h=>absurd h (Ag2 _)
 |0,i,q+1,hi,_=>by
  have hl:=PL ch x;have hV:=jG bits ch t x;rw[Gy,Lm,Aa1 F2,Af8 F0];rfl
 |j+1,i,q+1,hi,hq=>by
  have hl:=PL ch x;have hV:=jG bits ch t x;have hc:i %ch<6:=Ae3 (Ai5 _ F0) h6;have hok:=qy bits ch ht (Jt bits ch t x) (i %ch) i;have hs:=Aa6 (bits:=bits) (ch:=ch) (t:=t) (v:=Jt bits ch t x) (i:=i) hc rfl;have hg:=Y9 (bits:=bits) (ch:=ch) (t:=t) (x:=x) (i:=i) F0;have ih:=oE j (i+1) q F0 F0;have htk:(Jt bits ch t x).take i++[(Jt bits ch t x).getD i 0]=(Jt bits ch t x).take (i+1):=by
   have:(Jt bits ch t x).getD i 0=(Jt bits ch t x)[i]' F0:=by rw[List.getD_eq_getElem?_getD,List.getElem?_eq_getElem F0];rfl
   rw[this,Wa F0]
  have hfw:=X6 hb hok (cst bits ch t (Jt bits ch t x) (i %ch) i).1 ((mx ch x).getD i 0);rw[Gy,Lm,Abw F2,g32 F0,Aa,Aa,Cy Aka,Aa,XG,Abk hc,Aa,Aa];refine Eq.trans (congrArg (λo=>Option.bind o _) hfw) ?_;rw[Aa];simp only;rw[Aa1 F4];have hst:((bits,(mx ch x).getD i 0,(sB bits,yS (cst bits ch t (Jt bits ch t x) (i %ch) i).2.1 (cst bits ch t (Jt bits ch t x) (i %ch) i).2.2 (mQ bits (cst bits ch t (Jt bits ch t x) (i %ch) i) ((mx ch x).getD i 0)),((mx ch x).getD i 0-gs (shB bits) (cst bits ch t (Jt bits ch t x) (i %ch) i).1)::(cst bits ch t (Jt bits ch t x) (i %ch) i).2.2.take 15,()),()):CL)=toC bits (vP bits (cst bits ch t (Jt bits ch t x) (i %ch) i) (nP ((Jt bits ch t x).getD i 0))):=by
   rw[hg,Adw,toC,vP,O1];simp only;rw[mQ,RC]
  refine Eq.trans (congrArg (λo=>Option.bind o _) ((congrArg (λz=>Iy (tq bits ch t (Jt bits ch t x) i) ((i %ch:Nat):Int) z) hst).trans hs)) ?_;rw[Aa,iy,Aa];have hg2:bE (mQ bits ((cst bits ch t (Jt bits ch t x) (i %ch) i).1,(cst bits ch t (Jt bits ch t x) (i %ch) i).2.1,(cst bits ch t (Jt bits ch t x) (i %ch) i).2.2) ((mx ch x).getD i 0))=(Jt bits ch t x).getD i 0:=hg.symm;rw[hg2,Ca (by rw[Acw];simp;omega),Aa,htk,Ar];exact ih
theorem B4(hr:mh bits x):Sp (ch:Int) bits t x=some (Jt bits ch t x,0):=by
 have hl:=PL ch x;have h:=oE hb ht h1 h6 hx1 hx4 x.length 0 As F0 Aj4;have e:As=(As-7)+1+1+1+1+1+1+1:=by have:=Bd;omega
 have hs:Uq (ch:Int) bits t (mx ch x) 0 (List.replicate 6 ((0:Int),(0:Int32),((0:Int),(List.replicate 16 (0:Int32)),(List.replicate 16 (0:Int32)),()),()))=CY (ch:Int) bits (mx ch x) (tq bits ch t (Jt bits ch t x) 0):=by
  rw[Uq,e];obtain rfl|rfl|rfl:=hb<;>rfl
 rw[Sp,Sr,Ac8 hb h1 h6 hx1 hx4 hm hr,Aa,Aa1 F4,S4 ch x h1 h6 hm hx4,Aa];simp only;rw[Aa1 F4];refine Eq.trans hs ?_;exact h
end
theorem A8(ch:Nat):Tl=some (jl ch []):=by
 have e:As=(As-7)+1+1+1+1+1+1+1:=by have:=Bd;omega
 rw[Tl,Sk,DV,e];rfl
theorem vF(c:List Bool){n:Nat}(h:n<=c.length):Ur (Ht c) 0 n=Ht (c.take n):=by
 have hl:(c.take n).length=n:=by rw[Acw];omega
 apply uA (by rw[Hc,Nw,hl]);intro i hi;rw[iJ,Aif,AJ,AJ];by_cases hlt:i<n
 ·rw[Abw hlt,tb,tb,List.getD_eq_getElem?_getD,List.getD_eq_getElem?_getD,List.getElem?_take,Abw hlt]
 ·rw[Aa1 hlt,A6 F0]
theorem Aef(a:UInt8){k:Nat}(hk:k<8):Dq (Bo a k) (1:UInt8)=UInt8.ofNat (a.toNat/2^k %2):=by
 apply UInt8.toNat_inj.1;rw[yh,UInt8.toNat_and,L3,Afb]
 show _&&&1=_;rw[Nat.and_one_is_mod];generalize a.toNat/2^k=X;omega
theorem yG(E code:List Bool)(hE:E.length+code.length<=330000)(bk:Int->List (Int×Int×UInt64×UInt64×Unit)->Int->LB->Ay)(V:LU)(b f g:Int)(k:List (Int×Int×UInt64×UInt64×Unit)):∀(j o q:Nat),o+j=code.length->j<q->
  Ea bk V b f (code.length:Int) g k (Ht code) q (o:Int) ((E.length+o:Nat):Int) (Ur (Ht (E++code)) 0 (E.length+o))=bk (Ad g 1) k ((E.length+code.length:Nat):Int) (Ht (E++code))
 |j,o,0,_,h=>absurd h (Ag2 _)
 |0,o,q+1,ho,_=>by
  obtain rfl:o=code.length:=F0
  rw[Ea,Ln,Aa1 Akj,Qp,BH,vF _ Akk,Af8 Akk]
 |j+1,o,q+1,ho,hq=>by
  generalize hP:Ht (E++code)=P;have hPo:Mu P (E.length+o)=Mu (Ht code) o:=by rw[<-hP,AJ,AJ,G1]
  have ih:=yG E code hE bk V b f g k j (o+1) q F0 F0;rw[hP,<-Af2]at ih;generalize hn:E.length+o=n at*
  have hq8:Bs (n:Int) 8=((n/8:Nat):Int):=by rw[show(8:Int)=((8:Nat):Int)from rfl,FF]
  have hr8:Ip (n:Int) 8=((n %8:Nat):Int):=by rw[show(8:Int)=((8:Nat):Int)from rfl,XG]
  have hqo:Bs (o:Int) 8=((o/8:Nat):Int):=by rw[show(8:Int)=((8:Nat):Int)from rfl,FF]
  have hro:Ip (o:Int) 8=((o %8:Nat):Int):=by rw[show(8:Int)=((8:Nat):Int)from rfl,XG]
  have hroom:Ea bk V b f (code.length:Int) g k (Ht code) (q+1) (o:Int) (n:Int) (Ur P 0 n)=Le (Ea bk V b f (code.length:Int) g k (Ht code) q) (code.length:Int) V g b f k (Ht code) (o:Int) (n:Int) (room P 0 n):=by
   rw[Ea,Ln,Abw Aj5,hr8,room];by_cases h0:n %8=0
   ·rw[Abw (by rw[Dh,h0];rfl),Ca (by rw[Hc];simp;omega),Aa,Abw h0]
   ·rw[Aa1 Aki,Aa1 h0]
  have hcl:=Nw code;have hgm:Af (Ht code) ((o/8:Nat):Int)=some ((Ht code).getD (o/8) 0):=by
   rw[Cu,List.getD_eq_getElem?_getD,List.getElem?_eq_getElem F0];rfl
  have hg:Af (room P 0 n) ((n/8:Nat):Int)=some (UInt8.ofNat (Cp P (0+8*(n/8)) (n %8))):=by
   rw[Cu Akp,oK]
  have hbit:Dq (Bo ((Ht code).getD (o/8) 0) (o %8)) (1:UInt8)=UInt8.ofNat (Mu P n):=by
   rw[Aef _ F0,hPo,Mu]
  have hlt:=yB P (0+8*(n/8)) (n %8+1) F0;have hsn:=cM P (0+8*(n/8)) (n %8);rw[show 0+8*(n/8)+n %8=n by omega]at hsn;have hnew:rX (UInt8.ofNat (Cp P (0+8*(n/8)) (n %8))) (Cr (UInt8.ofNat (Mu P n)) (n %8))=UInt8.ofNat (Cp P (0+8*(n/8)) (n %8+1)):=by
   rw[or8 (Ws _ _ _) (by rw[Ag4];omega) F0,hsn,Ag4 (2^(n %8))]
  rw[hroom,Le,AV,hqo,hro,hq8,hr8,hgm,Aa,Aa,Cy Akd,Aa,hg,Aa,Cy Akd,Aa,Aa,Aa,
   show(GI.toZ ((o %8:Nat):Int)).toNat=o %8 from rfl,show(GI.toZ ((n %8:Nat):Int)).toNat=n %8 from rfl,hbit,hnew,EU _ Akp,Aa,xA P 0 n 1 F0 F0,BO,CO,Ar,Ar]
  exact ih
theorem Ag3(l m:LB)(h:l.length+m.length<=1000000):Cq [l,m]=some (l++m):=by
 have hF:As=(As-3)+1+1+1:=by have:=Bd;omega
 rw[Cq,Ix,Nf];have g0:Af [l,m] (0:Int)=some l:=rfl;have g1:Af [l,m] (1:Int)=some m:=rfl;have l2:Ac [l,m]=2:=rfl;have h3:Dp [l,m] []=some (l++m):=by
  rw[Dp,Fq,Fp,hF,Bg,Bx,l2,Abw F4,g0,Aa,Ca F6,Aa,Ahz,show Ad (0:Int) 1=1 by decide,
   Bg,Bx,l2,Abw F4,g1,Aa,Ca,Aa,show Ad (1:Int) 1=2 by decide,Bg,Bx,l2,Aa1 F4]
  rfl
 rw[hF,Bk,Cc,l2,Abw F4,g0,Aa,Ar Akf Akf,Aa1 (by rw[Aj,Ac];simp),show Ad (0:Int) 1=1 by decide,
  Bk,Cc,l2,Abw F4,g1,Aa,Ar Akf Akf,Aa1 Akl,show Ad (1:Int) 1=2 by decide,
  Bk,Cc,l2,Aa1 F4,Dr,Fs,Aa1 Akl,Hz,Fv]
 have z:Ag (0:Int) 0=0:=F4
 have n0:(0:Int)+Ac l+Ac m=((l.length+m.length:Nat):Int):=by simp[Ac]
 rw[z,n0,Km,Int.sub_zero];by_cases hp:0<l.length+m.length
 ·rw[Abw Aj7,show ZD (0:Int) 0 0=some ()from rfl,Aa,wQ,Aa,Ca F6,Aa];rw[show ZD (Ac ([]++List.replicate ((l.length+m.length:Nat):Int).toNat (0:UInt8))) 0 0=some () by rw[ZD,Cy];simp[Ac];omega,Aa];simp only[NR,Int.sub_self,Int.toNat_zero,Aja];exact h3
 ·rw[Aa1 Aj7];exact h3
theorem xQ(bits:Int)(ch:Nat)(h1:1<=ch)(h6:ch<=6)(V:LU)(hV:V.length<=4000):∀(j i q:Nat),i+j=V.length->j<q->
  Fg V (ch:Int) bits q (i:Int) (jl ch (V.take i)) ((CW ch V i).length:Int) (Ht (CW ch V i))=some (Ht (CW ch V V.length)++Zi (Mz (Ht (CW ch V V.length))).toNat 4,0)
 |j,i,0,_,h=>absurd h (Ag2 _)
 |0,i,q+1,hi,_=>by
  obtain rfl:i=V.length:=F0
  have hel:=FR ch V V.length;have hpl:=Nw (CW ch V V.length);have hlt:=(Mz (Ht (CW ch V V.length))).toNat_lt;rw[Fg,Lh,Aa1 (by rw[Aj,Ac];simp),Qh,CD,zO _ F0,Aa];simp only;have e64:(UInt64.ofNat (Mz (Ht (CW ch V V.length))).toNat).toNat=(Mz (Ht (CW ch V V.length))).toNat:=DO F0;rw[Aa1 F4,Ie,show(4:Int)=((4:Nat):Int)from rfl,HJ _ 4 F0 F0 (by rw[e64];omega),Aa];simp only;rw[Aa1 F4,e64,Ag3 _ _ (by rw[Eo];omega),Aa]
 |j+1,i,q+1,hi,hq=>by
  have hc:i %ch<6:=Ae3 (Ai5 _ F0) h6;have hvl:(V.take i).length=i:=by rw[Acw];omega
  have hel:=FR ch V i;have hk:=yO ch (V.take i);have hcl:=SQ (V.getD i 0) hk.1 hk.2;have ih:=xQ bits ch h1 h6 V hV j (i+1) q F0 F0;have hvi:V.getD i 0=V[i]' F0:=by rw[List.getD_eq_getElem?_getD,List.getElem?_eq_getElem F0];rfl
  have htk:V.take i++[V.getD i 0]=V.take (i+1):=by rw[hvi,Wa F0]
  have hst:=Aaj (ch:=ch) (v:=V.take i) hc;have hset:=Abm (ch:=ch) (v:=V.take i) (V.getD i 0) hc (by rw[hvl]);have Ahx:zR ch (V.take i) (i %ch) (V.take i).length=now ch (V.take i):=Abp (by rw[hvl]);rw[Ahx]at hst hset;rw[htk]at hset;have hdp:=qj (k:=(now ch (V.take i)).1) (l:=(now ch (V.take i)).2.1) (s:=(now ch (V.take i)).2.2.1) (t:=(now ch (V.take i)).2.2.2) (rF ch (V.take i) _ _) (V.getD i 0);have hpc:=yG (CW ch V i) (Ua (now ch (V.take i)).1 (now ch (V.take i)).2.1 (V.getD i 0)) F0 (Fg V (ch:Int) bits q) V (ch:Int) bits (i:Int) (jl ch (V.take (i+1))) (Ua (now ch (V.take i)).1 (now ch (V.take i)).2.1 (V.getD i 0)).length 0 As F0 Aj4;rw[show(CW ch V i).length+0=(CW ch V i).length from rfl,vF _ Akk,List.take_left,show((0:Nat):Int)=0 from rfl]at hpc;rw[Fg,Lh,Abw F2,qd F0,Aa,Aa,Cy Aka,Aa,XG,hst,Aa,Aa];refine Eq.trans (congrArg (λo=>Option.bind o _) hdp) ?_;rw[Aa];simp only;rw[Aa1 F4,Aa,Aa];refine Eq.trans (congrArg (λo=>Option.bind o _) hset) ?_;rw[Aa];refine Eq.trans hpc ?_;rw[Ar];rw[CW,Abr]at ih;exact ih
theorem aY{bits:Int}{ch:Nat}{t x:LX}(hb:Eg bits)(ht:t.length=16)(h1:1<=ch)(h6:ch<=6)(hx1:1<=x.length)(hx4:x.length<=4000)(hm:x.length %ch=0)(hr:mh bits x):
  Ns (ch:Int) bits t x=some (Vx bits ch t x,0):=by
 have hV:=jG bits ch t x;have h:=xQ bits ch h1 h6 (Jt bits ch t x) F0 (Jt bits ch t x).length 0 As F0 Aj4;have e0:Ht (CW ch (Jt bits ch t x) 0)=[]:=by simp[CW,Ht]
 have e1:((CW ch (Jt bits ch t x) 0).length:Int)=0:=rfl;rw[e0,e1,Aja,hV,show((0:Nat):Int)=0 from rfl]at h;rw[Ns,Se,B4 hb ht h1 h6 hx1 hx4 hm hr,Aa];simp only;rw[Aa1 F4,A8 ch,Aa,Vx,vM,AQ];exact h
theorem Ac1{r:Nat}(h1:1<=r)(h:r<=1048576):Ga (r:Int)=some ((Al r:Int),0):=by
 have hv:=lD h;have e:Bq (r:Int) 256=Bq 256 (r:Int):=by rw[Nk,Nk];omega
 rw[Ga,Aa1 Aj9,e];have hq:0<=Bs (Bq 256 (r:Int)) 245:=by
  have e2:Bq 256 (r:Int)=((256*r:Nat):Int):=by rw[Nk];omega
  rw[e2,show(245:Int)=((245:Nat):Int)from rfl,FF];omega
 rw[sP]at hv;by_cases hz:Bs (Bq 256 (r:Int)) 245=0
 ·rw[Abw (by rw[Dh];simpa using hz)];rw[hz]at hv;have:(1:Int)=(Al r:Int):=F0
  rw[this]
 ·rw[Aa1 (by rw[Dh];simpa using hz)];have:Bs (Bq 256 (r:Int)) 245=(Al r:Int):=F0
  rw[this]
theorem Akn{p:Prop}(h:p:=by rw[Dh,Aiz];omega):p:=h
end Go.Pl
namespace Go.Pl
open Go Go.Lv
variable{x:LX}{c w r n:Nat}{p:Prop}
structure ClipOk (c w r n:Nat) (x:LX):Prop where
 ch:1<=c/\c<=6
 bits:Eg (w:Int)
 rate:1<=r/\r<=1048576
 cnt:1<=n/\n<=4000/c
 len:x.length=n*c
 fr:(n-1)/Al r+1<=1000
 rng:mh (w:Int) x
theorem ClipOk.le(h:ClipOk c w r n x):n<=4000/\n*c<=4000/\1<=x.length/\x.length<=4000:=by
 have h1:=Acb c h.cnt.2;have h2:=Ai6 4000 c;have h3:=Agj 4000 c;have h4:=Ajv h.cnt.1 h.ch.1;have h5:=h.len;have:=h.cnt;omega
theorem ClipOk.w3(h:ClipOk c w r n x):w=8\/w=16\/w=24:=by
 have:=h.bits;unfold Eg at this;omega
theorem ClipOk.shape(h:ClipOk c w r n x)(f:Nat)(hf:f=1\/f=2):Jq f c w r n=true:=by
 have:=h.w3;have:=h.ch;have:=h.rate;have:=h.cnt;simp only[Jq,Acs];omega
theorem ClipOk.fit(h:ClipOk c w r n x):UJ c r n=true:=by
 have:=h.cnt;have:=h.fr;simp only[UJ,Acs];omega
theorem je{bits:Int}(h:¬Eg bits):Gf bits=some 0/\Kx bits=some (0,0,2):=by
 unfold Eg at h;constructor
 ·rw[Gf,Aa1 Akn,Aa1 Akn,Aa1 Akn]
 ·have e:(geq bits 24)=false:=by rw[Dh,beq_eq_false_iff_ne];omega
  rw[Kx,QU,Aa1 Akn,Aa1 Akn,e,SD,PO,Aa1 F4]
theorem Ako(h:p:=by rw[Ae0];omega):p:=h
theorem Aku(h:p:=by simp[Eo,Yb]):p:=h
end Go.Pl
namespace Go.Pl
open Go Go.Lv
def yF(f c w r n:Nat):LB:=Yb++Zi f 2++Zi c 2++Zi w 2++Zi r 4++Zi n 4
def vW(f c w r n:Nat):LB:=yF f c w r n++Zi (Mz (yF f c w r n)).toNat 4
theorem kW(f c w r n:Nat):(yF f c w r n).length=18:=by simp only[yF,Yb,Abr,Eo];rfl
theorem mB(f c w r n:Nat):(vW f c w r n).length=22:=by rw[vW,Abr,kW,Eo]
theorem wT(b f g h k:Int)(m v w q:Nat)(a:LB)(hm:m<5)(hv:Af ([b,f,g,h,k]:LI) (m:Int)=some (v:Int))(hw:Af ([2,2,2,4,4]:LI) (m:Int)=some (w:Int))(h1:1<=w)(h8:w<=8)(hlt:v<256^w)(h64:v<18446744073709551616)(ha:a.length<=100):
  Hq b f g h k (q+1) (m:Int) a=Hq b f g h k q ((m+1:Nat):Int) (a++Zi v w):=by
 have e64:(UInt64.ofNat v).toNat=v:=DO F0;have hi1:Ad (m:Int) 1=((m+1:Nat):Int):=by rw[Ar];omega
 rw[Hq,Pw,Abw Aj5,hv,Aa,hw,Aa,IG,HJ _ w h1 h8 (by rw[e64];exact hlt),Aa];simp only;rw[Ca (by rw[Eo];omega),Aa,hi1,e64]
theorem sW{f c w r n:Nat}(h1:Jq f c w r n=true)(h2:UJ c r n=true):AD (f:Int) (c:Int) (w:Int) (r:Int) (n:Int)=some (vW f c w r n,0):=by
 have hs:(f=1\/f=2)/\ (1<=c/\c<=6)/\ (w=8\/w=16\/w=24)/\ (1<=r/\r<=1048576)/\1<=n:=by simpa only[Jq,Acs]using h1
 have hn:n<=4000:=by
  simp only[UJ,Acs]at h2;have:=Agj 4000 c;omega
 have hck:Zu (f:Int) (c:Int) (w:Int) (r:Int) (n:Int)=some 0:=by
  rw[Zu,uF,Aa,h1,Aa1 F4,O8 h1,Aa,h2,Aa1 F4]
 have hF:As=(As-6)+1+1+1+1+1+1:=by have:=Bd;omega
 have hlt:=(Mz (yF f c w r n)).toNat_lt;have e64:(UInt64.ofNat (Mz (yF f c w r n)).toNat).toNat=(Mz (yF f c w r n)).toNat:=DO F0;have hfin:Px (yF f c w r n)=some (vW f c w r n,0):=by
  rw[Px,LW,zO _ (by rw[kW];omega),Aa];simp only;rw[Ie,show(4:Int)=((4:Nat):Int)from rfl,HJ _ 4 F0 F0 (by rw[e64];omega),Aa];simp only;rw[Ca (by rw[kW,Eo];omega),Aa,e64];rfl
 rw[AD,Za,hck,Aa,Aa1 F4,MF,hF];have s0:=wT (f:Int) (c:Int) (w:Int) (r:Int) (n:Int) 0 f 2 ((As-6)+1+1+1+1+1) Yb F0 rfl rfl F0 F0 F0 F0 F4;have s1:=wT (f:Int) (c:Int) (w:Int) (r:Int) (n:Int) 1 c 2 ((As-6)+1+1+1+1) (Yb++Zi f 2) F0 rfl rfl F0 F0 F0 F0 Aku;have s2:=wT (f:Int) (c:Int) (w:Int) (r:Int) (n:Int) 2 w 2 ((As-6)+1+1+1) (Yb++Zi f 2++Zi c 2) F0 rfl rfl F0 F0 F0 F0 Aku;have s3:=wT (f:Int) (c:Int) (w:Int) (r:Int) (n:Int) 3 r 4 ((As-6)+1+1) (Yb++Zi f 2++Zi c 2++Zi w 2) F0 rfl rfl F0 F0 F0 F0 Aku;have s4:=wT (f:Int) (c:Int) (w:Int) (r:Int) (n:Int) 4 n 4 ((As-6)+1) (Yb++Zi f 2++Zi c 2++Zi w 2++Zi r 4) F0 rfl rfl F0 F0 F0 F0 Aku;refine s0.trans (s1.trans (s2.trans (s3.trans (s4.trans ?_))));rw[Hq,Pw,Aa1 F4];exact hfin
def fS(l:LI):LB:=l.flatMap λx=>Zi x.toNat 4
def P9(l:LI):LB:=fS l++Zi (Mz (fS l)).toNat 4
theorem ZF(l:LI):(fS l).length=4*l.length:=by
 induction l with
 |nil=>rfl
 |cons x l ih=>rw[fS,List.flatMap_cons,Abr,Eo,show(l.flatMap λx=>Zi x.toNat 4)=fS l from rfl,ih,Ae2];omega
theorem wI(l:LI):(P9 l).length=4*l.length+4:=by rw[P9,Abr,ZF,Eo]
theorem O2(l:LI)(x:Int):fS (l++[x])=fS l++Zi x.toNat 4:=by simp[fS]
theorem fK(l:LI)(hl:l.length<=1000)(h5:∀x∈l,5<=x/\x<=100000):∀(j i q:Nat),i+j=l.length->j<q->Kb l q (i:Int) (fS (l.take i))=some (P9 l,0)
 |j,i,0,_,h=>absurd h (Ag2 _)
 |0,i,q+1,hi,_=>by
  have hlt:=(Mz (fS l)).toNat_lt;have e64:(UInt64.ofNat (Mz (fS l)).toNat).toNat=(Mz (fS l)).toNat:=DO F0;rw[Kb,Ul,Aa1 F2,Af8 F0,Yr,LY,zO _ (by rw[ZF];omega),Aa];simp only;rw[Ie,show(4:Int)=((4:Nat):Int)from rfl,HJ _ 4 F0 F0 (by rw[e64];omega),Aa];simp only;rw[Ca (by rw[ZF,Eo];omega),Aa,e64];rfl
 |j+1,i,q+1,hi,hq=>by
  have ih:=fK l hl h5 j (i+1) q F0 F0;obtain⟨x5,x6⟩:=h5 l[i] (Aiq _);obtain⟨v,hv⟩:=Ae1 (show 0<=l[i] by omega);have e64:(UInt64.ofNat v).toNat=v:=DO F0;have hi1:Ad (i:Int) 1=((i+1:Nat):Int):=by rw[Ar];omega
  rw[Kb,Ul,Abw F2,Cu,Aa,hv,IG,show(4:Int)=((4:Nat):Int)from rfl,HJ _ 4 F0 F0 (by rw[e64];omega),Aa];simp only;rw[Ca (by rw[ZF,Eo,Acw];omega),Aa,Yu,MI,hi1,e64];rw[Wa F0,O2,hv,Aex]at ih;exact ih
theorem yC(l:LI):Yl l=some (if lM l=true then(P9 l,0)else([],8)):=by
 rw[Yl,BC,iB,Aa];by_cases h:lM l=true
 ·rw[Abw h,Abw h,Aa1 F4];simp only[lM,Ab7,Acs]at h;obtain⟨⟨h1,h2⟩,h3⟩:=h;have h4:=(rZ l 100000 F0).1 h3;have h6:=V8 h4.1;have hl:=fK l h2 (λx hx=>⟨h4.1 x hx,by have:=h6 x hx;omega⟩) l.length 0 As F0 Aj4;exact hl
 ·rw[Aa1 h,Aa1 h,Abw F4]
def Ew(c:Nat):LX->LI->List LX
 |_,[]=>[]
 |x,m::l=>x.take (m.toNat*c)::Ew c (x.drop (m.toNat*c)) l
theorem KY(c:Nat):∀(l:LI) (x:LX),(Ew c x l).length=l.length
 |[],x=>rfl
 |m::l,x=>by rw[Ew,Ae2,Ae2,KY c l]
theorem eY(c:Nat):∀(l:LI) (x:LX),(∀m∈l,0<=m)->x.length=l.sum.toNat*c-> (Ew c x l).flatten=x
 |[],x,_,h=>by
  have:x=[]:=Agx (by simpa using h);rw[this];rfl
 |m::l,x,h0,h=>by
  have hm:=h0 m Agn;have hl:0<=l.sum:=by
   have:∀l:LI,(∀m∈l,0<=m)->0<=l.sum:=by
    intro l
    induction l with
    |nil=>intro _;simp
    |cons a l ih=>intro h;have:=ih (λm hm=>h m (Aek _ hm));have:=h a Agn;rw[Ahh];omega
   exact this l λm hm=>h0 m (Aek _ hm)
  rw[Ahh,show(m+l.sum).toNat=m.toNat+l.sum.toNat by omega,Ady]at h;have ih:=eY c l (x.drop (m.toNat*c)) (λm hm=>h0 m (Aek _ hm)) Ako;rw[Ew,Ai4,ih,Aib]
theorem XA(c:Nat)(h1:1<=c):∀(l:LI) (x:LX),(∀m∈l,1<=m)->x.length=l.sum.toNat*c->∀y∈Ew c x l,1<=y.length/\y.length<=x.length/\y.length %c=0/\∀v∈y,v∈x
 |[],x,_,_=>λy hy=>by simp[Ew]at hy
 |m::l,x,hm,hx=>by
  have hm1:=hm m Agn;have hl:0<=l.sum:=by
   have:∀l:LI,(∀m∈l,1<=m)->0<=l.sum:=by
    intro l
    induction l with
    |nil=>intro _;simp
    |cons a l ih=>intro h;have:=ih (λm hm=>h m (Aek _ hm));have:=h a Agn;rw[Ahh];omega
   exact this l λm hm'=>hm m (Aek _ hm')
  rw[Ahh,show(m+l.sum).toNat=m.toNat+l.sum.toNat by omega,Ady]at hx;have hpos:1<=m.toNat*c:=Ajv F0 h1;intro y hy;rw[Ew,List.mem_cons]at hy;rcases hy with rfl|hy
  ·have hlen:(x.take (m.toNat*c)).length=m.toNat*c:=by rw[Acw];omega
   rw[hlen];exact⟨hpos,F0,Aid _ _,λv hv=>List.mem_of_mem_take hv⟩
  ·obtain⟨a1,a2,a3,a4⟩:=XA c h1 l (x.drop (m.toNat*c)) (λm hm'=>hm m (Aek _ hm')) Ako y hy;rw[Ae0]at a2;exact⟨a1,F0,a3,λv hv=>Ai3 (a4 v hv)⟩
theorem iT(bits:Int)(ch:Nat)(t x:LX)(h0:1<=x.length)(h4:x.length<=4000):5<= (Vx bits ch t x).length/\ (Vx bits ch t x).length<=15*x.length:=by
 have h5:=vI bits ch t x h0 h4;have h:=FR ch (Jt bits ch t x) x.length;refine⟨h5.1,?_⟩;rw[Vx,Abr,Eo,vM,Nw];omega
def Kp(fs:List LB):LI:=fs.map λf=>(f.length:Int)
theorem Wc(fs:List LB):(Kp fs).length=fs.length:=by rw[Kp,List.length_map]
theorem jM:∀fs:List LB,(Kp fs).sum=(fs.flatten.length:Int)
 |[]=>rfl
 |f::fs=>by rw[Kp,Aha,Ahh,Ai4,Abr,show(fs.map λf=>(f.length:Int))=Kp fs from rfl,jM fs];omega
theorem U6(bits:Int)(ch:Nat)(t:LX):∀ys:List LX,(∀y∈ys,1<=y.length/\y.length<=4000)-> ((ys.map (Vx bits ch t)).flatten).length<=15*ys.flatten.length
 |[],_=>by simp
 |y::ys,h=>by
  have ih:=U6 bits ch t ys λy hy=>h y (Aek _ hy);obtain⟨h1,h4⟩:=h y Agn;have:=(iT bits ch t y h1 h4).2;rw[Aha,Ai4,Ai4,Abr,Abr];omega
def GH(p:LB):Nat:=if p=[]then 1 else 2
def mO(p:LB):LB:=if p=[]then []else Zi (VX p).toNat 8
theorem mg(p:LB):GH p=1\/GH p=2:=by unfold GH;split<;>simp
theorem xX(p:LB):(mO p).length=if GH p=2 then 8 else 0:=by
 unfold mO GH;by_cases h:p=[]
 ·rw[Abw h,Abw h];rfl
 ·rw[Aa1 h,Aa1 h,Eo];rfl
def B2(c r n:Nat)(x:LX):List LX:=Ew c x (Dn (Al r) n)
def fU(c w r n:Nat)(x:LX)(p:LB):List LB:=(B2 c r n x).map (Vx (w:Int) c (Qj p))
def WB(c w r n:Nat)(x:LX)(p:LB):LB:=vW (GH p) c w r n++(mO p++(P9 (Kp (fU c w r n x p))++(fU c w r n x p).flatten))
theorem fN{g n:Nat}(hg:1<=g)(h1:1<=n):∀m∈Dn g n,1<=m:=by
 intro m hm;rw[Dn,List.mem_append,List.mem_replicate,List.mem_singleton]at hm;have h:=Ai6 (n-1) g;rcases hm with⟨_,rfl⟩|rfl
 ·omega
 ·omega
section
variable {c w r n:Nat} {x:LX} (h:ClipOk c w r n x)
include h
theorem ClipOk.sum:(Dn (Al r) n).sum=(n:Int):=fA h.cnt.1
theorem N0:(B2 c r n x).flatten=x:=by
 refine eY _ _ _ (λm hm=>?_) ?_
 ·have:=fN (Kr r) h.cnt.1 m hm;omega
 ·rw[h.sum,h.len,Aex]
theorem bM:∀y∈B2 c r n x,1<=y.length/\y.length<=4000/\y.length %c=0/\mh (w:Int) y:=by
 intro y hy;obtain⟨a1,a2,a3,a4⟩:=XA c h.ch.1 _ _ (fN (Kr r) h.cnt.1) (by rw[h.sum,h.len,Aex]) y hy;have:=h.le;exact⟨a1,F0,a3,λv hv=>h.rng v (a4 v hv)⟩
omit h in
theorem Abt(p:LB):(fU c w r n x p).length=(Dn (Al r) n).length:=by rw[fU,List.length_map];exact KY _ _ _
theorem E8(p:LB):1<= (fU c w r n x p).length/\ (fU c w r n x p).length<=1000:=by
 rw[Abt,eU];exact⟨Nat.le_add_left _ _,h.fr⟩
theorem xL(p:LB):((fU c w r n x p).flatten).length<=15*x.length:=by
 have:=U6 (w:Int) c (Qj p) (B2 c r n x) λy hy=>⟨(bM h y hy).1,(bM h y hy).2.1⟩;rw[N0 h]at this;exact this
theorem uh(p:LB):∀f∈fU c w r n x p,5<=f.length:=by
 intro f hf;rw[fU,List.mem_map]at hf;obtain⟨y,hy,rfl⟩:=hf;exact(iT _ _ _ _ (bM h y hy).1 (bM h y hy).2.1).1
theorem Y3(p:LB):lM (Kp (fU c w r n x p))=true:=by
 have h1:=E8 h p;have h2:=xL h p;have h3:=h.le;simp only[lM,Ab7,Acs];rw[rZ _ _ F0,Wc,jM];refine⟨F0,λz hz=>?_,F0⟩;rw[Kp,List.mem_map]at hz;obtain⟨f,hf,rfl⟩:=hz;have:=uh h p f hf;omega
omit h in
theorem nR(p:LB):(WB c w r n x p).length=22+(if GH p=2 then 8 else 0)+(4*(fU c w r n x p).length+4)+(fU c w r n x p).flatten.length:=by
 rw[WB,Abr,Abr,Abr,mB,xX,wI,Wc];omega
theorem xR(p:LB):(WB c w r n x p).length<=34+4*(fU c w r n x p).length+15*x.length:=by
 have h1:=nR (c:=c) (w:=w) (r:=r) (n:=n) (x:=x) p;have h2:=xL h p;split at h1<;>omega
theorem R4(p:LB):(WB c w r n x p).length<=64034:=by
 have:=xR h p;have:=E8 h p;have:=h.le;omega
end
theorem eT:∀{l:LI},(∀x∈l,0<=x)->∀k,0<= (l.take k).sum
 |[],_,k=>by simp
 |x::l,h,0=>by simp
 |x::l,h,k+1=>by
  have:=eT (l:=l) (λy hy=>h y (Aek _ hy)) k;have:=h x Agn;rw[List.take_succ_cons,Ahh];omega
theorem kC(c:Nat)(h1:1<=c):∀(l:LI) (x:LX),(∀m∈l,1<=m)->x.length=l.sum.toNat*c->∀(k:Nat) (hk:k<l.length) (hk':k<(Ew c x l).length),(Ew c x l)[k].length=l[k].toNat*c
 |[],x,_,_=>λk hk=>absurd hk (Ag2 _)
 |m::l,x,hm,hx=>by
  have hm1:=hm m Agn;have hl:0<=l.sum:=by
   have:=eT (l:=l) (λy hy=>by have:=hm y (Aek _ hy);omega) l.length;rw[Ajo]at this;exact this
  rw[Ahh,show(m+l.sum).toNat=m.toNat+l.sum.toNat by omega,Ady]at hx;intro k hk hk';cases k with
  |zero=>simp only[Ew,List.getElem_cons_zero,Acw];omega
  |succ k=>
   simp only[Ew,List.getElem_cons_succ];exact kC c h1 l (x.drop (m.toNat*c)) (λm hm'=>hm m (Aek _ hm')) Ako k (by simpa using hk) _
structure FileOf (c w r n:Nat) (x:LX) (p:LB) (T:Nat) (fs:List LB) (z b:LB):Prop where
 clip:ClipOk c w r n x
 pass:p.length<=64
 front:Nc b=((T:Int),0)
 le:b.length<=100000
 lens:Kp fs=Kp (fU c w r n x p)
 form:b.drop T=vW (GH p) c w r n++(mO p++(P9 (Kp (fU c w r n x p))++(fs.flatten++z)))
section
variable {c w r n:Nat} {x:LX} {p:LB} {T:Nat} {fs:List LB} {z b:LB} (h:FileOf c w r n x p T fs z b)
include h
theorem FileOf.cnt:fs.length=(fU c w r n x p).length:=by
 have:=congrArg List.length h.lens;rw[Wc,Wc]at this;exact this
end
def Cd(e:Int):Prop:=e=0\/e=4\/e=12\/e=16\/e=22\/e=24\/e=26\/e=38
instance(e:Int):Decidable (Cd e):=by unfold Cd;infer_instance
structure HdI (f c w r n:Int) (F C W R N:Nat):Prop where
 ef:f=F
 ec:c=C
 ew:w=W
 er:r=R
 en:n=N
 shape:Jq F C W R N=true
 fit:UJ C R N=true
theorem HdI.num{f c w r n:Int}{F C W R N:Nat}(h:HdI f c w r n F C W R N):(F=1\/F=2)/\ (1<=C/\C<=6)/\ (W=8\/W=16\/W=24)/\ (1<=R/\R<=1048576)/\1<=N/\N<=4000/C/\N<=4000/\ (N-1)/Al R+1<=1000:=by
 obtain⟨rfl,rfl,rfl,rfl,rfl,hs,hf⟩:=h;simp only[Jq,Acs]at hs;simp only[UJ,Acs]at hf;have hd:4000/C<=4000:=Agj _ _;omega
inductive FitD (o:LB) (f c w r n:Int) (g:LI) (a:Int) (x:LB):Prop
 |new:f=0->c=0->w=0->r=0->n=0->g=[]->a=0->x=[]->FitD o f c w r n g a x
 |head (F C W R N:Nat):HdI f c w r n F C W R N-> (o==([]:LB))=decide (F=1)->g=[]->a=0->x=[]->FitD o f c w r n g a x
 |tab (F C W R N A:Nat):HdI f c w r n F C W R N-> (o==([]:LB))=decide (F=1)->lM g=true->g.length=(Dn (Al R) N).length->a=A->A<=g.length->FitD o f c w r n g a x
def ID3:LB:=[73,68,51]
def APX:LB:=[65,80,69,84,65,71,69,88]
def T6(b s:LB):Bool:=decide (b.length<s.length)&&(b==s.take b.length)
theorem pD(b s:LB):Jz b s=some (T6 b s):=by
 rw[Jz,T6];by_cases h:b.length<s.length
 ·rw[Abw Akl,Ac,Tj,Aa,decide_eq_true h,Ajg];rfl
 ·rw[Aa1 Akl,decide_eq_false h];rfl
def stS(b:LB):Int×Int×Int×Int×Int×Int×Int:=
 if(Nc b).2=24 then(0,0,0,0,0,0, -1)else if(Nc b).2≠0 then(0,0,0,0,0,0,(Nc b).2)else
 if(T6 (vQ b) ID3||T6 (vQ b) APX)=true then(0,0,0,0,0,0, -1)else
 if(Pm (vQ b)).2.2.2.2.2=24 then(0,0,0,0,0,0, -1)else((Nc b).1+22,(Pm (vQ b)).1,(Pm (vQ b)).2.1,(Pm (vQ b)).2.2.1,(Pm (vQ b)).2.2.2.1,(Pm (vQ b)).2.2.2.2.1,(Pm (vQ b)).2.2.2.2.2)
theorem yZ(b:LB)(hb:b.length<=100000):Ni b=some (stS b):=by
 rw[Ni,Qw,rD b F0,Aa,stS];have hok:=N1 (b:=b);simp only;by_cases h1:(Nc b).2=24
 ·rw[Abw (by rw[Dh];simpa using h1),Abw h1]
 rw[Aa1 (by rw[Dh];simpa using h1),Aa1 h1];by_cases h2:(Nc b).2≠0
 ·rw[Abw (by rw[Et];simpa using h2),Abw h2]
 have h0:(Nc b).2=0:=by simpa using h2
 obtain⟨k1,k2,k3⟩:=hok h0;rw[Aa1 (by rw[Et,h0];simp),Aa1 h2,TN,Aa,pD,Aa,show b.drop (Nc b).1.toNat=vQ b from rfl,show([73,68,51]:LB)=ID3 from rfl,show([65,80,69,84,65,71,69,88]:LB)=APX from rfl];by_cases h3:T6 (vQ b) ID3=true
 ·rw[Abw h3,h3,Bool.true_or,Abw rfl]
 rw[Aa1 h3,pD,Aa,Bool.eq_false_iff.2 h3,Bool.false_or];by_cases h4:T6 (vQ b) APX=true
 ·rw[Abw h4,Abw h4]
 have hl:(vQ b).length<=b.length:=by rw[vQ,Ae0];omega
 rw[Aa1 h4,Aa1 h4,Qu,Ra,X5 _ F0,Aa];simp only;by_cases h5:(Pm (vQ b)).2.2.2.2.2=24
 ·rw[Abw (by rw[Dh];simpa using h5),Abw h5]
 ·rw[Aa1 (by rw[Dh];simpa using h5),Aa1 h5,Ar]
structure SzD (p:LB) (g:LI) (a:Int) (x:LB):Prop where
 hp:p.length<=100000
 hg:g.length<=1000
 hx:x.length+12000*(g.length-a.toNat)<=13000000
section
variable {bk:LB->Int->Int->Int->Int->Int->Int->LI->LB->Np} {o p:LB} {f c w r n:Int} {g:LI} {a:Int} {x:LB} {u:Bool} {v:Int}
theorem f75{d:Bool}{e:Int}:dK bk o u v f c w r n a x d e p g=HB bk o u v p f c w r n a d e g x:=rfl
end
theorem mq{o p:LB}{f c w r n:Int}{g:LI}{a:Int}{x:LB}{u:Bool}{v:Int}(hp:p.length<=100000)(hg:g.length<=2000)(hx:x.length<=13000000):Sd o p f c w r n g a x u v=some (o,p,f,c,w,r,n,g,a,x,u,v):=by
 rw[Sd,Xc,Ca F6,Aa,Ca F6,Aa,Xk,Xg,Ca F6,Aa];rfl
theorem cH{α β:Type}{o:Option α}{f:α->Option β}{r:β}(h:Option.bind o f=some r):∃x,o=some x/\f x=some r:=by
 cases o with
 |none=>cases h
 |some x=>exact⟨x,rfl,h⟩
def OutB(f c w r n:Int)(g:LI)(a:Int)(x:LB):Prop:=∀(F C W R N A:Nat),HdI f c w r n F C W R N->g≠ []->a=(A:Int)-> (x.length:Int)<=L5 C W (Dn (Al R) N) A
theorem OutB.nil{f c w r n:Int}{a:Int}{x:LB}:OutB f c w r n [] a x:=λ_ _ _ _ _ _ _ h=>absurd rfl h
theorem OutB.zero{f c w r n:Int}{g:LI}:OutB f c w r n g 0 []:=λF C W R N A h hg ha=>by
 obtain rfl:A=0:=F0
 rw[zU];simp
theorem Adn{o:LB}{f c w r n:Int}{g:LI}{a:Int}{x:LB}(hf:FitD o f c w r n g a x)(hO:OutB f c w r n g a x):x.length<=12000:=by
 cases hf with
 |new e1 e2 e3 e4 e5 e6 e7 e8=>subst e8;simp
 |head F C W R N hd hpw e6 e7 e8=>subst e8;simp
 |tab F C W R N A hd hpw ht hl ea hA=>
  have hne:g≠ []:=by intro e;subst e;simp[lM]at ht
  have h:=hO F C W R N A hd hne ea;obtain⟨g1,g2,g3⟩:=A9 hd.shape hd.fit;have b:=Aaz g1 A;have Ahy:=hd.num;have hw:=(W2 (W:Int)).2;have hN:N*C<=4000:=by
   have h1:=Acb C Ahy.2.2.2.2.2.1;have h2:=Ai6 4000 C;omega
  have hs:((Dn (Al R) N).take A).sum.toNat<=N:=F0
  rw[L5]at h;have hb:((Dn (Al R) N).take A).sum.toNat*(C*wB (W:Int))<=4000*3:=by
   have h1:=Acb (C*wB (W:Int)) hs;have h2:=Aic hN hw;rw[<-Ahb N]at h1;omega
  omega
structure Wt (o p:LB) (f c w r n:Int) (g:LI) (a:Int) (x:LB):Prop where
 fit:FitD o f c w r n g a x
 sz:SzD p g a x
 out:OutB f c w r n g a x
 wait:Hn o p f c w r n g a x false 0=some (o,p,f,c,w,r,n,g,a,x,false,0, -1)
abbrev L8(q:Nat)(o p:LB)(f c w r n:Int)(g:LI)(a:Int)(x:LB):=Nr q o p f c w r n g a x false 0
abbrev Fd(o s:LB):=L8 As o s 0 0 0 0 0 [] 0 []
inductive Bh (o s:LB):LB->Int->Int->Int->Int->Int->LI->Int->LB->Int->Prop
 |wt {p:LB} {f c w r n:Int} {g:LI} {a:Int} {x:LB}:Wt o p f c w r n g a x->p.length<=s.length-> (∀b:LB,(s++b).length<=100000->Fd o (s++b)=L8 As o (p++b) f c w r n g a x)->Bh o s p f c w r n g a x 0
 |er {x:LB} {e:Int}:0<e->Cd e->x.length<=12000-> (∀b:LB,(s++b).length<=100000->Fd o (s++b)=some (o,[],0,0,0,0,0,[],0,x,false,e,e))->Bh o s [] 0 0 0 0 0 [] 0 x e
variable {o s p:LB} {f c w r n:Int} {g:LI} {a:Int} {x:LB} {e:Int}
theorem Wt.stop(W:Wt o p f c w r n g a x):L8 As o p f c w r n g a x=some (o,p,f,c,w,r,n,g,a,x,false,0,0):=by
 obtain⟨q,hq⟩:∃q,As=q+1:=⟨As-1,by have:=Bd;omega⟩;have hx:x.length<=13000000:=by have:=W.sz.hx;omega
 rw[L8,hq,Nr,Xw,W.wait,Aa];simp only;rw[Abw F4,mq W.sz.hp (by have:=W.sz.hg;omega) hx,Aa]
theorem Bh.new(ho:o.length<=64):Bh o [] [] 0 0 0 0 0 [] 0 [] 0:=by
 refine .wt ⟨.new rfl rfl rfl rfl rfl rfl rfl rfl,⟨Aj6,Aj6,Aj6⟩,OutB.nil,?_⟩ (Afl _) λb _=>rfl;rw[Hn,Nh,Abw F4,yZ [] Aj6,Aa];rfl
theorem Ad6{u:Bool}{v:Int}{y:LB}(hf:FitD o f c w r n g a x){t1 t2:LB}{t3 t4 t5 t6 t7:Int}{t8:LI}{t9:Int}{t10:LB}{t11:Bool}{t12:Int}
  (h:Hn o p f c w r n g a x u v=some (t1,t2,t3,t4,t5,t6,t7,t8,t9,t10,t11,t12, -1)) (hp:p.length<=100000):Hn o p f c w r n g a y u v=some (o,p,f,c,w,r,n,g,a,y,u,v, -1):=by
 have zero:¬(Bp (0:Int) 0=true):=F4
 rw[Hn,Nh]at h⊢;by_cases hz:geq f 0=true
 ·rw[Abw hz]at h⊢;obtain⟨⟨z1,z2,z3,z4,z5,z6,z7⟩,hz1,h⟩:=cH h;rw[hz1,Aa];simp only at h⊢;by_cases h7:Bp z7 0=true
  ·rw[Abw h7]at h⊢;simp only[Aco,Agr]at h;rw[h.2.2.2.2.2.2.2.2.2.2.2.2]
  ·rw[Aa1 h7]at h;obtain⟨af,h1,h⟩:=cH h;rw[Xn,Xj,BT]at h;obtain⟨aw,h2,h⟩:=cH h;simp only[Aco,Agr]at h;obtain⟨-, -, -, -, -, -, -, -, -, -, -, -,rfl⟩:=h;split at h2<;>cases h2
 ·rw[Aa1 hz]at h⊢;rw[Xz,Xr]at h⊢;by_cases hg:geq (Ac g) 0=true
  ·rw[Abw hg]at h⊢;obtain⟨⟨z1,z2,z3⟩,hz1,h⟩:=cH h;rw[hz1,Aa];simp only at h⊢;by_cases h7:Bp z3 0=true
   ·rw[Abw h7]at h⊢;simp only[Aco,Agr]at h;rw[h.2.2.2.2.2.2.2.2.2.2.2.2]
   ·rw[Aa1 h7]at h;obtain⟨af,h1,h⟩:=cH h;simp only[Aco,Agr]at h;exact absurd h.2.2.2.2.2.2.2.2.2.2.2.2 F4
  ·rw[Aa1 hg]at h⊢;by_cases he:geq a (Ac g)=true
   ·rw[Abw he]at h⊢;by_cases hm:Ep (Ac p) 4000=true
    ·rw[Abw hm]at h;simp only[Aco,Agr]at h;exact absurd h.2.2.2.2.2.2.2.2.2.2.2.2 F4
    ·rw[Aa1 hm]
   ·rw[Aa1 he]at h⊢;obtain⟨⟨z1,z2⟩,hz1,h⟩:=cH h;have hz2:Zd o p f c w r n g a y u v=some (z1,z2):=hz1;rw[hz2,Aa];simp only at h⊢;by_cases h7:Bp z2 0=true
    ·rw[Abw h7]at h⊢;simp only[Aco,Agr]at h;rw[h.2.2.2.2.2.2.2.2.2.2.2.2]
    ·rw[Aa1 h7]at h;obtain⟨an,h2,h⟩:=cH h;obtain⟨ah,h3,h⟩:=cH h;obtain⟨ad,h4,h⟩:=cH h;obtain⟨ae,h5,h⟩:=cH h;simp only[Aco,Agr]at h;exact absurd h.2.2.2.2.2.2.2.2.2.2.2.2 F4
end Go.Pl
namespace Go.Pl
open Go Go.Lv
variable{i t t' m:Nat}
section
variable {o s p:LB} {f c w r n:Int} {g:LI} {a:Int} {x:LB} {e:Int}
theorem FitD.drop(h:FitD o f c w r n g a x)(t:Nat):FitD o f c w r n g a (x.drop t):=by
 cases h with
 |new e1 e2 e3 e4 e5 e6 e7 e8=>subst e8;exact .new e1 e2 e3 e4 e5 e6 e7 Aj6
 |head F C W R N hd hpw e6 e7 e8=>subst e8;exact .head F C W R N hd hpw e6 e7 Aj6
 |tab F C W R N A hd hpw ht hl ea hA=>exact .tab F C W R N A hd hpw ht hl ea hA
theorem OutB.drop(h:OutB f c w r n g a x)(t:Nat):OutB f c w r n g a (x.drop t):=by
 intro F C W R N A hd hg ha;have:=h F C W R N A hd hg ha;rw[Ae0];omega
theorem Bh.Ae7(h:Bh o s p f c w r n g a x e):p.length<=s.length/\g.length<=1000/\x.length<=12000:=by
 cases h with
 |wt W hl hb=>exact⟨hl,W.sz.hg,Adn W.fit W.out⟩
 |er h0 hc hx hb=>exact⟨Aj6,Aj6,hx⟩
end
section
variable {o s p:LB} {f c w r n:Int} {g:LI} {a:Int} {x:LB} {e:Int}
theorem Wt.drop(W:Wt o p f c w r n g a x)(t:Nat):Wt o p f c w r n g a (x.drop t):=
 ⟨W.fit.drop t,⟨W.sz.hp,W.sz.hg,by have:=W.sz.hx;rw[Ae0];omega⟩,W.out.drop t,Ad6 W.fit W.wait W.sz.hp⟩
def Aga(u:Bool)(v k:Int):Prop:=(u=false/\v=k/\0<k/\Cd k)\/ (u=true/\v=0/\k=36)
end
abbrev dU:=UInt8×Int×Unit
abbrev qz:=Int×LB×Unit
structure Ud where
 s:LB
 X:LB
 p:LB
 f:Int
 c:Int
 w:Int
 r:Int
 n:Int
 g:LI
 a:Int
 u:Bool
 v:Int
inductive OkU (o:LB) (L:Nat):Ud->Prop
 |live {s X p:LB} {f c w r n:Int} {g:LI} {a e:Int}:s.length+L<=12100->Bh o s p f c w r n g a X e->OkU o L ⟨s,X,p,f,c,w,r,n,g,a,false,e⟩
 |stop {s X:LB} {u:Bool} {v k:Int}:X.length<=12000->Aga u v k->OkU o L ⟨s,X,[],0,0,0,0,0,[],0,u,v⟩
theorem OkU.szs{o:LB}{L:Nat}{U:Ud}(h:OkU o L U):U.p.length<=12100/\U.g.length<=1000/\U.X.length<=12000:=by
 cases h with
 |live hl hB=>have:=hB.Ae7;exact⟨by simp only;omega,this.2.1,this.2.2⟩
 |stop hx hk=>exact⟨Aj6,Aj6,hx⟩
def VS(st:dU):Prop:=(st.1=1\/st.1=2\/st.1=3)/\0<=st.2.1/\st.2.1<=100000
def SR(st:dU)(e:Int)(d:qz):Prop:=d.1=e/\ (st.1=2->e=0/\ (d.2.1.length:Int)<=st.2.1)/\ (st.1≠2->d.2.1=[])
inductive SRs:List dU->LI->List qz->Prop
 |nil:SRs [] [] []
 |cons {st e d l es ds}:SR st e d->SRs l es ds->SRs (st::l) (e::es) (d::ds)
def outs(l:List qz):LB:=(l.map (·.2.1)).flatten
def VZ(b:List dU)(i t:Nat)(X:LB)(t':Nat)(X':LB):Prop:=(i=b.length->t'=t/\X'=X)/\ (i<b.length->∀m:Int,b[b.length-1]? =some (2,m,())->20000<=m->t'=X'.length)
theorem VZ.nil{b:List dU}{X:LB}(h:i=b.length):VZ b i t X t X:=⟨λ_=>⟨rfl,rfl⟩,λh'=>absurd h' F0⟩
theorem VZ.other{b:List dU}{t1:Nat}{X X1 X':LB}(hlt:i<b.length)(h1:b[i].1≠2)(ih:VZ b (i+1) t1 X1 t' X'):VZ b i t X t' X':=by
 refine⟨λh=>absurd h F0,λ_ m hm h2=>?_⟩;by_cases h:i+1<b.length
 ·exact ih.2 h m hm h2
 ·rw[show b.length-1=i by omega,List.getElem?_eq_getElem hlt]at hm;exact absurd (by rw[Ajd hm]) h1
theorem VZ.drain{b:List dU}{X X':LB}(hlt:i<b.length)(hm:b[i].2.1=(m:Int))(hX:X.length<=20000)(ht:t<=X.length)(ih:VZ b (i+1) (t+min m (X.length-t)) X t' X'):VZ b i t X t' X':=by
 refine⟨λh=>absurd h F0,λ_ k hk h2=>?_⟩;by_cases h:i+1<b.length
 ·exact ih.2 h k hk h2
 ·rw[show b.length-1=i by omega,List.getElem?_eq_getElem hlt]at hk;obtain⟨e1,e2⟩:=ih.1 F0;have e3:=Ajd hk;rw[e3]at hm;simp only at hm;rw[e1,e2];omega
def VS3(st:dU):Prop:=VS st/\ (st.1=3->st.2.1=0)
theorem Aei{a:UInt8}(h1:Ci a 1=false)(h2:Ep a 3=false):a=1\/a=2\/a=3:=by
 have e1:¬((a.toNat:Int)<1):=of_decide_eq_false (show decide ((a.toNat:Int)<1)=false from h1);have e2:¬((a.toNat:Int)>3):=of_decide_eq_false (show decide ((a.toNat:Int)>3)=false from h2);have:a.toNat=1\/a.toNat=2\/a.toNat=3:=F0
 rcases this with h|h|h
 ·exact .inl (UInt8.toNat_inj.1 h)
 ·exact .inr (.inl (UInt8.toNat_inj.1 h))
 ·exact .inr (.inr (UInt8.toNat_inj.1 h))
theorem G9(l:List dU):∀(q i:Nat),Cm l q (i:Int)=some 0->l.length<=200->∀j (hj:j<l.length),i<=j->VS3 l[j]
 |0,i,h,_,_,_,_=>by cases h
 |q+1,i,h,hl,j,hj,hij=>by
  have hlt:i<l.length:=F0
  rw[Cm,Gk,Abw F2,Cu hlt,Aa]at h;split at h
  ·cases h
  ·rename_i h1;split at h
   ·cases h
   ·rename_i h2;by_cases he:j=i
    ·subst he;simp only[Ah5,not_or,Bool.not_eq_true,Aj,Bu,Ahu]at h1;obtain⟨⟨⟨k1,k2⟩,k3⟩,k4⟩:=h1;refine⟨⟨Aei k1 k2,F0,F0⟩,λh3=>?_⟩;simp only[Ab7,not_and,Et,bne_iff_ne,ne_eq,Decidable.not_not]at h2;exact h2 (by rw[h3];rfl)
    ·rw[show Ad (i:Int) 1=((i+1:Nat):Int) by rw[show(1:Int)=((1:Nat):Int)from rfl,Ar];omega]at h;exact G9 l q (i+1) h hl j hj F0
theorem Aeh{l:List dU}(h:Ef l=some true):l.length<=60/\∀st∈l,VS3 st:=by
 rw[Ef,Jl,Aa]at h;split at h
 ·rename_i hm;obtain⟨e,he,h⟩:=cH h;have he0:e=0:=by
   simp only[Aco,Dh,Aiz]at h;exact h
  subst he0;simp only[Bu,MG,Ac,Afv,Ai2,Bool.and_eq_false_iff,Ahu]at hm;rw[Lp,Jc]at he;split at he
  ·cases he
  ·rename_i h2;rw[Bu,Ac]at h2;simp only[Acs]at h2;refine⟨F0,λst hst=>?_⟩;obtain⟨j,hj,rfl⟩:=List.mem_iff_getElem.1 hst;exact G9 l As 0 he F0 j hj (Nat.zero_le _)
 ·cases h
theorem ji(l:List dU)(hl:l.length<=100000):∃k,Ef l=some k:=by
 have loop:∀(j i q:Nat),i+j=l.length->j<q->∃e,Cm l q (i:Int)=some e:=by
  intro j
  induction j with
  |zero=>
   intro i q hi hq;obtain⟨q,rfl⟩:∃q',q=q'+1:=⟨q-1,F0⟩;rw[Cm,Gk,Aa1 F2];exact⟨_,rfl⟩
  |succ j ih=>
   intro i q hi hq;obtain⟨q,rfl⟩:∃q',q=q'+1:=⟨q-1,F0⟩;have hlt:i<l.length:=F0
   rw[Cm,Gk,Abw F2,Cu hlt,Aa];split
   ·exact⟨_,rfl⟩
   ·split
    ·exact⟨_,rfl⟩
    ·rw[show Ad (i:Int) 1=((i+1:Nat):Int) by rw[show(1:Int)=((1:Nat):Int)from rfl,Ar];omega];exact ih (i+1) q F0 F0
 rw[Ef,Jl,Aa];split
 ·rw[Lp,Jc];split
  ·exact⟨_,rfl⟩
  ·obtain⟨e,he⟩:=loop l.length 0 As F0 Aj4;have he':Vo l 0=some e:=he;rw[he',Aa];exact⟨_,rfl⟩
 ·exact⟨_,rfl⟩
theorem Abq(l:List dU):∃k,Ef l=some k:=by
 by_cases hl:l.length<=100000
 ·exact ji l hl
 ·rw[Ef,Jl,Aa,Aa1 (by simp[Bu,MG,Ac];omega)];exact⟨_,rfl⟩
theorem su{st:dU}(h:VS3 st):Tm st.1 st.2.1=some false:=by
 obtain⟨⟨h1,h2,h3⟩,h4⟩:=h;rw[Tm,KH,LO,MA];have hr:(Jd st.2.1 0&&rQ st.2.1 100000)=true:=by rw[Kv,MG];simp;omega
 rcases h1 with h1|h1|h1
 ·rw[h1,Abw F4,Ps,Abw F4,hr,Aa];rfl
 ·rw[h1,Aa1 F4,Ps,Abw F4,hr,Aa];rfl
 ·rw[h1,Aa1 F4,Ps,Aa1 F4,Abw F4,h4 h1,Aa];rfl
theorem xY{l:List dU}(hl:l.length<=200)(hv:∀st∈l,VS3 st):AA l=some 0:=by
 have loop:∀(j i q:Nat),i+j=l.length->j<q->Ih l q (i:Int)=some 0:=by
  intro j
  induction j with
  |zero=>
   intro i q hi hq;obtain⟨q,rfl⟩:∃q',q=q'+1:=⟨q-1,F0⟩;rw[Ih,Oa,Aa1 F2];rfl
  |succ j ih=>
   intro i q hi hq;obtain⟨q,rfl⟩:∃q',q=q'+1:=⟨q-1,F0⟩;have hlt:i<l.length:=F0
   rw[Ih,Oa,Abw F2,Cu hlt,Aa,su (hv _ (Aiq hlt)),Aa,Vw,HO,Aa1 F4,IK,GU,
    show Ad (i:Int) 1=((i+1:Nat):Int) by rw[show(1:Int)=((1:Nat):Int)from rfl,Ar];omega]
   exact ih (i+1) q F0 F0
 rw[AA,Yy,Aa1 Aj8];exact loop l.length 0 As F0 Aj4
theorem SRs.len{l:List dU}{es:LI}{ds:List qz}(h:SRs l es ds):es.length=l.length/\ds.length=l.length:=by
 induction h with
 |nil=>exact⟨rfl,rfl⟩
 |cons _ _ ih=>exact⟨by simp[ih.1],by simp[ih.2]⟩
theorem SRs.at{l:List dU}{es:LI}{ds:List qz}(h:SRs l es ds):∀(i:Nat) (h1:i<ds.length) (h2:i<es.length),ds[i].1=es[i]:=by
 induction h with
 |nil=>intro i h1;simp at h1
 |cons hd _ ih=>
  intro i h1 h2;cases i with
  |zero=>exact hd.1
  |succ i=>exact ih i (by simpa using h1) (by simpa using h2)
theorem RG(i:Nat)(h:i<=100000):Ad (i:Int) 1=((i+1:Nat):Int):=by rw[show(1:Int)=((1:Nat):Int)from rfl,Ar];omega
theorem zo:Ll=some true:=by kernel_rfl
theorem xE(a b:List qz):outs (a++b)=outs a++outs b:=by simp[outs]
theorem fD(ds:List qz)(hd:ds.length<=200)(ho:(outs ds).length<=20000):∀(j i q:Nat),i+j=ds.length->j<q->Ii ds q (i:Int) (outs (ds.take i))=some (outs ds)
 |j,i,0,_,hq=>absurd hq (Ag2 _)
 |0,i,q+1,hi,hq=>by
  rw[Ii,Oc,Aa1 F2,Vs,HC,Af8 F0]
 |j+1,i,q+1,hi,hq=>by
  have hlt:i<ds.length:=F0
  have e1:ds.take (i+1)=ds.take i++[ds[i]]:=(List.take_append_getElem hlt).symm;have e2:outs (ds.take (i+1))=outs (ds.take i)++ds[i].2.1:=by rw[e1,xE];simp[outs]
  have e3:outs ds=outs (ds.take (i+1))++outs (ds.drop (i+1)):=by rw[<-xE,Aib]
  have e4:(outs (ds.take i)).length+ds[i].2.1.length<=20000:=by
   have:=congrArg List.length e3;rw[Abr,e2,Abr]at this;omega
  rw[Ii,Oc,Abw F2,Cu hlt,Aa,Ca,Aa,<-e2,RG i F0];exact fD ds hd ho j (i+1) q F0 F0
theorem Q0{ds:List qz}(hd:ds.length<=200)(ho:(outs ds).length<=20000):Ah ds=some (outs ds):=fD ds hd ho ds.length 0 As F0 Aj4
def AG(L:Nat):List dU->Nat->Nat×Bool
 |[],n=>(n,false)
 |st::l,n=>if st.1=3 then(n,true)else if st.1=1 then AG L l (n+min st.2.1.toNat (L-n))else AG L l n
theorem pW(L:Nat):∀(l:List dU) (n:Nat),n<=L-> (AG L l n).1<=L
 |[],n,h=>h
 |st::l,n,h=>by
  rw[AG];split
  ·exact h
  ·split
   ·exact pW L l _ F0
   ·exact pW L l n h
theorem kO(inp:LB)(hin:inp.length<=20000)(l:List dU)(hl:l.length<=200)(hv:∀st∈l,VS st):∀(j i n q:Nat),i+j=l.length->j<q->n<=inp.length->Gg inp l q (n:Int) (i:Int)=some (inp.take (AG inp.length (l.drop i) n).1,(AG inp.length (l.drop i) n).2)
 |j,i,n,0,_,hq,_=>absurd hq (Ag2 _)
 |0,i,n,q+1,hi,hq,hn=>by
  rw[Gg,Ju,Aa1 F2,Oj,Zn,Tj,Aa,List.drop_eq_nil_of_le F0,AG,Aex]
 |j+1,i,n,q+1,hi,hq,hn=>by
  have hlt:i<l.length:=F0
  obtain⟨hop,hn0,hn1⟩:=hv l[i] (Aiq hlt);have hdrop:l.drop i=l[i]::l.drop (i+1):=(List.getElem_cons_drop hlt).symm;rw[Gg,Ju,Abw F2,Cu hlt,Aa,hdrop,AG];by_cases h3:l[i].1=3
  ·rw[Abw (by rw[h3];rfl),Tj,Aa,Abw h3,Aex]
  ·have g3:¬geq l[i].1 3=true:=by rw[cU];simpa using h3
   rw[Aa1 g3,Aa,Aa1 h3];by_cases h1:l[i].1=1
   ·have e0:Ag (Ac inp) (n:Int)=((inp.length-n:Nat):Int):=by rw[Ac,Km];omega
    have e1:Er l[i].2.1 (Ag (Ac inp) (n:Int))=((min l[i].2.1.toNat (inp.length-n):Nat):Int):=by rw[e0,IW];omega
    have e2:Ad (n:Int) ((min l[i].2.1.toNat (inp.length-n):Nat):Int)=((n+min l[i].2.1.toNat (inp.length-n):Nat):Int):=by rw[Ar];omega
    rw[Abw (by rw[h1];rfl),Aa,Abw h1,e1,e2,RG i F0];exact kO inp hin l hl hv j (i+1) _ q F0 F0 F0
   ·rw[Aa1 (by rw[cU];simpa using h1),Aa1 h1,RG i F0];exact kO inp hin l hl hv j (i+1) n q F0 F0 hn
theorem dD{t z:LB}(h:i<t.length):Jy (t++z) i=Jy t i:=by
 rw[Jy,Jy,List.getD_eq_getElem?_getD,List.getD_eq_getElem?_getD,List.getElem?_append_left h]
theorem TJ(t:LB)(a i:Nat):Jy (t.drop a) i=Jy t (a+i):=by
 rw[Jy,Jy,List.getD_eq_getElem?_getD,List.getD_eq_getElem?_getD,List.getElem?_drop]
theorem Acy{w:Nat}(hw:Eg (w:Int)){t z:LB}{a:Nat}(h:a+wB (w:Int)<=t.length):sx (wB (w:Int)) (t++z) a=sx (wB (w:Int)) t a:=by
 rcases hw with hw|hw|hw
 ·rw[hw]at h⊢;have e:wB 8=1:=rfl;rw[e]at h⊢;rw[sx,sx,Abw rfl,Abw rfl,dD F0]
 ·rw[hw]at h⊢;have e:wB 16=2:=rfl;rw[e]at h⊢;rw[sx2,sx2,dD F0,dD F0]
 ·rw[hw]at h⊢;have e:wB 24=3:=rfl;rw[e]at h⊢;rw[sx3,sx3,dD F0,dD F0,dD F0]
theorem Aa9{w:Nat}(hw:Eg (w:Int))(t:LB)(a b:Nat):sx (wB (w:Int)) (t.drop a) b=sx (wB (w:Int)) t (a+b):=by
 rcases hw with hw|hw|hw
 ·rw[hw,show wB 8=1 from rfl,sx,sx,Abw rfl,Abw rfl,TJ]
 ·rw[hw,show wB 16=2 from rfl,sx2,sx2,TJ,TJ];rfl
 ·rw[hw,show wB 24=3 from rfl,sx3,sx3,TJ,TJ,TJ];rfl
theorem I1{w:Nat}(hw:Eg (w:Int)){t z:LB}(h:m*wB (w:Int)<=t.length):UO (wB (w:Int)) m (t++z)=UO (wB (w:Int)) m t:=by
 rw[UO,UO];apply Ajk;intro x hx;have hx:=List.mem_range.1 hx;have h2:(x+1)*wB (w:Int)<=m*wB (w:Int):=Acb _ hx;rw[Ady,Agy]at h2;rw[Acy hw F0]
theorem Aac{w:Nat}(hw:Eg (w:Int))(t:LB)(m j:Nat):UO (wB (w:Int)) (m+j) t=UO (wB (w:Int)) m t++UO (wB (w:Int)) j (t.drop (m*wB (w:Int))):=by
 rw[UO,UO,UO,List.range_add,Aim,List.map_map];congr 1;apply Ajk;intro x hx
 show Int32.ofInt (sx (wB (w:Int)) t ((m+x)*wB (w:Int)))=_;rw[Aa9 hw,Ady]
theorem Ada{w:Nat}(hw:Eg (w:Int))(t:LB)(a:Nat): -(hB (w:Int))<=sx (wB (w:Int)) t a/\sx (wB (w:Int)) t a<hB (w:Int):=by
 have b0:=bJ t a;have b1:=bJ t (a+1);have b2:=bJ t (a+2);rcases hw with hw|hw|hw
 ·rw[hw,show wB 8=1 from rfl,show hB 8=128 from rfl,sx,Abw rfl];omega
 ·rw[hw,show wB 16=2 from rfl,show hB 16=32768 from rfl,sx2];split<;>omega
 ·rw[hw,show wB 24=3 from rfl,show hB 24=8388608 from rfl,sx3];split<;>omega
theorem H0{w:Nat}(hw:Eg (w:Int))(m:Nat)(t:LB):mh (w:Int) (UO (wB (w:Int)) m t):=by
 intro x hx;rw[UO,List.mem_map]at hx;obtain⟨k,_,rfl⟩:=hx;have h:=Ada hw t (k*wB (w:Int));have hh:=iS (w:Int);rw[RK F0 F0];exact h
theorem TB(c L:Nat):∀(k:Nat) (x y:LX),k*(L*c)<=x.length->Ew c (x++y) (List.replicate k (L:Int))=Ew c x (List.replicate k (L:Int))
 |0,x,y,_=>rfl
 |k+1,x,y,h=>by
  rw[Ady,Agy]at h;rw[Ah9,Ew,Ew,Aex,Ai0 F0,Ah7 F0,TB c L k _ y Ako]
theorem cA(c:Nat):∀(l m:LI) (x:LX),(∀z∈l,0<=z)->Ew c x (l++m)=Ew c x l++Ew c (x.drop (l.sum.toNat*c)) m
 |[],m,x,_=>by simp[Ew]
 |z::l,m,x,h=>by
  have hz:=h z Agn;have hl:0<=l.sum:=sZ λy hy=>h y (Aek _ hy);rw[Ai9,Ew,Ew,cA c l m _ (λy hy=>h y (Aek _ hy)),Ai9,Ajz,Ahh,show(z+l.sum).toNat=z.toNat+l.sum.toNat by omega,Ady]
theorem W0(k L:Nat):∀z∈List.replicate k (L:Int),0<=z:=λz hz=>by rw[(List.mem_replicate.1 hz).2];omega
theorem lS(k L c:Nat):(List.replicate k (L:Int)).sum.toNat*c=k*(L*c):=by rw[pY,Aex,Ahb]
theorem zG(c L k:Nat)(x:LX)(h:x.length=(k+1)*(L*c)):Ew c x (List.replicate (k+1) (L:Int))=Ew c x (List.replicate k (L:Int))++[x.drop (k*(L*c))]:=by
 rw[List.replicate_succ',cA c _ _ _ (W0 k L),lS,Ew,Ew,Aex,Af8 (by rw[Ae0,h,Ady];omega)]
theorem Ake{p:Prop}(h:p:=by rw[Ady,Agy];omega):p:=h
theorem Akg{p:Prop}(h:p:=by rw[<-Ags];omega):p:=h
theorem Akm{p:Prop}(h:p:=by rw[Acw];omega):p:=h
end Go.Pl
namespace Go.Pl
open Go Go.Lv
variable{x:LX}{b:UInt8}
structure EncOk (c w r:Nat) (p:LB):Prop where
 ch:1<=c/\c<=6
 bits:Eg (w:Int)
 rate:1<=r/\r<=1048576
 pass:p.length<=64
def WZ(c w:Nat):Nat:=c*wB (w:Int)
def nE(c w:Nat)(t:LB):Nat:=t.length/WZ c w
def XE(c w:Nat)(t:LB):LX:=UO (wB (w:Int)) (nE c w t*c) t
def RE(c w:Nat)(t:LB):LB:=t.drop (nE c w t*WZ c w)
def kE(c w r:Nat)(t:LB):Nat:=nE c w t/Al r
def SE(c w r:Nat)(t:LB):LX:=(XE c w t).drop (kE c w r t*(Al r*c))
def FE(c w r:Nat)(p t:LB):List LB:=(Ew c (XE c w t) (List.replicate (kE c w r t) (Al r:Int))).map (Vx (w:Int) c (Qj p))
def Ku(c r n:Nat):Prop:=n*c<=4000/\ (n=0\/ (n-1)/Al r+1<=1000)
instance(c r n:Nat):Decidable (Ku c r n):=by unfold Ku;exact inferInstance
theorem Ku.mono{c r n m:Nat}(h:Ku c r n)(hm:m<=n):Ku c r m:=by
 obtain⟨h1,h2⟩:=h;have h3:=Acb c hm;have h4:(m-1)/Al r<= (n-1)/Al r:=Nat.div_le_div_right F0;refine⟨F0,?_⟩;omega
section
variable {c w r:Nat} {p:LB} (h:EncOk c w r p) (t:LB)
include h
theorem YE:1<=WZ c w/\WZ c w<=18:=by
 have h1:=W2 (w:Int);have h2:=h.ch;have h3:=Ajv (show 0<c by omega) (show 0<wB (w:Int) by omega);have h4:c*wB (w:Int)<=6*3:=Aic h2.2 h1.2;unfold WZ;omega
theorem I4:Sg (c:Int) (w:Int)=some (WZ c w:Int):=by
 have h2:=h.ch;have hw3:w=8\/w=16\/w=24:=by have:=h.bits;unfold Eg at this;omega
 rcases hw3 with rfl|rfl|rfl
 ·show some (Bs (Bq (c:Int) (8:Int)) 8)=_;rw[Nk,show(c:Int)*8=((c*8:Nat):Int) by omega,show(8:Int)=((8:Nat):Int)from rfl,FF,WZ,show wB ((8:Nat):Int)=1 from rfl];congr 2;omega
 ·show some (Bs (Bq (c:Int) (16:Int)) 8)=_;rw[Nk,show(c:Int)*16=((c*16:Nat):Int) by omega,show(8:Int)=((8:Nat):Int)from rfl,FF,WZ,show wB ((16:Nat):Int)=2 from rfl];congr 2;omega
 ·show some (Bs (Bq (c:Int) (24:Int)) 8)=_;rw[Nk,show(c:Int)*24=((c*24:Nat):Int) by omega,show(8:Int)=((8:Nat):Int)from rfl,FF,WZ,show wB ((24:Nat):Int)=3 from rfl];congr 2;omega
theorem jB:t.length=nE c w t*WZ c w+(RE c w t).length/\ (RE c w t).length<WZ c w:=by
 have hs:=YE h;have h1:=Nat.div_add_mod t.length (WZ c w);have h2:=Ai5 t.length (show 0<WZ c w by omega);rw[Ag4]at h1;have e:(RE c w t).length=t.length-nE c w t*WZ c w:=by rw[RE,Ae0]
 have e2:nE c w t*WZ c w=t.length/WZ c w*WZ c w:=rfl;omega
omit h in
theorem RH:(XE c w t).length=nE c w t*c:=gU _ _ _
theorem sQ:mh (w:Int) (XE c w t):=H0 h.bits _ _
theorem nW:nE c w t=kE c w r t*Al r+nE c w t %Al r/\nE c w t %Al r<Al r:=by
 have _:=h;have hp:=Kr r;have h1:=Nat.div_add_mod (nE c w t) (Al r);rw[Ag4]at h1;exact⟨h1.symm,Ai5 _ F0⟩
theorem QH:(SE c w r t).length=nE c w t %Al r*c:=by
 have h1:=(nW h t).1;rw[SE,Ae0,RH]
 conv=>lhs;rw[h1]
 rw[Ady,<-Ahb,Nat.add_sub_cancel_left]
omit h in
theorem cP:(FE c w r p t).length=kE c w r t:=by rw[FE,List.length_map,KY,Age]
theorem Acf(b:UInt8)(hl:(RE c w t).length+1<WZ c w):nE c w (t++[b])=nE c w t/\XE c w (t++[b])=XE c w t/\RE c w (t++[b])=RE c w t++[b]:=by
 have h1:=jB h t;have hs:=YE h;have hn:nE c w (t++[b])=nE c w t:=by
  rw[nE,Abr,Ail];exact Aik F0 Ake
 refine⟨hn,?_,?_⟩
 ·rw[XE,hn,XE];exact I1 h.bits (by
   have e:nE c w t*c*wB (w:Int)=nE c w t*WZ c w:=by rw[WZ,Ahb]
   rw[e];omega)
 ·rw[RE,hn,RE,Ah7 F0]
theorem Acd(b:UInt8)(hl:¬(RE c w t).length+1<WZ c w):(RE c w t).length+1=WZ c w/\nE c w (t++[b])=nE c w t+1/\XE c w (t++[b])=XE c w t++UO (wB (w:Int)) c (RE c w t++[b])/\RE c w (t++[b])=[]:=by
 have h1:=jB h t;have hs:=YE h;have hn:nE c w (t++[b])=nE c w t+1:=by
  rw[nE,Abr,Ail];exact Aik Ake (by rw[Ady,Ady,Agy];omega)
 have e:nE c w t*c*wB (w:Int)=nE c w t*WZ c w:=by rw[WZ,Ahb]
 refine⟨F0,hn,?_,?_⟩
 ·rw[XE,hn,Ady,Agy,Aac h.bits,I1 h.bits (by rw[e];omega),e,Ah7 F0];rfl
 ·rw[RE,hn,Ah8];rw[Abr,Ail,Ady,Agy];omega
theorem qA:kE c w r t*(Al r*c)<= (XE c w t).length:=by
 have h1:=(nW h t).1;rw[RH]
 conv=>rhs;rw[h1]
 rw[Ady,<-Ahb];omega
theorem Ae5(hl:(RE c w t).length+1<WZ c w):kE c w r (t++[b])=kE c w r t/\SE c w r (t++[b])=SE c w r t/\FE c w r p (t++[b])=FE c w r p t:=by
 obtain⟨h1,h2,h3⟩:=Acf h t b hl;have hk:kE c w r (t++[b])=kE c w r t:=by rw[kE,h1,kE]
 exact⟨hk,by rw[SE,hk,h2,SE],by rw[FE,hk,h2,FE]⟩
theorem Afz(hl:¬(RE c w t).length+1<WZ c w):
  ((SE c w r t++UO (wB (w:Int)) c (RE c w t++[b])).length<Al r*c->kE c w r (t++[b])=kE c w r t/\SE c w r (t++[b])=SE c w r t++UO (wB (w:Int)) c (RE c w t++[b])/\FE c w r p (t++[b])=FE c w r p t)/\
  (¬(SE c w r t++UO (wB (w:Int)) c (RE c w t++[b])).length<Al r*c-> (SE c w r t++UO (wB (w:Int)) c (RE c w t++[b])).length=Al r*c/\kE c w r (t++[b])=kE c w r t+1/\SE c w r (t++[b])=[]/\FE c w r p (t++[b])=FE c w r p t++[Vx (w:Int) c (Qj p) (SE c w r t++UO (wB (w:Int)) c (RE c w t++[b]))]):=by
 obtain⟨_,h1,h2,h3⟩:=Acd h t b hl;obtain⟨d1,d2⟩:=nW h t;have hsl:=QH h t;have hc:=h.ch;have hp:=Kr r;have hdk:=qA h t;have hlen:(SE c w r t++UO (wB (w:Int)) c (RE c w t++[b])).length=(nE c w t %Al r+1)*c:=by rw[Abr,hsl,gU,Ady,Agy]
 rw[hlen];constructor
 ·intro hlt;have hlt2:nE c w t %Al r+1<Al r:=Nat.lt_of_mul_lt_mul_right hlt;have hk:kE c w r (t++[b])=kE c w r t:=by
   rw[kE,h1];exact Aik F0 Ake
  refine⟨hk,?_,?_⟩
  ·rw[SE,hk,h2,Ah7 hdk,SE]
  ·rw[FE,hk,h2,TB c (Al r) _ _ _ hdk,FE]
 ·intro hge;have Ajr:Al r<=nE c w t %Al r+1:=by
   refine Nat.le_of_not_lt λhh=>hge ?_;exact Nat.mul_lt_mul_of_pos_right hh hc.1
  have heq:nE c w t %Al r+1=Al r:=F0
  have hk:kE c w r (t++[b])=kE c w r t+1:=by
   rw[kE,h1];exact Aik Ake (by rw[Ady,Ady,Agy];omega)
  have hXl:(XE c w (t++[b])).length=(kE c w r t+1)*(Al r*c):=by
   rw[RH,h1,<-Ahb];congr 1;rw[Ady,Agy];omega
  refine⟨by rw[heq],hk,?_,?_⟩
  ·rw[SE,hk,<-hXl,Ai1]
  ·rw[FE,hk,zG c (Al r) _ _ hXl,Aim,h2,TB c (Al r) _ _ _ hdk,Ah7 hdk,FE];rfl
theorem B0(hR:Ku c r (nE c w t)):∀f∈FE c w r p t,5<=f.length/\f.length<= (81*(Al r*c)+7)/8+4:=by
 intro f hf;obtain⟨y,hy,rfl⟩:=List.mem_map.1 hf;have hx:(XE c w t).take (kE c w r t*(Al r*c))++(XE c w t).drop (kE c w r t*(Al r*c))=XE c w t:=Aib _ _;have hdk:=qA h t;have hpr:=TB c (Al r) (kE c w r t) ((XE c w t).take (kE c w r t*(Al r*c))) ((XE c w t).drop (kE c w r t*(Al r*c))) Akm;rw[hx]at hpr;rw[hpr]at hy;have hp:=Kr r;obtain⟨k,hk,hk2⟩:=List.getElem_of_mem hy;have hl1:∀z∈List.replicate (kE c w r t) (Al r:Int),1<=z:=λz hz=>by rw[(List.mem_replicate.1 hz).2];omega
 have hlx:((XE c w t).take (kE c w r t*(Al r*c))).length=(List.replicate (kE c w r t) (Al r:Int)).sum.toNat*c:=by rw[lS,Acw];omega
 have hg:=kC c h.ch.1 _ _ hl1 hlx k (by rw[KY]at hk;exact hk) hk;rw[hk2,List.getElem_replicate,Aex]at hg;obtain⟨a1,a2,_,_⟩:=XA c h.ch.1 _ _ hl1 hlx y hy;have hle:y.length<=4000:=by
  have:=hR.1;have h2:((XE c w t).take (kE c w r t*(Al r*c))).length<= (XE c w t).length:=by rw[Acw];omega
  rw[RH]at h2;omega
 have h5:=vI (w:Int) c (Qj p) y a1 hle;have he:=FR c (Jt (w:Int) c (Qj p) y) y.length;refine⟨h5.1,?_⟩;rw[Vx,Abr,Eo,vM,Nw,<-hg];omega
omit h in
theorem oY(b:List LB)(f a M:Int)(hM:Ad (Bs (Ad (Bq (Bq 81 f) a) 7) 8) 4=M)(hb:b.length<=100000)(hm:∀y∈b,5<=y.length/\ (y.length:Int)<=M):∀(j i q:Nat),i+j=b.length->j<q->Gi b f a q (i:Int)=some true
 |j,i,0,_,h=>absurd h (Ag2 _)
 |0,i,q+1,hi,_=>by
  rw[Gi,Jx,Aa1 F2];rfl
 |j+1,i,q+1,hi,hq=>by
  have ih:=oY b f a M hM hb hm j (i+1) q F0 F0;have hy:=hm b[i] (Aiq _);have hi1:Ad (i:Int) 1=((i+1:Nat):Int):=by rw[Ar];omega
  rw[Gi,Jx,Abw F2,Cu,Aa,Oi,Zs,hM,Aa1 (by simp[Aj,Bu,Ac];omega),Zj,Zo,hi1];exact ih
theorem cS:Pj (c:Int) (w:Int) (r:Int) p=some ((Al r:Int),true):=by
 have hp:=h.pass;rw[Pj,SN h.rate.1 h.rate.2,Aa];simp only;rw[ko h.bits h.ch.1 h.ch.2,Aa];simp[Dh,MG,Ac];omega
theorem dO(hR:Ku c r (nE c w t))(p' m' n':LB)(u:Bool)(v k o:Int):Ma (c:Int) k o p' m' (SE c w r t) (FE c w r p t) n' u v (Al r:Int)=some (nE c w t:Int):=by
 have hc:=h.ch;obtain⟨d1,d2⟩:=nW h t;have hsl:=QH h t;have hlt:=BS h.rate.2;have hn:nE c w t<=4000:=by
  have:=hR.1;have:nE c w t*1<=nE c w t*c:=Aij _ hc.1;omega
 have e1:Bq (Ac (FE c w r p t)) (Al r:Int)=((kE c w r t*Al r:Nat):Int):=by
  rw[Ac,cP,Nk Akg Akg,<-Ags]
 have e2:Bs (Ac (SE c w r t)) (c:Int)=((nE c w t %Al r:Nat):Int):=by
  rw[Ac,hsl,FF (by
   have:nE c w t %Al r*c<=nE c w t*c:=Acb _ (Ajy _ _);have:=hR.1;omega),Nat.mul_div_cancel _ F0]
 rw[Ma,Cy Aka,Aa,e1,e2,Ar];congr 1;omega
theorem oC(hR:Ku c r (nE c w t)):Ic (c:Int) (w:Int) (r:Int) p (RE c w t) (SE c w r t) (FE c w r p t) [] false 0=some 0:=by
 have hc:=h.ch;have hw:=h.bits;obtain⟨d1,d2⟩:=nW h t;have hsl:=QH h t;have htl:=jB h t;have hlt:=BS h.rate.2;have hp:=Kr r;have hfl:=cP (c:=c) (w:=w) (r:=r) (p:=p) t;have hn4:=hR.1;have hmod:nE c w t %Al r*c<=nE c w t*c:=Acb _ (Ajy _ _);have hn:nE c w t<=4000:=by
  have:nE c w t*1<=nE c w t*c:=Aij _ hc.1;omega
 have hfr:kE c w r t+(if 0<nE c w t %Al r then 1 else 0)<=1000:=by
  rcases hR.2 with h0|h0
  ·have:kE c w r t=0:=by rw[kE,h0];exact Nat.zero_div _
   rw[h0,Nat.zero_mod,this];decide
  ·generalize hq:Al r=L at*
   have hk:kE c w r t=nE c w t/L:=by rw[kE,hq]
   by_cases hz:0<nE c w t %L
   ·rw[Abw hz];have:(nE c w t-1)/L=kE c w r t:=Aik F0 Ake;omega
   ·rw[Aa1 hz];by_cases hk0:kE c w r t=0
    ·omega
    ·obtain⟨k',hk'⟩:∃k',kE c w r t=k'+1:=⟨kE c w r t-1,F0⟩;rw[hk',Ady,Agy]at d1;have:(nE c w t-1)/L=k':=Aik F0 Ake;omega
 have hcnt:=dO h t hR p (RE c w t) [] false 0 (w:Int) (r:Int);have hin:mh (w:Int) (SE c w r t):=λv hv=>sQ h t v (Ai3 hv);have hwc:Kw (w:Int) (SE c w r t)=some 0:=by rw[lH hw _ F0,oV hw F0 hin]
 have hroom:∀k:Int,k<=1000->Lo (c:Int) (w:Int) (r:Int) p (RE c w t) (SE c w r t) (FE c w r p t) [] false 0 k (nE c w t:Int)=some true:=by
  intro k hk;rw[Lo,Nk Akg Akg,<-Ags];simp[MG];omega
 have hLc:Al r*c<=1100000*6:=Aic F0 hc.2;have hM:Ad (Bs (Ad (Bq (Bq 81 (Al r:Int)) (c:Int)) 7) 8) 4=(((81*(Al r*c)+7)/8+4:Nat):Int):=by
  have e1:Bq 81 (Al r:Int)=((81*Al r:Nat):Int):=by rw[Nk];omega
  have e2:Bq ((81*Al r:Nat):Int) (c:Int)=((81*(Al r*c):Nat):Int):=by
   rw[Nk (by rw[<-Ags,Ahb];omega) (by rw[<-Ags,Ahb];omega),<-Ags,Ahb]
  rw[e1,e2,Ar (a:=((81*(Al r*c):Nat):Int)) (b:=7) F0 F0,show((81*(Al r*c):Nat):Int)+7=((81*(Al r*c)+7:Nat):Int) by omega,show(8:Int)=((8:Nat):Int)from rfl,FF,Ar];omega
 have hloop:=oY (FE c w r p t) (Al r:Int) (c:Int) _ hM F0 (λy hy=>by
  have:=B0 h t hR y hy;omega) (FE c w r p t).length 0 As F0 Aj4
 have Agp:Pu (c:Int) (w:Int) (r:Int) p (RE c w t) (SE c w r t) (FE c w r p t) [] false 0 (Al r:Int)=some true:=by
  have Ah0:Bs (Ac (SE c w r t)) (c:Int)=((nE c w t %Al r:Nat):Int):=by
   rw[Ac,hsl,FF,Nat.mul_div_cancel _ F0]
  have Ah1:Ip (Ac (SE c w r t)) (c:Int)=0:=by rw[Ac,hsl,XG,Aid];rfl
  have hkk:kE c w r t<=1000:=by split at hfr<;>omega
  rw[Pu,Qe,Aa1 F4,I4 h,Aa,Aa1 (by rw[Kv,Ac];simp;omega),Cy Aka,Aa,Ah1,Aa1 F4,Aa,Ah0,Aa1 (by simp[Kv,Bu,Ac,hfl];omega),Om,Oq,hwc,Aa,Aa1 F4];by_cases hz:0<nE c w t %Al r
  ·rw[Abw hz]at hfr;have hpos:=Ajv hz (show 0<c by omega);rw[Abw Aj8,On,Jw,hcnt,Aa,Ac,hfl,Ar,hroom _ F0,Aa,Aa1 F4,Oy,Jv,Ok];exact hloop
  ·have h0:nE c w t %Al r=0:=F0
   rw[h0,Ajs]at hsl;rw[Aa1 (by rw[Bu,Ac];simp only[Acs];omega),On,Jw,hcnt,Aa,Ac,hfl,hroom _ F0,Aa,Aa1 F4,Oy,Jv,Ok];exact hloop
 rw[Ic,cS h,Aa];simp only;rw[Aa1 F4,Aa1 F4,Aa1 F4,Agp,Aa,Aa1 F4]
end
theorem WI(a:List LB)(ha:∀y∈a,y.length<=17179869184)(w:List LB)(hw:w.length=a.length)(ha2:a.length<=100000)(b f g:Int)(h:LB)(k:Bool)(m:Int)(n:LB)(o:LX)(p:LB):∀(j i q:Nat),i+j=a.length->j<q->Jk w a b f g h k m n o p q (i:Int) a=some (b,f,g,h,n,o,a,p,k,m)
 |j,i,0,_,h=>absurd h (Ag2 _)
 |0,i,q+1,hi,_=>by
  have hc:IB w a=a:=by rw[IB,hw,Ajo,Ah8 F0,Afk]
  rw[Jk,Py,hc,Aa1 F2];rfl
 |j+1,i,q+1,hi,hq=>by
  have ih:=WI a ha w hw ha2 b f g h k m n o p j (i+1) q F0 F0;have hc:IB w a=a:=by rw[IB,hw,Ajo,Ah8 F0,Afk]
  have hi1:Ad (i:Int) 1=((i+1:Nat):Int):=by rw[Ar];omega
  have hy:=ha a[i] (Aiq _);rw[Jk,Py,hc,Abw F2,Cu,Aa,Aa,Ax,Ca (by simpa using hy),Aa,Aa,Aa,Ahz,EU _ F0,Aa,List.set_getElem_self,hi1];exact ih
theorem lF{a:List LB}(ha:∀y∈a,y.length<=17179869184)(ha2:a.length<=100000)(b f g:Int)(h:LB){x:LB}{s:LX}{z:LB}(hx:x.length<=17179869184)(hs:s.length<=17179869184)(hz:z.length<=17179869184)(k:Bool)(m:Int):Tn b f g h x s a z k m=some (b,f,g,h,x,s,a,z,k,m):=by
 have hl:=WI a ha (List.replicate a.length []) (by rw[Age]) ha2 b f g h k m x s z a.length 0 As F0 Aj4;have hc:IB (List.replicate a.length []) a=a:=by rw[IB,Age,Ajo,Ah8 (by rw[Age];omega),Afk]
 rw[Tn,Ys,Ax,Ca (by simpa using hx),Aa,Aa,By,Ca (by simpa using hs),Aa,Aa,Ax,Ca (by simpa using hz),Aa,Aa,ME,Yw,wQ Akf Akf,Aa,Cy (by rw[Dh];simp),Aa];simp only[Ahz,Ac,Aex,hc];exact hl
section
variable {c w r:Nat} {p:LB} (h:EncOk c w r p)
include h
theorem nM(t:LB)(hR:Ku c r (nE c w t)):Jr (c:Int) (w:Int) (r:Int) p (RE c w t) (SE c w r t) (FE c w r p t) [] false 0=some ((c:Int),(w:Int),(r:Int),p,RE c w t,SE c w r t,FE c w r p t,[],false,0,(Al r:Int),0):=by
 have h1:=jB h t;have hs:=YE h;have hsl:=QH h t;have hfl:=cP (c:=c) (w:=w) (r:=r) (p:=p) t;have hn4:=hR.1;have hmod:nE c w t %Al r*c<=nE c w t*c:=Acb _ (Ajy _ _);have hn:nE c w t<=4000:=by
  have:nE c w t*1<=nE c w t*c:=Aij _ h.ch.1;omega
 have hk:kE c w r t<=nE c w t:=Agj _ _;have hlt:=BS h.rate.2;have hLc:Al r*c<=1100000*6:=Aic F0 h.ch.2;have U3:=lF (a:=FE c w r p t) (λy hy=>by have:=B0 h t hR y hy;omega) F0 (c:Int) (w:Int) (r:Int) p (x:=RE c w t) (s:=SE c w r t) (z:=[]) F0 F0 Aj6 false 0;rw[Jr,Vt,oC h t hR,Aa,Aa1 F4,SN h.rate.1 h.rate.2,Aa];simp only;rw[Aa1 F4,Aa1 F4,Ks,Kf,U3,Aa]
abbrev Agu:=Int×Int×Int×LB×LB×LX×(List LB)×LB×Bool×Int×Int
def gu(c w r:Nat)(p t:LB):Agu:=if Ku c r (nE c w t)then((c:Int),(w:Int),(r:Int),p,RE c w t,SE c w r t,FE c w r p t,[],false,0,0)else((c:Int),(w:Int),(r:Int),p,[],[],[],[],false,18,18)
theorem WU(t b:LB)(hb:b.length<=1000000):∀(j u q:Nat) (T:LB),u+j=b.length->j<q->T=t++b.take u->Ku c r (nE c w T)->Fl (WZ c w:Int) b (c:Int) (w:Int) (r:Int) p false 0 (Al r:Int) [] q (u:Int) (RE c w T) (SE c w r T) (FE c w r p T)=some (gu c w r p (t++b))
 |j,u,0,T,_,h,_,_=>absurd h (Ag2 _)
 |0,u,q+1,T,hu,_,hT,hR=>by
  rw[Af8 F0]at hT;rw[Fl,Od,Aa1 F2,Wm,FV,gu,<-hT,Abw hR]
 |j+1,u,q+1,T,hu,hq,hT,hR=>by
  have hc:=h.ch;have hs:=YE h;have hu1:Ad (u:Int) 1=((u+1:Nat):Int):=by rw[Ar];omega
  have hT':T++[b[u]' F0]=t++b.take (u+1):=by rw[hT,Wa F0,Agt]
  have hpre:(T++[b[u]' F0]).length<= (t++b).length:=by rw[hT',Abr,Abr,Acw];omega
  have hmono:nE c w (T++[b[u]' F0])<=nE c w (t++b):=Nat.div_le_div_right hpre;have hgd:Af b (u:Int)=some (b[u]' F0):=Cu;generalize b[u]' F0=d at hT' hpre hmono hgd⊢;have ih:=WU t b hb j (u+1) q (T++[d]) F0 F0 hT';have htl:=jB h T;have hsl:=QH h T;have hfl:=cP (c:=c) (w:=w) (r:=r) (p:=p) T;have hn4:=hR.1;have hmod:nE c w T %Al r*c<=nE c w T*c:=Acb _ (Ajy _ _);have hn:nE c w T<=4000:=by
   have:nE c w T*1<=nE c w T*c:=Aij _ hc.1;omega
  have hk:kE c w r T<=nE c w T:=Agj _ _;have hlt:=BS h.rate.2;rw[Fl,Od,Abw F2,hgd,Aa,Ca F6,Aa];by_cases hlt1:(RE c w T).length+1<WZ c w
  ·obtain⟨m1,m2,m3⟩:=Acf h T d hlt1;obtain⟨g1,g2,g3⟩:=Ae5 h T (b:=d) hlt1;rw[m1,m3,g2,g3]at ih;rw[Abw (by rw[Aj,Ac,Abr,Ail];simp;omega),If,Nx,hu1];exact ih hR
  ·obtain⟨m0,m1,m2,m3⟩:=Acd h T d hlt1;obtain⟨g1,g2⟩:=Afz h T (b:=d) hlt1;have hcnt:=dO h T hR p (RE c w T++[d]) [] false 0 (w:Int) (r:Int);have hroom:Lo (c:Int) (w:Int) (r:Int) p (RE c w T++[d]) (SE c w r T) (FE c w r p T) [] false 0 (Ad (Ac (FE c w r p T)) 1) (Ad (nE c w T:Int) 1)=some (decide ((kE c w r T:Int)+1<=1000)&&decide ((((nE c w T+1)*c:Nat):Int)<=4000)):=by
    have hle:(nE c w T+1)*c<=4001*6:=Aic F0 hc.2;rw[Lo,Ac,hfl,Ar,Ar,show(nE c w T:Int)+1=((nE c w T+1:Nat):Int) by omega,Nk Akg Akg,<-Ags,MG,MG]
   rw[Aa1 (by rw[Aj,Ac,Abr,Ail];simp;omega),hcnt,Aa,hroom,Aa];by_cases hok:kE c w r T+1<=1000/\ (nE c w T+1)*c<=4000
   ·have hR':Ku c r (nE c w (T++[d])):=by rw[m1];exact⟨hok.2, .inr (by rw[Nat.add_sub_cancel];exact hok.1)⟩
    have ih:=ih hR';have Ah2:=pM (RE c w T++[d]) h.bits (m:=c) (by rw[Abr,Ail,m0];rfl) F0;have hLc:Al r*c<=1100000*6:=Aic F0 hc.2;have hmul:Bq (Al r:Int) (c:Int)=((Al r*c:Nat):Int):=by rw[Nk Akg Akg,<-Ags]
    rw[Aa1 (by rw[decide_eq_true (show(kE c w r T:Int)+1<=1000 by omega),decide_eq_true (show(((nE c w T+1)*c:Nat):Int)<=4000 by omega)];decide),Vy,FZ,Ah2,Aa];simp only;rw[Aa1 F4,Ca (by rw[gU];omega),Aa,hmul];by_cases hfull:(SE c w r T++UO (wB (w:Int)) c (RE c w T++[d])).length<Al r*c
    ·obtain⟨k1,k2,k3⟩:=g1 hfull;rw[m3,k2,k3]at ih;rw[Abw (by rw[Aj,Ac];simp only[Acs];omega),Fo,Ny,Aa1 F4,If,Nx,hu1];exact ih
    ·obtain⟨k0,k1,k2,k3⟩:=g2 hfull;rw[m3,k2,k3]at ih;have hXl:Al r*c<=4000:=by
      have e:=hR'.1;have hlen:(XE c w (T++[d])).length=nE c w (T++[d])*c:=RH (T++[d]);have hdk:=qA (r:=r) h (T++[d]);rw[k1,Ady,Agy]at hdk;omega
     have hin:mh (w:Int) (SE c w r T++UO (wB (w:Int)) c (RE c w T++[d])):=by
      intro v hv;rw[List.mem_append]at hv;rcases hv with hv|hv
      ·exact sQ h T v (Ai3 hv)
      ·exact H0 h.bits _ _ v hv
     have hLp:=Ajv (Kr r) hc.1;have henc:=aY (t:=Qj p) (x:=SE c w r T++UO (wB (w:Int)) c (RE c w T++[d])) h.bits (jV p) hc.1 hc.2 F0 F0 (by rw[k0];exact Aid _ _) hin;rw[Aa1 (by rw[Aj,Ac];simp only[Acs];omega),oT p h.pass,Aa];simp only;rw[Aa1 F4,henc,Aa];simp only;rw[Aa1 F4,Ca F6,Aa,GL,HQ,Fo,Ny,Aa1 F4,If,Nx,hu1];exact ih
   ·have hno:¬Ku c r (nE c w (t++b)):=by
     intro hh;have:=hh.mono hmono;rw[m1]at this;obtain⟨z1,z2⟩:=this;apply hok;rw[Nat.add_sub_cancel]at z2;have hkE:kE c w r T=nE c w T/Al r:=rfl;omega
    rw[Abw (by
     rw[Afv,Bool.and_eq_false_iff,Ahu,Ahu];omega),Fo,Ny,Abw F4,Lk,Aa,gu,Aa1 hno]
theorem rz(t b:LB)(hb:b.length<=1000000)(hR:Ku c r (nE c w t)):Cw (c:Int) (w:Int) (r:Int) p (RE c w t) (SE c w r t) (FE c w r p t) [] false 0 b=some (gu c w r p (t++b)):=by
 have hl:=WU h t b hb b.length 0 As t F0 Aj4 Aj6 hR;rw[Cw,Qa,nM h t hR,Aa];simp only;rw[Aa1 F4,I4 h,Aa,HL];exact hl
theorem K8:Yc (c:Int) (w:Int) (r:Int) p=some ((c:Int),(w:Int),(r:Int),p,RE c w [],SE c w r [],FE c w r p [],[],false,0,0):=by
 have h0:nE c w []=0:=Nat.zero_div _;have hk:kE c w r []=0:=by rw[kE,h0];exact Nat.zero_div _
 rw[Yc,cS h,Aa];simp only;rw[Aa1 F4,RE,SE,FE,XE,hk,h0];simp[UO,Ew]
omit h in
theorem pB(c r:Nat):Ku c r 0:=⟨F0, .inl rfl⟩
end
theorem lJ(l:List LB)(hf:l.flatten.length<=1000000)(hl:l.length<=1000000)(v:LB)(hfin:Dr l (l.flatten.length:Int)=some v):∀(j i q:Nat),i+j=l.length->j<q->Bk l q (((l.take i).flatten.length:Nat):Int) (i:Int)=some v
 |j,i,0,_,h=>absurd h (Ag2 _)
 |0,i,q+1,hi,_=>by
  rw[Bk,Cc,Aa1 F2,Af8 F0];exact hfin
 |j+1,i,q+1,hi,hq=>by
  have ih:=lJ l hf hl v hfin j (i+1) q F0 F0;have hi1:Ad (i:Int) 1=((i+1:Nat):Int):=by rw[Ar];omega
  have hsn:(l.take (i+1)).flatten=(l.take i).flatten++l[i]:=by rw[Wa F0,List.flatten_append];simp
  have hsp:l.flatten=(l.take (i+1)).flatten++(l.drop (i+1)).flatten:=by rw[<-List.flatten_append,Aib]
  have hle:((l.take i).flatten).length+(l[i]).length<=1000000:=by
   rw[hsp,Abr,hsn,Abr]at hf;omega
  have hadd:Ad (((l.take i).flatten.length:Nat):Int) (Ac l[i])=(((l.take (i+1)).flatten.length:Nat):Int):=by
   rw[Ac,Ar,hsn,Abr];omega
  rw[Bk,Cc,Abw F2,Cu,Aa,hadd,Aa1 (by rw[Aj];simp only[Acs];omega),hi1];exact ih
theorem kA(l:List LB)(hf:l.flatten.length<=1000000)(hl:l.length<=1000000):∀(j i q:Nat),i+j=l.length->j<q->Bg l q (i:Int) (l.take i).flatten=some l.flatten
 |j,i,0,_,h=>absurd h (Ag2 _)
 |0,i,q+1,hi,_=>by
  rw[Bg,Bx,Aa1 F2,Af8 F0];rfl
 |j+1,i,q+1,hi,hq=>by
  have ih:=kA l hf hl j (i+1) q F0 F0;have hi1:Ad (i:Int) 1=((i+1:Nat):Int):=by rw[Ar];omega
  have hsn:(l.take (i+1)).flatten=(l.take i).flatten++l[i]:=by rw[Wa F0,List.flatten_append];simp
  have hsp:l.flatten=(l.take (i+1)).flatten++(l.drop (i+1)).flatten:=by rw[<-List.flatten_append,Aib]
  have hle:((l.take i).flatten).length+(l[i]).length<=1000000:=by
   rw[hsp,Abr,hsn,Abr]at hf;omega
  rw[Bg,Bx,Abw F2,Cu,Aa,Ca,Aa,hi1,<-hsn];exact ih
theorem C6(l:List LB)(hf:l.flatten.length<=1000000)(hl:l.length<=1000000):Cq l=some l.flatten:=by
 have h3:Dp l []=some l.flatten:=by
  rw[Dp,Fq,Fp];exact kA l hf hl l.length 0 As F0 Aj4
 have h11:Dr l (l.flatten.length:Int)=some l.flatten:=by
  have z:Ag (0:Int) 0=0:=F4
  rw[Dr,Fs,Aa1 (by rw[Aj];simp only[Acs];omega),Hz,Fv,z,Km,Int.sub_zero];by_cases hp:0<l.flatten.length
  ·rw[Abw (by rw[Bu];simp only[Acs];omega),show ZD (0:Int) 0 0=some ()from rfl,Aa,wQ,Aa,Ca (by simp only[List.length_nil,Age];omega),Aa];rw[show ZD (Ac ([]++List.replicate ((l.flatten.length:Nat):Int).toNat (0:UInt8))) 0 0=some () by rw[ZD,Cy];simp[Ac],Aa];simp only[NR,Int.sub_self,Int.toNat_zero,Aja];exact h3
  ·rw[Aa1 (by rw[Bu];simp only[Acs];omega)];exact h3
 have:=lJ l hf hl _ h11 l.length 0 As F0 Aj4;exact this
theorem yP{p:LB}(hp:p.length<=64):Xa p=some ((GH p:Int),0):=by
 rw[Xa,Aa1 Aj8,GH];by_cases h:p=[]
 ·rw[Abw (by rw[Dh,Ac,h];rfl),Abw h];rfl
 ·have:p.length≠0:=λe=>h (Agx e);rw[Aa1 (by rw[Dh,Ac,Aiz];omega),Aa1 h];rfl
theorem kV(a:List LB)(ha:a.length<=100000)(f g h:Int)(b k:LB)(m:LX)(n:LB)(o:Bool)(p:Int)(u v:LB)(hfin:Lr f g h b k m a n o p u (Kp a)=some (v,0)):∀(j i q:Nat),i+j=a.length->j<q->Jj a f g h b k m n o p u q (i:Int) (Kp (a.take i))=some (v,0)
 |j,i,0,_,h=>absurd h (Ag2 _)
 |0,i,q+1,hi,_=>by
  rw[Jj,Pr,Aa1 F2,Af8 F0];exact hfin
 |j+1,i,q+1,hi,hq=>by
  have ih:=kV a ha f g h b k m n o p u v hfin j (i+1) q F0 F0;have hi1:Ad (i:Int) 1=((i+1:Nat):Int):=by rw[Ar];omega
  have hll:(Kp (a.take i)).length=i:=by rw[Wc,Acw];omega
  have hsn:Kp (a.take i)++[Ac a[i]]=Kp (a.take (i+1)):=by rw[Wa F0,Kp,Kp,Aim];rfl
  rw[Jj,Pr,Abw F2,Cu,Aa,Ca F6,Aa,hsn,hi1];exact ih
theorem vZ{c w r n:Nat}(h:ClipOk c w r n x){p:LB}(hp:p.length<=64)(k:LB)(m:LX)(n':LB)(o:Bool)(e:Int):AH (c:Int) (w:Int) (r:Int) p k m (fU c w r n x p) n' o e (n:Int)=some (WB c w r n x p,0):=by
 have hn:=E8 h p;have hl:=R4 h p;have hlen:=nR (c:=c) (w:=w) (r:=r) (n:=n) (x:=x) p;have hdl:=xX p;have hfin:Lr (c:Int) (w:Int) (r:Int) p k m (fU c w r n x p) n' o e (vW (GH p) c w r n++mO p) (Kp (fU c w r n x p))=some (WB c w r n x p,0):=by
  have hh:=mB (GH p) c w r n;have ht:=wI (Kp (fU c w r n x p));have hll:=Wc (fU c w r n x p);rw[Lr,Pq,yC,Abw (Y3 h p),Aa];simp only;rw[Aa1 F4,Ca Akk,Aa,C6 _ F0 F0,Aa,Ca (by rw[Abr,Abr];omega),Aa];simp[WB]
 have hlp:=kV (fU c w r n x p) F0 (c:Int) (w:Int) (r:Int) p k m n' o e (vW (GH p) c w r n++mO p) _ hfin (fU c w r n x p).length 0 As F0 Aj4;rw[AH,Yq,yP hp,Aa];simp only;rw[Aa1 F4,sW (h.shape _ (mg p)) h.fit,Aa];simp only;rw[Aa1 F4];by_cases h0:p=[]
 ·have e2:mO p=[]:=by rw[mO,Abw h0]
  rw[e2,Afk]at hlp;rw[Aa1 (by simp[h0]),Yp,Pz];exact hlp
 ·have e2:mO p=Zi (VX p).toNat 8:=by rw[mO,Aa1 h0]
  rw[e2]at hlp;rw[Abw (by simpa using h0),O0 p hp,Aa];simp only;rw[Aa1 F4,Ca (by rw[mB,Eo];omega),Aa,Yp,Pz];exact hlp
section
variable {c w r:Nat} {p:LB} (h:EncOk c w r p) (t:LB) (hR:Ku c r (nE c w t))
include h hR
theorem wR(h1:1<=nE c w t):ClipOk c w r (nE c w t) (XE c w t):=by
 have hc:=h.ch;refine⟨hc,h.bits,h.rate,⟨h1,?_⟩,RH t,?_,sQ h t⟩
 ·rw[Nat.le_div_iff_mul_le F0];exact hR.1
 ·rcases hR.2 with h0|h0
  ·omega
  ·exact h0
omit hR in
theorem zD(h1:1<=nE c w t):fU c w r (nE c w t) (XE c w t) p=FE c w r p t++(if SE c w r t=[]then []else [Vx (w:Int) c (Qj p) (SE c w r t)]):=by
 have hc:=h.ch;have hp:=Kr r;obtain⟨d1,d2⟩:=nW h t;have hsl:=QH h t;have key:B2 c r (nE c w t) (XE c w t)=Ew c (XE c w t) (List.replicate (kE c w r t) (Al r:Int))++(if SE c w r t=[]then []else [SE c w r t]):=by
  by_cases hz:nE c w t %Al r=0
  ·have hS:SE c w r t=[]:=Agx (by rw[hsl,hz,Ajs]);rw[Abw hS,Afk,B2];congr 1;rw[hz,Aiu]at d1;have hk1:1<=kE c w r t:=by
    rcases Aiw (kE c w r t)with h0|h0
    ·rw[h0,Ajs]at d1;omega
    ·exact h0
   obtain⟨k',hk'⟩:∃k',kE c w r t=k'+1:=⟨kE c w r t-1,F0⟩;have hd:(nE c w t-1)/Al r=k':=by
    rw[hk',Ady,Agy]at d1;exact Aik F0 Ake
   rw[Dn,hd,hk',List.replicate_succ'];congr 2;rw[hk',Ady,Agy]at d1;omega
  ·have hS:SE c w r t≠ []:=by
    intro e;have:=congrArg List.length e;rw[hsl,List.length_nil]at this;rcases Nat.mul_eq_zero.1 this with h0|h0<;>omega
   have hd:(nE c w t-1)/Al r=kE c w r t:=Aik F0 Ake;have hdk:=qA (r:=r) h t;rw[Aa1 hS,B2,Dn,hd,cA c _ _ _ (W0 _ _),lS,Ew,Ew,Aex];congr 2;rw[Af8]
   ·rfl
   ·rw[Ae0,RH,<-Ahb,<-Ajh];exact Afl _
 rw[fU,key,Aim,FE];congr 1;split<;>rfl
theorem B8:Dx (c:Int) (w:Int) (r:Int) p (RE c w t) (SE c w r t) (FE c w r p t) [] false 0=
  some (if RE c w t≠ []\/nE c w t=0 then((c:Int),(w:Int),(r:Int),p,[],[],[],[],false,24,24)else((c:Int),(w:Int),(r:Int),p,[],[],[],WB c w r (nE c w t) (XE c w t) p,true,0,0)):=by
 have hc:=h.ch;have hsl:=QH h t;have hfl:=cP (c:=c) (w:=w) (r:=r) (p:=p) t;have hn4:=hR.1;have hmod:nE c w t %Al r*c<=nE c w t*c:=Acb _ (Ajy _ _);have hn:nE c w t<=4000:=by
  have:nE c w t*1<=nE c w t*c:=Aij _ hc.1;omega
 have hk:kE c w r t<=nE c w t:=Agj _ _;rw[Dx,Uf,nM h t hR,Aa];simp only;rw[Aa1 F4,dO h t hR,Aa];by_cases hbad:RE c w t≠ []\/nE c w t=0
 ·have hcond:((Ep (Ac (RE c w t)) 0)||(geq (nE c w t:Int) 0))=true:=by
   rcases hbad with h0|h0
   ·have:RE c w t≠ []:=h0;have hl:0<(RE c w t).length:=List.length_pos_iff.2 this;rw[Bu,Ac,Ah5];left;simpa using hl
   ·rw[h0];simp[Dh]
  rw[Abw hbad,Abw hcond,Lk,Aa]
 ·have hR0:RE c w t=[]:=by
   by_cases h0:RE c w t=[]
   ·exact h0
   ·exact absurd (.inl h0) hbad
  have hn1:1<=nE c w t:=by
   rcases Aiw (nE c w t)with h0|h0
   ·exact absurd (.inr h0) hbad
   ·exact h0
  have hcl:=wR h t hR hn1;have hfr:=zD h t hn1;have hcond:¬(((Ep (Ac (RE c w t)) 0)||(geq (nE c w t:Int) 0))=true):=by rw[hR0];simp[Bu,Dh,Ac];omega
  rw[Aa1 hbad,Aa1 hcond];by_cases hS:SE c w r t=[]
  ·rw[Abw hS,Afk]at hfr;have hf:=vZ hcl h.pass (RE c w t) (SE c w r t) [] false 0;rw[hfr]at hf;rw[Aa1 (by rw[hS];decide),My,Sj,hf,Aa];simp only;rw[Aa1 F4]
  ·rw[Aa1 hS]at hfr;have hl:0<(SE c w r t).length:=List.length_pos_iff.2 hS;have hin:mh (w:Int) (SE c w r t):=λv hv=>sQ h t v (Ai3 hv);have henc:=aY (t:=Qj p) (x:=SE c w r t) h.bits (jV p) hc.1 hc.2 F0 F0 (by rw[hsl];exact Aid _ _) hin;have hf:=vZ hcl h.pass (RE c w t) [] [] false 0;rw[hfr]at hf;rw[Abw (by rw[Bu,Ac];simpa using hl),oT p h.pass,Aa];simp only;rw[Aa1 F4,henc,Aa];simp only;rw[Aa1 F4,Ca F6,Aa,DP,DG,Aa1 F4,My,Sj,hf,Aa];simp only;rw[Aa1 F4]
end
structure Brst (b x:LB):Prop where
 len:x.length=b.length
 win:∃k W:Nat,0<W/\W<2^32/\Ji b^^^Ji x=2^k*W
theorem Brst.ne{b x:LB}(h:Brst b x):b≠x:=by
 obtain⟨_,k,W,h1,h2,h3⟩:=h;intro e;rw[e,Nat.xor_self]at h3;have:=Ajv (Nat.two_pow_pos k) h1;omega
inductive Pl (S D A:Int) (G:Nat->Int) (l:LI) (a:Int):UInt8->Int->Int->Prop
 |t:a<S->Pl S D A G l a 1 0 0
 |h:S<=a->a<S+22->Pl S D A G l a 2 0 0
 |d:S+22<=a->a<D->Pl S D A G l a 3 0 0
 |s:S+22<=a->D<=a->a<A->Pl S D A G l a 4 0 0
 |f (i:Nat):S+22<=a->D<=a->A<=a->i<l.length->A+(l.take i).sum<=a->a<A+(l.take (i+1)).sum->Pl S D A G l a 5 i (G i)
 |b:S+22<=a->D<=a->A<=a->A+l.sum<=a->Pl S D A G l a 6 0 0
theorem ClipOk.enc{c w r n:Nat}(h:ClipOk c w r n x){p:LB}(hp:p.length<=64):EncOk c w r p:=⟨h.ch,h.bits,h.rate,hp⟩
theorem Bh.len{o s p:LB}{f c w r n:Int}{g:LI}{a:Int}{x:LB}{e:Int}(h:Bh o s p f c w r n g a x e):p.length<=s.length/\g.length<=1000/\x.length<=13000000:=by
 cases h with
 |wt W hl hb=>exact⟨hl,W.sz.hg,by have:=W.sz.hx;omega⟩
 |er h0 hc hx hb=>exact⟨Aj6,Aj6,F0⟩
theorem Akr{p:Prop}(h:p:=by simp[Et,Bu,Ac];omega):p:=h
end Go.Pl
namespace Go.Pl
open Go Go.Lv
theorem yH(C W R:Int)(p:LB):Ff C W R p=some 2\/ (∃c w r:Nat,C=(c:Int)/\W=(w:Int)/\R=(r:Int)/\EncOk c w r p/\Ff C W R p=some 0):=by
 have key:∀(m h:Int),Ga R=some (m,h)-> (h≠0\/Eb C W=some 2\/64<p.length)-> (∃k,Eb C W=some k)->Ff C W R p=some 2:=by
  intro m h h1 h2 ⟨k,hk⟩;rw[Ff,h1,Aa];simp only;rw[hk,Aa,Abw];rcases h2 with h2|h2|h2
  ·have:Bp h 0=true:=by rw[Et];simpa using h2
   rw[this];simp
  ·rw[hk]at h2;have:=Ajd h2;subst this;simp[Et]
  ·have:Ep (Ac p) 64=true:=by rw[Bu,Ac];simp;omega
   rw[this];simp
 have hlong:∃m h,Ga R=some (m,h)/\ (h≠0↔ ¬(1<=R/\R<=1048576)):=by
  by_cases hR:1<=R/\R<=1048576
  ·obtain⟨r,rfl⟩:=Ae1 (show 0<=R by omega);exact⟨_,0,Ac1 F0 F0,by simp;omega⟩
  ·rw[Ga,Abw Aj9];exact⟨0,2,rfl,by simp;omega⟩
 have Ah3:(Eb C W=some 2)\/ (1<=C/\C<=6/\Eg W/\Eb C W=some 0):=by
  rw[Eb];by_cases hC:((Ci C 1)||(Ep C 6))=true
  ·rw[Abw hC];exact .inl rfl
  ·rw[Aa1 hC];simp only[Ah5,not_or,Bu,Aj,Acs]at hC;by_cases hb:Eg W
   ·have hh:=iS W;rw[Z6 hb,Aa,Aa1 Aki];exact .inr ⟨F0,F0,hb,rfl⟩
   ·rw[(je hb).1,Aa,Abw F4];exact .inl rfl
 obtain⟨m,hh,hl1,hl2⟩:=hlong;rcases Ah3 with h1|⟨h1,h2,h3,h4⟩
 ·exact .inl (key m hh hl1 (.inr (.inl h1)) ⟨2,h1⟩)
 ·by_cases hR:1<=R/\R<=1048576
  ·by_cases hp:64<p.length
   ·exact .inl (key m hh hl1 (.inr (.inr hp)) ⟨0,h4⟩)
   ·have hh0:hh=0:=by
     refine Classical.byContradiction λhn=>?_;exact(hl2.1 hn) hR
    obtain⟨c,rfl⟩:=Ae1 (show 0<=C by omega);obtain⟨r,rfl⟩:=Ae1 (show 0<=R by omega);have hw:∃w:Nat,W=(w:Int):=by
     rcases h3 with rfl|rfl|rfl
     ·exact⟨8,rfl⟩
     ·exact⟨16,rfl⟩
     ·exact⟨24,rfl⟩
    obtain⟨w,rfl⟩:=hw;refine .inr ⟨c,w,r,rfl,rfl,rfl,⟨F0,h3,F0,F0⟩,?_⟩;rw[Ff,hl1,Aa];simp only;rw[h4,Aa,hh0,Aa1 Akr]
  ·exact .inl (key m hh hl1 (.inl (hl2.2 hR)) ⟨0,h4⟩)
theorem Aks{p:Prop}(h:p:=by simp only[Ae0];omega):p:=h
end Go.Pl
namespace Go.Pl
open Go Go.Lv
variable{u:Bool}{v k:Int}
structure Ue where
 m:LB
 s:LX
 fr:List LB
 X:LB
 u:Bool
 v:Int
def MH(X:LB)(u:Bool)(v k:Int):Prop:=(X=[]/\u=false/\ (v=18\/v=24)/\k=v)\/ (u=true/\v=0/\k=36)
theorem MH.drop{X:LB}(h:MH X u v k)(t:Nat):MH (X.drop t) u v k:=by
 rcases h with⟨h1,h2⟩|h
 ·exact .inl ⟨by rw[h1];simp,h2⟩
 ·exact .inr h
theorem MH.ne{X:LB}(h:MH X u v k):Bp k 0=true:=by
 rcases h with⟨_,_,h1|h1,h2⟩|⟨_,_,h2⟩
 ·rw[h2,h1];decide
 ·rw[h2,h1];decide
 ·rw[h2];decide
inductive OkE (c w r:Nat) (p:LB) (L:Nat):Ue->Prop
 |live {t:LB}:t.length+L<=600->Ku c r (nE c w t)->OkE c w r p L ⟨RE c w t,SE c w r t,FE c w r p t,[],false,0⟩
 |stop {X:LB} {u:Bool} {v k:Int}:X.length<=20000->MH X u v k->OkE c w r p L ⟨[],[],[],X,u,v⟩
section
variable {c w r:Nat} {p:LB} (h:EncOk c w r p)
include h
theorem nQ{X:LB}(hX:X.length<=20000)(hs:MH X u v k):Ic (c:Int) (w:Int) (r:Int) p [] [] [] X u v=some 0:=by
 rw[Ic,cS h,Aa];simp only;rw[Aa1 F4];rcases hs with⟨rfl,rfl,h1|h1,_⟩|⟨rfl,rfl,_⟩
 ·subst h1;rw[Abw F4,Aa1 F4]
 ·subst h1;rw[Abw F4,Aa1 F4]
 ·rw[Aa1 F4,Abw (by trivial),Aa1];have:rQ (Ac X) 100000=true:=by rw[MG,Ac];simp;omega
  rw[this];decide
theorem fH{X:LB}(hX:X.length<=20000)(hs:MH X u v k):Jr (c:Int) (w:Int) (r:Int) p [] [] [] X u v=some ((c:Int),(w:Int),(r:Int),p,[],[],[],X,u,v,(Al r:Int),k):=by
 have U3:=lF (a:=[]) (λy hy=>by simp at hy) Aj6 (c:Int) (w:Int) (r:Int) p (x:=[]) (s:=[]) (z:=X) Aj6 Aj6 F0 u v;rw[Jr,Vt,nQ h hX hs,Aa,Aa1 F4,SN h.rate.1 h.rate.2,Aa];simp only;rcases hs with⟨h0,h2,h1|h1,h3⟩|⟨h2,h1,h3⟩
 ·rw[h1]at U3⊢;rw[Abw F4,Ks,Kf,U3,Aa,h3,h1]
 ·rw[h1]at U3⊢;rw[Abw F4,Ks,Kf,U3,Aa,h3,h1]
 ·rw[h1,h2]at U3⊢;rw[Aa1 F4,Abw rfl,Ks,Kf,U3,Aa,h3]
theorem JH{X:LB}(hX:X.length<=20000)(hs:MH X u v k)(b:LB):Cw (c:Int) (w:Int) (r:Int) p [] [] [] X u v b=some ((c:Int),(w:Int),(r:Int),p,[],[],[],X,u,v,k):=by
 rw[Cw,Qa,fH h hX hs,Aa];simp only;rw[Abw hs.ne]
theorem SV{X:LB}(hX:X.length<=20000)(hs:MH X u v k):Dx (c:Int) (w:Int) (r:Int) p [] [] [] X u v=some ((c:Int),(w:Int),(r:Int),p,[],[],[],X,u,v,k):=by
 rw[Dx,Uf,fH h hX hs,Aa];simp only;rw[Abw hs.ne]
def AP(c w r:Nat)(p t:LB):Ue:=if Ku c r (nE c w t)then⟨RE c w t,SE c w r t,FE c w r p t,[],false,0⟩else⟨[],[],[],[],false,18⟩
def T9(c w r:Nat)(p t:LB):Ue:=if Ku c r (nE c w t)then(if RE c w t≠ []\/nE c w t=0 then⟨[],[],[],[],false,24⟩else⟨[],[],[],WB c w r (nE c w t) (XE c w t) p,true,0⟩)else⟨[],[],[],[],false,18⟩
omit h in
theorem W3{t:LB}{L:Nat}(ht:t.length+L<=600):OkE c w r p L (AP c w r p t):=by
 rw[AP];split
 ·rename_i hR;exact .live ht hR
 ·exact .stop (k:=18) Aj6 (.inl ⟨rfl,rfl, .inl rfl,rfl⟩)
theorem Ab9(t:LB):nE c w t*c<=t.length:=by
 have h1:=jB h t;have h2:nE c w t*c<=nE c w t*WZ c w:=by
  rw[WZ];refine Aij _ ?_;have:=YE h;rw[WZ]at this;rcases Aiw (wB (w:Int))with h0|h0
  ·rw[h0]at this;omega
  ·exact Ajm _ h0
 omega
theorem nu{t:LB}(ht:t.length<=600)(hR:Ku c r (nE c w t))(h1:1<=nE c w t):(WB c w r (nE c w t) (XE c w t) p).length<=20000:=by
 have hcl:=wR h t hR h1;have e1:=xR hcl p;have e2:=(E8 hcl p).2;have e3:=RH (c:=c) (w:=w) t;have e4:=Ab9 h t;omega
theorem uO{t:LB}(ht:t.length<=600):∃(X:LB) (u:Bool) (v k:Int),T9 c w r p t=⟨[],[],[],X,u,v⟩/\X.length<=20000/\MH X u v k:=by
 rw[T9];split
 ·rename_i hR;split
  ·exact⟨_,_,_,24,rfl,Aj6, .inl ⟨rfl,rfl, .inr rfl,rfl⟩⟩
  ·rename_i hb;have h1:1<=nE c w t:=by
    rcases Aiw (nE c w t)with h0|h0
    ·exact absurd (.inr h0) hb
    ·exact h0
   exact⟨_,_,_,36,rfl,nu h ht hR h1, .inr ⟨rfl,rfl,rfl⟩⟩
 ·exact⟨_,_,_,18,rfl,Aj6, .inl ⟨rfl,rfl, .inl rfl,rfl⟩⟩
theorem pN(t b:LB)(hb:b.length<=1000000):∃e:Int,Cw (c:Int) (w:Int) (r:Int) p (AP c w r p t).m (AP c w r p t).s (AP c w r p t).fr (AP c w r p t).X (AP c w r p t).u (AP c w r p t).v b=some ((c:Int),(w:Int),(r:Int),p,(AP c w r p (t++b)).m,(AP c w r p (t++b)).s,(AP c w r p (t++b)).fr,(AP c w r p (t++b)).X,(AP c w r p (t++b)).u,(AP c w r p (t++b)).v,e):=by
 have hmono:nE c w t<=nE c w (t++b):=Nat.div_le_div_right Akk;by_cases hR:Ku c r (nE c w t)
 ·have h1:=rz h t b hb hR;have e1:AP c w r p t=⟨RE c w t,SE c w r t,FE c w r p t,[],false,0⟩:=by rw[AP,Abw hR]
  rw[e1];simp only;rw[h1,gu];by_cases hR2:Ku c r (nE c w (t++b))
  ·rw[Abw hR2,AP,Abw hR2];exact⟨_,rfl⟩
  ·rw[Aa1 hR2,AP,Aa1 hR2];exact⟨_,rfl⟩
 ·have hR2:¬Ku c r (nE c w (t++b)):=λhh=>hR (hh.mono hmono);have e1:AP c w r p t=⟨[],[],[],[],false,18⟩:=by rw[AP,Aa1 hR]
  have e2:AP c w r p (t++b)=⟨[],[],[],[],false,18⟩:=by rw[AP,Aa1 hR2]
  rw[e1,e2];exact⟨18,JH h Aj6 (.inl ⟨rfl,rfl, .inl rfl,rfl⟩) b⟩
theorem zW(t:LB):∃e:Int,Dx (c:Int) (w:Int) (r:Int) p (AP c w r p t).m (AP c w r p t).s (AP c w r p t).fr (AP c w r p t).X (AP c w r p t).u (AP c w r p t).v=some ((c:Int),(w:Int),(r:Int),p,(T9 c w r p t).m,(T9 c w r p t).s,(T9 c w r p t).fr,(T9 c w r p t).X,(T9 c w r p t).u,(T9 c w r p t).v,e):=by
 by_cases hR:Ku c r (nE c w t)
 ·have e1:AP c w r p t=⟨RE c w t,SE c w r t,FE c w r p t,[],false,0⟩:=by rw[AP,Abw hR]
  rw[e1];simp only;rw[B8 h t hR,T9,Abw hR];by_cases hb:RE c w t≠ []\/nE c w t=0
  ·rw[Abw hb,Abw hb];exact⟨_,rfl⟩
  ·rw[Aa1 hb,Aa1 hb];exact⟨_,rfl⟩
 ·have e1:AP c w r p t=⟨[],[],[],[],false,18⟩:=by rw[AP,Aa1 hR]
  have e2:T9 c w r p t=⟨[],[],[],[],false,18⟩:=by rw[T9,Aa1 hR]
  rw[e1,e2];exact⟨18,SV h Aj6 (.inl ⟨rfl,rfl, .inl rfl,rfl⟩)⟩
def nK(c w r:Nat)(p:LB)(U:Ue)(q:LB):Option (Int×Ue):=(Cw (c:Int) (w:Int) (r:Int) p U.m U.s U.fr U.X U.u U.v q).bind λ(_,_,_,_,m,s,f,x,u,v,e)=>some (e,⟨m,s,f,x,u,v⟩)
def Q8(c w r:Nat)(p:LB)(U:Ue):Option (Int×Ue):=(Dx (c:Int) (w:Int) (r:Int) p U.m U.s U.fr U.X U.u U.v).bind λ(_,_,_,_,m,s,f,x,u,v,e)=>some (e,⟨m,s,f,x,u,v⟩)
theorem V2{L:Nat}{U:Ue}(hU:OkE c w r p L U)(q:LB)(hq:q.length<=L):
  ∃(e:Int) (U':Ue),nK c w r p U q=some (e,U')/\OkE c w r p (L-q.length) U'/\U'.X=U.X/\
   ∀t,t<=U.X.length->Cw (c:Int) (w:Int) (r:Int) p U.m U.s U.fr (U.X.drop t) U.u U.v q=some ((c:Int),(w:Int),(r:Int),p,U'.m,U'.s,U'.fr,U'.X.drop t,U'.u,U'.v,e):=by
 cases hU with
 |live hl hR=>
  rename_i t;obtain⟨e,h1⟩:=pN h t q F0;have e1:AP c w r p t=⟨RE c w t,SE c w r t,FE c w r p t,[],false,0⟩:=by rw[AP,Abw hR]
  have hx:(AP c w r p (t++q)).X=[]:=by rw[AP];split<;>rfl
  rw[e1]at h1;simp only at h1;refine⟨e,AP c w r p (t++q),by rw[nK];simp only;rw[h1];rfl,W3 Akk,hx,λn hn=>?_⟩;simp only[List.drop_nil];rw[h1,hx,List.drop_nil]
 |stop hx hs=>
  rename_i X u v k;refine⟨k,⟨[],[],[],X,u,v⟩,?_, .stop hx hs,rfl,λn hn=>?_⟩
  ·rw[nK];simp only;rw[JH h hx hs q];rfl
  ·exact JH h Aks (hs.drop n) q
theorem zh{L:Nat}{U:Ue}(hU:OkE c w r p L U):
  ∃(e:Int) (U':Ue),Q8 c w r p U=some (e,U')/\OkE c w r p L U'/\ (∃y,U'.X=U.X++y)/\
   ∀t,t<=U.X.length->Dx (c:Int) (w:Int) (r:Int) p U.m U.s U.fr (U.X.drop t) U.u U.v=some ((c:Int),(w:Int),(r:Int),p,U'.m,U'.s,U'.fr,U'.X.drop t,U'.u,U'.v,e):=by
 cases hU with
 |live hl hR=>
  rename_i t;obtain⟨e,h1⟩:=zW h t;obtain⟨X,u,v,k,f1,f2,f3⟩:=uO h (t:=t) F0;have e1:AP c w r p t=⟨RE c w t,SE c w r t,FE c w r p t,[],false,0⟩:=by rw[AP,Abw hR]
  rw[e1,f1]at h1;simp only at h1;refine⟨e,⟨[],[],[],X,u,v⟩,by rw[Q8];simp only;rw[h1];rfl, .stop f2 f3,⟨X,rfl⟩,λn hn=>?_⟩;simp only[List.length_nil]at hn;obtain rfl:n=0:=F0
  simp only[List.drop_zero];exact h1
 |stop hx hs=>
  rename_i X u v k;refine⟨k,⟨[],[],[],X,u,v⟩,?_, .stop hx hs,⟨[],(Afk _).symm⟩,λn hn=>?_⟩
  ·rw[Q8];simp only;rw[SV h hx hs];rfl
  ·exact SV h Aks (hs.drop n)
theorem OkE.szs{L:Nat}{U:Ue}(hU:OkE c w r p L U):U.m.length<=20000/\U.s.length<=20000/\U.fr.length<=4000/\U.X.length<=20000/\ (∀y∈U.fr,y.length<=17179869184)/\∀t,Ic (c:Int) (w:Int) (r:Int) p U.m U.s U.fr (U.X.drop t) U.u U.v=some 0:=by
 cases hU with
 |live hl hR=>
  rename_i t;have h1:=jB h t;have hsl:=QH h t;have hfl:=cP (c:=c) (w:=w) (r:=r) (p:=p) t;have hs:=YE h;have hmod:nE c w t %Al r*c<=nE c w t*c:=Acb _ (Ajy _ _);have hn:=Ab9 h t;have hk:kE c w r t<=nE c w t:=Agj _ _;have hlt:=BS h.rate.2;have hnn:nE c w t<=nE c w t*c:=Ajm _ h.ch.1;have hLc:Al r*c<=1100000*6:=Aic F0 h.ch.2;exact⟨by simp only;omega,by simp only;omega,by simp only;omega,Aj6,λy hy=>by have:=B0 h t hR y hy;omega,λn=>by simp only[List.drop_nil];exact oC h t hR⟩
 |stop hx hs=>
  refine⟨Aj6,Aj6,Aj6,hx,λy hy=>by simp at hy,λn=>?_⟩;exact nQ h Aks (hs.drop n)
theorem R7{L:Nat}{U:Ue}(hU:OkE c w r p L U)(t:Nat)(m:Nat):
  Pf (c:Int) (w:Int) (r:Int) p U.m U.s U.fr (U.X.drop t) U.u U.v (m:Int)=some ((c:Int),(w:Int),(r:Int),p,U.m,U.s,U.fr,(U.X.drop t).drop (min m (U.X.drop t).length),U.u,U.v,(U.X.drop t).take (min m (U.X.drop t).length),0):=by
 obtain⟨s1,s2,s3,s4,s5,s6⟩:=hU.szs h;have hl:(U.X.drop t).length<=20000:=by rw[Ae0];omega
 have U3:=lF (a:=U.fr) s5 F0 (c:Int) (w:Int) (r:Int) p (x:=U.m) (s:=U.s) (z:=U.X.drop t) F0 F0 F0 U.u U.v;have hm:Er (m:Int) (Ac (U.X.drop t))=((min m (U.X.drop t).length:Nat):Int):=by rw[IW,Ac];omega
 rw[Pf,s6 t,Aa,Aa1 F4,Aa1 Akj,U3,Aa];simp only;rw[hm,Tj,Aa,Aex,Ax,Ca (by rw[List.length_nil,Acw];omega),Aa,Aa,TN,Aa,Aex,Ahz]
end
theorem Akt{p:Prop}(h:p:=by rw[Abr];simp;omega):p:=h
end Go.Pl
namespace Go.Pl
open Go Go.Lv
section
variable {c w r:Nat} {p:LB} (h:EncOk c w r p)
include h
def oG(c w r:Nat)(p:LB)(st:dU)(inp:LB)(U:Ue):Option (Int×Ue×LB):=
 if st.1=1 then(nK c w r p U (inp.take (min st.2.1.toNat inp.length))).bind λz=>some (z.1,z.2,inp.drop (min st.2.1.toNat inp.length))
 else if st.1=2 then some (0,U,inp)
 else(Q8 c w r p U).bind λz=>some (z.1,z.2,inp)
def nC(c w r:Nat)(p:LB):List dU->LB->Ue->Option (LI×Ue×LB)
 |[],inp,U=>some ([],U,inp)
 |st::l,inp,U=>(oG c w r p st inp U).bind λz=>(nC c w r p l z.2.2 z.2.1).bind λy=>some (z.1::y.1,y.2)
theorem TH{b:List dU}(hb:b.length<=200)(hv:∀st∈b,VS st):∀(k i t q:Nat) (U:Ue) (inp:LB) (aa:List qz),i+k=b.length->k<q->inp.length<=600->OkE c w r p inp.length U->t<=U.X.length->aa.length<=i->
  ∃(es:LI) (U':Ue) (inp':LB) (ds:List qz) (t':Nat),nC c w r p (b.drop i) inp U=some (es,U',inp')/\OkE c w r p inp'.length U'/\t'<=U'.X.length/\SRs (b.drop i) es ds/\U.X.take t++outs ds=U'.X.take t'/\
   Dl b q (i:Int) (c:Int) (w:Int) (r:Int) p (U.X.drop t) U.u U.v inp aa U.m U.s U.fr=some ((c:Int),(w:Int),(r:Int),p,U'.m,U'.s,U'.fr,U'.X.drop t',U'.u,U'.v,aa++ds,0)/\VZ b i t U.X t' U'.X
 |k,i,t,0,U,inp,aa,_,hq,_,_,_,_=>absurd hq (Ag2 _)
 |0,i,t,q+1,U,inp,aa,hi,hq,hin,hU,ht,haa=>by
  refine⟨[],U,inp,[],t,by rw[List.drop_eq_nil_of_le F0];rfl,hU,ht,by rw[List.drop_eq_nil_of_le F0];exact .nil,by simp[outs],?_, .nil F0⟩;rw[Dl,Jo,Aa1 F2,Uh,EI,EE,DR,Afk]
 |k+1,i,t,q+1,U,inp,aa,hi,hq,hin,hU,ht,haa=>by
  have hlt:i<b.length:=F0
  obtain⟨hop,hn0,hn1⟩:=hv b[i] (Aiq hlt);have hdrop:b.drop i=b[i]::b.drop (i+1):=(List.getElem_cons_drop hlt).symm;obtain⟨m,hm⟩:∃m:Nat,b[i].2.1=m:=⟨b[i].2.1.toNat,F0⟩;have hgi:Ad (i:Int) 1=((i+1:Nat):Int):=by rw[show(1:Int)=((1:Nat):Int)from rfl,Ar];omega
  rw[Dl,Jo,Abw F2,Cu hlt,Aa];rcases hop with h1|h1|h1
  ·
   have hg1:geq b[i].1 1=true:=by rw[h1];rfl
   have hmin:Er b[i].2.1 (Ac inp)=((min m inp.length:Nat):Int):=by rw[hm,IW,Ac];omega
   obtain⟨e,U1,f1,f2,f3,f4⟩:=V2 h hU (inp.take (min m inp.length)) Akm;have hl:(inp.take (min m inp.length)).length=min m inp.length:=by rw[Acw];omega
   rw[hl]at f2;have hl2:(inp.drop (min m inp.length)).length=inp.length-min m inp.length:=Ae0;rw[<-hl2]at f2;obtain⟨es,U2,wo,ds,t2,r1,r2,r3,r4,r5,r6,r7⟩:=TH hb hv k (i+1) t q U1 (inp.drop (min m inp.length)) (aa++[(e,[],())]) F0 F0 F0 f2 (by rw[f3];omega) Akt;refine⟨e::es,U2,wo,(e,[],())::ds,t2,?_,r2,r3,?_,?_,?_, .other hlt (by rw[h1];decide) r7⟩
   ·rw[hdrop,nC,oG,Abw h1,hm,Aex,f1,Aa,Aa];simp only;rw[r1,Aa]
   ·rw[hdrop];exact .cons ⟨rfl,λh=>by rw[h1]at h;exact absurd h F4,λ_=>rfl⟩ r4
   ·rw[<-r5,f3];simp[outs]
   ·rw[Abw hg1,hmin,Tj,Aex,Aa,f4 t ht,Aa];simp only;rw[Sy,Ms,hmin,TN,Aa,Ca F6,Aa,Dk,Mv,hgi,Aex,r6];simp
  ·
   have hg1:¬geq b[i].1 1=true:=by rw[h1];decide
   have hg2:geq b[i].1 2=true:=by rw[h1];rfl
   have hd:=R7 h hU t m;have hXl:(U.X.drop t).length=U.X.length-t:=Ae0;obtain⟨es,U2,wo,ds,t2,r1,r2,r3,r4,r5,r6,r7⟩:=TH hb hv k (i+1) (t+min m (U.X.length-t)) q U inp (aa++[(0,(U.X.drop t).take (min m (U.X.drop t).length),())]) F0 F0 hin hU F0 Akt;refine⟨0::es,U2,wo,(0,(U.X.drop t).take (min m (U.X.drop t).length),())::ds,t2,?_,r2,r3,?_,?_,?_, .drain hlt hm (by have:=hU.szs h;omega) ht r7⟩
   ·rw[hdrop,nC,oG,Aa1 (by rw[h1];decide),Abw h1,Aa];simp only;rw[r1,Aa]
   ·rw[hdrop];exact .cons ⟨rfl,λ_=>⟨rfl,by simp only[Acw];rw[hm];omega⟩,λh=>absurd h1 h⟩ r4
   ·rw[<-r5,hXl,List.take_add];simp[outs]
   ·rw[Aa1 hg1,Abw hg2,hm,hd,Aa];simp only;rw[Ug,DX,Ca F6,Aa,Dk,Mv,hgi];rw[hXl,Ajz]at*
    rw[r6];simp
  ·
   have hg1:¬geq b[i].1 1=true:=by rw[h1];decide
   have hg2:¬geq b[i].1 2=true:=by rw[h1];decide
   have hg3:geq b[i].1 3=true:=by rw[h1];rfl
   obtain⟨e,U1,f1,f2,⟨y,f3⟩,f4⟩:=zh h hU;obtain⟨es,U2,wo,ds,t2,r1,r2,r3,r4,r5,r6,r7⟩:=TH hb hv k (i+1) t q U1 inp (aa++[(e,[],())]) F0 F0 hin f2 (by rw[f3,Abr];omega) Akt;refine⟨e::es,U2,wo,(e,[],())::ds,t2,?_,r2,r3,?_,?_,?_, .other hlt (by rw[h1];decide) r7⟩
   ·rw[hdrop,nC,oG,Aa1 (by rw[h1];decide),Aa1 (by rw[h1];decide),f1,Aa,Aa];simp only;rw[r1,Aa]
   ·rw[hdrop];exact .cons ⟨rfl,λh=>by rw[h1]at h;exact absurd h F4,λ_=>rfl⟩ r4
   ·rw[<-r5,f3,Ai0 ht];simp[outs]
   ·rw[Aa1 hg1,Aa1 hg2,Abw hg3,f4 t ht,Aa];simp only;rw[Tp,DI,Ca F6,Aa,Dk,Mv,hgi,r6];simp
theorem Aan{inp:LB}{l:List dU}(hin:inp.length<=600)(hl:l.length<=200)(hv:∀st∈l,VS3 st):
  ∃(es:LI) (U:Ue) (inp':LB) (ds:List qz) (t:Nat),nC c w r p l inp (AP c w r p [])=some (es,U,inp')/\OkE c w r p inp'.length U/\t<=U.X.length/\SRs l es ds/\outs ds=U.X.take t/\
   Pa (c:Int) (w:Int) (r:Int) p inp l=some ((c:Int),(w:Int),(r:Int),p,U.m,U.s,U.fr,U.X.drop t,U.u,U.v,ds,0)/\VZ l 0 0 [] t U.X:=by
 have e0:nE c w []=0:=by rw[nE];exact Nat.zero_div _
 have hR:Ku c r (nE c w []):=by rw[e0];exact pB c r
 have e1:AP c w r p []=⟨RE c w [],SE c w r [],FE c w r p [],[],false,0⟩:=by rw[AP,Abw hR]
 obtain⟨es,U,inp',ds,t,h1,h2,h3,h4,h5,h6,h7⟩:=TH h hl (λst h=>(hv st h).1) l.length 0 0 As (AP c w r p []) inp [] F0 Aj4 hin (W3 (by simpa using hin)) (Nat.zero_le _) Aj6;rw[List.drop_zero]at h1 h4;refine⟨es,U,inp',ds,t,h1,h2,h3,h4,by simpa using h5,?_,by rw[e1]at h7;exact h7⟩;rw[Pa,Wk,xY hl hv,Aa,Aa1 F4,K8 h,Aa];simp only;rw[Aa1 F4];rw[e1]at h6;exact h6
theorem SX:∀{l:List dU} {inp X:LB} {u:Bool} {v k:Int} {es:LI} {U':Ue} {inp':LB},X.length<=20000->MH X u v k-> (∀st∈l,VS st)->nC c w r p l inp ⟨[],[],[],X,u,v⟩=some (es,U',inp')->
  U'=⟨[],[],[],X,u,v⟩
 |[],inp,X,u,v,k,es,U',inp',hx,hk,hv,hh=>by
  cases hh;rfl
 |st::l,inp,X,u,v,k,es,U',inp',hx,hk,hv,hh=>by
  rw[nC]at hh;obtain⟨⟨e,U1,i1⟩,h1,hh⟩:=cH hh;obtain⟨⟨es1,U2,i2⟩,h2,hh⟩:=cH hh;simp only[Aco,Agr]at hh;obtain⟨-,rfl, -⟩:=hh;have hv':∀st∈l,VS st:=λx hx=>hv x (Aek _ hx);rw[oG]at h1;split at h1
  ·rw[nK]at h1;simp only at h1;rw[JH h hx hk]at h1;cases h1;exact SX hx hk hv' h2
  ·split at h1
   ·cases h1;exact SX hx hk hv' h2
   ·rw[Q8]at h1;simp only at h1;rw[SV h hx hk]at h1;cases h1;exact SX hx hk hv' h2
theorem eB{inp:LB}(hin:inp.length<=600):∀{l:List dU} {n:Nat} {es:LI} {U':Ue} {inp':LB},n<=inp.length-> (∀st∈l,VS st)->
  nC c w r p l (inp.drop n) (AP c w r p (inp.take n))=some (es,U',inp')->
  U'=if(AG inp.length l n).2=true then T9 c w r p (inp.take (AG inp.length l n).1)else AP c w r p (inp.take (AG inp.length l n).1)
 |[],n,es,U',inp',hn,hv,hh=>by
  cases hh;rfl
 |st::l,n,es,U',inp',hn,hv,hh=>by
  rw[nC]at hh;obtain⟨⟨e1,U1,i1⟩,h1,hh⟩:=cH hh;obtain⟨⟨es1,U2,i2⟩,h2,hh⟩:=cH hh;simp only[Aco,Agr]at hh;obtain⟨-,rfl, -⟩:=hh;have hv':∀st∈l,VS st:=λx hx=>hv x (Aek _ hx);have hop:=(hv st (.head _)).1;rw[oG]at h1;by_cases h3:st.1=1
  ·rw[Abw h3]at h1;rw[show AG inp.length (st::l) n=AG inp.length l (n+min st.2.1.toNat (inp.length-n)) by rw[AG,Aa1 (by rw[h3];decide),Abw h3]];have hl:(inp.drop n).length=inp.length-n:=Ae0;have e5:inp.take n++(inp.drop n).take (min st.2.1.toNat (inp.length-n))=inp.take (n+min st.2.1.toNat (inp.length-n)):=by rw[List.take_add]
   obtain⟨e,d1⟩:=pN h (inp.take n) ((inp.drop n).take (min st.2.1.toNat (inp.length-n))) Akm;rw[e5]at d1;rw[hl,nK]at h1;rw[d1,Aa,Aa]at h1;simp only[Aco,Agr]at h1;obtain⟨-,rfl,rfl⟩:=h1;simp only[Ajz]at h2;exact eB hin F0 hv' h2
  ·rw[Aa1 h3]at h1;by_cases h4:st.1=2
   ·rw[Abw h4]at h1;rw[show AG inp.length (st::l) n=AG inp.length l n by rw[AG,Aa1 (by rw[h4];decide),Aa1 h3]];cases h1;exact eB hin hn hv' h2
   ·rw[Aa1 h4]at h1;have h5:st.1=3:=by rcases hop with h|h|h;exact absurd h h3;exact absurd h h4;exact h
    rw[show AG inp.length (st::l) n=(n,true) by rw[AG,Abw h5],Abw rfl];obtain⟨e,q1⟩:=zW h (inp.take n);rw[Q8]at h1;rw[q1,Aa,Aa]at h1;simp only[Aco,Agr]at h1;obtain⟨-,rfl,rfl⟩:=h1;obtain⟨X,u,v,k,g1,g2,g3⟩:=uO h (t:=inp.take n) Akm;rw[g1]at h2⊢;exact SX h g2 g3 hv' h2
end
theorem tO(C W R:Int)(p m:LB)(s:LX)(fr:List LB)(X:LB)(u:Bool)(v:Int)(hs:s.length<=100000)(hf:fr.length<=100000):Mp C W R p m s fr X u v C W R p m s fr X u v=some true:=by
 have l2:∀(j i q:Nat),i+j=fr.length->j<q->Es C W R p m s fr X u v C W R p m s fr X u v q (i:Int)=some true:=by
  intro j
  induction j with
  |zero=>
   intro i q hi hq;obtain⟨q,rfl⟩:∃q',q=q'+1:=⟨q-1,F0⟩;rw[Es,Je,Aa1 F2];rfl
  |succ j ih=>
   intro i q hi hq;obtain⟨q,rfl⟩:∃q',q=q'+1:=⟨q-1,F0⟩;have hlt:i<fr.length:=F0
   rw[Es,Je,Abw F2,Cu hlt,Aa,Aa,Aa1 Aj6,RG i F0];exact ih (i+1) q F0 F0
 have l1:∀(j i q:Nat),i+j=s.length->j<q->Fk C W R p m s fr X u v C W R p m s fr X u v q (i:Int)=some true:=by
  intro j
  induction j with
  |zero=>
   intro i q hi hq;obtain⟨q,rfl⟩:∃q',q=q'+1:=⟨q-1,F0⟩;rw[Fk,Jp,Aa1 F2];exact l2 fr.length 0 As F0 Aj4
  |succ j ih=>
   intro i q hi hq;obtain⟨q,rfl⟩:∃q',q=q'+1:=⟨q-1,F0⟩;have hlt:i<s.length:=F0
   rw[Fk,Jp,Abw F2,Cu hlt,Aa,Aa,Aa1 (by simp[Bp]),RG i F0];exact ih (i+1) q F0 F0
 rw[Mp,Nn,Aa1 (by simp[Dh,Et])];exact l1 s.length 0 As F0 Aj4
theorem W7(hal:Ll=some true)(C W R:Int)(p m:LB)(b:List dU):Hb C W R p m b=some true:=by
 have main:∀{c w r:Nat},EncOk c w r p->m.length<=600->Ef b=some true->Hy (r:Int) p m b true (c:Int) (w:Int)=some true:=by
  intro c w r h hm hf;obtain⟨hl,hv⟩:=Aeh hf;have hv1:∀st∈b,VS st:=λst hs=>(hv st hs).1;obtain⟨es,U,inp',ds,t,r1,r2,r3,r4,r5,r6,_⟩:=Aan h hm F0 hv;have hlen:=r4.len;obtain⟨z1,z2,z3,z4,_,_⟩:=r2.szs h;have hol:(outs ds).length<=20000:=by rw[r5,Acw];omega
  have Ah4:Vu m b=some (m.take (AG m.length b 0).1,(AG m.length b 0).2):=by
   have:=kO m F0 b F0 hv1 b.length 0 0 As F0 Aj4 (Nat.zero_le _);rw[List.drop_zero]at this;exact this
  have hle:=pW m.length b 0 (Nat.zero_le _);have hend:=eB h hm (Nat.zero_le _) hv1 (l:=b) (n:=0) (es:=es) (U':=U) (inp':=inp') (by simpa using r1);have e0:nE c w []=0:=by rw[nE];exact Nat.zero_div _
  have hR:Ku c r (nE c w []):=by rw[e0];exact pB c r
  have e1:AP c w r p []=⟨RE c w [],SE c w r [],FE c w r p [],[],false,0⟩:=by rw[AP,Abw hR]
  obtain⟨e,d1⟩:=pN h [] (m.take (AG m.length b 0).1) Akm;rw[e1,Ahz]at d1;simp only at d1;have tail:Fu b true 0 0 (c:Int) (w:Int) (r:Int) p (U.X.drop t) U.u U.v ds U.m U.s U.fr (c:Int) (w:Int) (r:Int) p U.u U.v U.m U.s U.fr U.X=some true:=by
   rw[Fu,Ft,Q0 F0 F0,Aa,Ca F6,Aa,Ahz,Ca Ako,Aa,r5,Aib,Hu,Mt,
    Aa1 (by simp[Et,Ac,hlen.2]),Abw rfl,tO _ _ _ _ _ _ _ _ _ _ F0 F0,Aa]
  rw[Hy,Ia,r6,Aa];simp only;rw[K8 h,Aa];simp only;rw[Ah4,Aa];simp only;rw[d1,Aa];simp only;cases hd:(AG m.length b 0).2 with
  |false=>
   rw[hd,Aa1 F4]at hend;rw[Aa1 F4,<-hend];exact tail
  |true=>
   rw[hd,Abw rfl]at hend;obtain⟨k',q1⟩:=zW h (m.take (AG m.length b 0).1);rw[Abw rfl,q1,Aa];simp only;rw[<-hend];exact tail
 obtain⟨kf,hkf⟩:=Abq b;rw[Hb,Hw,hal,Aa];rcases yH C W R p with h0|⟨c,w,r,rfl,rfl,rfl,h,h0⟩
 ·rw[h0,Aa,Abw (by simp[Et])];exact Abw rfl
 ·rw[h0,Aa];by_cases hm:m.length<=600
  ·rw[Aa1 Akr,hkf,Aa];cases kf with
   |false=>rfl
   |true=>rw[Aa1 F4];exact main h hm hkf
  ·rw[Abw Akr];exact Abw rfl
theorem law_ScriptFiles(C W R:Int)(p m:LB)(b:List dU):Hb C W R p m b=some true:=W7 zo C W R p m b
end Go.Pl
