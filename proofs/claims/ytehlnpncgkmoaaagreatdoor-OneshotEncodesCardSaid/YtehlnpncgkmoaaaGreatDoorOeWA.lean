/- A part of a proof (see the text that ends in Proof). No conditions. -/
import Derived.Test.YtehlnpncgkmoaaaGreatDoorOePA
import Derived.KernelRfl
set_option linter.unusedVariables false
set_option linter.unusedSimpArgs false
namespace Go.Lv
variable{a b:Int}{l:List UInt8}{n:Nat}{α:Type}
theorem Ag(h: -9223372036854775808<=a+b:=by omega)(h':a+b<=9223372036854775807:=by omega):Ae a b=a+b:=by rw[Aou,Df h h']
theorem Dx(h: -9223372036854775808<=a-b:=by omega)(h':a-b<=9223372036854775807:=by omega):Ak a b=a-b:=by rw[Ao4,Df h h']
theorem Gu(h: -9223372036854775808<=a*b:=by omega)(h':a*b<=9223372036854775807:=by omega):Bc a b=a*b:=by rw[Af5,Df h h']
theorem gO(c:UInt8):(Ad c:Int)=(c.toNat:Int):=by rw[Ahq,Df]<;>have:=c.toNat_lt<;>omega
theorem xk(c:UInt32):(Ad c:Int)=(c.toNat:Int):=by rw[Aeo,Df]<;>have:=c.toNat_lt<;>omega
theorem xJ(c:UInt8):(Ad c:UInt64)=UInt64.ofNat c.toNat:=by simp only[Ad,FZ,Hb]
theorem Dg(c:UInt32):(Ad c:UInt64)=UInt64.ofNat c.toNat:=by simp only[Ad,ED,Hb]
theorem ZE(c:UInt64):(Ad c:UInt8)=UInt8.ofNat c.toNat:=by simp only[Ad,Ho,Nk]
theorem lY(c:UInt32):(Ad c:UInt8)=UInt8.ofNat c.toNat:=by simp only[Ad,ED,Nk]
theorem Sr(n:Nat):(Ad (n:Int):UInt64)=UInt64.ofNat n:=by simp only[Ad];exact Hb n
theorem J0(n:Nat):(Ad (n:Int):UInt32)=UInt32.ofNat n:=by simp only[Ad];exact Jn n
theorem Ahb(n:Nat):(Ad (n:Int):UInt8)=UInt8.ofNat n:=by simp only[Ad];exact Nk n
theorem Ym{c:UInt64}(h:c.toNat<9223372036854775808):(Ad c:Int)=(c.toNat:Int):=by rw[Aei,Df]<;>omega
theorem Ac1:W7=17179869184:=F3
theorem Ap:36893488147419103231<Aq:=F3
theorem Ca{l:List α}(h:n<l.length:=by omega):Aj l (n:Int)=some l[n]:=by simp[Aj,h]
theorem Xn{l:List α}(x:α)(h:n<l.length):Ku l (n:Int) x=some (l.set n x):=by simp[Ku,h]
theorem Ve{l:List α}(h:0<=a:=by omega)(h1:a<=b:=by omega)(h2:b<=l.length:=by omega):Cr l a b=some ((l.take b.toNat).drop a.toNat):=by rw[Cr,Abh ⟨h,h1,h2⟩]
theorem Yo{l:List α}(h:0<=a:=by omega)(h1:a<=l.length:=by omega):Cr l a (Ac l)=some (l.drop a.toNat):=by
 unfold Ac;rw[Ve h h1 (Int.le_refl _),Ajs,Aut]
theorem Tu{l:List α}(h:0<=b:=by omega)(h1:b<=l.length:=by omega):Cr l 0 b=some (l.take b.toNat):=by rw[Ve (Int.le_refl _) h h1];rfl
theorem As{l m:List α}(h:l.length+m.length<=17179869184:=by omega):Br l m=some (l++m):=by rw[Br,Ac1,Abh h]
theorem I5{n:Int}{z:α}(h:0<=n:=by omega)(h':n<=17179869184:=by omega):mkI n z=some (List.replicate n.toNat z):=by rw[mkI,Ac1,Abh ⟨h,h'⟩]
theorem Bt{b:Bool}(h:b=true):Hq b=some ():=by rw[h];rfl
theorem Aa{β:Type}(a:α)(f:α->Option β):Option.bind (some a) f=f a:=rfl
theorem drop_cons{l:List α}(h:n<l.length):l.drop n=l[n]::l.drop (n+1):=List.drop_eq_getElem_cons h
theorem Hh{l:List α}(h:n<l.length):l.take (n+1)=l.take n++[l[n]]:=by rw[List.take_add_one,List.getElem?_eq_getElem h];rfl
def Li:List UInt8->Nat
 |[]=>0
 |x::r=>x.toNat+256*Li r
theorem T8:∀l:List UInt8,Li l<256^l.length
 |[]=>by simp[Li]
 |x::r=>by
  have h:=T8 r;have:=x.toNat_lt;simp only[Li,Al4,Ar8];omega
theorem wQ:∀l m:List UInt8,Li (l++m)=Li l+256^l.length*Li m
 |[],m=>by simp[Li]
 |x::r,m=>by
  simp only[Li,Aur,wQ r m,Al4,Ar8,Nat.mul_add];rw[Anw (256^r.length) 256,Ar3];omega
def gS(l:List UInt8):UInt64:=UInt64.ofNat (Li l)
theorem Akg(h:l.length<=8):Li l<18446744073709551616:=by
 have h1:=T8 l;have h2:256^l.length<=256^8:=Aj7 F0 h;exact Apa h1 (by simpa using h2)
theorem gY(h:l.length<=4):Li l<4294967296:=by
 have h1:=T8 l;have h2:256^l.length<=256^4:=Aj7 F0 h;exact Apa h1 (by simpa using h2)
theorem Yn(h:l.length<=8):(gS l).toNat=Li l:=by
 rw[gS,Ahx,Acn (Akg h)]
theorem ZH(h:l.length<=4):(Ad (gS l):Int)=(Li l:Int):=by
 have:=gY h;rw[Ym]<;>rw[Yn F0];omega
def Ot(n:Nat):Nat->List UInt8
 |0=>[]
 |w+1=>UInt8.ofNat n::Ot (n/256) w
theorem Bi:∀(w n:Nat),(Ot n w).length=w
 |0,_=>rfl
 |w+1,n=>by simp[Ot,Bi w]
theorem gq:∀(w n:Nat),Ot n (w+1)=Ot n w++[UInt8.ofNat (n/256^w)]
 |0,n=>by simp[Ot]
 |w+1,n=>by
  rw[Ot,gq w (n/256),Ot];simp[Aug,Ar8,Anw]
def Hr(p:List UInt8)(i:Nat):Nat:=(p.getD (i/8) 0).toNat/2^(i %8) %2
theorem WE(p:List UInt8)(i:Nat):Hr p i<2:=At4 _ F0
def De(p:List UInt8):Nat->Nat->Nat
 |_,0=>0
 |a,n+1=>Hr p a+2*De p (a+1) n
theorem IZ(p:List UInt8):∀(n a:Nat),De p a n<2^n
 |0,_=>by simp[De]
 |n+1,a=>by
  have:=IZ p n (a+1);have:=WE p a;rw[De,Ar8];omega
theorem eJ(p:List UInt8):∀(m n a:Nat),De p a (m+n)=De p a m+2^m*De p (a+m) n
 |0,n,a=>by simp[De]
 |m+1,n,a=>by
  rw[show m+1+n=(m+n)+1 by omega,De,De,eJ p m n (a+1),show a+1+m=a+(m+1) by omega,Ar8,Nat.mul_add,Anw (2^m) 2,Ar3];omega
theorem xR(p:List UInt8)(a:Nat):De p a 1=Hr p a:=by simp[De]
theorem VI(p:List UInt8)(a n:Nat):De p a (n+1)=De p a n+2^n*Hr p (a+n):=by rw[eJ p n 1 a,xR]
theorem hJ(p:List UInt8)(a:Nat):∀t:Nat,a %8+t<=8->De p a t=(p.getD (a/8) 0).toNat/2^(a %8) %2^t
 |0,_=>by simp[De,Nat.mod_one]
 |t+1,h=>by
  have h1:(a+t)/8=a/8:=F0
  have h2:(a+t) %8=a %8+t:=F0
  rw[VI,hJ p a t F0,Hr,h1,h2,Nat.mod_pow_succ,Avr,Aug]
theorem E3{p:List UInt8}:∀(n a:Nat),(∀k,k<n->Hr p (a+k)=0)->De p a n=0
 |0,_,_=>rfl
 |n+1,a,h=>by
  have h0:=h 0 F0;rw[De,E3 n (a+1) λk hk=>by have:=h (k+1) F0;rwa [show a+1+k=a+(k+1) by omega]];rw[Asg]at h0;omega
def okB(p:List UInt8)(n:Nat):Prop:=n<=330000/\p.length=(n+7)/8/\∀k,n<=k->k<8*p.length->Hr p k=0
def Ma(p:List UInt8)(a n:Nat):List UInt8:=(List.range ((n+7)/8)).map λj=>UInt8.ofNat (De p (a+8*j) (min 8 (n-8*j)))
theorem Iu(p:List UInt8)(a n:Nat):(Ma p a n).length=(n+7)/8:=by simp[Ma]
theorem cu(p:List UInt8):∀(n a k:Nat),k<n->De p a n/2^k %2=Hr p (a+k)
 |n+1,a,0,_=>by have:=WE p a;rw[De];simp;omega
 |n+1,a,k+1,h=>by
  have hb:=WE p a;have e:(Hr p a+2*De p (a+1) n)/2=De p (a+1) n:=F0
  rw[De,Ar8,Anw (2^k) 2,<-Aug,e,cu p n (a+1) k F0,show a+1+k=a+(k+1) by omega]
theorem Aep(p:List UInt8)(n a k:Nat)(h:n<=k):De p a n/2^k %2=0:=by
 have:=IZ p n a;rw[Ata (Apa this (Aj7 F0 h))]
theorem vF(p:List UInt8)(a n k:Nat):Hr (Ma p a n) k=if k<n then Hr p (a+k)else 0:=by
 rw[Hr];by_cases hj:k/8<(n+7)/8
 ·have e:(Ma p a n).getD (k/8) 0=UInt8.ofNat (De p (a+8*(k/8)) (min 8 (n-8*(k/8)))):=by
   rw[List.getD_eq_getElem?_getD,List.getElem?_eq_getElem (by rw[Iu];exact hj)];simp[Ma]
  have hlt:De p (a+8*(k/8)) (min 8 (n-8*(k/8)))<256:=by
   have:=IZ p (min 8 (n-8*(k/8))) (a+8*(k/8));have h2:2^(min 8 (n-8*(k/8)))<=2^8:=Aj7 F0 F0;omega
  have hu:(UInt8.ofNat (De p (a+8*(k/8)) (min 8 (n-8*(k/8))))).toNat=De p (a+8*(k/8)) (min 8 (n-8*(k/8))):=by
   rw[Anq];exact Acn hlt
  rw[e,hu];by_cases hk:k<n
  ·rw[Abh hk,cu p _ _ _ F0,show a+8*(k/8)+k %8=a+k by omega]
  ·rw[Aa1 hk,Aep p _ _ _ F0]
 ·have e:(Ma p a n).getD (k/8) 0=0:=by
   rw[List.getD_eq_getElem?_getD,List.getElem?_eq_none (by rw[Iu];omega)];rfl
  rw[e,Aa1 F0];simp
theorem M8(p:List UInt8)(a n:Nat)(h:n<=330000):okB (Ma p a n) n:=⟨h,Iu p a n,λk hk _=>by rw[vF,Aa1 F0]⟩
theorem X8{p q:List UInt8}(hl:p.length=q.length)(h:∀k,k<8*p.length->Hr p k=Hr q k):p=q:=by
 apply Arw hl;intro i h1 h2;have hp:De p (8*i) 8=De q (8*i) 8:=by
  have key:∀(n a:Nat),a+n<=8*p.length->De p a n=De q a n:=by
   intro n
   induction n with
   |zero=>intros;rfl
   |succ n ih=>intro a ha;rw[De,De,h a F0,ih (a+1) F0]
  exact key 8 (8*i) F0
 rw[hJ p _ 8 F0,hJ q _ 8 F0]at hp;have e1:8*i/8=i:=F0
 have e2:8*i %8=0:=F0
 rw[e1,e2]at hp;have a1:p.getD i 0=p[i]:=by simp[List.getD_eq_getElem?_getD,h1]
 have a2:q.getD i 0=q[i]:=by simp[List.getD_eq_getElem?_getD,h2]
 rw[a1,a2]at hp;apply UInt8.toNat_inj.1;have:=p[i].toNat_lt;have:=q[i].toNat_lt;simp at hp;omega
end Go.Lv
namespace Go.Pl
open Go Go.Lv
variable{p:Prop}
theorem F2(h:p:=by rw[Af,Ac];simp;omega):p:=h
theorem Awy(h:p:=by simp[Af,Ar,Ac];omega):p:=h
theorem F9(h:p:=by rw[Af];simp;omega):p:=h
theorem Av4(h:p:=by simp[Af,Ar];omega):p:=h
theorem Av5(h:p:=by rw[Ba];simp;omega):p:=h
theorem Awc(h:p:=by rw[Hl];simp;omega):p:=h
theorem Awe(h:p:=by unfold Ac;omega):p:=h
theorem F7(h:p:=by have:=Ap;omega):p:=h
theorem Awi(h:p:=by rw[Hl];simp):p:=h
theorem Aw6(h:p:=by rw[Ba];simp):p:=h
theorem Awt(h:p:=by rw[Ba];rfl):p:=h
end Go.Pl
namespace Go.Pl
open Go Go.Lv
theorem Ags(b:LB)(hb:b.length<4611686018427387904):∀(j q:Nat),j<=b.length->j<q->Kj b q (gS (b.drop j)) ((j:Int)-1)=some (gS b)
 |0,q+1,_,_=>by
  rw[Kj,Uk,Aa1 Awi];simp[BD,OP]
 |j+1,q+1,hj,hq=>by
  rw[Kj,Uk,Abh Awi,show((j+1:Nat):Int)-1=(j:Int) by omega,Ca,Aa,Dx];have h:Ae (Bc (256:UInt64) (gS (b.drop (j+1)))) (Ad b[j]:UInt64)=gS (b.drop j):=by
   rw[QC,VZ,xJ,drop_cons (n:=j) F0,gS,gS,Li,UInt64.ofNat_add,UInt64.ofNat_mul];exact UInt64.add_comm _ _
  rw[h];exact Ags b hb j q F0 F0
theorem oY(b:LB)(hb:b.length<4611686018427387904):Ax b=some (gS b):=by
 have h:=Ags b hb b.length Aq (Aqe _) F7;rw[Ax,AW,PL];have e:Ak (Ac b) 1=(b.length:Int)-1:=Dx Awe Awe;rw[e,<-h,At2];rfl
theorem Apg{n c:UInt64}{i:Nat}(hn:n.toNat<2^i)(hc:c.toNat*2^i<18446744073709551616):yG n (Di c i)=UInt64.ofNat (n.toNat+c.toNat*2^i):=by
 rw[Amt];apply UInt64.toNat_inj.1;rw[UInt64.toNat_or,RF,Acn hc,Anw,Nat.or_comm,<-As5 hn,Ahx,Acn,Auj,Anw];have h:=As5 hn c.toNat;have h2:2^i*c.toNat+n.toNat<2^64:=by
  rw[h];exact Nat.or_lt_two_pow (by rw[Anw];simpa using hc) n.toNat_lt
 rw[Auj];first|exact h2|(rw[Anw];exact h2)
theorem J4(b:LB)(hb:b.length<=8):∀(j i q:Nat),i+j=b.length->j<q->BW b q (gS (b.take i)) (i:Int)=some (gS b,0)
 |0,i,q+1,hi,_=>by
  rw[BW,SB,Aa1 F2,show i=b.length by omega,Aut];rfl
 |j+1,i,q+1,hi,hq=>by
  have hlt:i<b.length:=F0
  rw[BW,SB,Abh F2,Ca hlt,Aa,Gu,Bt Awc,Aa,Ag];have h:yG (gS (b.take i)) (Di (Ad b[i]:UInt64) (GI.toZ ((8:Int)*(i:Int))).toNat)=gS (b.take (i+1)):=by
   have e:(GI.toZ ((8:Int)*(i:Int))).toNat=8*i:=by show((8:Int)*(i:Int)).toNat=_;omega
   have e2:(2:Nat)^(8*i)=256^i:=by rw[Nat.pow_mul]
   have h1:=T8 (b.take i);rw[Af3,Asl F0]at h1;have h3:=b[i].toNat_lt;have hle:(256:Nat)^(i+1)<=256^8:=Aj7 F0 F0;rw[Ar8]at hle;have h4:(Ad b[i]:UInt64).toNat=b[i].toNat:=by rw[xJ,Ahx];omega
   have h5:b[i].toNat*256^i<18446744073709551616:=by
    have:b[i].toNat*256^i<256*256^i:=Nat.mul_lt_mul_of_pos_right (by simpa using h3) (Auh F0);simp at hle;omega
   rw[e,Apg (by rw[Yn F5,e2];exact h1) (by rw[h4,e2];exact h5),Yn F5,h4,e2,Hh hlt];rw[gS,wQ];simp only[Li,Af3,Asl (Nat.le_of_lt hlt),Nat.mul_zero,Asg];rw[Anw]
  rw[h];exact J4 b hb j (i+1) q F0 F0
theorem Ai0(b:LB)(h1:1<=b.length)(h2:b.length<=8):dQ b=some (gS b,0):=by
 have h:=J4 b h2 b.length 0 Aq F0 F7;rw[dQ,gG,Aa1 Awy,sW];exact h
def part(b:LB)(at' w:Nat):LB:=(b.take (at'+w)).drop at'
theorem Dj{b:LB}{a w:Nat}(h:a+w<=b.length:=by omega):(part b a w).length=w:=by simp[part];omega
theorem Y6(b:LB)(a w:Nat)(h1:1<=w)(h2:w<=8)(h3:a+w<=b.length)(hb:b.length<4611686018427387904):kH b (a:Int) (w:Int)=some (gS (part b a w),0):=by
 rw[kH,Aa1 Av4,Aa1 (by rw[Ar,Dx Awe Awe,Ac];simp;omega),Ag,Ve,Aa];rw[show((a:Int)+(w:Int)).toNat=a+w by omega,show(a:Int).toNat=a by omega];rw[Ai0 _ (by rw[show((b.take (a+w)).drop a).length=_ from Dj h3];exact h1) (by rw[show((b.take (a+w)).drop a).length=_ from Dj h3];exact h2),Aa];rfl
theorem sC(w:Nat)(hw:w<=1000):∀(j i q:Nat) (n:UInt64) (acc:LB),i+j=w->j<q->acc.length+j<=1000000->Fi (w:Int) q n (i:Int) acc=some (acc++Ot n.toNat j)
 |0,i,q+1,n,acc,hi,_,_=>by
  rw[Fi,Lm,Aa1 F9];simp[Rg,CG,Ot]
 |j+1,i,q+1,n,acc,hi,hq,ha=>by
  rw[Fi,Lm,Abh F9];have e:(Ad (Oq n (256:UInt64)):UInt8)=UInt8.ofNat n.toNat:=by
   rw[ZE,VB];apply UInt8.toNat_inj.1;rw[Anq,Anq,Au3]
   show n.toNat %256 %256=_;omega
  have e2:(Ay n (256:UInt64)).toNat=n.toNat/256:=by rw[fN,Au2];rfl
  rw[As F5,Aa,Ag,e];have h:=sC w hw j (i+1) q (Ay n 256) (acc++[UInt8.ofNat n.toNat]) F0 F0 F5;rw[e2]at h;rw[show((i:Int)+1)=((i+1:Nat):Int) by omega,h,Ot];simp
theorem II(n:UInt64)(w:Nat)(hw:w<=1000):Ah n (w:Int)=some (Ot n.toNat w):=by
 rw[Ah,Sf,CC];have h:=sC w hw w 0 Aq n [] F0 F7 F5;simpa using h
theorem nC{α:Type}{l m:List α}{x y:α}{i:Nat}(h:l.length=i):(l++x::m).set i y=l++y::m:=by subst h;simp
theorem D1(n:UInt64)(l4:LB)(w:Nat)(hl:l4.length=w)(hw:w<=8):∀(j i q:Nat),i+j=w->j<q->CN n l4 q (i:Int) (Ot n.toNat i++List.replicate j 0)=some (Ot n.toNat w,0)
 |0,i,q+1,hi,_=>by
  rw[CN,RX,Aa1 F2];obtain rfl:i=w:=F0
  simp[cU,sT]
 |j+1,i,q+1,hi,hq=>by
  have hlen:(Ot n.toNat i++List.replicate (j+1) 0).length=i+(j+1):=by simp[Bi]
  rw[CN,RX,Abh F2,Gu,Bt Awc,Aa,Ca (by rw[hlen];omega),Aa,Xn _ (by rw[hlen];omega),Aa,Ag];have e:(Ad (Ce n (GI.toZ ((8:Int)*(i:Int))).toNat):UInt8)=UInt8.ofNat (n.toNat/256^i):=by
   have e:(GI.toZ ((8:Int)*(i:Int))).toNat=8*i:=by show((8:Int)*(i:Int)).toNat=_;omega
   rw[e,ZE,FR,Nat.pow_mul]
  rw[e,As8,nC (Bi _ _)];have h:=D1 n l4 w hl hw j (i+1) q F0 F0;rw[gq]at h;simpa using h
theorem Am2(n:UInt64)(w:Nat)(h1:1<=w)(h2:w<=8)(h:n.toNat<256^w):uN n (w:Int)=some true:=by
 rw[uN];by_cases h8:w=8
 ·subst h8;rw[Abh Awt]
 ·rw[Aa1 Av5,Gu,Bt Awc,Aa];have e:(GI.toZ ((8:Int)*(w:Int))).toNat=8*w:=by show((8:Int)*(w:Int)).toNat=_;omega
  rw[e,uE];have:Ce n (8*w)=0:=by
   apply UInt64.toNat_inj.1;rw[FR,Nat.pow_mul];exact Ata h
  rw[this];rfl
theorem QJ(n:UInt64)(w:Nat)(h1:1<=w)(h2:w<=8)(h:n.toNat<256^w):Zr n (w:Int)=some (Ot n.toNat w,0):=by
 rw[Zr,eL,Aa1 Av4,Am2 n w h1 h2 h,Aa,Aa1 Av2,I5,Aa,Bt Aw6,Aa,sU];have h:=D1 n (List.replicate (w:Int).toNat 0) w Av2 h2 w 0 Aq F0 F7;simpa [Ot]using h
theorem Av6{p:Prop}(h:p:=by rw[Ar];simp;omega):p:=h
end Go.Pl
namespace Go.Pl
open Go Go.Lv
theorem Acv(n:Nat)(h:n<4611686018427387904):Fc (n:Int) (7:Int)=((n %8:Nat):Int):=by
 have e:Fc (n:Int) (7:Int)=wrap64 ((BitVec.ofInt 64 (n:Int)&&&BitVec.ofInt 64 7).toNat:Int):=rfl;rw[e,BitVec.toNat_and,Auo,Auo];have h1:((n:Int) %((2^64:Nat):Int)).toNat=n:=F0
 have h2:((7:Int) %((2^64:Nat):Int)).toNat=2^3-1:=F3
 rw[h1,h2,Auk,Df F0 F0]
theorem Asu(n:Nat):S2 (n:Int) (GI.toZ (3:UInt64)).toNat=((n/8:Nat):Int):=by
 have e:S2 (n:Int) (GI.toZ (3:UInt64)).toNat=(n:Int).fdiv 8:=rfl;rw[e,An4 _ F0];omega
theorem Ail{p:LB}{k:Nat}(h:k<p.length):Aj p (k:Int)=some (p.getD k 0):=by
 rw[Ca h];simp[List.getD_eq_getElem?_getD,h]
def NH(p:LB)(a n:Nat):UInt64:=UInt64.ofNat (De p a n)
theorem QV(p:LB)(a n:Nat)(h:n<=64):(NH p a n).toNat=De p a n:=by
 have h1:=IZ p n a;have h2:2^n<=2^64:=Aj7 F0 h;rw[NH,Ahx,Acn F0]
theorem qK{p:LB}{n:Nat}(h:okB p n):Kl p (n:Int)=some 0:=by
 obtain⟨h1,h2,h3⟩:=h;have e7:Ae (n:Int) 7=((n+7:Nat):Int):=by rw[Ag];omega
 rw[Kl,e7,Asu,Aa1 (by simp[Af,Ar,Bl,Ac,h2];omega),Acv _ F0];by_cases hz:n %8=0
 ·rw[Aa1 Av6]
 ·have el:Ak (Ac p) 1=((p.length-1:Nat):Int):=by rw[Ac,Dx];omega
  rw[Abh Av6,el,Ail F0,Aa,Bt Awc,Aa];have z:(GI.toZ ((n %8:Nat):Int)).toNat=n %8:=rfl;have hs:Ce (p.getD (p.length-1) 0) (n %8)=0:=by
   apply UInt8.toNat_inj.1;rw[U3];have hv:=hJ p n (8-n %8) F0;have h0:De p n (8-n %8)=0:=E3 _ _ λk hk=>h3 _ F0 F0;rw[h0,show n/8=p.length-1 by omega]at hv;have hlt:(p.getD (p.length-1) 0).toNat/2^(n %8)<2^(8-n %8):=by
    have:=(p.getD (p.length-1) 0).toNat_lt;rw[Nat.div_lt_iff_lt_mul (Auh F0),<-Avr,show 8-n %8+n %8=8 by omega];simpa using this
   rw[Acn hlt]at hv;exact hv.symm
  rw[z,hs,Aa1 (by rw[R9];simp)]
theorem Aw0{p:Prop}(h:p:=by rw[Iu];simp;omega):p:=h
end Go.Pl
namespace Go.Pl
open Go Go.Lv
variable{v:LU}{s t:UInt64}
theorem Asv(c:Nat)(h:c<4611686018427387904):Ay (c:Int) (8:Int)=((c/8:Nat):Int):=by
 rw[TK,As7 F0,Df F0 F0];omega
theorem Aog(c:Nat):Fm (c:Int) (8:Int)=((c %8:Nat):Int):=by rw[Fm,Au1 F0];omega
theorem Adk(bit:Int)(N:Nat)(l:LB):∀(j k q:Nat),k+j=N %8->j<q->Jm bit (N:Int) l q ((2^k:Nat):Int) (k:Int)=Qm bit ((2^(N %8):Nat):Int) (N:Int) l
 |0,k,q+1,hk,_=>by
  rw[Jm,Re,Aog,Aa1 F9,show k=N %8 by omega]
 |j+1,k,q+1,hk,hq=>by
  have hp:2^k<=2^8:=Aj7 F0 F0;have e:Bc ((2^k:Nat):Int) 2=((2^(k+1):Nat):Int):=by
   rw[Ar8];generalize 2^k=K at*
   rw[Gu];omega
  rw[Jm,Re,Aog,Abh F9,e,Ag];exact Adk bit N l j (k+1) q F0 F0
theorem yK(p:LB)(a n j:Nat)(h:j<(n+7)/8):(Ma p a n)[j]'(by rw[Iu];exact h)=UInt8.ofNat (De p (a+8*j) (min 8 (n-8*j))):=by simp[Ma]
theorem pP(p:LB)(a t:Nat)(h:t<=8):De p a t<256:=by
 have h1:=IZ p t a;have h2:2^t<=2^8:=Aj7 F0 h;omega
def room(p:LB)(a n:Nat):LB:=if n %8=0 then Ma p a n++[0]else Ma p a n
theorem Pn(p:LB)(a n:Nat):(room p a n).length=n/8+1:=by
 rw[room];split<;>simp[Iu]<;>omega
theorem tq(p:LB)(a n j:Nat)(h:j<n/8+1):(room p a n)[j]'(by rw[Pn];exact h)=UInt8.ofNat (De p (a+8*j) (min 8 (n-8*j))):=by
 have h0:(room p a n)[j]? =some (UInt8.ofNat (De p (a+8*j) (min 8 (n-8*j)))):=by
  rw[room];split
  ·by_cases hj:j<(n+7)/8
   ·rw[List.getElem?_append_left (by rw[Iu];exact hj),List.getElem?_eq_getElem (by rw[Iu];exact hj),yK p a n j hj]
   ·rw[List.getElem?_append_right (by rw[Iu];omega),Iu,show j-(n+7)/8=0 by omega,show n-8*j=0 by omega];rfl
  ·rw[List.getElem?_eq_getElem (by rw[Iu];omega),yK p a n j F0]
 rw[List.getElem?_eq_getElem (by rw[Pn];exact h)]at h0;exact Auy h0
theorem pD(p:LB)(a n T:Nat)(h1:1<=T)(h:n %8+T<=8):(room p a n).set (n/8) (UInt8.ofNat (De p (a+8*(n/8)) (n %8+T)))=Ma p a (n+T):=by
 apply Arw (by rw[Auz,Pn,Iu];omega);intro j g1 g2;rw[Auz,Pn]at g1;rw[Au4,yK p a (n+T) j (by rw[Iu]at g2;exact g2)];split
 ·rename_i e;subst e;rw[show min 8 (n+T-8*(n/8))=n %8+T by omega]
 ·rw[tq p a n j g1,show min 8 (n-8*j)=8 by omega,show min 8 (n+T-8*j)=8 by omega]
theorem VX(p:LB)(a n:Nat):(room p a n)[n/8]'(by rw[Pn];omega)=UInt8.ofNat (De p (a+8*(n/8)) (n %8)):=by
 rw[tq p a n _ F0,show min 8 (n-8*(n/8))=n %8 by omega]
theorem uY(p:LB)(a n:Nat)(hn:n<=400000):Ck (Ma p a n) (n:Int) ((Hr p (a+n):Nat):Int)=some (Ma p a (n+1),((n+1:Nat):Int)):=by
 have hb:=WE p (a+n);have hp:2^(n %8)<=2^7:=Aj7 F0 F0;have hroom:Ck (Ma p a n) (n:Int) ((Hr p (a+n):Nat):Int)=Yx ((Hr p (a+n):Nat):Int) (n:Int) (room p a n):=by
  rw[Ck,Yz,Aog,room];by_cases h0:n %8=0
  ·rw[Abh (by rw[Ba,h0];rfl),As Aw0,Aa,Abh h0]
  ·rw[Aa1 Av5,Aa1 h0]
 have hl:=Adk ((Hr p (a+n):Nat):Int) n (room p a n) (n %8) 0 Aq F0 F7;rw[hroom,Yx,Zj,MM];refine Asr hl ?_;have hg:Aj (room p a n) ((n/8:Nat):Int)=some (UInt8.ofNat (De p (a+8*(n/8)) (n %8))):=by
  rw[Ca (by rw[Pn];omega),VX]
 have hlt:=pP p (a+8*(n/8)) (n %8+1) F0;have hsn:=VI p (a+8*(n/8)) (n %8);rw[show a+8*(n/8)+n %8=a+n by omega]at hsn;have hm:Bc ((Hr p (a+n):Nat):Int) ((2^(n %8):Nat):Int)=((2^(n %8)*Hr p (a+n):Nat):Int):=by
  have hle:2^(n %8)*Hr p (a+n)<=2^7*1:=Arb hp F0;rw[Af5,<-Ana,Df F0 (by rw[Anw];omega),Anw]
 have hx:Ae (UInt8.ofNat (De p (a+8*(n/8)) (n %8))) (Ad (((2^(n %8)*Hr p (a+n):Nat):Int)):UInt8)=UInt8.ofNat (De p (a+8*(n/8)) (n %8+1)):=by
  rw[Adj,Ahb,hsn,UInt8.ofNat_add]
 rw[Qm,MQ,Asv _ F0,hg,Aa,Aa,Aa,hm,hx,Xn _ (by rw[Pn];omega),Aa,pD p a n 1 F0 F0,Ag];rfl
theorem Aoj{t:Nat}(h:t<=8):Ak (Di (1:UInt64) t) (1:UInt64)=UInt64.ofNat (2^t-1):=by
 have:t=0\/t=1\/t=2\/t=3\/t=4\/t=5\/t=6\/t=7\/t=8:=F0
 rcases this with rfl|rfl|rfl|rfl|rfl|rfl|rfl|rfl|rfl<;>decide
theorem As3(v:UInt64){t:Nat}(h:t<=8):(Fc v (Ak (Di (1:UInt64) t) (1:UInt64))).toNat=v.toNat %2^t:=by
 have hp:2^t<=2^8:=Aj7 F0 h;rw[Aoj h,jy,UInt64.toNat_and,Ahx,Acn (by have:=Auh (n:=t) (show 0<2 by omega);omega),Auk]
theorem or8{v w i:Nat}(hv:v<2^i)(hw:w*2^i<256)(hi:i<8):yG (UInt8.ofNat v) (Di (UInt8.ofNat w) i)=UInt8.ofNat (v+w*2^i):=by
 have hp:2^i<=2^8:=Aj7 F0 F0;have hpos:0<2^i:=Auh F0;have hw2:w<256:=Atj (Nat.le_mul_of_pos_right w hpos) hw;rw[Aor];apply UInt8.toNat_inj.1;have e1:(UInt8.ofNat v).toNat=v:=by rw[Anq,Acn F0]
 have e2:(UInt8.ofNat w).toNat=w:=by rw[Anq,Acn F0]
 rw[UInt8.toNat_or,Alj,e1,e2,Acn hw,Anw w,Nat.or_comm,<-As5 hv,Anq,Auj v];rw[Anw]at hw;have hb:2^i*w+v<256:=by
  rw[As5 hv];exact Nat.or_lt_two_pow (n:=8) hw F0
 rw[Acn hb]
theorem Ah6(p:LB)(a n T:Nat)(h:T<=n)(hn:n<=64):Ce (NH p a n) T=NH p (a+T) (n-T):=by
 apply UInt64.toNat_inj.1;rw[FR,QV p a n hn,QV p (a+T) (n-T) F0];have:=IZ p T a
 conv=>lhs;rw[show n=T+(n-T) by omega,eJ,Nat.add_mul_div_left _ _ (Auh F0),Ata this,Ar7]
theorem Ai8(p:LB)(a n T:Nat)(h:T<=n)(hn:n<=64):(NH p a n).toNat %2^T=De p a T:=by
 have:=IZ p T a;rw[QV p a n hn]
 conv=>lhs;rw[show n=T+(n-T) by omega,eJ,Nat.add_mul_mod_self_left,Acn this]
def Aso(p:LB):Nat->Nat->Nat
 |_,0=>0
 |a,m+1=>if Hr p a=1 then 1+Aso p (a+1) m else 0
theorem Ab6{n:Nat}(h:n<4294967296):(UInt32.ofNat n).toNat=n:=by rw[Aj1];exact Acn h
theorem xX(k:Nat)(hk:k<=63):∀(j i q:Nat),i+j=k->j<q->Hf (k:Int) q (UInt64.ofNat (2^i)) (i:Int)=some (UInt64.ofNat (2^k))
 |0,i,q+1,hi,_=>by
  rw[Hf,Oe,Aa1 F9,show i=k by omega];rfl
 |j+1,i,q+1,hi,hq=>by
  have e:Bc (UInt64.ofNat (2^i)) (2:UInt64)=UInt64.ofNat (2^(i+1)):=by
   rw[VZ,Ar8,UInt64.ofNat_mul];rfl
  rw[Hf,Oe,Abh F9,Ag,e];exact xX k hk j (i+1) q F0 F0
theorem WB(k:Nat)(hk:k<=63):Dp (k:Int)=some (UInt64.ofNat (2^k)):=
 xX k hk k 0 Aq F0 F7
theorem RT{k:Nat}(hk:k<=63):(UInt64.ofNat (2^k)).toNat=2^k:=by
 have hp:2^k<=2^63:=Aj7 F0 hk;rw[Ahx,Acn F0]
theorem Ak4(v:UInt32)(k:Nat)(hk:k<=24):Ph v (k:Int)=some ((min 48 (v.toNat/2^k):Nat):Int):=by
 have hpos:0<2^k:=Auh F0;have hv:=v.toNat_lt;rw[Ph,WB k F0,Aa,Bt (by rw[nW];simp only[Aup,ne_eq,<-Avj,RT (show k<=63 by omega)];simp),Aa];have e:(Ay (Ad v:UInt64) (UInt64.ofNat (2^k))).toNat=v.toNat/2^k:=by
  rw[fN,Au2,Dg,RT F0,Ahx,Acn F0]
 have hle:v.toNat/2^k<=v.toNat:=Aqh _ _;have e2:Kt (48:UInt64) (Ay (Ad v:UInt64) (UInt64.ofNat (2^k)))=UInt64.ofNat (min 48 (v.toNat/2^k)):=by
  apply UInt64.toNat_inj.1;rw[Ahx,Acn F0];show(if _ then _ else _:UInt64).toNat=_;rw[show(GI.toZ (Ay (Ad v:UInt64) (UInt64.ofNat (2^k))))=((v.toNat/2^k:Nat):Int) by rw[Ho,e],show GI.toZ (48:UInt64)=48 from rfl];split
  ·rw[e];omega
  ·show 48=_;omega
 rw[e2,Ym (by rw[Ahx,Acn]<;>omega),Ahx,Acn F0]
def okD(k l:Nat)(s t:UInt64):Prop:=k<=24/\l<=24/\s.toNat<=68719476735/\t.toNat<=68719476735
theorem jq(a b:UInt64)(h:a.toNat<=b.toNat):Kt a b=a:=by
 show(if _ then _ else _)=_;rw[Ho,Ho,Aa1 F0]
theorem nL(a:UInt64):geq a a=true:=by rw[uE];simp
theorem Aoc{k l:Nat}(h:okD k l s t):QN (k:Int) (l:Int) s t=some 0:=by
 obtain⟨h1,h2,h3,h4⟩:=h;have e1:Kt (nZ (k:Int) 0) 24=(k:Int):=by rw[lA,T2];omega
 have e2:Kt (nZ (l:Int) 0) 24=(l:Int):=by rw[lA,T2];omega
 have e3:Kt s (68719476735:UInt64)=s:=jq _ _ (by simpa using h3);have e4:Kt t (68719476735:UInt64)=t:=jq _ _ (by simpa using h4);have e5:∀a:Int,geq a a=true:=λa=>by rw[Ba];simp
 rw[QN,JC,TY,IW,TB,jU,e1,e2,e3,e4,e5,e5,nL,nL];rfl
def FX(s n:UInt64):UInt64:=s+n-s/16
def kS(k:Nat)(s:UInt64):Nat:=if 0<k/\s.toNat<2^(k+4)then k-1 else if k<24/\2^(k+5)<s.toNat then k+1 else k
theorem Ant{k:Nat}(h:k<=24)(s:UInt64):kS k s<=24:=by
 unfold kS;by_cases h1:0<k/\s.toNat<2^(k+4)
 ·rw[Abh h1];omega
 ·rw[Aa1 h1];split<;>omega
theorem Ab4{k:Nat}(h:¬(0<k/\s.toNat<2^(k+4))):(if k<24/\2^(k+5)<s.toNat then((k+1:Nat):Int)else(k:Int))=((kS k s:Nat):Int):=by
 rw[kS,Aa1 h];split<;>rfl
theorem Ab7{n:UInt64}(h:s.toNat<=68719476735)(hn:n.toNat<=4294967295):(FX s n).toNat<=68719476735:=by
 have h1:=s.toNat_lt;have e:(s+n).toNat=s.toNat+n.toNat:=by rw[UInt64.toNat_add];omega
 have e2:(s/16).toNat=s.toNat/16:=by rw[Au2];rfl
 rw[FX,UInt64.toNat_sub_of_le _ _ (by rw[UInt64.le_iff_toNat_le,e,e2];omega),e,e2];omega
theorem uW(s n:UInt64):Ae s (Ak n (Ce s (GI.toZ (4:UInt64)).toNat))=FX s n:=by
 have e:Ce s (GI.toZ (4:UInt64)).toNat=s/16:=by
  apply UInt64.toNat_inj.1;rw[FR,Au2];rfl
 rw[e,QC,pG,FX,UInt64.sub_eq_add_neg,UInt64.sub_eq_add_neg,UInt64.add_assoc]
theorem Acm(s n:UInt64):Ak (Ae s n) (Ay s (16:UInt64))=FX s n:=by rw[QC,pG,fN,FX]
theorem Aqq{k:Nat}(h:k<=24):(Di (16:UInt64) k).toNat=2^(k+4):=by
 have hp:2^k<=2^24:=Aj7 F0 h;rw[RF,Avr]
 show 16*2^k %_=2^k*16;rw[Acn F0,Anw]
theorem Apx{k:Nat}(h:k<=24):(Di (32:UInt64) k).toNat=2^(k+5):=by
 have hp:2^k<=2^24:=Aj7 F0 h;rw[RF,Avr]
 show 32*2^k %_=2^k*32;rw[Acn F0,Anw]
theorem Anj{k:Nat}(h:0<k)(h2:s.toNat<2^(k+4)):kS k s=k-1:=by rw[kS,Abh ⟨h,h2⟩]
theorem Anx{k:Nat}(h:¬(0<k/\s.toNat<2^(k+4)))(h2:k<24)(h3:2^(k+5)<s.toNat):kS k s=k+1:=by rw[kS,Aa1 h,Abh ⟨h2,h3⟩]
theorem Acj{k:Nat}(h:¬(0<k/\s.toNat<2^(k+4)))(h2:¬(k<24/\2^(k+5)<s.toNat)):kS k s=k:=by rw[kS,Aa1 h,Aa1 h2]
theorem Anz{α:Type}(k:Nat)(hk:k<=24)(s:UInt64)(f:Int->Option α):
  (if(Da (k:Int) (0:Int))=true then(
   Option.bind (Hq (Ls (k:Int) (0:Int))) λ_=>
   if(Cm s (Di (16:UInt64) (GI.toZ (k:Int)).toNat))=true then f (Ak (k:Int) (1:Int))
   else(if(Cm (k:Int) (24:Int))=true then(
    Option.bind (Hq (Ls (k:Int) (0:Int))) λ_=>
    if(Da s (Di (32:UInt64) (GI.toZ (k:Int)).toNat))=true then f (Ae (k:Int) (1:Int))else f (k:Int))
    else f (k:Int)))
  else(if(Cm (k:Int) (24:Int))=true then(
    Option.bind (Hq (Ls (k:Int) (0:Int))) λ_=>
    if(Da s (Di (32:UInt64) (GI.toZ (k:Int)).toNat))=true then f (Ae (k:Int) (1:Int))else f (k:Int))
    else f (k:Int)))=f ((kS k s:Nat):Int):=by
 have z:(GI.toZ (k:Int)).toNat=k:=rfl;rw[z,Bt Awi];simp only[Aa];rw[gX,Qp,Aqq hk,Apx hk];by_cases h0:0<k
 ·rw[Abh Av6];by_cases h1:s.toNat<2^(k+4)
  ·rw[Abh (by simp[h1]),Anj h0 h1,Dx];congr 1;omega
  ·rw[Aa1 F5];by_cases h2:k<24
   ·rw[Abh F9];by_cases h3:2^(k+5)<s.toNat
    ·rw[Abh (by simp[h3]),Anx (λh=>h1 h.2) h2 h3,Ag];rfl
    ·rw[Aa1 F5,Acj (λh=>h1 h.2) (λh=>h3 h.2)]
   ·rw[Aa1 F9,Acj (λh=>h1 h.2) (λh=>h2 h.1)]
 ·rw[Aa1 Av6];by_cases h2:k<24
  ·rw[Abh F9];by_cases h3:2^(k+5)<s.toNat
   ·rw[Abh (by simp[h3]),Anx (λh=>h0 h.1) h2 h3,Ag];rfl
   ·rw[Aa1 F5,Acj (λh=>h0 h.1) (λh=>h3 h.2)]
  ·rw[Aa1 F9,Acj (λh=>h0 h.1) (λh=>h2 h.1)]
theorem Adi(k:Nat)(hk:k<=24)(s n:UInt64):Ix (k:Int) s n=some (((kS k (FX s n):Nat):Int),FX s n):=by
 have g1:Ae (k:Int) 4=((k+4:Nat):Int):=by rw[Ag];omega
 have g2:Ae (k:Int) 5=((k+5:Nat):Int):=by rw[Ag];omega
 have hp:Wv (k:Int) s n=some (if k<24/\2^(k+5)<(FX s n).toNat then((k+1:Nat):Int)else(k:Int),FX s n):=by
  rw[Wv,KZ,g2,WB _ F0,Aa,Acm,Qp,RT F0];by_cases h2:k<24
  ·rw[Abh F9];by_cases h3:2^(k+5)<(FX s n).toNat
   ·rw[Abh (by simp[h3]),Abh ⟨h2,h3⟩,Ag];rfl
   ·rw[Aa1 F5,Aa1 (λh=>h3 h.2)]
  ·rw[Aa1 F9,Aa1 (λh=>h2 h.1)]
 rw[Ix,KC,g1,WB _ F0,Aa,Acm,gX,RT F0,hp];by_cases h0:0<k
 ·rw[Abh Av6];by_cases h1:(FX s n).toNat<2^(k+4)
  ·rw[Abh (by simp[h1]),Anj h0 h1,Dx];congr 2;omega
  ·rw[Aa1 F5,Ab4 (λh=>h1 h.2)]
 ·rw[Aa1 Av6,Ab4 (λh=>h0 h.1)]
def W8(v:UInt32):UInt64:=UInt64.ofNat v.toNat
theorem Ahf(v:UInt32):(W8 v).toNat<=4294967295:=by have:=v.toNat_lt;rw[W8,Ahx,Acn F0];omega
def SH(k:Nat)(v:UInt32):UInt32:=UInt32.ofNat (v.toNat-2^k)
def lK(l:Nat)(t:UInt64)(k:Nat)(v:UInt32):Nat:=if v.toNat<2^k then l else kS l (FX t (W8 (SH k v)))
def lT(t:UInt64)(k:Nat)(v:UInt32):UInt64:=if v.toNat<2^k then t else FX t (W8 (SH k v))
theorem Agi{k l:Nat}(h:okD k l s t)(v:UInt32):okD (kS k (FX s (W8 v))) (lK l t k v) (FX s (W8 v)) (lT t k v):=by
 obtain⟨h1,h2,h3,h4⟩:=h;refine⟨Ant h1 _,?_,Ab7 h3 (Ahf v),?_⟩
 ·unfold lK;split; · exact h2
  exact Ant h2 _
 ·unfold lT;split; · exact h4
  exact Ab7 h4 (Ahf _)
theorem Ahm(k l:Nat)(s t:UInt64)(hk:k<=24)(v:UInt32):Ke (k:Int) (l:Int) s t v=some (decide (v.toNat<2^k)):=by
 have:=v.toNat_lt;rw[Ke,WB k F0,Aa,gX,RT F0,Dg,Ahx,Acn F0]
theorem left_eq(k l:Nat)(s t:UInt64)(hk:k<=24)(v:UInt32)(h:¬v.toNat<2^k):Eb (k:Int) (l:Int) s t v=some (SH k v):=by
 have:=v.toNat_lt;have e2:∀x:UInt64,(Ad x:UInt32)=UInt32.ofNat x.toNat:=λx=>by simp only[Ad,Ho,Jn]
 have e3:(UInt64.ofNat v.toNat).toNat=v.toNat:=by rw[Ahx,Acn F0]
 rw[Eb,WB k F0,Aa,e2,pG,Dg,UInt64.toNat_sub_of_le _ _ (by rw[UInt64.le_iff_toNat_le,RT F0,e3];omega),RT F0,e3,SH]
theorem Afi{k l:Nat}(h:okD k l s t)(v:UInt32):Lu (k:Int) (l:Int) s t v=some (((kS k (FX s (W8 v)):Nat):Int),((lK l t k v:Nat):Int),FX s (W8 v),lT t k v):=by
 obtain⟨h1,h2,h3,h4⟩:=h;have hp:∀(r1:Int) (r2:UInt64),Ms v (k:Int) (l:Int) s t r1 r2=some (((kS k (FX s (W8 v)):Nat):Int),r1,FX s (W8 v),r2):=by
  intro r1 r2;rw[Ms,FA,Dg,Adi k h1,Aa];rfl
 rw[Lu,Mq,Ahm k l s t h1,Aa];by_cases hv:v.toNat<2^k
 ·rw[Aa1 (by simp[hv]),hp,lK,Abh hv,lT,Abh hv]
 ·rw[Abh F5,left_eq k l s t h1 v hv,Aa,Dg,Adi l h2,Aa];simp only;rw[hp,lK,Aa1 hv,lT,Aa1 hv];rfl
theorem Z8(k l:Nat)(s t:UInt64)(hk:k<=24)(v:UInt32):IH (k:Int) (l:Int) s t v=some (if v.toNat<2^k then(0,v)else(1,SH k v)):=by
 have hp:2^k<=2^24:=Aj7 F0 hk;have hpos:0<2^k:=Auh F0;have hl:=v.toNat_lt;have z:(GI.toZ (k:Int)).toNat=k:=rfl;have e1:geq (Ce v k) (0:UInt32)=decide (v.toNat<2^k):=by
  rw[Ab5,An2];simp only[Atw,<-UInt32.toNat_inj,UQ,Aef]
  show _/_=0↔_;rw[Nat.div_eq_zero_iff];omega
 have e2:¬v.toNat<2^k->Ak v (Di (1:UInt32) k)=SH k v:=by
  intro h;have e3:(Di (1:UInt32) k).toNat=2^k:=by rw[uU];show 1*2^k %_=_;rw[Acn F0,Aqu]
  apply UInt32.toNat_inj.1;rw[wD,UInt32.toNat_sub_of_le _ _ (by rw[UInt32.le_iff_toNat_le,e3];omega),e3,SH,Ab6 F0]
 rw[IH,Bt Awi,Aa,Aa,z,e1];by_cases h:v.toNat<2^k
 ·rw[Abh (by simp[h]),Abh h]
 ·rw[Aa1 F5,Aa1 h,e2 h]
abbrev Rd:=UInt32×Int×Int×Int×UInt64×UInt64×Int
abbrev DuN:=Nat×Nat×UInt64×UInt64
def okN(d:DuN):Prop:=okD d.1 d.2.1 d.2.2.1 d.2.2.2
def nxt(d:DuN)(v:UInt32):DuN:=(kS d.1 (FX d.2.2.1 (W8 v)),lK d.2.1 d.2.2.2 d.1 v,FX d.2.2.1 (W8 v),lT d.2.2.2 d.1 v)
def U2:DuN:=(10,10,16384,16384)
theorem Aho:okN U2:=⟨F3,F3,F3,F3⟩
theorem Apf{d:DuN}(h:okN d)(v:UInt32):okN (nxt d v):=Agi h v
abbrev DuL:=Int×Int×UInt64×UInt64×Unit
def toI(d:DuN):DuL:=((d.1:Int),(d.2.1:Int),d.2.2.1,d.2.2.2,())
def tM(ch:Nat)(v:LU)(c:Nat):Nat->DuN
 |0=>U2
 |m+1=>if m %ch=c then nxt (tM ch v c m) (v.getD m 0)else tM ch v c m
theorem xK(ch:Nat)(v:LU)(c:Nat):∀m,okN (tM ch v c m)
 |0=>Aho
 |m+1=>by rw[tM];split;exact Apf (xK ch v c m) _;exact xK ch v c m
theorem U0(ch:Nat)(v w:LU)(c:Nat):∀m,m<=v.length->tM ch (v++w) c m=tM ch v c m
 |0,_=>rfl
 |m+1,h=>by
  have e:(v++w).getD m 0=v.getD m 0:=by simp[List.getD_eq_getElem?_getD,List.getElem?_append_left (show m<v.length by omega)]
  rw[tM,tM,U0 ch v w c m F0,e]
theorem Ab1(ch:Nat)(v:LU)(c:Nat):∀m,m<=c->c<ch->tM ch v c m=U2
 |0,_,_=>rfl
 |m+1,h,h2=>by rw[tM,Aa1 (by rw[Acn F0];omega),Ab1 ch v c m F0 h2]
theorem pz(ch:Nat)(v:LU)(c i:Nat)(hi:i %ch=c)(hc:c<ch):∀j,j<ch->tM ch v c (i+1+j)=tM ch v c (i+1)
 |0,_=>rfl
 |j+1,h=>by
  have hne:(i+1+j) %ch≠c:=by
   intro e;have h1:(i+(1+j)) %ch=i %ch:=by rw[hi,<-e];congr 1;omega
   have h2:(1+j) %ch=0:=by
    have h3:=Nat.sub_mod_eq_zero_of_mod_eq h1;rwa [At6]at h3
   rw[Acn F0]at h2;omega
  rw[show i+1+(j+1)=(i+1+j)+1 by omega,tM,Aa1 hne,pz ch v c i hi hc j F0]
theorem Ah8(ch:Nat)(v:LU)(c i:Nat)(hi:i %ch=c)(hc:c<ch):tM ch v c (i+ch)=nxt (tM ch v c i) (v.getD i 0):=by
 have h:=pz ch v c i hi hc (ch-1) F0;rw[show i+1+(ch-1)=i+ch by omega]at h;rw[h,tM,Abh hi]
theorem pH{l:LU}{k:Nat}(h:k<l.length):Aj l (k:Int)=some (l.getD k 0):=by
 rw[Ca h];simp[List.getD_eq_getElem?_getD,h]
theorem AV(a b:Nat):Fm (a:Int) (b:Int)=((a %b:Nat):Int):=by rw[Fm,Au1 F0];omega
def now(ch:Nat)(v:LU):DuN:=tM ch v (v.length %ch) v.length
def sts(ch:Nat)(v:LU):List DuL:=(List.range 6).map λc=>toI (tM ch v c v.length)
theorem Ali{ch:Nat}{c:Nat}(h:c<6):Aj (sts ch v) (c:Int)=some (toI (tM ch v c v.length)):=by
 rw[Ca (by simp[sts];exact h)];simp[sts]
theorem Amq{ch:Nat}{c:Nat}(x:UInt32)(h:c<6)(hc:c=v.length %ch):Ku (sts ch v) (c:Int) (toI (nxt (tM ch v c v.length) x))=some (sts ch (v++[x])):=by
 rw[Xn _ (by simp[sts];exact h)];congr 1;apply Arw (by simp[sts]);intro i h1 h2;rw[Au4];simp only[sts,Aua,Att];have e:(v++[x]).getD v.length 0=x:=by simp
 rw[Abp,Ass,tM,e,U0 ch v [x] i v.length (Aqe _)];by_cases hi:c=i
 ·subst hi;rw[Abh rfl,Abh hc.symm]
 ·rw[Aa1 hi,Aa1 F0]
theorem Amu{ch:Nat}{c:Nat}(hc:c=v.length %ch):tM ch v c v.length=now ch v:=by rw[now,hc]
theorem V6(n:Int):(GI.ofZ n:Int32)=Int32.ofInt n:=rfl
theorem SK(a:Int32):GI.toZ a=a.toInt:=rfl
theorem vS(a b:Int32):Ae a b=a+b:=by
 rw[Ae,SK,SK,V6,Int32.ofInt_add,Arz,Arz]
theorem VM(a b:Int32):Ak a b=a-b:=by
 rw[Ak,SK,SK,V6,Int32.ofInt_sub,Arz,Arz]
theorem Ace(a b:Int32):geq a b=(a==b):=by
 rw[geq,SK,SK,An2];simp[Int32.toInt_inj]
def xF(p:Nat->Bool)(a b:LX):LX:=(List.range a.length).map λk=>if p k=true then a.getD k 0 else b.getD k 0
section
variable {p q:Nat->Bool} {a b:LX}
theorem SJ:(xF p a b).length=a.length:=by simp[xF]
theorem Nz{k:Nat}(h:k<a.length):a.getD k 0=a[k]:=by simp[List.getD_eq_getElem?_getD,h]
theorem Xg{k:Nat}(h:k<(xF p a b).length):(xF p a b)[k]=if p k=true then a.getD k 0 else b.getD k 0:=by simp[xF]
theorem pC{k:Nat}(h:k<a.length):Aj (xF p a b) (k:Int)=some (if p k=true then a.getD k 0 else b.getD k 0):=by
 rw[Ca (by rw[SJ];exact h),Xg]
theorem qD(h:∀k,k<a.length->p k=q k):xF p a b=xF q a b:=by
 apply Avg;intro k hk;rw[h k (List.mem_range.1 hk)]
theorem T4{k:Nat}(h:k<a.length):Ku (xF p a b) (k:Int) (a.getD k 0)=some (xF (λj=>p j||decide (j=k)) a b):=by
 rw[Xn _ (by rw[SJ];exact h)];congr 1;apply Arw (by simp[SJ]);intro i h1 h2;rw[Au4,Xg,Xg];by_cases hi:k=i
 ·subst hi;simp
 ·have:¬i=k:=λe=>hi e.symm;simp[hi,this]
theorem S5(h:∀k,k<a.length->p k=true):xF p a b=a:=by
 apply Arw (by simp[SJ]);intro i h1 h2;rw[Xg,Abh (h i h2),Nz h2]
theorem vI(hl:b.length=a.length)(h:∀k,k<a.length->p k=false):xF p a b=b:=by
 apply Arw (by simp[SJ,hl]);intro i h1 h2;rw[Xg,h i F0];simp[List.getD_eq_getElem?_getD,h2]
end
theorem Av1{p:Prop}(h:p:=by rw[Bl];simp;omega):p:=h
theorem Awn{p:Prop}(h:p:=by rw[Sm];simp;omega):p:=h
theorem Awj{p:Prop}(h:p:=by rw[Ba];decide):p:=h
theorem Av8{p:Prop}(h:p:=by rw[Af];simp):p:=h
theorem Awa{p:Prop}(h:p:=by rw[Bl];simp):p:=h
theorem Awl{p:Prop}(h:p:=by rw[Ar];simp):p:=h
end Go.Pl
namespace Go.Pl
open Go Go.Lv
variable{s bits:Int}{x w:Int32}{t p a b:LX}{i:Nat}
theorem vB(a b:Int32):Bc a b=a*b:=by
 rw[Bc,SK,SK,V6,Int32.ofInt_mul,Arz,Arz]
theorem Xp(a:Int32): -2147483648<=a.toInt/\a.toInt<2147483648:=⟨a.le_toInt,a.toInt_lt⟩
theorem Eh(a:Int32):(Ad a:Int)=a.toInt:=by
 have:=Xp a
 show wrap64 a.toInt=_;rw[Df]<;>omega
theorem WU(n:Int):(Ad n:Int32)=Int32.ofInt n:=rfl
theorem Afb(x:Int):Int32.ofInt (x %4294967296)=Int32.ofInt x:=by
 apply Int32.toInt_inj.1;rw[At3,At3];exact Int.emod_bmod x 4294967296
theorem uJ(x:Int):Bn x=some (Int32.ofInt x):=by
 have e1:(Ad x:UInt64).toNat=(x %18446744073709551616).toNat:=by
  rw[jk,Ahx,Acn F0]
 have e2:(Ad (Ad x:UInt64):UInt32).toNat=(x %4294967296).toNat:=by
  have e:(Ad (Ad x:UInt64):UInt32)=UInt32.ofNat (Ad x:UInt64).toNat:=by simp only[Ad,Ho,Jn]
  rw[e,Aj1,e1];show(x %18446744073709551616).toNat %4294967296=_;omega
 have e3:(Ad (Ad (Ad x:UInt64):UInt32):Int32)=Int32.ofInt ((Ad (Ad x:UInt64):UInt32).toNat:Int):=rfl;rw[Bn,e3,e2,<-Afb x];congr 2;omega
theorem Z0(a b:Int32):Bn (Ae (Ad a:Int) (Ad b:Int))=some (a+b):=by
 have:=Xp a;have:=Xp b;rw[Eh,Eh,Ag,uJ,Int32.ofInt_add,Arz,Arz]
theorem Aiw(a b:Int32):Bn (Bc (Ad a:Int) (Ad b:Int))=some (a*b):=by
 have ha:=Xp a;have hb:=Xp b;have h1: -9223372036854775808<=a.toInt*b.toInt/\a.toInt*b.toInt<=9223372036854775807:=by
  have h2:(a.toInt*b.toInt).natAbs<=2147483648*2147483648:=by
   rw[Int.natAbs_mul];exact Arb F0 F0
  omega
 rw[Eh,Eh,Gu h1.1 h1.2,uJ,Int32.ofInt_mul,Arz,Arz]
def OkF(s:Int)(t p:LX):Prop:=(s=9\/s=10)/\t.length=16/\p.length=16
theorem qI(h:OkF s t p):IE s t p=some 0:=by
 obtain⟨rfl|rfl,_,_⟩:=h<;>rfl
theorem U6{l:LX}{k:Nat}(h:k<l.length):Aj l (k:Int)=some (l.getD k 0):=by
 rw[Ca h];simp[List.getD_eq_getElem?_getD,h]
def eS(t p:LX):Nat->Int32
 |0=>0
 |i+1=>eS t p i+t.getD i 0*p.getD i 0
def half(s:Int):Int32:=if s=9 then 256 else 512
def gF(s:Int)(t p:LX):Int32:=Int32.ofInt ((half s+eS t p 16).toInt.fdiv (if s=9 then 512 else 1024))
theorem G2{s:Int}{t p:LX}(h:OkF s t p):∀(j i q:Nat),i+j=16->j<q->Uw t s p q (half s+eS t p i) (i:Int)=some (gF s t p,0)
 |0,i,q+1,hi,_=>by
  obtain rfl:i=16:=F0
  have hs:=h.1;rw[Uw,JA,Aa1 Av8,TJ,kJ,Bt Awc,Aa];obtain rfl|rfl:=hs<;>rfl
 |j+1,i,q+1,hi,hq=>by
  obtain⟨hs,ht,hp⟩:=h;rw[Uw,JA,Abh F9,U6 F0,Aa,U6 F0,Aa,Aa,Ag (b:=1) F0 F0,vS,vB,Int32.add_assoc];exact G2 ⟨hs,ht,hp⟩ j (i+1) q F0 F0
theorem Aik(h:OkF s t p):PX s t p=some (gF s t p,0):=by
 have hs:=h.1;have h1:=G2 h 16 0 Aq F0 F7;have e:Di (1:Int32) (GI.toZ (Ak s (1:Int))).toNat=half s+eS t p 0:=by
  obtain rfl|rfl:=hs<;>rfl
 rw[PX,TG,qI h,Aa,Aa1 Awa,Bt (by rw[Hl,Dx];simp;omega),Aa,kA,e];exact h1
theorem zB{s:Int}{t p:LX}(ht:t.length=16)(hp:p.length=16){g:Int32}(hg:eS t p 16=g):∀(j i q:Nat),i+j=16->j<q->Jf s t p q (eS t p i).toInt (i:Int)=some g
 |0,i,q+1,hi,_=>by
  obtain rfl:i=16:=F0
  rw[Jf,Qh,Aa1 Av8,Yu,NF,WU,Arz,hg]
 |j+1,i,q+1,hi,hq=>by
  have ih:=zB (s:=s) ht hp hg j (i+1) q F0 F0;rw[eS]at ih;rw[Jf,Qh,Abh F9,U6 F0,U6 F0,Aa,Aa,Aa,Aa,Aiw,Aa,<-Eh (eS t p i),Z0,Aa,Eh,Ag];exact ih
theorem Ahl(h:OkF s t p):HU s t p=some (eS t p 16):=
 zB h.2.1 h.2.2 rfl 16 0 Aq F0 F7
theorem Afo(x n:Int)(hn:n=512\/n=1024\/n=16\/n=32):(if x.tmod n<0 then x.tdiv n-1 else x.tdiv n)=x.fdiv n:=by
 have hs:n.sign=1:=by obtain rfl|rfl|rfl|rfl:=hn<;>rfl
 rw[Int.tdiv_eq_ediv,Int.tmod_eq_emod,hs,An4 _ F0];by_cases h:0<=x\/n∣x
 ·rw[Abh h,Abh h];obtain rfl|rfl|rfl|rfl:=hn<;>(rw[Aa1 F0];omega)
 ·rw[Aa1 h,Aa1 h];obtain rfl|rfl|rfl|rfl:=hn<;>(rw[Abh F0];omega)
theorem zK(x n:Int)(hn:n=512\/n=1024\/n=16\/n=32)(h: -1000000000000<=x)(h':x<=1000000000000): -1000000000000<=x.tdiv n/\x.tdiv n<=1000000000000:=by
 have hs:n.sign=1:=by obtain rfl|rfl|rfl|rfl:=hn<;>rfl
 rw[Int.tdiv_eq_ediv,hs];by_cases h:0<=x\/n∣x
 ·rw[Abh h];obtain rfl|rfl|rfl|rfl:=hn<;>omega
 ·rw[Aa1 h];obtain rfl|rfl|rfl|rfl:=hn<;>omega
theorem Aq4(x n:Int)(hn:n=512\/n=1024\/n=16\/n=32)(h: -1000000000000<=x)(h':x<=1000000000000):Ay x n=x.tdiv n:=by
 have:=zK x n hn h h';rw[TK,Df F0 F0]
theorem lq(x n:Int)(hn:n=512\/n=1024\/n=16\/n=32)(h: -1000000000000<=x)(h':x<=1000000000000):
  (if(Cm (Fm x n) (0:Int))=true then some (Ad (Ak (Ay x n) (1:Int)):Int32)else some (Ad (Ay x n):Int32))=some (Int32.ofInt (x.fdiv n)):=by
 have hb:=zK x n hn h h';rw[Af,Fm,Aq4 x n hn h h',Dx,WU,WU,<-Afo x n hn];by_cases hx:x.tmod n<0
 ·rw[Abh (by simpa using hx),Abh hx]
 ·rw[Aa1 (by simpa using hx),Aa1 hx]
theorem Akz(h:OkF s t p):Pp s t p=some (gF s t p):=by
 obtain⟨hs,ht,hp⟩:=h;have h:OkF s t p:=⟨hs,ht,hp⟩;have hx:=Xp (eS t p 16+half s);have key:∀n:Int,(n=512\/n=1024)-> (half s).toInt=n/2->gF s t p=Int32.ofInt ((half s+eS t p 16).toInt.fdiv n)->Xr s t p n=some (gF s t p):=by
  intro n hn hh hg;have e2:Ay n (2:Int)=(half s).toInt:=by rw[hh];obtain rfl|rfl:=hn<;>rfl
  rw[Xr,JJ,Ahl h,Aa,e2,<-Eh (half s),Z0,Aa,Bt Av1,Aa,Aa,Eh,lq _ n F0 F0 F0,hg,Int32.add_comm]
 rw[Pp,JP];obtain rfl|rfl:=hs
 ·rw[Abh Awt];exact key 512 (.inl rfl) rfl rfl
 ·rw[Aa1 Awj];exact key 1024 (.inr rfl) rfl rfl
def W9(i:Nat):Int32:=if i=0 then 4 else if i<4 then 2 else 1
def sg(x:Int32):Int32:=if x.toInt<0 then -1 else if 0<x.toInt then 1 else 0
def A3(t p:LX)(w:Int32):LX:=(List.range 16).map λi=>t.getD i 0+W9 i*sg (p.getD i 0)*sg w
theorem JE(t p:LX)(w:Int32):(A3 t p w).length=16:=by simp[A3]
theorem P8(t p:LX)(w:Int32)(h:i<16):(A3 t p w).getD i 0=t.getD i 0+W9 i*sg (p.getD i 0)*sg w:=by
 rw[Nz (by rw[JE];exact h)];simp[A3]
theorem step_eq(i:Nat):VG (i:Int)=some (W9 i):=by
 rw[VG,W9];by_cases h:i=0
 ·rw[Abh (by rw[Ba];simp[h]),Abh h]
 ·rw[Aa1 Av5,Aa1 h];by_cases h2:i<4
  ·rw[Abh F9,Abh h2]
  ·rw[Aa1 F9,Aa1 h2]
theorem Aes(i:Nat):Wo (i:Int)=some (W9 i):=by
 rw[Wo,W9];by_cases h:i=0
 ·rw[Abh (by rw[Ba];simp[h]),Abh h]
 ·rw[Aa1 Av5,Aa1 h];by_cases h2:i<4
  ·rw[Abh Awn,Abh h2]
  ·rw[Aa1 Awn,Aa1 h2]
theorem Q1(a b:Int32):Cm a b=decide (a.toInt<b.toInt):=rfl
theorem zq(a b:Int32):Da a b=decide (b.toInt<a.toInt):=rfl
theorem sign_eq(x:Int32):Pg x=some (sg x):=by
 rw[Pg,sg,Q1,zq,show(0:Int32).toInt=0 from rfl];by_cases h:x.toInt<0
 ·rw[Abh (by simpa using h),Abh h]
 ·rw[Aa1 (by simpa using h),Aa1 h];by_cases h2:0<x.toInt
  ·rw[Abh (by simpa using h2),Abh h2]
  ·rw[Aa1 (by simpa using h2),Aa1 h2]
theorem Acy:sg 0=0:=rfl
theorem toInt_ne(h:x≠0):x.toInt≠0:=λe=>h (Int32.toInt_inj.1 (by rw[e];rfl))
theorem M2(h:x.toInt<0):sg x= -1:=by rw[sg,Abh h]
theorem M4(h:x≠0)(h2:¬x.toInt<0):sg x=1:=by
 have:=toInt_ne h;rw[sg,Aa1 h2,Abh F0]
theorem gV(i:Nat):W9 i=4\/W9 i=2\/W9 i=1:=by
 unfold W9;by_cases h:i=0
 ·rw[Abh h];exact .inl rfl
 ·rw[Aa1 h];split;exact .inr (.inl rfl);exact .inr (.inr rfl)
theorem Aez(hx:x≠0)(hw:w≠0)(h:(x.toInt<0)=(w.toInt<0))(i:Nat):W9 i*sg x*sg w=W9 i:=by
 by_cases h1:x.toInt<0
 ·rw[M2 h1,M2 (by rw[<-h];exact h1)];obtain e|e|e:=gV i<;>rw[e]<;>decide
 ·rw[M4 hx h1,M4 hw (by rw[<-h];exact h1)];obtain e|e|e:=gV i<;>rw[e]<;>decide
theorem yj(hx:x≠0)(hw:w≠0)(h:¬(x.toInt<0)=(w.toInt<0))(i:Nat)(a:Int32):a+W9 i*sg x*sg w=a-W9 i:=by
 have key:W9 i*sg x*sg w=-W9 i:=by
  by_cases h1:x.toInt<0
  ·have h2:¬w.toInt<0:=λh2=>h (propext ⟨λ_=>h2,λ_=>h1⟩);rw[M2 h1,M4 hw h2];obtain e|e|e:=gV i<;>rw[e]<;>decide
  ·have h2:w.toInt<0:=Decidable.by_contra λh2=>h (propext ⟨λh3=>absurd h3 h1,λh3=>absurd h3 h2⟩);rw[M4 hx h1,M2 h2];obtain e|e|e:=gV i<;>rw[e]<;>decide
 rw[key,Int32.sub_eq_add_neg]
def oZ(i:Nat):Nat->Bool:=λj=>decide (j<i)
theorem zO(h:i<a.length):Ku (xF (oZ i) a b) (i:Int) (a.getD i 0)=some (xF (oZ (i+1)) a b):=by
 rw[T4 h];congr 1;apply qD;intro k _;rw[An2];simp only[oZ,Aqm,Aef];omega
theorem Afg(e:a.getD i 0=b.getD i 0):xF (oZ i) a b=xF (oZ (i+1)) a b:=by
 apply Avg;intro k _;simp only[oZ,Aef];by_cases h1:k<i
 ·rw[Abh h1,Abh F0]
 ·by_cases h2:k=i
  ·subst h2;rw[Aa1 h1,Abh F0,e]
  ·rw[Aa1 h1,Aa1 F0]
theorem qo(h:i<a.length):Aj (xF (oZ i) a b) (i:Int)=some (b.getD i 0):=by
 rw[pC h,Aa1 (by simp[oZ])]
theorem J8{s:Int}{t p:LX}{w:Int32}(hw:w≠0)(ht:t.length=16)(hp:p.length=16):∀(j i q:Nat),i+j=16->j<q->Ut w p s q (i:Int) (xF (oZ i) (A3 t p w) t)=some (s,A3 t p w,p,0)
 |0,i,q+1,hi,_=>by
  obtain rfl:i=16:=F0
  rw[Ut,JB,Aa1 Av8,S5 (λk hk=>by rw[JE]at hk;simpa [oZ]using hk)];rfl
 |j+1,i,q+1,hi,hq=>by
  have hl:=JE t p w;have hg:=P8 t p w (i:=i) F0;rw[Ut,JB,Abh F9,U6 F0,Aa,Ag (b:=1) F0 F0,qo F0,step_eq];simp only[Aa];rw[vS,VM,Ace,Q1,Q1,show(0:Int32).toInt=0 from rfl];have ih:=J8 (s:=s) hw ht hp j (i+1) q F0 F0;by_cases hx:p.getD i 0=0
  ·rw[Abh (by rw[hx];rfl),Afg (by rw[hg,hx,Acy,Int32.mul_zero,Int32.zero_mul,Int32.add_zero])];exact ih
  ·rw[Aa1 (by simpa using hx)];by_cases hs:((p.getD i 0).toInt<0)=(w.toInt<0)
   ·rw[Abh (by rw[Atw];simp only[hs]),show t.getD i 0+W9 i=(A3 t p w).getD i 0 by rw[hg,Aez hx hw hs],zO F0,Aa];exact ih
   ·rw[Aa1 (by rw[Atw,decide_eq_decide];exact λh=>hs (propext h)),show t.getD i 0-W9 i=(A3 t p w).getD i 0 by rw[hg,yj hx hw hs],zO F0,Aa];exact ih
theorem Af8(p:LX)(ht:t.length=16):A3 t p 0=t:=by
 apply Arw (by rw[JE,ht]);intro i h1 h2;have:=P8 t p 0 (i:=i) F0;rw[Nz h1,Nz h2]at this;rw[this,Acy,Int32.mul_zero,Int32.add_zero]
theorem Aig(h:OkF s t p)(w:Int32):aD s t p w=some (s,A3 t p w,p,0):=by
 rw[aD,TS,qI h,Aa,Aa1 Awa,Ace];by_cases hw:w=0
 ·rw[Abh (by simpa using hw),hw,Af8 p h.2.1]
 ·have h1:=J8 (s:=s) hw h.2.1 h.2.2 16 0 Aq F0 F7;rw[vI (by rw[JE,h.2.1]) (λk _=>by simp[oZ])]at h1;rw[Aa1 (by simpa using hw)];exact h1
theorem oF{s:Int}{t p:LX}{w:Int32}(ht:t.length=16)(hp:p.length=16):∀(j i q:Nat),i+j=16->j<q->Fl w s p q (i:Int) (xF (oZ i) (A3 t p w) t)=some (s,A3 t p w,p)
 |0,i,q+1,hi,_=>by
  obtain rfl:i=16:=F0
  rw[Fl,Lk,Aa1 Av8,S5 (λk hk=>by rw[JE]at hk;simpa [oZ]using hk)];rfl
 |j+1,i,q+1,hi,hq=>by
  have hl:=JE t p w;have hg:=P8 t p w (i:=i) F0;rw[Fl,Lk,Abh F9,U6 (l:=p) F0,Ag (b:=1) F0 F0,qo F0,Aes,sign_eq w,Aa,Aa,Aa,Aa,Aa,sign_eq,Aa,Aa,Aa,vS,vB,vB,<-hg,zO F0,Aa];exact oF ht hp j (i+1) q F0 F0
theorem Abc(h:OkF s t p)(w:Int32):Pk s t p w=some (s,A3 t p w,p):=by
 have h1:=oF (s:=s) (w:=w) h.2.1 h.2.2 16 0 Aq F0 F7;rw[vI (by rw[JE,h.2.1]) (λk _=>by simp[oZ])]at h1;exact h1
theorem Ak5(h:p.length=16):∃a0 a1 a2 a3 a4 a5 a6 a7 a8 a9 b0 b1 b2 b3 b4 b5,p=[a0,a1,a2,a3,a4,a5,a6,a7,a8,a9,b0,b1,b2,b3,b4,b5]:=by
 match p,h with
 |[a0,a1,a2,a3,a4,a5,a6,a7,a8,a9,b0,b1,b2,b3,b4,b5],_=>exact⟨a0,a1,a2,a3,a4,a5,a6,a7,a8,a9,b0,b1,b2,b3,b4,b5,rfl⟩
theorem Akn(h:OkF s t p)(x:Int32):iA s t p x=some (s,t,x::p.take 15,0):=by
 obtain⟨hs,ht,hp⟩:=h;rw[iA,NQ,qI ⟨hs,ht,hp⟩,Aa,Aa1 Awa,show uG (16:Int) 1 16=some ()from rfl,Aa,show uG (16:Int) 0 16=some ()from rfl,Aa,YX,nQ];obtain⟨a0,a1,a2,a3,a4,a5,a6,a7,a8,a9,b0,b1,b2,b3,b4,b5,rfl⟩:=Ak5 hp;rfl
def O4(p:LX)(i:Nat):LX:=(List.range 16).map λk=>if k<=i then p.getD k 0 else p.getD (k-1) 0
theorem AQ(p:LX)(i:Nat):(O4 p i).length=16:=by simp[O4]
theorem All(p:LX)(i k:Nat)(h:k<16):(O4 p i).getD k 0=if k<=i then p.getD k 0 else p.getD (k-1) 0:=by
 rw[Nz (by rw[AQ];exact h)];simp[O4]
theorem Als(p:LX)(i:Nat)(h:i+1<16):Ku (O4 p (i+1)) ((i+1:Nat):Int) (p.getD i 0)=some (O4 p i):=by
 rw[Xn _ (by rw[AQ];exact h)];congr 1;apply Arw (by simp[AQ]);intro k h1 h2;rw[AQ]at h2;rw[Au4];simp only[O4,Aua,Att];by_cases hk:i+1=k
 ·subst hk;rw[Abh rfl,Aa1 F0];rfl
 ·rw[Aa1 hk];by_cases h3:k<=i
  ·rw[Abh F0,Abh h3]
  ·rw[Aa1 F0,Aa1 h3]
theorem sY(s:Int)(t p:LX)(x:Int32)(hp:p.length=16):∀(i q:Nat),i<16->i<q->Gk x s t q (i:Int) (O4 p i)=some (s,t,x::p.take 15)
 |0,q+1,_,_=>by
  have hg:Aj (O4 p 0) (0:Int)=some ((O4 p 0).getD 0 0):=U6 (l:=O4 p 0) (k:=0) (by rw[AQ];omega);have hset:Ku (O4 p 0) (0:Int) x=some ((O4 p 0).set 0 x):=Xn (l:=O4 p 0) (n:=0) x (by rw[AQ];omega);rw[Gk,Na,Aa1 Awl,Tf,EB,hg,Aa,hset,Aa];congr 3;apply Arw (by simp[AQ,hp]);intro k h1 h2;rw[Auz,AQ]at h1;rw[Au4];cases k with
  |zero=>rw[Abh rfl];rfl
  |succ k=>
   rw[Aa1 F0];simp only[O4,Aua,Att,List.getElem_cons_succ,Ava];rw[Aa1 F0,Avo,Nz F0]
 |i+1,q+1,hi,hq=>by
  have hg:=U6 (l:=O4 p (i+1)) (k:=i) (by rw[AQ];omega);rw[All p (i+1) i F0,Abh F0]at hg;have e1:Ak ((i+1:Nat):Int) (1:Int)=(i:Int):=by rw[Dx];omega
  have hg2:=U6 (l:=O4 p (i+1)) (k:=i+1) (by rw[AQ];omega);rw[Gk,Na,Abh Awl,e1,hg,Aa,Aa,hg2,Aa,Als p i hi,Aa];exact sY s t p x hp i q F0 F0
theorem Afc(hp:p.length=16)(x:Int32):Qk s t p x=some (s,t,x::p.take 15):=by
 have h:=sY s t p x hp 15 Aq F0 F7;have e:O4 p 15=p:=by
  apply Arw (by rw[AQ,hp]);intro k h1 h2;rw[AQ]at h1;simp only[O4,Aua,Att];rw[Abh F0,Nz h2]
 rw[e]at h;exact h
theorem Agp(h:OkF s t p)(w x:Int32):OkF s (A3 t p w) (x::p.take 15):=⟨h.1,JE _ _ _,by simp[h.2.2]⟩
def sB(bits:Int):Int:=if bits=16 then 9 else 10
def shB(bits:Int):Int:=if bits=8 then 4 else 5
def Bg(bits:Int):Prop:=bits=8\/bits=16\/bits=24
def gs(sh:Int)(last:Int32):Int32:=Ad (S2 (Ak (Di (Ad last:Int) sh.toNat) (Ad last)) sh.toNat)
theorem Ard(bits:Int):sB bits=9\/sB bits=10:=by unfold sB;split<;>simp
theorem Alu(bits:Int):0<=shB bits:=by unfold shB;split<;>omega
theorem As6(h:Bg bits)(t:LX):oQ bits t=some (sB bits,t,List.replicate 16 0,0):=by
 obtain rfl|rfl|rfl:=h<;>rfl
theorem Ap3(h:Bg bits):eE bits=some (shB bits,0):=by
 obtain rfl|rfl|rfl:=h<;>rfl
theorem Aos{sh:Int}(h:0<=sh)(last:Int32):RP sh last=some (gs sh last):=by
 rw[RP,Bt (by rw[Hl];simpa using h),Aa,Aa];rfl
theorem Ao6(h:Bg bits)(last:Int32):CH bits last=some (gs (shB bits) last,0):=by
 rw[CH,Ap3 h,Aa];simp only;rw[Aa1 Awa,Aos (Alu bits),Aa]
theorem Aa9(h:Bg bits)(last:Int32)(t p:LX):CF bits last (sB bits) t p=some 0:=by
 rw[CF,As6 h,Aa];simp only;rw[Aa1 (by rw[Bl,Bl];simp)]
theorem rD(sh:Int)(hs:sh=4\/sh=5)(last:Int32):Mi sh last=some (gs sh last):=by
 have hl:=Xp last;have key:∀n:Int,n=16\/n=32->gs sh last=Int32.ofInt (((n-1)*last.toInt).fdiv n)->Ub last n=some (gs sh last):=by
  intro n hn hg;have e:Bc (Ak n (1:Int)) (Ad last:Int)=(n-1)*last.toInt:=by
   obtain rfl|rfl:=hn<;>(rw[Eh,Dx,Gu])
  rw[Ub,DH,Bt Av1,Aa,Aa,e,lq _ n F0 (by obtain rfl|rfl:=hn<;>omega) (by obtain rfl|rfl:=hn<;>omega),hg]
 rw[Mi,FG];obtain rfl|rfl:=hs
 ·rw[Aa1 Awj];refine key 16 (.inl rfl) ?_;have e:Di (Ad last:Int) (4:Int).toNat=last.toInt*16:=by
   rw[Eh];show wrap64 (last.toInt*2^4)=_;rw[Df]<;>omega
  rw[gs,e,Eh,Dx,WU]
  show Int32.ofInt ((last.toInt*16-last.toInt).fdiv 16)=_;congr 2;omega
 ·rw[Abh Awt];refine key 32 (.inr rfl) ?_;have e:Di (Ad last:Int) (5:Int).toNat=last.toInt*32:=by
   rw[Eh];show wrap64 (last.toInt*2^5)=_;rw[Df]<;>omega
  rw[gs,e,Eh,Dx,WU]
  show Int32.ofInt ((last.toInt*32-last.toInt).fdiv 32)=_;congr 2;omega
theorem Ars(h:Bg bits)(t:LX):Xv bits t=some (bits,0,sB bits,t,List.replicate 16 0,0):=by
 obtain rfl|rfl|rfl:=h<;>rfl
def vC(n:UInt32):Int32:=if n.toNat %2=0 then Int32.ofInt ((n.toNat/2:Nat):Int)else Int32.ofInt (-((n.toNat/2:Nat):Int)-1)
theorem Av3{p:Prop}(h:p:=by rw[Ar,Ac];simp;omega):p:=h
end Go.Pl
namespace Go.Pl
open Go Go.Lv
variable{v:LU}{p:Prop}
theorem dw{c:Prop} [Decidable c](h:c):Hq (decide c)=some ():=by rw[Auc h];rfl
section
variable (ch:Nat) (m:LX)
theorem Ahc(h1:1<=ch)(h6:ch<=6)(hm:m.length %ch=0)(hl2:m.length<=4000):WM (ch:Int) m=some 0:=by
 rw[WM,Aa1 Av4,Aa1 Av3,Bt Av1,Aa,Aa1];rw[Bl,Fm,Ac,<-Int.ofNat_tmod,hm];simp
theorem lu{at' ch n:Nat}(ha:at' %ch=0)(hm:n %ch=0)(h:at'<n):at'+ch<=n:=by
 have d1:=At9 at' ch;have d2:=At9 n ch;rw[ha,Asg]at d1;rw[hm,Asg]at d2;have hlt:at'/ch<n/ch:=by
  rcases Avb (at'/ch) (n/ch)with h'|h'
  ·exact h'
  ·have:=At1 ch h';omega
 have:=At1 ch (show at'/ch+1<=n/ch from hlt);rw[Nat.mul_add]at this;omega
end
theorem yW(a b:Int32):Bn (Ak (Ad a:Int) (Ad b:Int))=some (a-b):=by
 have:=Xp a;have:=Xp b;rw[Eh,Eh,Dx,uJ,Int32.ofInt_sub,Arz,Arz]
theorem Aly(ch:Nat)(m:LX)(h1:1<=ch)(h6:ch<=6)(hm:m.length %ch=0)(hl2:m.length<=4000):Hv (ch:Int) m=some 0:=by
 rw[Hv,Aa1 Av4,Aa1 Av3,Bt Av1,Aa,Aa1];rw[Ar,Fm,Ac,<-Int.ofNat_tmod,hm];simp
def pre{α:Type}(ch c:Nat)(f:α->Nat->α)(a0:α):Nat->α
 |0=>a0
 |m+1=>if m %ch=c then f (pre ch c f a0 m) m else pre ch c f a0 m
theorem Ado{α:Type}(ch c:Nat)(f:α->Nat->α)(a0:α):∀m,m<=c->c<ch->pre ch c f a0 m=a0
 |0,_,_=>rfl
 |m+1,h,h2=>by rw[pre,Aa1 (by rw[Acn F0];omega),Ado ch c f a0 m F0 h2]
theorem X1{α:Type}(ch c i:Nat)(f:α->Nat->α)(a0:α)(hi:i %ch=c)(hc:c<ch):∀j,j<ch->pre ch c f a0 (i+1+j)=pre ch c f a0 (i+1)
 |0,_=>rfl
 |j+1,h=>by
  have hne:(i+1+j) %ch≠c:=by
   intro e;have h1:(i+(1+j)) %ch=i %ch:=by rw[hi,<-e];congr 1;omega
   have h2:(1+j) %ch=0:=by
    have h3:=Nat.sub_mod_eq_zero_of_mod_eq h1;rwa [At6]at h3
   rw[Acn F0]at h2;omega
  rw[show i+1+(j+1)=(i+1+j)+1 by omega,pre,Aa1 hne,X1 ch c i f a0 hi hc j F0]
theorem Ahj{α:Type}(ch c i:Nat)(f:α->Nat->α)(a0:α)(hi:i %ch=c)(hc:c<ch):pre ch c f a0 (i+ch)=f (pre ch c f a0 i) i:=by
 have h:=X1 ch c i f a0 hi hc (ch-1) F0;rw[show i+1+(ch-1)=i+ch by omega]at h;rw[h,pre,Abh hi]
abbrev CS:=Int32×LX×LX
def Age(bits:Int)(s:CS)(y:Int32):Int32:=y+gF (sB bits) s.2.1 s.2.2+gs (shB bits) s.1
def sS(bits:Int)(s:CS)(y:Int32):CS:=(Age bits s y,A3 s.2.1 s.2.2 y,(y+gF (sB bits) s.2.1 s.2.2)::s.2.2.take 15)
def cst(bits:Int)(ch:Nat)(t:LX)(v:LU)(c:Nat):Nat->CS:=pre ch c (λs i=>sS bits s (vC (v.getD i 0))) (0,t,List.replicate 16 0)
def OkC(bits:Int)(s:CS):Prop:=OkF (sB bits) s.2.1 s.2.2
theorem Abg(bits:Int)(ch:Nat){t:LX}(ht:t.length=16)(v:LU)(c:Nat):∀m,OkC bits (cst bits ch t v c m)
 |0=>⟨Ard bits,ht,by simp[cst,pre]⟩
 |m+1=>by
  have ih:=Abg bits ch ht v c m;rw[cst,pre];split
  ·exact Agp ih _ _
  ·exact ih
abbrev CL:=Int×Int32×(Int×LX×LX×Unit)×Unit
def toC(bits:Int)(s:CS):CL:=(bits,s.1,(sB bits,s.2.1,s.2.2,()),())
def cts(bits:Int)(ch:Nat)(t:LX)(v:LU)(i:Nat):List CL:=(List.range 6).map λc=>toC bits (cst bits ch t v c i)
theorem Amo{bits:Int}{ch:Nat}{t:LX}{i c:Nat}(h:c<6):Aj (cts bits ch t v i) (c:Int)=some (toC bits (cst bits ch t v c i)):=by
 rw[Ca (by simp[cts];exact h)];simp[cts]
theorem Z4(bits:Int)(ch:Nat)(t:LX)(v:LU)(c m:Nat):cst bits ch t v c (m+1)=if m %ch=c then sS bits (cst bits ch t v c m) (vC (v.getD m 0))else cst bits ch t v c m:=rfl
theorem Al9{bits:Int}{ch:Nat}{t:LX}{i c:Nat}(h:c<6)(hc:i %ch=c):Ku (cts bits ch t v i) (c:Int) (toC bits (sS bits (cst bits ch t v c i) (vC (v.getD i 0))))=some (cts bits ch t v (i+1)):=by
 rw[Xn _ (by simp[cts];exact h)];congr 1;apply Arw (by simp[cts]);intro k h1 h2;rw[Au4];simp only[cts,Aua,Att];by_cases hk:c=k
 ·subst hk;rw[Abh rfl,Z4,Abh hc]
 ·rw[Aa1 hk,Z4,Aa1 F0]
def hB(bits:Int):Int:=if bits=8 then 128 else if bits=16 then 32768 else 8388608
theorem wO{bits:Int}(h:Bg bits):Nd bits=some (Int32.ofInt (-(hB bits)),Int32.ofInt (hB bits-1),0):=by
 obtain rfl|rfl|rfl:=h<;>decide
theorem RZ{bits:Int}(h:Bg bits):Ef bits=some (hB bits):=by
 obtain rfl|rfl|rfl:=h<;>rfl
theorem LN(bits:Int):0<hB bits/\hB bits<=8388608:=by
 unfold hB;split; · omega
 ·split<;>omega
theorem xW{bits:Int}(h:Bg bits)(l:LX)(hl:l.length<=4000):∀(j i q:Nat),i+j=l.length->j<q->
  Ro (Int32.ofInt (-(hB bits))) (Int32.ofInt (hB bits-1)) l q (i:Int)=Bb l (hB bits) q (i:Int)
 |0,i,q+1,hi,_=>by
  rw[Ro,DM,Bb,Cj,Aa1 F2,Aa1 F2];rfl
 |j+1,i,q+1,hi,hq=>by
  have hh:=LN bits;have ih:=xW h l hl j (i+1) q F0 F0;have e1:(Int32.ofInt (-(hB bits))).toInt= -(hB bits):=by rw[At3,Avt (by show -(4294967296/2:Int)<= _;omega) (by show _<(4294967296+1)/2;omega)]
  have e2:(Int32.ofInt (hB bits-1)).toInt=hB bits-1:=by rw[At3,Avt (by show -(4294967296/2:Int)<= _;omega) (by show _<(4294967296+1)/2;omega)]
  rw[Ro,DM,Bb,Cj,Abh F2,Abh F2,U6 F0,Aa,Aa,Aa,Eh,zo,Df F0 F0,Ag,Q1,zq,e1,e2,Af,Hl];generalize(l.getD i 0).toInt=X;by_cases h1:X< -(hB bits)
  ·rw[Abh F5,Abh F5]
  ·rw[Aa1 (c:=decide (X<0-hB bits)=true) F5];by_cases h2:hB bits<=X
   ·rw[Abh F5,Abh F5]
   ·rw[Aa1 F5,Aa1 F5];exact ih
theorem QH{bits:Int}(h:Bg bits)(l:LX)(hl:l.length<=4000):Po bits l=Al bits l:=by
 have hh:=LN bits;rw[Po,QB,wO h,Aa,Al,Dd,RZ h,Aa];simp only;rw[Aa1 Awa,Aa1 Av3,Aa1 Av5,Aa1 Av3];exact xW h l hl l.length 0 Aq F0 F7
theorem zU{bits:Int}(h:Bg bits)(l:LX)(hl:l.length<=4000):∃e,Al bits l=some e:=by
 have hh:=LN bits;have key:∀(j i q:Nat),i+j=l.length->j<q->∃e,Bb l (hB bits) q (i:Int)=some e:=by
  intro j
  induction j with
  |zero=>
   intro i q hi hq;obtain⟨q,rfl⟩:∃k,q=k+1:=⟨q-1,F0⟩;rw[Bb,Cj,Aa1 F2];exact⟨_,rfl⟩
  |succ j ih=>
   intro i q hi hq;obtain⟨q,rfl⟩:∃k,q=k+1:=⟨q-1,F0⟩;rw[Bb,Cj,Abh F2,U6 F0,Aa,Aa,Ag];split
   ·exact⟨_,rfl⟩
   ·split
    ·exact⟨_,rfl⟩
    ·exact ih (i+1) q F0 F0
 obtain⟨e,he⟩:=key l.length 0 Aq F0 F7;rw[Al,Dd,RZ h,Aa,Aa1 Av5,Aa1 Av3];exact⟨e,he⟩
def dZ(s:Nat):Nat:=(s/2)^^^ (if s %2=1 then 3988292384 else 0)
theorem zA{s:Nat}(h:s<4294967296):dZ s<4294967296:=by
 unfold dZ;exact Asd (n:=32) F5 (by split<;>decide)
theorem jc(x y:Nat):(x^^^y)/2=(x/2)^^^ (y/2):=by
 have:=Nat.shiftRight_xor_distrib (a:=x) (b:=y) (i:=1);simpa [Nat.shiftRight_eq_div_pow]using this
theorem Ae0(x y:Nat):dZ (x^^^y)=dZ x^^^dZ y:=by
 have h:(x^^^y) %2=(x %2+y %2) %2:=by
  have:=Nat.xor_mod_two_eq_one (a:=x) (b:=y);have h1:(x^^^y) %2<2:=At4 _ F0;omega
 simp only[dZ,jc,h];have hx:x %2=0\/x %2=1:=F0
 have hy:y %2=0\/y %2=1:=F0
 rcases hx with hx|hx<;>rcases hy with hy|hy<;>simp only[hx,hy]<;>simp
 ·rw[Atv]
 ·rw[Atv,Avx (y/2),Atv,Avx 3988292384 (y/2)]
 ·rw[Atv,Avx 3988292384,Atv,Nat.xor_self];simp
def Yq:Nat->Nat->Nat
 |0,s=>s
 |k+1,s=>Yq k (dZ s)
theorem G8:∀(k x y:Nat),Yq k (x^^^y)=Yq k x^^^Yq k y
 |0,_,_=>rfl
 |k+1,x,y=>by rw[Yq,Ae0,G8 k];rfl
theorem D8:∀(k h:Nat),Yq k (2^k*h)=h
 |0,h=>by simp[Yq]
 |k+1,h=>by
  have:dZ (2^(k+1)*h)=2^k*h:=by
   rw[Ar8,Anw (2^k) 2,Ar3,dZ,Aa1 F0,Nat.mul_div_cancel_left _ F0];simp
  rw[Yq,this,D8 k]
theorem vV:∀(k:Nat) {s:Nat},s<4294967296->Yq k s<4294967296
 |0,_,h=>h
 |k+1,_,h=>vV k (zA h)
def sP(s c:Nat):Nat:=Yq 8 (s^^^c)
theorem vQ{s c:Nat}(h:s<4294967296)(hc:c<256):sP s c<4294967296:=vV 8 (Asd (n:=32) (by simpa using h) F5)
theorem iw{s c:Nat}(hc:c<256):sP s c=(s/256)^^^Yq 8 ((s %256)^^^c):=by
 have h:s=(2^8*(s/256))^^^ (s %256):=by
  have h1:s %256<2^8:=by simpa using At4 s (by omega:256>0)
  have:=As5 h1 (s/256);have h2:2^8*(s/256)|||s %256=(2^8*(s/256))^^^ (s %256):=by
   apply Nat.eq_of_testBit_eq;intro i;rw[Nat.testBit_or,Nat.testBit_xor];by_cases hi:i<8
   ·have:(2^8*(s/256)).testBit i=false:=by rw[Nat.testBit_two_pow_mul];simp;omega
    rw[this];simp
   ·have:(s %256).testBit i=false:=Nat.testBit_lt_two_pow (Apa h1 (Aj7 F0 F0));rw[this];simp
  omega
 rw[sP]
 conv=>lhs;rw[h]
 rw[Atv,G8,D8]
def Aeg(s:Nat)(l:LB):Nat:=l.foldl (λs c=>sP s c.toNat) s
def Mn(b:LB):UInt32:=4294967295-UInt32.ofNat (Aeg 4294967295 b)
theorem Ak1(s:UInt32)(c:Nat)(hc:c<256):Wm s (Ad (Oq (UInt8.ofNat c) (2:UInt8)):Int)=some (UInt32.ofNat (s.toNat/2^^^ (if(s.toNat^^^c) %2=1 then 3988292384 else 0))):=by
 have h1:(Ad (Oq (UInt8.ofNat c) (2:UInt8)):Int)=((c %2:Nat):Int):=by
  rw[gO,Ac7,UInt8.toNat_mod,Anq];show((c %256 %2:Nat):Int)=_;omega
 have h2:geq (Oq s (2:UInt32)) (1:UInt32)=decide (s.toNat %2=1):=by
  rw[Ab5,Agu,An2];simp only[Atw,Aef];rw[<-UInt32.toNat_inj,UInt32.toNat_mod];rfl
 have h3:Ay s (2:UInt32)=UInt32.ofNat (s.toNat/2):=by
  apply UInt32.toNat_inj.1;rw[Ag8,UInt32.toNat_div,Aj1]
  show s.toNat/2=_;have:=s.toNat_lt;omega
 have h4:Zk (Ay s (2:UInt32)) (3988292384:UInt32)=UInt32.ofNat (s.toNat/2^^^3988292384):=by
  apply UInt32.toNat_inj.1;rw[h3,UO,Avh,Aj1,Aj1];have:=s.toNat_lt;rw[Acn (a:=s.toNat/2) F0,Acn]
  ·rfl
  ·exact Asd (n:=32) F0 F3
 have hx:(s.toNat^^^c) %2=(s.toNat %2+c %2) %2:=by
  have:=Nat.xor_mod_two_eq_one (a:=s.toNat) (b:=c);have h1:(s.toNat^^^c) %2<2:=At4 _ F0;omega
 have hs:s.toNat %2=0\/s.toNat %2=1:=F0
 have hc2:c %2=0\/c %2=1:=F0
 rw[Wm,JG,h1,h2,hx];rcases hs with hs|hs<;>rcases hc2 with hc2|hc2<;>simp[hs,hc2,Ba,JO,KK,UO,h3]
theorem sI:∀(j i q:Nat) (s:UInt32) (c:Nat),i+j=8->j<q->c<2^j->Ij q s (UInt8.ofNat c) (i:Int)=some (UInt32.ofNat (Yq j (s.toNat^^^c)))
 |0,i,q+1,s,c,hi,_,hc=>by
  obtain rfl:i=8:=F0
  obtain rfl:c=0:=by simpa using hc
  rw[Ij,Px,Aa1 Av8,Xu,KR,Yq];simp
 |j+1,i,q+1,s,c,hi,hq,hc=>by
  have hc8:c<256:=Apa hc (show 2^(j+1)<=2^8 from Aj7 F0 F0);rw[Ij,Px,Abh F9,Ak1 s c hc8,Aa,Ag];have e:Ay (UInt8.ofNat c) (2:UInt8)=UInt8.ofNat (c/2):=by
   apply UInt8.toNat_inj.1;rw[Alz,UInt8.toNat_div,Anq,Anq]
   show c %256/2=_;omega
  rw[e];have h:=sI j (i+1) q (UInt32.ofNat (s.toNat/2^^^ (if(s.toNat^^^c) %2=1 then 3988292384 else 0))) (c/2) F0 F0 (by rw[Ar8]at hc;omega);rw[show((i:Int)+1)=((i+1:Nat):Int) by omega,h,Aj1,Yq];congr 3;have:=s.toNat_lt;rw[Acn,dZ,jc,Atv,Atv,Avx (c/2)];exact Asd (n:=32) F0 (by split<;>decide)
theorem Alv(s:UInt32)(c:UInt8):FH s c=some (UInt32.ofNat (sP s.toNat c.toNat)):=by
 have h:=sI 8 0 Aq s c.toNat F0 F7 (by simpa using c.toNat_lt);rw[UInt8.ofNat_toNat]at h;exact h
theorem jY(b:LB)(hb:b.length<4611686018427387904):∀(j i q:Nat) (s:UInt32),i+j=b.length->j<q->Gj b q s (i:Int)=some (UInt32.ofNat (Aeg s.toNat (b.drop i)))
 |0,i,q+1,s,hi,_=>by
  rw[Gj,Mp,Aa1 F2,show i=b.length by omega,At2];simp[Um,EH,Aeg]
 |j+1,i,q+1,s,hi,hq=>by
  have hlt:i<b.length:=F0
  rw[Gj,Mp,Abh F2,Ca hlt,Aa,Alv,Aa,Ag];have h:=jY b hb j (i+1) q (UInt32.ofNat (sP s.toNat b[i].toNat)) F0 F0;rw[show((i:Int)+1)=((i+1:Nat):Int) by omega,h,drop_cons hlt,Aj1,Acn (vQ s.toNat_lt b[i].toNat_lt)];rfl
theorem Agj(b:LB)(hb:b.length<4611686018427387904):Ga b=some (Mn b):=by
 have h:=jY b hb b.length 0 Aq 4294967295 F0 F7;rw[Ga,Yt,Tl,EW,show((0:Int))=((0:Nat):Int)from rfl,h,Aa,wD];rfl
theorem Ame(c:UInt32):Zk (Ce c (GI.toZ (1:UInt64)).toNat) (Bc (3988292384:UInt32) (Fc c (1:UInt32)))=UInt32.ofNat (dZ c.toNat):=by
 apply UInt32.toNat_inj.1;have e:(GI.toZ (1:UInt64)).toNat=1:=rfl;have h1:(Ce c 1).toNat=c.toNat/2:=by rw[UQ]
 have h2:(Bc (3988292384:UInt32) (Fc c (1:UInt32))).toNat=if c.toNat %2=1 then 3988292384 else 0:=by
  rw[ru,dx,UInt32.toNat_mul,UInt32.toNat_and]
  show 3988292384*(c.toNat&&&1) %4294967296=_;rw[Nat.and_one_is_mod];have:c.toNat %2=0\/c.toNat %2=1:=F0
  rcases this with h|h<;>simp[h]
 rw[e,UO,Avh,h1,h2,Aj1,Acn (zA c.toNat_lt)];rfl
theorem X5(Er:Int->LU->Option (UInt32×Int))(s:UInt32)(b:LB)(x:Int)(t:LU):∀(j i q:Nat) (c:UInt32),i+j=8->j<q->
  Rm Er s b x t q c (i:Int)=EC Er s b x (UInt32.ofNat (Yq j c.toNat)) t
 |0,i,q+1,c,hi,_=>by
  obtain rfl:i=8:=F0
  rw[Rm,DU,Aa1 Av8,Yq,UInt32.ofNat_toNat]
 |j+1,i,q+1,c,hi,hq=>by
  rw[Rm,DU,Abh F9,Ame,Ag,show((i:Int)+1)=((i+1:Nat):Int) by omega,X5 Er s b x t j (i+1) q _ F0 F0,Aj1,Acn (zA c.toNat_lt)];rfl
def tbl(n:Nat):LU:=(List.range n).map λi=>UInt32.ofNat (Yq 8 i)
theorem Adp(s:UInt32)(b:LB):∀(j i q:Nat),i+j=256->j<q->Nj s b q (i:Int) (tbl i++List.replicate j 0)=PM s b (tbl 256)
 |0,i,q+1,hi,_=>by
  obtain rfl:i=256:=F0
  rw[Nj,FJ,Aa1 Av8];simp
 |j+1,i,q+1,hi,hq=>by
  have hlen:(tbl i++List.replicate (j+1) 0).length=i+(j+1):=by simp[tbl]
  rw[Nj,FJ,Abh F9,OM];have h:=X5 (Nj s b q) s b (i:Int) (tbl i++List.replicate (j+1) 0) 8 0 Aq (Ad (i:Int)) F0 F7;rw[show((0:Int))=((0:Nat):Int)from rfl,h,EC,eH,Ca (by rw[hlen];omega),Aa,Xn _ (by rw[hlen];omega),Aa,fU,dE,Ag];have e:(Ad (i:Int):UInt32).toNat=i:=by rw[J0,Aj1,Acn F0]
  rw[e,As8,nC (by simp[tbl])];have h2:=Adp s b j (i+1) q F0 F0;have h3:tbl (i+1)=tbl i++[UInt32.ofNat (Yq 8 i)]:=by simp[tbl,List.range_succ]
  rw[h3]at h2;rw[show((i:Int)+1)=((i+1:Nat):Int) by omega,<-h2];simp
theorem Ale{i:Nat}(h:i<256):Aj (tbl 256) (i:Int)=some (UInt32.ofNat (Yq 8 i)):=by
 rw[Ca (by simpa [tbl]using h)];simp[tbl]
theorem Ajo(s:UInt32)(c:UInt8):Aj (tbl 256) (GI.toZ (Zk (Ad s:UInt8) c))=some (UInt32.ofNat (Yq 8 ((s.toNat %256)^^^c.toNat))):=by
 have e:GI.toZ (Zk (Ad s:UInt8) c)=(((s.toNat %256)^^^c.toNat:Nat):Int):=by
  rw[FZ,Abx,UInt8.toNat_xor,lY,Anq]
 rw[e,Ale];exact Asd (n:=8) F5 (by simpa using c.toNat_lt)
theorem Aex(s:UInt32)(c:UInt8):Zk (Ce s (GI.toZ (8:UInt64)).toNat) (UInt32.ofNat (Yq 8 ((s.toNat %256)^^^c.toNat)))=UInt32.ofNat (sP s.toNat c.toNat):=by
 apply UInt32.toNat_inj.1;have hlt:Yq 8 ((s.toNat %256)^^^c.toNat)<4294967296:=vV 8 (Asd (n:=32) F5 (by have:=c.toNat_lt;simp;omega));have e:(GI.toZ (8:UInt64)).toNat=8:=rfl;rw[e,UO,Avh,UQ,Aj1,Aj1,Acn hlt,Acn (vQ s.toNat_lt c.toNat_lt),iw c.toNat_lt]
theorem ni(b:LB)(hb:b.length<4611686018427387904):∀(j i q:Nat) (s:UInt32),i+j=b.length->j<q->Rv b (tbl 256) q s (i:Int)=some (UInt32.ofNat (Aeg s.toNat (b.drop i)),0)
 |0,i,q+1,s,hi,_=>by
  rw[Rv,FI,Aa1 F2,show i=b.length by omega,At2];simp[PA,dS,Aeg]
 |j+1,i,q+1,s,hi,hq=>by
  have hlt:i<b.length:=F0
  rw[Rv,FI,Abh F2,Ca hlt,Aa,Ajo,Aa,Aa,Aex,Ag];have h:=ni b hb j (i+1) q (UInt32.ofNat (sP s.toNat b[i].toNat)) F0 F0;rw[show((i:Int)+1)=((i+1:Nat):Int) by omega,h,drop_cons hlt,Aj1,Acn (vQ s.toNat_lt b[i].toNat_lt)];rfl
theorem Aky(s:UInt32)(b:LB)(hb:b.length<=100000):ZS s b=some (UInt32.ofNat (Aeg s.toNat b),0):=by
 have h:=Adp s b 256 0 Aq F0 F7;have h2:=ni b F0 b.length 0 Aq s F0 F7;rw[ZS,TL,Aa1 Av3,dM];refine Asr h ?_;rw[PM,PD,dT,PK,PR];exact h2
theorem Ag5(a:UInt32):Aak a=4294967295-a:=by
 have h:=a.toNat_lt;have e:Aak a=UInt32.ofNat (BitVec.ofInt 32 4294967295^^^BitVec.ofInt 32 (a.toNat:Int)).toNat:=Jn _;apply UInt32.toNat_inj.1;rw[e,Aj1,UInt32.toNat_sub_of_le _ _ (by rw[UInt32.le_iff_toNat_le];show a.toNat<=4294967295;omega)];have h1:BitVec.ofInt 32 (a.toNat:Int)=a.toBitVec:=Aay a;have h2:(BitVec.ofInt 32 4294967295:BitVec 32)=BitVec.allOnes 32:=F3
 rw[h1,h2,BitVec.allOnes_xor,BitVec.toNat_not];show(4294967296-1-a.toNat) %4294967296=4294967295-a.toNat;omega
theorem Aaa(b:LB)(hb:b.length<=100000):HY b=some (Mn b,0):=by
 rw[HY,Aky _ _ hb,Aa];simp only[Bl,Ag5];rfl
theorem Ac2:∀(w n:Nat),Li (Ot n w)=n %256^w
 |0,n=>by simp[Ot,Li,Nat.mod_one]
 |w+1,n=>by
  rw[Ot,Li,Ac2 w (n/256),Anq,show(256:Nat)^(w+1)=256*256^w by rw[Ar8,Anw],Nat.mod_mul]
theorem Ae6(b:LB)(hb:b.length<=1000000):Me b=some (b++Ot (Mn b).toNat 4):=by
 have h:∀k:Nat,(Ad (Ce (Mn b) k):UInt8)=UInt8.ofNat ((Mn b).toNat/2^k):=by
  intro k;rw[lY,UQ]
 have h0:(Ad (Mn b):UInt8)=UInt8.ofNat (Mn b).toNat:=lY _;have h1:=h 8;have h2:=h 16;have h3:=h 24;rw[Me,Agj b F0,Aa,As F5,Aa,As F5,Aa,h0,show(GI.toZ (8:UInt64)).toNat=8 from rfl,show(GI.toZ (16:UInt64)).toNat=16 from rfl,show(GI.toZ (24:UInt64)).toNat=24 from rfl,h1,h2,h3];simp only[Ot,Aug,Asa]
theorem Akf{c:Nat}(h1:1<=c)(h6:c<=6):Ay (4000:Int) (c:Int)=((4000/c:Nat):Int):=by
 have:c=1\/c=2\/c=3\/c=4\/c=5\/c=6:=F0
 rcases this with rfl|rfl|rfl|rfl|rfl|rfl<;>rfl
def P64:Nat:=4823603603198064275
def MF(s:Nat):Nat:=(2*s %18446744073709551616)^^^ (s/9223372036854775808*P64)
theorem XI{s:Nat}(h:s<18446744073709551616):MF s<18446744073709551616:=by
 have h1:s/9223372036854775808=0\/s/9223372036854775808=1:=F0
 exact Asd (n:=64) (At4 _ F3) (by rcases h1 with e|e<;>rw[e]<;>decide)
theorem Adt(x y:Nat):(x^^^y)/9223372036854775808=(x/9223372036854775808)^^^ (y/9223372036854775808):=by
 have:=Nat.shiftRight_xor_distrib (a:=x) (b:=y) (i:=63);simpa [Nat.shiftRight_eq_div_pow]using this
theorem Acz(x y:Nat):2*(x^^^y) %18446744073709551616=(2*x %18446744073709551616)^^^ (2*y %18446744073709551616):=by
 have h1:=Nat.shiftLeft_xor_distrib (a:=x) (b:=y) (i:=1);have h2:=Nat.xor_mod_two_pow (a:=2*x) (b:=2*y) (n:=64);have e:2*(x^^^y)=(2*x)^^^ (2*y):=by simpa [Nat.shiftLeft_eq,Anw]using h1
 rw[e];exact h2
theorem Alh{a b:Nat}(ha:a=0\/a=1)(hb:b=0\/b=1)(p:Nat):(a^^^b)*p=(a*p)^^^ (b*p):=by
 rcases ha with rfl|rfl<;>rcases hb with rfl|rfl<;>simp
theorem Asw(a b c d:Nat):(a^^^b)^^^ (c^^^d)=(a^^^c)^^^ (b^^^d):=by
 rw[Atv,Atv,<-Atv b c d,Avx b c,Atv c b d]
theorem zx{x y:Nat}(hx:x<18446744073709551616)(hy:y<18446744073709551616):MF (x^^^y)=MF x^^^MF y:=by
 rw[MF,MF,MF,Acz,Adt,Alh F0 F0,Asw]
def Ox:Nat->Nat->Nat
 |0,s=>s
 |k+1,s=>Ox k (MF s)
theorem pY:∀(k:Nat) {s:Nat},s<18446744073709551616->Ox k s<18446744073709551616
 |0,_,h=>h
 |k+1,_,h=>pY k (XI h)
theorem xT:∀(k:Nat) {x y:Nat},x<18446744073709551616->y<18446744073709551616->Ox k (x^^^y)=Ox k x^^^Ox k y
 |0,_,_,_,_=>rfl
 |k+1,x,y,hx,hy=>by rw[Ox,zx hx hy,xT k (XI hx) (XI hy)];rfl
theorem vA:∀(k h:Nat),2^k*h<18446744073709551616->Ox k h=2^k*h
 |0,h,_=>by simp[Ox]
 |k+1,h,hl=>by
  have hpos:0<2^k:=Auh F0;rw[Ar8,Ar3]at hl;have h2:2*h<18446744073709551616:=Atj (Nat.le_mul_of_pos_left _ hpos) hl;have:MF h=2*h:=by rw[MF,Acn h2,show h/9223372036854775808=0 by omega];simp
  rw[Ox,this,vA k _ hl,Ar8,Ar3]
def fQ(s c:Nat):Nat:=Ox 8 (s^^^ (c*72057594037927936))
theorem c56{c:Nat}(hc:c<256):c*72057594037927936<18446744073709551616:=F0
theorem qY{s c:Nat}(h:s<18446744073709551616)(hc:c<256):fQ s c<18446744073709551616:=pY 8 (Asd (n:=64) h (c56 hc))
theorem Alb(s:Nat):s=(s/72057594037927936*72057594037927936)^^^ (s %72057594037927936):=by
 have h1:s %72057594037927936<2^56:=At4 _ F3;have:=As5 h1 (s/72057594037927936);have h2:2^56*(s/72057594037927936)|||s %72057594037927936=(2^56*(s/72057594037927936))^^^ (s %72057594037927936):=by
  apply Nat.eq_of_testBit_eq;intro i;rw[Nat.testBit_or,Nat.testBit_xor];by_cases hi:i<56
  ·have:(2^56*(s/72057594037927936)).testBit i=false:=by rw[Nat.testBit_two_pow_mul];simp;omega
   rw[this];simp
  ·have:(s %72057594037927936).testBit i=false:=Nat.testBit_lt_two_pow (Apa h1 (Aj7 F0 F0));rw[this];simp
 rw[Anw (s/72057594037927936)]
 show s=(2^56*(s/72057594037927936))^^^ _;rw[<-h2,<-this];have:=At9 s 72057594037927936
 show s=72057594037927936*_+_;omega
theorem Ad8(a c:Nat):(a^^^c)*72057594037927936=(a*72057594037927936)^^^ (c*72057594037927936):=by
 have h1:=Nat.shiftLeft_xor_distrib (a:=a) (b:=c) (i:=56);simpa [Nat.shiftLeft_eq]using h1
theorem N4{s c:Nat}(h:s<18446744073709551616)(hc:c<256):fQ s c=(256*s %18446744073709551616)^^^Ox 8 (((s/72057594037927936)^^^c)*72057594037927936):=by
 have hs:s/72057594037927936<2^8:=by show _<256;omega
 have hx:(s/72057594037927936)^^^c<256:=Asd (n:=8) hs (by simpa using hc);have hl:s %72057594037927936<72057594037927936:=At4 _ F3;rw[fQ]
 conv=>lhs;rw[Alb s]
 rw[Avx (s/72057594037927936*72057594037927936),Atv,<-Ad8,xT 8 F0 (c56 hx),vA 8 _ (by show 256*_<_;omega)];congr 1
 show 256*(s %72057594037927936)=_;omega
def wV(s:Nat)(l:LB):Nat:=l.foldl (λs c=>fQ s c.toNat) s
theorem A5{n:Nat}(h:n<18446744073709551616):(UInt64.ofNat n).toNat=n:=by rw[Ahx];exact Acn h
theorem Aob(s:UInt64)(bit:Nat)(hb:bit=0\/bit=1):Wn s (bit:Int)=some (UInt64.ofNat ((2*s.toNat %18446744073709551616)^^^ (((s.toNat/9223372036854775808)^^^bit)*P64))):=by
 have hs:=s.toNat_lt;have ht:s.toNat/9223372036854775808=0\/s.toNat/9223372036854775808=1:=F0
 have e1:(Bc s (2:UInt64)).toNat=2*s.toNat %18446744073709551616:=by
  rw[VZ,UInt64.toNat_mul];show s.toNat*2 %_=_;rw[Anw]
 have hlt:2*s.toNat %18446744073709551616<18446744073709551616:=At4 _ F3;have ey:Zk (Bc s (2:UInt64)) (4823603603198064275:UInt64)=UInt64.ofNat ((2*s.toNat %18446744073709551616)^^^P64):=by
  apply UInt64.toNat_inj.1;rw[vM,UInt64.toNat_xor,e1,A5 (Asd (n:=64) hlt F3)];rfl
 have en:Bc s (2:UInt64)=UInt64.ofNat (2*s.toNat %18446744073709551616):=by
  apply UInt64.toNat_inj.1;rw[e1,A5 hlt]
 have eg:Ls s (9223372036854775808:UInt64)=decide (s.toNat/9223372036854775808=1):=by
  rw[Akk,decide_eq_decide]
  show 9223372036854775808<=s.toNat↔_;omega
 have hp:∀b:Bool,Wu s b=some (if b=true then UInt64.ofNat ((2*s.toNat %18446744073709551616)^^^P64)else UInt64.ofNat (2*s.toNat %18446744073709551616)):=by
  intro b;rw[Wu,KS,ey,en];cases b<;>rfl
 rw[Wn,KE,hp,hp,eg];rcases hb with rfl|rfl<;>rcases ht with h|h<;>rw[h]<;>simp[Ba]
theorem tC(c:UInt8):∀(j q:Nat) (s:UInt64),j<=8->j<q->Ik c q s ((2^j/2:Nat):Int)=some (UInt64.ofNat (Ox j (s.toNat^^^ (c.toNat %2^j*2^(64-j)))))
 |0,q+1,s,_,_=>by
  rw[Ik,Qb,Aa1 Awl,Wr,KV];simp[Ox,Nat.mod_one]
 |j+1,q+1,s,hj,hq=>by
  have hc:=c.toNat_lt;have hs:=s.toNat_lt;have hj2:2^j<=2^7:=Aj7 F0 F0;have hpos:0<2^j:=Auh F0;have e1:2^(j+1)/2=2^j:=by rw[Ar8];omega
  have e2:Ay ((2^j:Nat):Int) 2=((2^j/2:Nat):Int):=by
   generalize 2^j=K at*
   rw[TK,As7 F0,Df F0 F0];omega
  have e3:Fm (Ay (Ad c:Int) ((2^j:Nat):Int)) (2:Int)=((c.toNat/2^j %2:Nat):Int):=by
   have hX:=Aqh c.toNat (2^j);rw[gO,TK,<-Int.ofNat_tdiv];generalize c.toNat/2^j=X at*
   rw[Df F0 F0,Fm,Au1 F0];omega
  have hbit:c.toNat/2^j %2=0\/c.toNat/2^j %2=1:=F0
  rw[Ik,Qb,e1,Abh (by rw[Ar,Aef];omega),Bt (by rw[Bl,Aup];omega),Aa,e3,Aob s _ hbit,Aa,e2,tC c j q _ F0 F0];congr 2;rw[Ox];congr 1;have hx:c.toNat %2^(j+1)*2^(64-(j+1))=(c.toNat/2^j %2)*9223372036854775808+c.toNat %2^j*2^(63-j):=by
   have h63:(9223372036854775808:Nat)=2^j*2^(63-j):=by rw[<-Avr,show j+(63-j)=63 by omega]
   rw[Nat.mod_pow_succ,h63,show 64-(j+1)=63-j by omega,Aim,Auj,Ar3,Nat.mul_left_comm]
  have hr:c.toNat %2^j<2^j:=At4 _ hpos;have Avi:c.toNat %2^j*2^(63-j)<9223372036854775808:=by
   have h63:(9223372036854775808:Nat)=2^j*2^(63-j):=by rw[<-Avr,show j+(63-j)=63 by omega]
   rw[h63];exact Nat.mul_lt_mul_of_pos_right hr (Auh F0)
  have h64:c.toNat %2^j*2^(64-j)=2*(c.toNat %2^j*2^(63-j)):=by
   rw[show 64-j=(63-j)+1 by omega,Ar8,<-Ar3,Anw]
  rw[hx,h64];generalize c.toNat %2^j*2^(63-j)=R at*
  generalize c.toNat/2^j %2=b at*
  have ht:s.toNat/9223372036854775808=0\/s.toNat/9223372036854775808=1:=F0
  have hp:((s.toNat/9223372036854775808^^^b)*P64)<18446744073709551616:=by
   rcases ht with h|h<;>rcases hbit with h2|h2<;>rw[h,h2]<;>decide
  rw[A5 (Asd (n:=64) (At4 _ F3) hp),MF,Acz,Adt,show(b*9223372036854775808+R)/9223372036854775808=b by omega,show 2*(b*9223372036854775808+R) %18446744073709551616=2*R by omega,Atv,Atv,Avx (2*R)]
theorem Aok(c:UInt8)(s:UInt64):DF s c=some (UInt64.ofNat (fQ s.toNat c.toNat)):=by
 have h:=tC c 8 Aq s (Aqe _) F7;have hc:=c.toNat_lt;rw[Acn (show c.toNat<2^8 by simpa using hc)]at h;exact h
theorem kD(b:LB)(hb:b.length<4611686018427387904):∀(j i q:Nat) (s:UInt64),i+j=b.length->j<q->Gi b q s (i:Int)=some (UInt64.ofNat (wV s.toNat (b.drop i)))
 |0,i,q+1,s,hi,_=>by
  rw[Gi,Mw,Aa1 F2,show i=b.length by omega,At2];simp[Tv,EV,wV]
 |j+1,i,q+1,s,hi,hq=>by
  have hlt:i<b.length:=F0
  have hc:=b[i].toNat_lt;rw[Gi,Mw,Abh F2,Ca hlt,Aa,Aok,Aa,Ag];have h:=kD b hb j (i+1) q (UInt64.ofNat (fQ s.toNat b[i].toNat)) F0 F0;rw[show((i:Int)+1)=((i+1:Nat):Int) by omega,h,drop_cons hlt,A5 (qY s.toNat_lt (by simpa using hc))];rfl
def JI(b:LB):UInt64:=UInt64.ofNat (wV 0 b)
theorem ng(b:LB)(hb:b.length<=100000):Qo 0 b=some (JI b):=
 kD b F0 b.length 0 Aq 0 F0 F7
theorem Aab(c:UInt64):Zk (Di c (GI.toZ (1:UInt64)).toNat) (Bc (4823603603198064275:UInt64) (Ce c (GI.toZ (63:UInt64)).toNat))=UInt64.ofNat (MF c.toNat):=by
 have hc:=c.toNat_lt;apply UInt64.toNat_inj.1;have h1:(Di c (GI.toZ (1:UInt64)).toNat).toNat=2*c.toNat %18446744073709551616:=by
  rw[show(GI.toZ (1:UInt64)).toNat=1 from rfl,RF,Anw]
 have h2:(Bc (4823603603198064275:UInt64) (Ce c (GI.toZ (63:UInt64)).toNat)).toNat=c.toNat/9223372036854775808*P64:=by
  rw[show(GI.toZ (63:UInt64)).toNat=63 from rfl,VZ,UInt64.toNat_mul,FR]
  show 4823603603198064275*(c.toNat/9223372036854775808) %18446744073709551616=_;have h1:c.toNat/9223372036854775808=0\/c.toNat/9223372036854775808=1:=F0
  rcases h1 with e|e<;>rw[e]<;>decide
 rw[vM,UInt64.toNat_xor,h1,h2,A5 (XI hc)];rfl
theorem sE(Er:Int->LQ->Option (UInt64×Int))(s:UInt64)(b:LB)(x:Int)(t:LQ):∀(j i q:Nat) (c:UInt64),i+j=8->j<q->
  Sd Er s b x t q c (i:Int)=DV Er s b x (UInt64.ofNat (Ox j c.toNat)) t
 |0,i,q+1,c,hi,_=>by
  obtain rfl:i=8:=F0
  rw[Sd,DE,Aa1 Av8,Ox,UInt64.ofNat_toNat]
 |j+1,i,q+1,c,hi,hq=>by
  rw[Sd,DE,Abh F9,Aab,Ag,show((i:Int)+1)=((i+1:Nat):Int) by omega,sE Er s b x t j (i+1) q _ F0 F0,A5 (XI c.toNat_lt)];rfl
def SV(n:Nat):LQ:=(List.range n).map λi=>UInt64.ofNat (Ox 8 (i*72057594037927936))
theorem xB(s:UInt64)(b:LB):∀(j i q:Nat),i+j=256->j<q->Nt s b q (i:Int) (SV i++List.replicate j 0)=PW s b (SV 256)
 |0,i,q+1,hi,_=>by
  obtain rfl:i=256:=F0
  rw[Nt,EF,Aa1 Av8];simp
 |j+1,i,q+1,hi,hq=>by
  have hlen:(SV i++List.replicate (j+1) 0).length=i+(j+1):=by simp[SV]
  rw[Nt,EF,Abh F9,QZ];have h:=sE (Nt s b q) s b (i:Int) (SV i++List.replicate (j+1) 0) 8 0 Aq (Di (Ad (i:Int):UInt64) (GI.toZ (56:UInt64)).toNat) F0 F7;rw[show((0:Int))=((0:Nat):Int)from rfl,h,DV,dG,Ca (by rw[hlen];omega),Aa,Xn _ (by rw[hlen];omega),Aa,dO,cQ,Ag];have e:(Di (Ad (i:Int):UInt64) (GI.toZ (56:UInt64)).toNat).toNat=i*72057594037927936:=by
   rw[RF,Sr,A5 F0]
   show i*72057594037927936 %18446744073709551616=_;omega
  rw[e,As8,nC (by simp[SV])];have h2:=xB s b j (i+1) q F0 F0;have h3:SV (i+1)=SV i++[UInt64.ofNat (Ox 8 (i*72057594037927936))]:=by simp[SV,List.range_succ]
  rw[h3]at h2;rw[show((i:Int)+1)=((i+1:Nat):Int) by omega,<-h2];simp
theorem Ae7{i:Nat}(h:i<256):Aj (SV 256) (i:Int)=some (UInt64.ofNat (Ox 8 (i*72057594037927936))):=by
 rw[Ca (by simpa [SV]using h)];simp[SV]
theorem uo(s:UInt64)(c:UInt8):Aj (SV 256) (GI.toZ (Zk (Ad (Ce s (GI.toZ (56:UInt64)).toNat):UInt8) c))=some (UInt64.ofNat (Ox 8 (((s.toNat/72057594037927936)^^^c.toNat)*72057594037927936))):=by
 have hs:=s.toNat_lt;have e:GI.toZ (Zk (Ad (Ce s (GI.toZ (56:UInt64)).toNat):UInt8) c)=(((s.toNat/72057594037927936)^^^c.toNat:Nat):Int):=by
  have e2:((Ad (Ce s (GI.toZ (56:UInt64)).toNat):UInt8)).toNat=s.toNat/72057594037927936:=by
   rw[ZE,Anq,FR]
   show s.toNat/72057594037927936 %256=_;omega
  rw[FZ,Abx,UInt8.toNat_xor,e2]
 rw[e,Ae7];exact Asd (n:=8) (by show _<256;omega) (by simpa using c.toNat_lt)
theorem N8(s:UInt64)(c:UInt8):Zk (Di s (GI.toZ (8:UInt64)).toNat) (UInt64.ofNat (Ox 8 (((s.toNat/72057594037927936)^^^c.toNat)*72057594037927936)))=UInt64.ofNat (fQ s.toNat c.toNat):=by
 have hs:=s.toNat_lt;have hc:c.toNat<256:=by simpa using c.toNat_lt
 apply UInt64.toNat_inj.1;have hlt:Ox 8 (((s.toNat/72057594037927936)^^^c.toNat)*72057594037927936)<18446744073709551616:=pY 8 (c56 (Asd (n:=8) (by show _<256;omega) (by simpa using c.toNat_lt)));have e:(GI.toZ (8:UInt64)).toNat=8:=rfl;rw[e,vM,UInt64.toNat_xor,RF,A5 hlt,A5 (qY hs hc),N4 hs hc,Anw s.toNat]
theorem sG(b:LB)(s0:UInt64)(hb:b.length<4611686018427387904):∀(j i q:Nat) (s:UInt64),i+j=b.length->j<q->Ru b s0 (SV 256) q s (i:Int)=some (UInt64.ofNat (wV s.toNat (b.drop i)),0)
 |0,i,q+1,s,hi,_=>by
  rw[Ru,EE,Aa1 F2,show i=b.length by omega,At2];simp[QA,cY,eM,eK,wV]
 |j+1,i,q+1,s,hi,hq=>by
  have hlt:i<b.length:=F0
  have hc:=b[i].toNat_lt;rw[Ru,EE,Abh F2,Ca hlt,Aa,uo,Aa,Aa,N8,Ag];have h:=sG b s0 hb j (i+1) q (UInt64.ofNat (fQ s.toNat b[i].toNat)) F0 F0;rw[show((i:Int)+1)=((i+1:Nat):Int) by omega,h,drop_cons hlt,A5 (qY s.toNat_lt (by simpa using hc))];rfl
theorem ou(b:LB)(hb:b.length<=100000):VQ b=some (JI b,0):=by
 have h:=xB 0 b 256 0 Aq F0 F7;have h2:=sG b 0 F0 b.length 0 Aq 0 F0 F7;have hn:ZF 0 b=some (JI b,0):=by
  rw[ZF,TV,Aa1 Av3,eB];refine Asr h ?_;rw[PW,OO,OX];exact h2
 rw[VQ,hn,Aa]
theorem Aee(p:LB)(hp:p.length<=64):NR p=some (Ot (JI p).toNat 8,0):=by
 rw[NR,qW,Aa1 Av3,ou p F0,Aa,Aa];simp only;have h:=QJ (JI p) 8 F0 F0 (by simpa using(JI p).toNat_lt);rw[Aa1 Awa];exact congrArg (λo=>Option.bind o λx:LB×Int=>some (x.1,x.2)) h
theorem Ady(p:LB)(hp:p.length<=64):Kz p=some (Ot (JI p).toNat 8):=by
 have h:=II (JI p) 8 F0;rw[Kz,EP,ng p F0,Aa,Aa];exact congrArg (λo=>Option.bind o λl=>some l) h
def s8(n:Nat):Int32:=Int32.ofInt (if n<128 then(n:Int)else(n:Int)-256)
def SD(d:UInt64)(n:Nat):LX:=(List.range n).map λi=>s8 (d.toNat/256^i %256)
theorem WI(d:UInt64)(n:Nat):(SD d n).length=n:=by simp[SD]
theorem yY(d:UInt64)(n:Nat):SD d (n+1)=SD d n++[s8 (d.toNat/256^n %256)]:=by simp[SD,List.range_succ]
theorem bm8(z:Nat):(z:Int).bmod Int8.size=if z %256<128 then((z %256:Nat):Int)else((z %256:Nat):Int)-256:=by
 rw[show Int8.size=256 from rfl,Int.bmod_def];split<;>split<;>omega
theorem Ac0(d:UInt64):∀(j i q:Nat),i+j=8->j<q->IG d q (i:Int) (SD d i++List.replicate (16-i) 0)=some (SD d 8++List.replicate 8 0)
 |0,i,q+1,hi,_=>by
  obtain rfl:i=8:=F0
  rw[IG,aC,Aa1 Av8];rfl
 |j+1,i,q+1,hi,hq=>by
  have hlen:(SD d i++List.replicate (16-i) 0).length=16:=by simp[WI];omega
  have ih:=Ac0 d j (i+1) q F0 F0;have e8:Bc (8:Int) (i:Int)=((8*i:Nat):Int):=by rw[Gu];omega
  have ev:(Ad (Ad (Ce d (GI.toZ (((8*i:Nat):Int))).toNat):Int8):Int32)=s8 (d.toNat/256^i %256):=by
   have e1:(Ce d (GI.toZ (((8*i:Nat):Int))).toNat).toNat=d.toNat/256^i:=by
    rw[show(GI.toZ (((8*i:Nat):Int))).toNat=8*i from rfl,FR,Nat.pow_mul]
   show Int32.ofInt (Int8.ofInt ((Ce d (GI.toZ (((8*i:Nat):Int))).toNat).toNat:Int)).toInt=_;rw[e1,s8,Int8.toInt_ofInt,bm8]
  rw[IG,aC,Abh F9,e8,Bt Awc,Aa,ev,Ca,Aa,Xn _ F0,Aa,Ag,show 16-i=(15-i)+1 by omega,As8,nC (WI d i)];rw[yY,show 16-(i+1)=15-i by omega,Aqj]at ih;exact ih
theorem Ag6(d:UInt64):∀(j i q:Nat) (e:UInt64),i+j=8->j<q->e.toNat=d.toNat/256^i->Ie q e (i:Int) (SD d i++List.replicate (16-i) 0)=some (SD d 8++List.replicate 8 0)
 |0,i,q+1,e,hi,_,he=>by
  obtain rfl:i=8:=F0
  rw[Ie,Ti,Aa1 Av8];rfl
 |j+1,i,q+1,e,hi,hq,he=>by
  have hlen:(SD d i++List.replicate (16-i) 0).length=16:=by simp[WI];omega
  have hq2:(Ay e (256:UInt64)).toNat=d.toNat/256^(i+1):=by
   rw[fN,Au2,he,Ar8,<-Aug];rfl
  have ih:=Ag6 d j (i+1) q (Ay e (256:UInt64)) F0 F0 hq2;have ev:(Ad (Oq e (256:UInt64)):Int32)=Int32.ofInt ((d.toNat/256^i %256:Nat):Int):=by
   show Int32.ofInt ((Oq e (256:UInt64)).toNat:Int)=_;rw[VB,Au3,he];rfl
  have hz:d.toNat/256^i %256<256:=At4 _ F0;have et:(Int32.ofInt ((d.toNat/256^i %256:Nat):Int)).toInt=((d.toNat/256^i %256:Nat):Int):=by
   rw[At3,Avt (by show -(4294967296/2:Int)<= _;omega) (by show _<(4294967296+1)/2;omega)]
  have hp8:∀x:Int32,x=s8 (d.toNat/256^i %256)->Ty (Ie q) e (i:Int) (SD d i++List.replicate (16-i) 0) x=some (SD d 8++List.replicate 8 0):=by
   intro x hx;rw[Ty,PY,hx,Ca,Aa,Xn _ F0,Aa,Ag,show 16-i=(15-i)+1 by omega,As8,nC (WI d i)];rw[yY,show 16-(i+1)=15-i by omega,Aqj]at ih;exact ih
  rw[Ie,Ti,Abh F9,ev,zq,et,show(127:Int32).toInt=127 from rfl];by_cases h:d.toNat/256^i %256<128
  ·rw[Aa1 (by simp only[Aef];omega)];exact hp8 _ (by rw[s8,Abh h])
  ·rw[Abh (by simp only[Aef];omega)];refine hp8 _ ?_;rw[s8,Aa1 h,VM,Int32.ofInt_sub];rfl
def Tt(p:LB):LX:=SD (JI p) 8++List.replicate 8 0
theorem YM(p:LB):(Tt p).length=16:=by simp[Tt,WI]
theorem H8(p:LB)(hp:p.length<=64):XD p=some (Tt p,0):=by
 have h:=Ac0 (JI p) 8 0 Aq F0 F7;have h2:L8 (JI p)=some (Tt p):=h;rw[XD,Aa1 Av3,ou p F0,Aa];simp only;rw[Aa1 Awa,h2,Aa]
theorem kg(p:LB)(hp:p.length<=64):Iw p=some (Tt p,0):=by
 have h:=Ag6 (JI p) 8 0 Aq (JI p) F0 F7 Av2;have h2:MA (JI p)=some (Tt p):=h;rw[Iw,Aa1 Av3,IK,EK,Aa1 Av3,ng p F0,Aa,Aa,Aa];simp only;rw[h2,Aa]
def u8(z:Int):UInt8:=UInt8.ofNat (z %256).toNat
theorem L5(z:Int):u8 (z %256)=u8 z:=by rw[u8,u8];congr 2;omega
def wB(bits:Int):Nat:=if bits=8 then 1 else if bits=16 then 2 else 3
theorem gA{bits:Int}(h:Bg bits):Ay bits 8=(wB bits:Int):=by obtain rfl|rfl|rfl:=h<;>rfl
theorem vN(bits:Int):1<=wB bits/\wB bits<=3:=by
 unfold wB;split; · omega
 ·split<;>omega
def IA(bits:Int)(x:Int):LB:=if bits=8 then [u8 (x+128)]else if bits=16 then [u8 x,u8 (x/256)]else [u8 x,u8 (x/256),u8 (x/65536)]
theorem X0(bits x:Int):(IA bits x).length<=3:=by
 unfold IA;split; · simp
 ·split<;>simp
theorem Ah3(x:Int32)(k:Nat)(hk:k<=32):(Ad (Ce x k):UInt8)=u8 (x.toInt.fdiv (2^k)):=by
 have h:=Xp x;have e:Ce x k=Int32.ofInt (x.toInt.fdiv (2^k)):=by
  show Int32.ofInt (x.toInt.fdiv (2^min k 32))=_;rw[Asl hk]
 have hb: -2147483648<=x.toInt.fdiv (2^k)/\x.toInt.fdiv (2^k)<2147483648:=by
  have hpos:(0:Int)<2^k:=Int.pow_pos F0;rw[An4 _ F0];constructor
  ·refine(Int.le_ediv_iff_mul_le hpos).2 ?_;have:(1:Int)<=2^k:=F0
   have h2: -2147483648*(2^k:Int)<= -2147483648*1:=Int.mul_le_mul_of_nonpos_left F0 this;omega
  ·refine Int.ediv_lt_of_lt_mul hpos ?_;have:(1:Int)<=2^k:=F0
   have h2:(2147483648:Int)*1<=2147483648*2^k:=Int.mul_le_mul_of_nonneg_left this F0;omega
 show UInt8.ofNat ((Ce x k).toInt %256).toNat=_;rw[e,At3,Avt (by show -(4294967296/2:Int)<= _;omega) (by show _<(4294967296+1)/2;omega)];rfl
section
variable (bk:Int->LB->Option (LB×Int)) (l:LX)
theorem uA{bits:Int}(h:Bg bits)(c:Int32)(x:Int)(i q:Nat)(acc:LB)(hi:i<wB bits)(ha:acc.length<=100000):
  Jo bk bits l c x (q+1) (i:Int) acc=Jo bk bits l c x q ((i+1:Nat):Int) (acc++[u8 (c.toInt.fdiv (2^(8*i)))]):=by
 have hw:=vN bits;have e8:Bc (8:Int) (i:Int)=((8*i:Nat):Int):=by rw[Gu];omega
 rw[Jo,AK,gA h,Abh F9,e8,Bt Awc,Aa,show(GI.toZ (((8*i:Nat):Int))).toNat=8*i from rfl,Ah3 _ _ F0,As F5,Aa,Ag];rfl
theorem zy{bits:Int}(h:Bg bits)(c:Int32)(x:Int)(q:Nat)(acc:LB):Jo bk bits l c x (q+1) ((wB bits:Nat):Int) acc=bk (Ae x 1) acc:=by
 rw[Jo,AK,gA h,Aa1 Av8,MB,aQ]
theorem Aoi{bits:Int}(h:Bg bits)(c:Int32)(x:Int)(acc:LB)(ha:acc.length<=90000)(hr: -(hB bits)<=c.toInt/\c.toInt<hB bits):
  Pc bk bits l x acc (if bits=8 then Ae c (128:Int32)else c)=bk (Ae x 1) (acc++IA bits c.toInt):=by
 have e:Aq=(Aq-4)+1+1+1+1:=by have:=Ap;omega
 have hc:=Xp c;rw[Pc,LJ,MJ,e];have g0:=λ(c:Int32) q acc ha=>uA bk l h c x 0 q acc (by have:=vN bits;omega) ha;obtain rfl|rfl|rfl:=h
 ·have hh:hB 8=128:=rfl;rw[hh]at hr;have e1:(Ae c (128:Int32)).toInt=c.toInt+128:=by
   show(Int32.ofInt (c.toInt+(128:Int32).toInt)).toInt=_;rw[show(128:Int32).toInt=128 from rfl,At3,Avt (by show -(4294967296/2:Int)<= _;omega) (by show _<(4294967296+1)/2;omega)]
  have g1:=zy bk l (bits:=8) (.inl rfl) (Ae c (128:Int32)) x (Aq-4+1+1);rw[Abh rfl,show(0:Int)=((0:Nat):Int)from rfl,g0 _ _ _ F0];refine Asr (g1 _) ?_;rw[e1,IA,Abh rfl]
  show bk _ (acc++[u8 ((c.toInt+128).fdiv 1)])=_;rw[Int.fdiv_one]
 ·have g1:=λq acc ha=>uA bk l (bits:=16) (.inr (.inl rfl)) c x 1 q acc F3 ha;have g2:=zy bk l (bits:=16) (.inr (.inl rfl)) c x (Aq-4+1);rw[Aa1 F3,show(0:Int)=((0:Nat):Int)from rfl,g0 _ _ _ F0,g1 _ _ F5];refine Asr (g2 _) ?_;rw[IA,Aa1 F3,Abh rfl,Aqj]
  show bk _ (acc++[u8 (c.toInt.fdiv 1),u8 (c.toInt.fdiv 256)])=_;rw[Int.fdiv_one,An4 _ F0]
 ·have g1:=λq acc ha=>uA bk l (bits:=24) (.inr (.inr rfl)) c x 1 q acc F3 ha;have g2:=λq acc ha=>uA bk l (bits:=24) (.inr (.inr rfl)) c x 2 q acc F3 ha;have g3:=zy bk l (bits:=24) (.inr (.inr rfl)) c x (Aq-4);rw[Aa1 F3,show(0:Int)=((0:Nat):Int)from rfl,g0 _ _ _ F0,g1 _ _ F5,g2 _ _ F5];refine Asr (g3 _) ?_;rw[IA,Aa1 F3,Aa1 F3,Aqj,Aqj]
  show bk _ (acc++[u8 (c.toInt.fdiv 1),u8 (c.toInt.fdiv 256),u8 (c.toInt.fdiv 65536)])=_;rw[Int.fdiv_one,An4 _ F0,An4 _ F0]
end
def Dl(bits:Int)(l:LX):LB:=l.flatMap λx=>IA bits x.toInt
theorem IP(bits:Int):∀l:LX,(Dl bits l).length<=3*l.length
 |[]=>by simp[Dl]
 |x::l=>by
  have h1:=IP bits l;have h2:=X0 bits x.toInt;simp only[Dl,List.flatMap_cons,Abp,Al4]at*
  omega
def H2(bits:Int)(l:LX):Prop:=∀x∈l, -(hB bits)<=x.toInt/\x.toInt<hB bits
theorem Aby{bits:Int}(h:Bg bits)(l:LX)(hl:l.length<=4000)(hr:H2 bits l):∀(j i q:Nat),i+j=l.length->j<q->Gb bits l q (i:Int) (Dl bits (l.take i))=some (Dl bits l,0)
 |0,i,q+1,hi,_=>by
  rw[Gb,AO,Aa1 F2,Aka F0];rfl
 |j+1,i,q+1,hi,hq=>by
  have hlt:i<l.length:=F0
  have ih:=Aby h l hl hr j (i+1) q F0 F0;have hlen:=IP bits (l.take i);have hx:=hr l[i] (Asx _);have h1:=Aoi (Gb bits l q) l h l[i] (i:Int) (Dl bits (l.take i)) (by rw[Af3]at hlen;omega) hx;rw[Gb,AO,Abh F2,Ca hlt,Aa];have e:(if(geq bits (8:Int))=true then Pc (Gb bits l q) bits l (i:Int) (Dl bits (l.take i)) (Ae l[i] (128:Int32))else Pc (Gb bits l q) bits l (i:Int) (Dl bits (l.take i)) l[i])=Pc (Gb bits l q) bits l (i:Int) (Dl bits (l.take i)) (if bits=8 then Ae l[i] (128:Int32)else l[i]):=by
   by_cases h8:bits=8
   ·rw[Abh (by rw[Ba];simpa using h8),Abh h8]
   ·rw[Aa1 (by rw[Ba];simpa using h8),Aa1 h8]
  rw[e,h1,Ag];rw[Hh hlt]at ih;have e2:Dl bits (l.take i++[l[i]])=Dl bits (l.take i)++IA bits l[i].toInt:=by unfold Dl;rw[List.flatMap_append,List.flatMap_singleton]
  rw[e2]at ih;exact ih
theorem rK{bits:Int}(h:Bg bits){l:LX}(hl:l.length<=4000)(hc:Al bits l=some 0):H2 bits l:=by
 have hh:=LN bits;have key:∀(j i q:Nat),i+j=l.length->j<q->Bb l (hB bits) q (i:Int)=some 0->∀k,i<=k-> (hk:k<l.length)-> -(hB bits)<=l[k].toInt/\l[k].toInt<hB bits:=by
  intro j
  induction j with
  |zero=>intro i q hi hq _ k h1 h2;omega
  |succ j ih=>
   intro i q hi hq hs k h1 h2;obtain⟨q,rfl⟩:∃k,q=k+1:=⟨q-1,F0⟩;rw[Bb,Cj,Abh F2,Ca,Aa,Aa,Eh,zo,Df F0 F0,Ag,Af,Hl]at hs;by_cases g1:l[i].toInt<0-hB bits
   ·rw[Abh (by simpa using g1)]at hs;simp at hs
   ·rw[Aa1 (by simpa using g1)]at hs;by_cases g2:hB bits<=l[i].toInt
    ·rw[Abh (by simpa using g2)]at hs;simp at hs
    ·rw[Aa1 (by simpa using g2)]at hs;by_cases hk:k=i
     ·subst hk;omega
     ·exact ih (i+1) q F0 F0 hs k F0 h2
 rw[Al,Dd,RZ h,Aa,Aa1 Av5,Aa1 Av3]at hc;have:=key l.length 0 Aq F0 F7 hc;intro x hx;obtain⟨k,hk,rfl⟩:=List.getElem_of_mem hx;exact this k F0 hk
theorem Aae{bits:Int}(h:Bg bits){l:LX}(hl:l.length<=4000)(hc:Al bits l=some 0):CU bits l=some (Dl bits l,0):=by
 have h1:=Aby h l hl (rK h hl hc) l.length 0 Aq F0 F7;rw[CU,QD,QH h l hl,hc,Aa,Aa1 Awa];exact h1
theorem Ake{bits:Int}(h:Bg bits)(x:Int32)(hr: -(hB bits)<=x.toInt/\x.toInt<hB bits):Xw bits x=some (IA bits x.toInt):=by
 have hx:=Xp x;have gu:∀z:Int,(Ad z:UInt8)=u8 z:=λz=>rfl;have hq:∀n:Int,0<=n->n<=20000000->Ay n (256:Int)=n/256/\Ay n (65536:Int)=n/65536:=by
  intro n h1 h2;constructor<;>(rw[TK,As7 h1,Df F0 F0])
 have hm:∀n:Int,0<=n->Fm n (256:Int)=n %256:=λn h1=>by rw[Fm,Au1 h1]
 rw[Xw,MY,Eh];obtain rfl|rfl|rfl:=h
 ·rw[Abh Awt,Ag,gu,IA,Abh rfl]
 ·have hh:hB 16=32768:=rfl;rw[hh]at hr;have hp:∀n:Int,0<=n->n<=70000->u8 n=u8 x.toInt->u8 (n/256)=u8 (x.toInt/256)->Mc 16 n=some (IA 16 x.toInt):=by
   intro n h1 h2 h3 h4;rw[Mc,Zh,Aa1 Awj,hm n h1,(hq n h1 F0).1,hm _ F0,gu,gu,L5,L5,h3,h4,IA,Aa1 F3,Abh rfl]
  rw[Aa1 Awj];by_cases hn:x.toInt<0
  ·rw[Abh (by rw[Af];simpa using hn),RZ (.inr (.inl rfl)),Aa,hh,Gu,Ag];refine hp _ F0 F0 ?_ ?_
   ·rw[u8,u8];congr 2;omega
   ·rw[u8,u8];congr 2;omega
  ·rw[Aa1 (by rw[Af];simpa using hn)];exact hp _ F0 F0 rfl rfl
 ·have hh:hB 24=8388608:=rfl;rw[hh]at hr;have hp:∀n:Int,0<=n->n<=16777215->u8 n=u8 x.toInt->u8 (n/256)=u8 (x.toInt/256)->u8 (n/65536)=u8 (x.toInt/65536)->Mc 24 n=some (IA 24 x.toInt):=by
   intro n h1 h2 h3 h4 h5;rw[Mc,Zh,Abh Awt,hm n h1,(hq n h1 F0).1,(hq n h1 F0).2,hm _ F0,gu,gu,gu,L5,L5,h3,h4,h5,As Av2,Aa,IA,Aa1 F3,Aa1 F3];rfl
  rw[Aa1 Awj];by_cases hn:x.toInt<0
  ·rw[Abh (by rw[Af];simpa using hn),RZ (.inr (.inr rfl)),Aa,hh,Gu,Ag];refine hp _ F0 F0 ?_ ?_ ?_
   ·rw[u8,u8];congr 2;omega
   ·rw[u8,u8];congr 2;omega
   ·rw[u8,u8];congr 2;omega
  ·rw[Aa1 (by rw[Af];simpa using hn)];exact hp _ F0 F0 rfl rfl rfl
theorem Abv{bits:Int}(h:Bg bits)(l:LX)(hl:l.length<=4000)(hr:H2 bits l):∀(j i q:Nat),i+j=l.length->j<q->Hi bits l q (i:Int) (Dl bits (l.take i))=some (Dl bits l,0)
 |0,i,q+1,hi,_=>by
  rw[Hi,Od,Aa1 F2,Aka F0];rfl
 |j+1,i,q+1,hi,hq=>by
  have hlt:i<l.length:=F0
  have ih:=Abv h l hl hr j (i+1) q F0 F0;have hlen:=IP bits (l.take i);have hol:=X0 bits l[i].toInt;rw[Af3]at hlen;have e2:Dl bits (l.take i++[l[i]])=Dl bits (l.take i)++IA bits l[i].toInt:=by unfold Dl;rw[List.flatMap_append,List.flatMap_singleton]
  rw[Hh hlt,e2]at ih;rw[Hi,Od,Abh F2,Ca hlt,Aa,Ake h _ (hr l[i] (Asx _)),Aa,As,Aa,Ag];exact ih
theorem Aer{bits:Int}(h:Bg bits){l:LX}(hl:l.length<=4000)(hc:Al bits l=some 0):Jx bits l=some (Dl bits l,0):=by
 have h1:=Abv h l hl (rK h hl hc) l.length 0 Aq F0 F7;rw[Jx,Vr,hc,Aa,Aa1 Awa];exact h1
def lO:LB->Nat->Int×Int
 |[],n=>((n:Int),0)
 |c::r,n=>if 128<=c.toNat then(0,12)else lO r (128*n+c.toNat)
theorem Ads:∀(l:LB) (n k:Nat),n<128^k->0<= (lO l n).1/\ (lO l n).1<((128^(k+l.length):Nat):Int)
 |[],n,k,h=>by simp[lO];exact_mod_cast h
 |c::r,n,k,h=>by
  rw[lO];split
  ·have:0<128^(k+(c::r).length):=Auh F0;exact⟨Int.le_refl _,by simp only;exact_mod_cast this⟩
  ·have:=Ads r (128*n+c.toNat) (k+1) (by rw[Ar8];omega);rw[Al4,show k+(r.length+1)=k+1+r.length by omega];exact this
theorem Ajj(b:LB)(hb:b.length=4):∀(j i q n:Nat),i+j=4->j<q->n<128^i->Js b q (n:Int) (i:Int)=some (lO (b.drop i) n)
 |0,i,q+1,n,hi,_,_=>by
  rw[Js,Vq,Aa1 F9,show b.drop i=[] by simp;omega];rfl
 |j+1,i,q+1,n,hi,hq,hn=>by
  have hlt:i<b.length:=F0
  have hn2:n<268435456:=Apa hn (show 128^i<=128^4 from Aj7 F0 F0);rw[Js,Vq,Abh F9,Ca hlt,Aa,drop_cons hlt,lO,Ao9];have h128:(128:UInt8).toNat=128:=rfl;by_cases hc:128<=b[i].toNat
  ·rw[Abh (by simpa using hc),Abh hc]
  ·have h3:=b[i].toNat_lt;rw[Aa1 (by simpa using hc),Aa1 hc,Aa,gO,Gu,Ag,Ag];have:=Ajj b hb j (i+1) q (128*n+b[i].toNat) F0 F0 (by rw[Ar8];omega);rw[<-this];rfl
theorem Afk(b:LB)(hb:b.length=4):BF b=some (lO b 0):=by
 have h:=Ajj b hb 4 0 Aq 0 F0 F7 Av2;rw[BF,HI,Aa1 (by rw[Bl,Ac];simp;omega),GV];exact h
theorem Ag1{b:LB}(hb:b.length=4):0<= (lO b 0).1/\ (lO b 0).1<268435456:=by
 have:=Ads b 0 0 Av2;rw[hb]at this;simpa using this
def Ab9(b:LB)(n:Int):Int×Int:=
 if 4000<n then(0,4)else if(b.length:Int)<n then(0,24)else
 if b.getD 5 0=16/\ (b.take n.toNat).drop (n-10).toNat≠ [51,68,73]++part b 3 7 then(0,12)else(n,0)
def Acw(b:LB)(r:Int):Int×Int:=Ab9 b (r+10+(if b.getD 5 0=16 then 10 else 0))
def wX(b:LB):Int×Int:=
 if ¬(3<=b.length/\b.take 3=[73,68,51])then(0,6)else if b.length<10 then(0,24)else
 if(lO (part b 6 4) 0).2≠0\/b.getD 4 0≠0\/ ¬((b.getD 5 0=0/\2<= (b.getD 3 0).toNat/\ (b.getD 3 0).toNat<=4)\/ (b.getD 5 0=16/\b.getD 3 0=4))then(0,12)else
 Acw b (lO (part b 6 4) 0).1
theorem K6{b:LB}{i:Nat}(h:i<b.length):Aj b (i:Int)=some (b.getD i 0):=by
 rw[Ca h];simp[List.getD_eq_getElem?_getD,h]
theorem AA{b:LB}(a w:Nat)(h:a+w<=b.length:=by omega):Cr b (a:Int) ((a+w:Nat):Int)=some (part b a w):=by
 rw[Ve];rfl
theorem Alc(b:LB)(r:Int)(h10:10<=b.length)(h0:0<=r)(h1:r<268435456):Wx b r=some (Acw b r):=by
 have g5:Aj b (5:Int)=some (b.getD 5 0):=K6 (i:=5) F0;have key:∀n:Int,10<=n->n<268435500->Ws b n=some (Ab9 b n):=by
  intro n hn hn2;rw[Ws,KL,Ab9];by_cases c1:4000<n
  ·rw[Abh (by rw[Ar];simpa using c1),Abh c1]
  ·rw[Aa1 (by rw[Ar];simpa using c1),Aa1 c1];by_cases c2:(b.length:Int)<n
   ·rw[Abh (by rw[Af,Ac];simpa using c2),Abh c2]
   ·have e3:Cr b (3:Int) (10:Int)=some (part b 3 7):=AA 3 7;rw[Aa1 (by rw[Af,Ac];simpa using c2),Aa1 c2,g5,Aa];by_cases c3:b.getD 5 0=16
    ·rw[Abh (by rw[xG];simpa using c3),Dx,Ve,Aa,e3,Aa,As (by rw[Dj];simp),Aa];by_cases c4:(b.take n.toNat).drop (n-10).toNat=[51,68,73]++part b 3 7
     ·rw[Aa1 (by simpa using c4),Aa1 (by intro h;exact h.2 c4)]
     ·rw[Abh (by simpa using c4),Abh ⟨c3,c4⟩]
    ·rw[Aa1 (by rw[xG];simpa using c3),Aa1 (λh=>c3 h.1)]
 rw[Wx,JN,g5,Aa,Acw];by_cases c3:b.getD 5 0=16
 ·rw[Abh (by rw[xG];simpa using c3),Ag (by rw[Ag]<;>omega) (by rw[Ag]<;>omega),Ag,key _ F0 F0,Abh c3,show 10+r+10=r+10+10 by omega]
 ·rw[Aa1 (by rw[xG];simpa using c3),Ag,key _ F0 F0,Aa1 c3,show 10+r=r+10+0 by omega]
theorem Ai1(b:LB)(hb:b.length<4611686018427387904):DW b=some (wX b):=by
 rw[DW,JQ,wX];by_cases h3:3<=b.length
 ·rw[Aa1 F2,Tu,Aa];by_cases hp:b.take 3=[73,68,51]
  ·rw[Aa1 (by simpa using hp),Aa1 (by simp[h3,hp]),LC,KA];by_cases h10:b.length<10
   ·rw[Abh F2,Abh h10]
   ·have e6:Cr b (6:Int) (10:Int)=some (part b 6 4):=AA 6 4;have g3:Aj b (3:Int)=some (b.getD 3 0):=K6 (i:=3) F0;have g4:Aj b (4:Int)=some (b.getD 4 0):=K6 (i:=4) F0;have g5:Aj b (5:Int)=some (b.getD 5 0):=K6 (i:=5) F0;obtain⟨v1,v2⟩:=Ag1 (b:=part b 6 4) (Dj);rw[Aa1 F2,Aa1 h10,e6,Aa,Afk _ (Dj),Aa];have ht:=Alc b (lO (part b 6 4) 0).1 F0 v1 v2;generalize lO (part b 6 4) 0=v at*
    obtain⟨v,e⟩:=v;simp only at ht v1 v2⊢;simp only[Aa,g3,g4,g5,ht];generalize b.getD 3 0=x at*
    generalize b.getD 4 0=y at*
    generalize b.getD 5 0=z at*
    simp only[R9,Ao3,Ap0,Bl];by_cases he:e=0<;>by_cases hy:y=0<;>by_cases hz:z=0<;>by_cases hz2:z=16<;>by_cases hx:x=4<;>by_cases hx2:x.toNat<2<;>by_cases hx4:4<x.toNat<;>simp_all<;>(rw[Aa1 F0,Aa1 F0])
  ·rw[Abh (by simpa using hp),Abh (by simp[hp])]
 ·rw[Abh F2,Abh (by simp[h3])]
theorem Ajx{b:LB}{n:Int}(h:wX b=(n,0)):10<=n/\n<=b.length/\n<=4000:=by
 unfold wX at h;split at h; · simp at h
 split at h; · simp at h
 split at h; · simp at h
 rename_i h10 _;obtain⟨v1,v2⟩:=Ag1 (b:=part b 6 4) (Dj);unfold Acw at h;generalize hm:(lO (part b 6 4) 0).1+10+(if b.getD 5 0=16 then 10 else 0)=m at h;unfold Ab9 at h;split at h; · simp at h
 split at h; · simp at h
 split at h; · simp at h
 simp only[Aui,and_true]at h;subst h;refine⟨?_,F0,F0⟩;rw[<-hm];split<;>omega
theorem Awf(h:p:=by rw[Dj];omega):p:=h
theorem Awb(h:p:=by simp[Bi]):p:=h
end Go.Pl
namespace Go.Pl
open Go Go.Lv
variable{n a w k r g c f:Nat}
def APE:LB:=[65,80,69,84,65,71,69,88]
def rN(n m fl:Nat):LB:=APE++Ot 2000 4++Ot (n+32) 4++Ot m 4++Ot fl 4++List.replicate 8 0
theorem uO(h:n<18446744073709551616):(UInt64.ofNat n).toNat=n:=by rw[Ahx,Acn h]
theorem Adq(n m:Nat)(fl:UInt64)(hn:n<=3000)(hm:m<=1000)(hf:fl.toNat<4294967296):Rz (n:Int) (m:Int) fl=some (rN n m fl.toNat):=by
 have e1:(Ad (Ae (n:Int) (32:Int)):UInt64).toNat=n+32:=by rw[Ag,show(n:Int)+32=((n+32:Nat):Int) by omega,Sr,uO F0]
 have e2:(Ad (m:Int):UInt64).toNat=m:=by rw[Sr,uO F0]
 have w:∀c:UInt64,Ah c 4=some (Ot c.toNat 4):=λc=>II c 4 F0;have z2:Ot (2000:UInt64).toNat 4=Ot 2000 4:=rfl;rw[Rz];simp only[w,e1,e2,Aa];rw[As Awb,Aa,As Awb,Aa,As Awb,Aa,As Awb,Aa,I5,Aa,As Awb,Aa,z2];rfl
theorem gL{b:LB}(h:a+w<=k):part (b.take k) a w=part b a w:=by rw[part,part,List.take_take,Asl h]
def eR(b:LB):Bool:=decide (Li (part b 12 4)<32\/3032<Li (part b 12 4)\/1000<Li (part b 16 4))
theorem Apy(b:LB)(h:20<=b.length):(((Cm (gS (part b 12 4)) (32:UInt64))||(Da (gS (part b 12 4)) (3032:UInt64)))||(Da (gS (part b 16 4)) (1000:UInt64)))=eR b:=by
 rw[gX,Qp,Qp,Yn Awf,Yn Awf,eR];show((decide (Li (part b 12 4)<32)||decide (3032<Li (part b 12 4)))||decide (1000<Li (part b 16 4)))=_;simp[Bool.or_assoc]
theorem Ahs(b:LB)(h:20<=b.length)(hb:eR b=false):Ak (Ad (gS (part b 12 4)):Int) (32:Int)=((Li (part b 12 4)-32:Nat):Int)/\ (Ad (gS (part b 16 4)):Int)=((Li (part b 16 4):Nat):Int)/\Li (part b 12 4)-32<=3000/\Li (part b 16 4)<=1000:=by
 simp only[eR,Asb]at hb;refine⟨?_,ZH Awf,F0,F0⟩;rw[ZH Awf,Dx];omega
theorem Aga(b:LB)(h:20<=b.length)(hl:b.length<4611686018427387904):
  DJ b=some (if eR b=true then(0,0,false)else(((Li (part b 12 4)-32:Nat):Int),((Li (part b 16 4):Nat):Int),true)):=by
 have a1:Cr b 12 16=some (part b 12 4):=AA 12 4;have a2:Cr b 16 20=some (part b 16 4):=AA 16 4;rw[DJ,a1,Aa,oY _ Awf,Aa,a2,Aa,oY _ Awf,Aa,Apy b h];cases hb:eR b with
 |true=>rfl
 |false=>
  obtain⟨i1,i2,i3,i4⟩:=Ahs b h hb;rw[i1,i2];rfl
def Vz(b:LB):Int×Int:=
 if ¬(8<=b.length/\b.take 8=APE)then(0,6)else if b.length<32 then(0,24)else
 if eR b=true\/b.take 32≠rN (Li (part b 12 4)-32) (Li (part b 16 4)) 2684354560 then(0,12)else
 if b.length<Li (part b 12 4)+32 then(0,24)else
 if(b.take (Li (part b 12 4)+32)).drop (Li (part b 12 4))≠rN (Li (part b 12 4)-32) (Li (part b 16 4)) 2147483648 then(0,12)else(((Li (part b 12 4)+32:Nat):Int),0)
theorem Ahk(b:LB):eR (b.take 32)=eR b:=by rw[eR,eR,gL F0,gL F0]
section
variable {b:LB}
theorem fa1(h:¬(8<=b.length/\b.take 8=APE)):Vz b=(0,6):=by rw[Vz,Abh h]
theorem fa2(h:8<=b.length/\b.take 8=APE)(h2:b.length<32):Vz b=(0,24):=by rw[Vz,Aa1 (λh'=>h' h),Abh h2]
variable (h:8<=b.length/\b.take 8=APE) (h2:¬b.length<32)
include h h2
theorem fa3(h3:eR b=true):Vz b=(0,12):=by rw[Vz,Aa1 (λh'=>h' h),Aa1 h2,Abh (.inl h3)]
theorem fa4(h4:b.take 32≠rN (Li (part b 12 4)-32) (Li (part b 16 4)) 2684354560):Vz b=(0,12):=by rw[Vz,Aa1 (λh'=>h' h),Aa1 h2,Abh (.inr h4)]
variable (h3:eR b=false) (h4:b.take 32=rN (Li (part b 12 4)-32) (Li (part b 16 4)) 2684354560)
include h3 h4
theorem fa5(h5:b.length<Li (part b 12 4)+32):Vz b=(0,24):=by
 rw[Vz,Aa1 (λh'=>h' h),Aa1 h2,Aa1 (λh'=>h'.elim (λe=>by rw[h3]at e;cases e) λe=>e h4),Abh h5]
theorem fa6(h5:¬b.length<Li (part b 12 4)+32)(h6:(b.take (Li (part b 12 4)+32)).drop (Li (part b 12 4))≠rN (Li (part b 12 4)-32) (Li (part b 16 4)) 2147483648):Vz b=(0,12):=by
 rw[Vz,Aa1 (λh'=>h' h),Aa1 h2,Aa1 (λh'=>h'.elim (λe=>by rw[h3]at e;cases e) λe=>e h4),Aa1 h5,Abh h6]
theorem fa7(h5:¬b.length<Li (part b 12 4)+32)(h6:(b.take (Li (part b 12 4)+32)).drop (Li (part b 12 4))=rN (Li (part b 12 4)-32) (Li (part b 16 4)) 2147483648):Vz b=(((Li (part b 12 4)+32:Nat):Int),0):=by
 rw[Vz,Aa1 (λh'=>h' h),Aa1 h2,Aa1 (λh'=>h'.elim (λe=>by rw[h3]at e;cases e) λe=>e h4),Aa1 h5,Aa1 (λh'=>h' h6)]
end
theorem Aej(b:LB)(hl:b.length<4611686018427387904):BB b=some (Vz b):=by
 rw[BB,GO];by_cases h8:8<=b.length
 ·rw[Aa1 F2,Tu,Aa,show(8:Int).toNat=8 from rfl];by_cases ha:b.take 8=APE
  ·have hp:=And.intro h8 ha;rw[Aa1 (by simpa [APE]using ha),HF,GY];by_cases h32:b.length<32
   ·rw[Abh F2,fa2 hp h32]
   ·have t:=Aga (b.take 32) F5 F5;rw[Ahk,gL F0,gL F0]at t;rw[Aa1 F2,Tu,Aa,show(32:Int).toNat=32 from rfl,t,Aa];cases hb:eR b with
    |true=>rw[fa3 hp h32 hb];simp
    |false=>
     obtain⟨i1,i2,i3,i4⟩:=Ahs b F0 hb;have i5:32<=Li (part b 12 4):=by simp only[eR,Asb]at hb;omega
     simp only[Ary,Aum,false_or,Aa,Ave];rw[RW,Adq _ _ _ i3 i4 F3,Aa,Aa];by_cases c1:b.take 32=rN (Li (part b 12 4)-32) (Li (part b 16 4)) 2684354560
     ·have c1':b.take 32=rN (Li (part b 12 4)-32) (Li (part b 16 4)) (2684354560:UInt64).toNat:=c1;rw[Aa1 (by simpa using c1'),HQ,HG,Ag];have e1:64+((Li (part b 12 4)-32:Nat):Int)=((Li (part b 12 4)+32:Nat):Int):=F0
      rw[e1];by_cases c2:b.length<Li (part b 12 4)+32
      ·rw[Abh F2,fa5 hp h32 hb c1 c2]
      ·rw[Aa1 F2,Dx,Ve,Aa,SW,Abh rfl,Adq _ _ _ i3 i4 F3,Aa,Aa];rw[show(((Li (part b 12 4)+32:Nat):Int)).toNat=Li (part b 12 4)+32 by omega,show(((Li (part b 12 4)+32:Nat):Int)-32).toNat=Li (part b 12 4) by omega];by_cases c3:(b.take (Li (part b 12 4)+32)).drop (Li (part b 12 4))=rN (Li (part b 12 4)-32) (Li (part b 16 4)) 2147483648
       ·have c3':(b.take (Li (part b 12 4)+32)).drop (Li (part b 12 4))=rN (Li (part b 12 4)-32) (Li (part b 16 4)) (2147483648:UInt64).toNat:=c3;rw[Aa1 (by simpa using c3'),fa7 hp h32 hb c1 c2 c3]
       ·have c3':¬(b.take (Li (part b 12 4)+32)).drop (Li (part b 12 4))=rN (Li (part b 12 4)-32) (Li (part b 16 4)) (2147483648:UInt64).toNat:=c3;rw[Abh (by simpa using c3'),fa6 hp h32 hb c1 c2 c3]
     ·have c1':¬b.take 32=rN (Li (part b 12 4)-32) (Li (part b 16 4)) (2684354560:UInt64).toNat:=c1;rw[Abh (by simpa using c1'),fa4 hp h32 c1]
  ·rw[Abh (by simpa [APE]using ha),fa1 (λh=>ha h.2)]
 ·rw[Abh F2,fa1 (λh=>h8 h.1)]
theorem Afp{b:LB}{n:Int}(h:Vz b=(n,0)):64<=n/\n<=b.length:=by
 unfold Vz at h;split at h; · simp at h
 split at h; · simp at h
 split at h; · simp at h
 rename_i hb;split at h; · simp at h
 split at h; · simp at h
 simp only[Aui,and_true]at h;have hb':¬eR b=true:=λe=>hb (.inl e);simp only[eR,Aef]at hb';omega
def Np(b:LB):Int×Int:=if(wX b).2≠6 then wX b else Vz b
theorem nu{b:LB}{n:Int}(h:Np b=(n,0)):10<=n/\n<=b.length:=by
 unfold Np at h;split at h
 ·have:=Ajx h;omega
 ·have:=Afp h;omega
def Hx(b:LB):Nat->Nat->LI×Int
 |0,_=>([],6)
 |j+1,p=>if(Np (b.drop p)).2=6 then([],0)else if(Np (b.drop p)).2≠0 then([],(Np (b.drop p)).2)else
  if 4000<(p:Int)+(Np (b.drop p)).1 then([],4)else
  if(Hx b j (p+(Np (b.drop p)).1.toNat)).2=0 then((Np (b.drop p)).1::(Hx b j (p+(Np (b.drop p)).1.toNat)).1,0)else([],(Hx b j (p+(Np (b.drop p)).1.toNat)).2)
theorem rJ(b:LB):∀(j p:Nat),p<=b.length->p<=4000-> (Hx b j p).2=0-> (∀x∈(Hx b j p).1,10<=x)/\ (p:Int)+(Hx b j p).1.sum<=b.length/\ (p:Int)+(Hx b j p).1.sum<=4000
 |0,p,_,_,h=>by simp[Hx]at h
 |j+1,p,hp,hq,h=>by
  rw[Hx]at h⊢;split at h
  ·rename_i h6;rw[Abh h6];simp;omega
  ·rename_i h6;split at h
   ·rename_i h0;exact absurd h h0
   ·rename_i h0;rw[Aa1 h6,Aa1 h0];have hz:Np (b.drop p)=((Np (b.drop p)).1,0):=by rw[Prod.ext_iff];exact⟨rfl,Classical.not_not.1 h0⟩
    have hs:=nu hz;rw[Aqi]at hs;split at h
    ·simp at h
    ·rename_i h4;rw[Aa1 h4];split at h
     ·rename_i h00;rw[Abh h00];obtain⟨i1,i2,i3⟩:=rJ b j _ F0 F0 h00;refine⟨λx hx=>?_,?_,?_⟩
      ·rcases List.mem_cons.1 hx with rfl|hx
       ·exact hs.1
       ·exact i1 x hx
      ·simp only[Ast];omega
      ·simp only[Ast];omega
     ·rename_i h00;exact absurd h h00
def Aow(b:LB)(j p:Nat):Int×Int:=if(Hx b j p).2=0 then((p:Int)+(Hx b j p).1.sum,0)else(0,(Hx b j p).2)
def Agt(b:LB)(j p:Nat)(xs:LI):LI×Int:=if(Hx b j p).2=0 then(xs++(Hx b j p).1,0)else([],(Hx b j p).2)
theorem Ag2(bk:Int->LI->Option (LI×Int))(b:LB)(p:Nat)(hp:p<=b.length)(xs:LI)(hx:xs.length<=4000)(hl:b.length<4611686018427387904):Vu (Oj bk b) b (p:Int) xs=Oj bk b (p:Int) xs (Np (b.drop p)).1 (Np (b.drop p)).2:=by
 have hf:=Aej (b.drop p) F5;rw[Vu,Yo,Aa,Ajs,Ai1 _ F5,Aa];by_cases h:(wX (b.drop p)).2=6
 ·simp[Np,h,Ba,hf]
 ·simp[Np,h,Ba]
theorem H3(b:LB)(hl:b.length<4611686018427387904):∀(j p q:Nat) (xs:LI),p<=b.length->p<=4000->b.length-p<j->j<=q->xs.length<=p->Nx b q (p:Int) xs=some (Agt b j p xs)
 |0,p,q,_,_,_,h,_,_=>by omega
 |j+1,p,q,xs,hp,hp4,hj,hq,hx=>by
  obtain⟨q,rfl⟩:∃k,q=k+1:=⟨q-1,F0⟩;rw[Nx,Ag2 _ b p hp xs F0 hl,Oj,HE,Ba,Bl,Agt];by_cases h6:(Np (b.drop p)).2=6
  ·rw[Abh (by simpa using h6)];have:Hx b (j+1) p=([],0):=by rw[Hx,Abh h6]
   rw[this];simp
  ·rw[Aa1 (by simpa using h6)];by_cases h0:(Np (b.drop p)).2=0
   ·have hz:Np (b.drop p)=((Np (b.drop p)).1,0):=by rw[Prod.ext_iff];exact⟨rfl,h0⟩
    have hs:=nu hz;rw[Aqi]at hs;rw[Aa1 (by simpa using h0),Ag,Ar];by_cases h4:4000<(p:Int)+(Np (b.drop p)).1
    ·rw[Abh F5];have:Hx b (j+1) p=([],4):=by rw[Hx,Aa1 h6,Aa1 (λh=>h h0),Abh h4]
     rw[this];simp
    ·rw[Aa1 F5,As F5,Aa];have ih:=H3 b hl j (p+(Np (b.drop p)).1.toNat) q (xs++[(Np (b.drop p)).1]) F0 F0 F0 F0 F5;rw[show(p:Int)+(Np (b.drop p)).1=((p+(Np (b.drop p)).1.toNat:Nat):Int) by omega,ih,Agt];have:Hx b (j+1) p=if(Hx b j (p+(Np (b.drop p)).1.toNat)).2=0 then((Np (b.drop p)).1::(Hx b j (p+(Np (b.drop p)).1.toNat)).1,0)else([],(Hx b j (p+(Np (b.drop p)).1.toNat)).2):=by
      rw[Hx,Aa1 h6,Aa1 (λh=>h h0),Aa1 h4]
     rw[this];by_cases hr:(Hx b j (p+(Np (b.drop p)).1.toNat)).2=0
     ·simp only[hr,Avz];simp
     ·simp only[hr,Aum]
   ·rw[Abh (by simpa using h0)];have:Hx b (j+1) p=([],(Np (b.drop p)).2):=by rw[Hx,Aa1 h6,Abh h0]
    rw[this];simp[h0]
theorem uF:∀{l:LI},(∀x∈l,10<=x)->0<=l.sum/\ (l.length:Int)<=l.sum
 |[],_=>by simp
 |x::l,h=>by
  have h1:=h x Aqz;have h2:=uF (l:=l) λy hy=>h y (Am5 _ hy);simp only[Ast,Al4];omega
theorem vG(r:Int)(l:LI)(hl:l.length<=4000)(hx:∀x∈l,10<=x):∀(j i q:Nat) (n:Int),i+j=l.length->j<q->0<=n->n+(l.drop i).sum<=4000->Jp r l q n (i:Int)=some (n+(l.drop i).sum,r)
 |0,i,q+1,n,hi,_,_,_=>by
  rw[Jp,Uy,Aa1 F2,show i=l.length by omega,At2];simp[HP,GN]
 |j+1,i,q+1,n,hi,hq,hn,hs=>by
  have hlt:i<l.length:=F0
  rw[drop_cons hlt,Ast]at hs⊢;have h1:=hx l[i] (Asx hlt);have h2:=uF (l:=l.drop (i+1)) λy hy=>hx y (Aue hy);rw[Jp,Uy,Abh F2,Ca hlt,Aa,Aa,Ag,Ag];have ih:=vG r l hl hx j (i+1) q (n+l[i]) F0 F0 F0 F0;rw[show((i:Int)+1)=((i+1:Nat):Int) by omega,ih];congr 2;omega
def Ww(b:LB):Int×Int:=Aow b (b.length+1) 0
theorem O6(b:LB)(hl:b.length<4611686018427387904):BO b=some (Ww b):=by
 have h:=H3 b hl (b.length+1) 0 Aq [] F0 F0 F0 F7 Av2;have h':OS b=some (Agt b (b.length+1) 0 []):=h;rw[BO,HD,h',Aa,Ww,Aow,Agt];have ho:=rJ b (b.length+1) 0 F0 F0;by_cases h0:(Hx b (b.length+1) 0).2=0
 ·obtain⟨i1,i2,i3⟩:=ho h0;have hp:=uF i1;simp only[h0,Avz,Asa];have:=vG 0 (Hx b (b.length+1) 0).1 F0 i1 (Hx b (b.length+1) 0).1.length 0 Aq 0 F0 F7 F0 (by simpa using i3);simpa [Vc]using this
 ·simp only[h0,Aum];have:=vG (Hx b (b.length+1) 0).2 [] Av2 Av2 0 0 Aq 0 Av2 F7 F0 Av2;simpa [Vc]using this
theorem Ad6{b:LB}(h:(Ww b).2=0):0<= (Ww b).1/\ (Ww b).1<=b.length/\ (Ww b).1<=4000:=by
 unfold Ww Aow at h⊢;split at h
 ·rename_i h0;rw[Abh h0];obtain⟨i1,i2,i3⟩:=rJ b (b.length+1) 0 F0 F0 h0;have hp:=uF i1;exact⟨by simp;omega,i2,i3⟩
 ·rename_i h0;exact absurd h h0
def Am(r:Nat):Nat:=max 1 (256*r/245)
theorem Km(r:Nat):1<=Am r:=Nat.le_max_left _ _
theorem EM(h:r<=1048576):Am r<=1100000:=by unfold Am;omega
theorem yM(h:r<=1048576):nZ (1:Int) (Ay (Bc (256:Int) (r:Int)) (245:Int))=(Am r:Int):=by
 rw[Gu,TK,As7 F0,Df F0 F0,T2,Am];omega
def Gf(g n:Nat):LI:=List.replicate ((n-1)/g) (g:Int)++[((n-(n-1)/g*g:Nat):Int)]
theorem dL(g n:Nat):(Gf g n).length=(n-1)/g+1:=by simp[Gf]
theorem kP(h:n<=g)(h1:1<=n):Gf g n=[(n:Int)]:=by
 rw[Gf,Ata F0];simp
theorem tH(hg:1<=g)(h:g<n):Gf g n=(g:Int)::Gf g (n-g):=by
 have e:(n-1)/g=(n-g-1)/g+1:=by rw[<-Nat.add_div_right _ F0];congr 1;omega
 rw[Gf,Gf,e,As8,Aur];congr 4;have:=Nat.div_mul_le_self (n-g-1) g;rw[Aim,Aqu];omega
theorem nG(hg:1<=g)(h1:1<=n):(n+g-1)/g=(n-1)/g+1:=by
 rw[<-Nat.add_div_right _ F0];congr 1;omega
theorem gK(h1:1<=r)(h:r<=1048576):Ko (r:Int)=some ((Am r:Int),0):=by
 rw[Ko,Aa1 Av4,yM h]
theorem Ah0(h:r<=1048576):Wg (r:Int)=some (Am r:Int):=by rw[Wg,yM h]
theorem lQ(h1:1<=r)(h:r<=1048576)(n1:1<=n)(n2:n<=4000):Kq (r:Int) (n:Int)=some (if 1000<(n-1)/Am r+1 then(0,4)else((((n-1)/Am r+1:Nat):Int),0)):=by
 have hp:=Km r;have hl:=EM h;have e:Ay (Ak (Ae (n:Int) (Am r:Int)) (1:Int)) (Am r:Int)=(((n-1)/Am r+1:Nat):Int):=by
  have:(n+Am r-1)/Am r<=n+Am r-1:=Aqh _ _;rw[Ag,Dx,TK,As7 F0,show(n:Int)+(Am r:Int)-1=((n+Am r-1:Nat):Int) by omega,<-Int.natCast_ediv,nG hp n1];rw[nG hp n1]at this;generalize(n-1)/Am r=k at*
  exact Df F0 F0
 rw[Kq,gK h1 h,Aa];simp only;rw[Aa1 Awa,Aa1 Av4,Bt Av1,Aa,e];by_cases hk:1000<(n-1)/Am r+1
 ·rw[Abh Av6,Abh hk]
 ·rw[Aa1 Av6,Aa1 hk]
theorem yP{r:Nat}(h:r<=1048576):∀(j n q:Nat) (acc:LI),n<=4000->n<=j->j<q->acc.length+n<=10000->Ev (r:Int) q (n:Int) acc=some (acc++(if n=0 then []else Gf (Am r) n))
 |0,n,q+1,acc,hn,hj,hq,ha=>by
  obtain rfl:n=0:=F0
  rw[Ev,Jq,Aa1 Awl];simp[Ok,Oa]
 |j+1,n,q+1,acc,hn,hj,hq,ha=>by
  have hp:=Km r;have hl:=EM h;by_cases h0:n=0
  ·subst h0;rw[Ev,Jq,Aa1 Awl];simp[Ok,Oa]
  ·rw[Ev,Jq,Abh Av6,Ah0 h,Aa,As F5,Aa,Aa,Dx,lA];by_cases hs:n<=Am r
   ·rw[show min (n:Int) (Am r:Int)=(n:Int) by omega,Aa1 h0,kP hs F0];have hz:∃k,q=k+1:=⟨q-1,F0⟩;obtain⟨q,rfl⟩:=hz;rw[Ev,Jq,Aa1 Av6];simp[Ok,Oa]
   ·rw[show min (n:Int) (Am r:Int)=(Am r:Int) by omega,show(n:Int)-(Am r:Int)=((n-Am r:Nat):Int) by omega,yP h j (n-Am r) q _ F0 F0 F0 F5,Aa1 F0,Aa1 h0,tH hp (show Am r<n by omega)];simp
theorem Aii(h:r<=1048576)(n1:1<=n)(n2:n<=4000):Ns (r:Int) (n:Int)=some (Gf (Am r) n):=by
 have:=yP h n n Aq [] n2 (Aqe _) F7 F5;rw[Ns,HC,GG,this,Aa1 F0];rfl
theorem mul_one(m:Nat)(h:m<=100000):kN (1:UInt64) (UInt64.ofNat m)=some (0,UInt64.ofNat m):=by
 have y1:(UInt64.ofNat m).toNat=m:=uO F0;have s1:Ce (1:UInt64) (GI.toZ (32:UInt64)).toNat=0:=F3
 have s2:Ce (UInt64.ofNat m) (GI.toZ (32:UInt64)).toNat=0:=by
  apply UInt64.toNat_inj.1;rw[FR,y1];exact Ata (Atj h F3)
 have s0:Ce (0:UInt64) (GI.toZ (32:UInt64)).toNat=0:=F3
 have a1:Fc (1:UInt64) (4294967295:UInt64)=1:=F3
 have a0:Fc (0:UInt64) (4294967295:UInt64)=0:=F3
 have a2:Fc (UInt64.ofNat m) (4294967295:UInt64)=UInt64.ofNat m:=by
  apply UInt64.toNat_inj.1;rw[jy,UInt64.toNat_and,y1]
  show m&&& (2^32-1)=m;rw[Auk,Acn F0]
 have m1:∀x:UInt64,Bc 1 x=x:=λx=>by rw[VZ,UInt64.one_mul]
 have m0:∀x:UInt64,Bc 0 x=0:=λx=>by rw[VZ,UInt64.zero_mul]
 have p0:∀x:UInt64,Ae 0 x=x:=λx=>by rw[QC,UInt64.zero_add]
 have p1:∀x:UInt64,Ae x 0=x:=λx=>by rw[QC,UInt64.add_zero]
 rw[kN,aP];simp only[s1,s2,a1,a2,m1,m0,p0,p1,s0,a0,Aa]
def Uz(f c w r n:Nat):Bool:=decide ((f=1\/f=2)/\ (1<=c/\c<=6)/\ (w=8\/w=16\/w=24)/\ (1<=r/\r<=1048576)/\1<=n)
def qJ(c r n:Nat):Bool:=decide (n<=4000/c/\ (n-1)/Am r+1<=1000)
theorem Y1(f c w r n:Nat):IU (f:Int) (c:Int) (w:Int) (r:Int) (n:Int)=some (Uz f c w r n):=by
 have e2:ID (f:Int) (c:Int) (w:Int) (r:Int) (n:Int)=some (decide ((f=1\/f=2)/\ (1<=c/\c<=6)/\ (1<=r/\r<=1048576)/\1<=n)):=by
  rw[ID,VK];congr 1;rw[An2];simp only[Ba,Ar,Sm,Afq,Aqm,Atw,Aef];omega
 have g:∀k:Nat,geq (w:Int) (k:Int)=decide (w=k):=λk=>by rw[Ba,An2];simp;omega
 have g8:geq (w:Int) (8:Int)=decide (w=8):=g 8;have g16:geq (w:Int) (16:Int)=decide (w=16):=g 16;have g24:geq (w:Int) (24:Int)=decide (w=24):=g 24;rw[IU,VA,e2,g8,g16,g24,Uz];by_cases h8:w=8
 ·subst h8;simp
 ·by_cases h16:w=16
  ·subst h16;simp
  ·by_cases h24:w=24
   ·subst h24;simp
   ·simp[h8,h16,h24]
theorem Aba(f c w r n:Nat):Zi (f:Int) (c:Int) (w:Int) (r:Int) (n:Int)=some (Uz f c w r n):=by
 rw[Zi,Uz];simp only[Ba,Hl,Sm,Afq,Aqm,Atw,Aef,Avk];split
 ·rename_i h;congr 1;rw[An2];simp only[Afq,Aqm,Atw,Aef];omega
 ·rename_i h;congr 1;symm;rw[Asb];omega
theorem Ano(h:1<=c):Ay (4000:Int) (c:Int)=((4000/c:Nat):Int):=by
 have:4000/c<=4000:=Aqh _ _;rw[TK,As7 F0,show(4000:Int)=((4000:Nat):Int)from rfl,<-Int.natCast_ediv];generalize 4000/c=k at*
 exact Df F0 F0
theorem Ael(h:Uz f c w r n=true):SP (f:Int) (c:Int) (w:Int) (r:Int) (n:Int)=some (qJ c r n):=by
 simp only[Uz,Aef]at h;have hd:4000/c<=4000:=Aqh _ _;rw[SP,Bt Av1,Aa,Ano F0,qJ];generalize 4000/c=m at*
 by_cases h1:n<=m
 ·rw[Aa1 Av6,lQ F0 F0 F0 F0,Aa];generalize(n-1)/Am r+1=k;by_cases h2:1000<k
  ·rw[Abh h2];simp[Ba,Sm];omega
  ·rw[Aa1 h2];simp[Ba,Sm,h1];omega
 ·rw[Abh Av6];simp[h1]
theorem Ajt(h:Uz f c w r n=true):FO (f:Int) (c:Int) (w:Int) (r:Int) (n:Int)=some (!qJ c r n):=by
 simp only[Uz,Aef]at h;have hd:4000/c<=4000:=Aqh _ _;rw[FO,Bt Av1,Aa,Ano F0,qJ];generalize 4000/c=m at*
 by_cases h1:n<=m
 ·rw[Aa1 Av6,Aii F0 F0 F0,Aa,Ac,dL];generalize(n-1)/Am r+1=k;congr 1;rw[Ar,An2];simp only[Aef,An6,Asb];omega
 ·rw[Abh Av6];simp[h1]
def ES:LB:=[84,84,65,49]
def f0(b:LB):Nat:=Li (part b 4 2)
def f1(b:LB):Nat:=Li (part b 6 2)
def f2(b:LB):Nat:=Li (part b 8 2)
def f3(b:LB):Nat:=Li (part b 10 4)
def f4(b:LB):Nat:=Li (part b 14 4)
abbrev H6:=Int×Int×Int×Int×Int×Int
def AG(b:LB):H6:=
 if b.take (min 4 b.length)≠ES.take (min 4 b.length)then(0,0,0,0,0,12)else if b.length<22 then(0,0,0,0,0,24)else
 if(Mn (b.take 18)).toNat≠Li (part b 18 4)then(0,0,0,0,0,22)else
 if Uz (f0 b) (f1 b) (f2 b) (f3 b) (f4 b)=false then(0,0,0,0,0,12)else
 if qJ (f1 b) (f3 b) (f4 b)=false then(0,0,0,0,0,4)else((f0 b:Int),(f1 b:Int),(f2 b:Int),(f3 b:Int),(f4 b:Int),0)
section
variable {b:LB}
theorem rs1(h:b.take (min 4 b.length)≠ES.take (min 4 b.length)):AG b=(0,0,0,0,0,12):=by rw[AG,Abh h]
variable (h:b.take (min 4 b.length)=ES.take (min 4 b.length))
include h
theorem rs2(h2:b.length<22):AG b=(0,0,0,0,0,24):=by rw[AG,Aa1 (λe=>e h),Abh h2]
variable (h2:¬b.length<22)
include h2
theorem rs3(h3:(Mn (b.take 18)).toNat≠Li (part b 18 4)):AG b=(0,0,0,0,0,22):=by rw[AG,Aa1 (λe=>e h),Aa1 h2,Abh h3]
variable (h3:(Mn (b.take 18)).toNat=Li (part b 18 4))
include h3
theorem rs4(h4:Uz (f0 b) (f1 b) (f2 b) (f3 b) (f4 b)=false):AG b=(0,0,0,0,0,12):=by rw[AG,Aa1 (λe=>e h),Aa1 h2,Aa1 (λe=>e h3),Abh h4]
variable (h4:Uz (f0 b) (f1 b) (f2 b) (f3 b) (f4 b)=true)
include h4
theorem rs5(h5:qJ (f1 b) (f3 b) (f4 b)=false):AG b=(0,0,0,0,0,4):=by rw[AG,Aa1 (λe=>e h),Aa1 h2,Aa1 (λe=>e h3),Aa1 (by rw[h4];simp),Abh h5]
theorem rs6(h5:qJ (f1 b) (f3 b) (f4 b)=true):AG b=((f0 b:Int),(f1 b:Int),(f2 b:Int),(f3 b:Int),(f4 b:Int),0):=by rw[AG,Aa1 (λe=>e h),Aa1 h2,Aa1 (λe=>e h3),Aa1 (by rw[h4];simp),Aa1 (by rw[h5];simp)]
end
theorem Aof(b:LB)(h2:¬b.length<22):Bm (Ad (Mn (b.take 18)):UInt64) (gS (part b 18 4))=decide ((Mn (b.take 18)).toNat≠Li (part b 18 4)):=by
 rw[nW,Dg,An2];simp only[Aup,ne_eq,Aef];rw[<-Avj,uO (by have:=(Mn (b.take 18)).toNat_lt;omega),Yn Awf]
theorem As2(b:LB):Kt (4:Int) (Ac b)=((min 4 b.length:Nat):Int):=by rw[lA,Ac];omega
theorem Agz(b:LB)(hb:b.length<4611686018427387904):EX b=some (AG b):=by
 rw[EX,JU,As2,Tu,Aa,Ajs,Tu F0 F5,Aa,Ajs];by_cases h:b.take (min 4 b.length)=ES.take (min 4 b.length)
 ·rw[Aa1 (by rw[h];simp[ES]),KQ,JZ];by_cases h2:b.length<22
  ·rw[Abh F2,rs2 h h2]
  ·have a1:Cr b 18 22=some (part b 18 4):=AA 18 4;have c1:Cr b 4 6=some (part b 4 2):=AA 4 2;have c2:Cr b 6 8=some (part b 6 2):=AA 6 2;have c3:Cr b 8 10=some (part b 8 2):=AA 8 2;have c4:Cr b 10 14=some (part b 10 4):=AA 10 4;have c5:Cr b 14 18=some (part b 14 4):=AA 14 4;have hs:Bm (gS (part b 18 4)) (Ad (Mn (b.take 18)):UInt64)=decide ((Mn (b.take 18)).toNat≠Li (part b 18 4)):=by
    rw[<-Aof b h2,nW,nW,An2];simp only[Aup,ne_eq];exact not_congr eq_comm
   have lp:∀a w,a+w<=b.length->Ax (part b a w)=some (gS (part b a w)):=λa w h=>oY _ (by rw[Dj h];omega);rw[Aa1 F2,a1,Aa,Tu,Aa,show(18:Int).toNat=18 from rfl,lp _ _ F0,Aa,Agj _ F5,Aa,hs];by_cases h3:(Mn (b.take 18)).toNat=Li (part b 18 4)
   ·rw[Aa1 (by simpa using h3),KT,KH,c1,Aa,c2,Aa,c3,Aa,c4,Aa,c5,Aa,lp _ _ F0,Aa,lp _ _ F0,Aa,lp _ _ F0,Aa,lp _ _ F0,Aa,lp _ _ F0,Aa,
     KO,KG,ZH Awf,ZH Awf,ZH Awf,ZH Awf,ZH Awf]
    rw[show Li (part b 4 2)=f0 b from rfl,show Li (part b 6 2)=f1 b from rfl,show Li (part b 8 2)=f2 b from rfl,show Li (part b 10 4)=f3 b from rfl,show Li (part b 14 4)=f4 b from rfl,Aba,Aa];cases h4:Uz (f0 b) (f1 b) (f2 b) (f3 b) (f4 b)with
    |false=>rw[rs4 h h2 h3 h4];rfl
    |true=>
     rw[Ajt h4,Aa1 Av2,Aa];cases h5:qJ (f1 b) (f3 b) (f4 b)with
     |false=>rw[rs5 h h2 h3 h4 h5];rfl
     |true=>rw[rs6 h h2 h3 h4 h5];rfl
   ·rw[Abh (by simpa using h3),rs3 h h2 h3]
 ·rw[Abh (by simpa [ES]using h),rs1 h]
def okL:LI->Int->Bool
 |[],_=>true
 |x::l,left=>decide (5<=x/\x<=left)&&okL l (left-x)
theorem Aov:∀l:LI,(∀x∈l,5<=x)->0<=l.sum
 |[],_=>by simp
 |x::l,h=>by
  have h1:=h x Aqz;have h2:=Aov l λy hy=>h y (Am5 _ hy);rw[Ast];omega
theorem uI:∀(l:LI) (left:Int),0<=left-> (okL l left=true↔(∀x∈l,5<=x)/\l.sum<=left)
 |[],left,h=>by simp[okL];exact h
 |x::l,left,h=>by
  rw[okL,Afq,Aef,Ast];by_cases hx:5<=x/\x<=left
  ·rw[uI l (left-x) F0];constructor
   ·rintro⟨_,h1,h2⟩;exact⟨λy hy=>(List.mem_cons.1 hy).elim (λe=>e▸hx.1) (h1 y),F0⟩
   ·rintro⟨h1,h2⟩;exact⟨hx,λy hy=>h1 y (Am5 _ hy),F0⟩
  ·constructor
   ·rintro⟨h1,_⟩;exact absurd h1 hx
   ·rintro⟨h1,h2⟩;have h3:=h1 x Aqz;have:0<=l.sum:=Aov l λy hy=>h1 y (Am5 _ hy);omega
theorem yX(l:LI)(hl:l.length<=1000):∀(j i q:Nat) (left:Int),i+j=l.length->j<q->0<=left->left<=100000->Rw l q left (i:Int)=some (if okL (l.drop i) left=true then 0 else 8)
 |0,i,q+1,left,hi,_,_,_=>by
  rw[Rw,FV,Aa1 F2,show i=l.length by omega,At2];rfl
 |j+1,i,q+1,left,hi,hq,h0,h1=>by
  have hlt:i<l.length:=F0
  rw[Rw,FV,Abh F2,Ca hlt,Aa,drop_cons hlt];by_cases h:5<=l[i]/\l[i]<=left
  ·rw[Aa1 Av4,Dx,Ag];have ih:=yX l hl j (i+1) q (left-l[i]) F0 F0 F0 F0;rw[show((i:Int)+1)=((i+1:Nat):Int) by omega,ih];simp[okL,h]
  ·rw[Abh Av4];have:okL (l[i]::l.drop (i+1)) left=false:=by rw[okL,Anr h];rfl
   rw[this];rfl
def yU(l:LI):Bool:=decide (1<=l.length/\l.length<=1000)&&okL l 100000
theorem W4(l:LI)(hl:l.length<=1000):CV l=some (if yU l=true then 0 else 8):=by
 rw[CV,EZ,yU];by_cases h:1<=l.length
 ·rw[Aa1 (by rw[Ba,Ar,Ac];simp;constructor;(intro e;subst e;simp at h);omega),eO];have:=yX l hl l.length 0 Aq 100000 F0 F7 F0 F0;rw[Avw]at this;rw[Auc (show 1<=l.length/\l.length<=1000 from⟨h,hl⟩),Avc];exact this
 ·have:l=[]:=by
   cases l with
   |nil=>rfl
   |cons _ _=>simp at h
  subst this;rfl
theorem yg:∀{l:LI},(∀x∈l,5<=x)->∀x∈l,x<=l.sum
 |[],_,x,hx=>by simp at hx
 |y::l,h,x,hx=>by
  have h1:=h y Aqz;have h2:=Aov l λz hz=>h z (Am5 _ hz);rw[Ast];rcases List.mem_cons.1 hx with rfl|hx
  ·omega
  ·have:=yg (l:=l) (λz hz=>h z (Am5 _ hz)) x hx;omega
theorem uT(l:LI):CV l=some (if yU l=true then 0 else 8):=by
 by_cases hl:l.length<=1000
 ·exact W4 l hl
 ·rw[CV,EZ,Abh Av3,yU,Anr F0];rfl
def jo(b:LB):LB:=b.drop (Ww b).1.toNat
theorem Oy{b:Nat}(h:a<9223372036854775808:=by omega):Ay (a:Int) (b:Int)=((a/b:Nat):Int):=by
 have:a/b<=a:=Aqh _ _;rw[TK,As7 F0,<-Int.natCast_ediv];generalize a/b=k at*
 exact Df F0 F0
theorem pU{bits:Int}(h:Bg bits)(x:Int):(IA bits x).length=wB bits:=by
 obtain rfl|rfl|rfl:=h<;>rfl
theorem cR{bits:Int}(h:Bg bits):∀l:LX,(Dl bits l).length=l.length*wB bits
 |[]=>by simp[Dl]
 |x::l=>by
  have h1:=cR h l;have h2:=pU h x.toInt;simp only[Dl,List.flatMap_cons,Abp,Al4,Auu]at*
  omega
def Aro(b:LB)(A:Nat)(l:LI)(k:Nat):LB:=(b.take ((A:Int)+(l.take (k+1)).sum).toNat).drop ((A:Int)+(l.take k).sum).toNat
structure Gts (b p:LB) (f c w r n A:Nat) (l:LI) (k m:Nat) (x:LX) (s:LB) (e:Int):Prop where
 mom:Aj (Gf (Am r) n) (k:Int)=some (m:Int)
 pos:1<=m/\m*c<=4000
 got:qM b p (f:Int) (c:Int) (w:Int) (r:Int) (n:Int) (A:Int) l (k:Int)=some (s,e)
 none':e≠0->s=[]/\x=[]
 some':e=0->s=Dl (w:Int) x/\x.length=m*c/\Al (w:Int) x=some 0/\CU (w:Int) x=some (s,0)/\ (A:Int)+(l.take (k+1)).sum<=b.length
 way:((b.length:Int)<(A:Int)+(l.take (k+1)).sum/\e=24)\/ ((A:Int)+(l.take (k+1)).sum<=b.length/\uQ (c:Int) (w:Int) (Tt p) (m:Int) (Aro b A l k)=some (x,e)/\Zc (c:Int) (w:Int) (Tt p) (m:Int) (Aro b A l k)=some (x,e))
theorem Gts.lens{b p:LB}{A:Nat}{l:LI}{m:Nat}{x:LX}{s:LB}{e:Int}(hw:Bg (w:Int))(g:Gts b p f c w r n A l k m x s e):s.length<=12000/\x.length<=4000/\ (e=0->s.length=m*c*wB (w:Int)):=by
 by_cases he:e=0
 ·obtain⟨h1,h2,_⟩:=g.some' he;have h3:=IP (w:Int) x;have h4:=cR hw x;have h5:=g.pos;rw[<-h1]at h3 h4;refine⟨F0,F0,λ_=>by rw[h4,h2]⟩
 ·obtain⟨h1,h2⟩:=g.none' he;exact⟨by simp[h1],by simp[h2],λh=>absurd h he⟩
theorem Aw8{p:Prop}(h:p:=by simp[hB];omega):p:=h
end Go.Pl
namespace Go.Pl
open Go Go.Lv
variable{bits:Int}{k v m:Nat}
def Og(b:LB)(k:Nat):Nat:=(b.getD k 0).toNat
theorem WW(b:LB)(k:Nat):Og b k<256:=(b.getD k 0).toNat_lt
def sx(n:Nat)(b:LB)(a:Nat):Int:=
 if n=1 then(Og b a:Int)-128 else
 if n=2 then(if Og b a+256*Og b (a+1)<32768 then(Og b a+256*Og b (a+1):Nat)else((Og b a+256*Og b (a+1):Nat):Int)-65536)else
 (if Og b a+256*Og b (a+1)+65536*Og b (a+2)<8388608 then(Og b a+256*Og b (a+1)+65536*Og b (a+2):Nat)else((Og b a+256*Og b (a+1)+65536*Og b (a+2):Nat):Int)-16777216)
def NP(n m:Nat)(b:LB):LX:=(List.range m).map λx=>Int32.ofInt (sx n b (x*n))
theorem ER(n m:Nat)(b:LB):(NP n m b).length=m:=by simp[NP]
theorem jr(n m:Nat)(b:LB):NP n (m+1) b=NP n m b++[Int32.ofInt (sx n b (m*n))]:=by simp[NP,List.range_succ]
theorem fF{n:Int}(h: -2147483648<=n)(h':n<2147483648):(Int32.ofInt n).toInt=n:=by
 rw[At3,Int.bmod_def,show((Int32.size:Nat):Int)=4294967296 from rfl];split<;>omega
theorem ZR{b:LB}(h:k<b.length):Aj b (k:Int)=some (b.getD k 0):=by
 rw[Ca h];simp[List.getD_eq_getElem?_getD,h]
theorem QF(c:UInt8):(Ad c:Int32)=Int32.ofInt (c.toNat:Int):=rfl
theorem qP(k:Nat)(hk:k<=32)(h:v<2147483648):Di (Int32.ofInt (v:Int)) k=Int32.ofInt ((v*2^k:Nat):Int):=by
 have e:Di (Int32.ofInt (v:Int)) k=Int32.ofInt ((Int32.ofInt (v:Int)).toInt*2^min k 32):=rfl;rw[e,fF F0 F0,Asl hk];simp
theorem Aml{w i:Nat}(hv:v<2^i)(hw:w*2^i<2147483648)(hi:i<=31):yG (Int32.ofInt (v:Int)) (Int32.ofInt ((w*2^i:Nat):Int))=Int32.ofInt ((v+w*2^i:Nat):Int):=by
 have hv2:v<2147483648:=Apa hv (show 2^i<=2^31 from Aj7 F0 hi);have e:yG (Int32.ofInt (v:Int)) (Int32.ofInt ((w*2^i:Nat):Int))=Int32.ofInt ((BitVec.ofInt 32 (Int32.ofInt (v:Int)).toInt|||BitVec.ofInt 32 (Int32.ofInt ((w*2^i:Nat):Int)).toInt).toNat:Int):=rfl;rw[e,fF F0 F0,fF F0 F0,BitVec.toNat_or,Auo,Auo];have a1:((v:Int) %((2^32:Nat):Int)).toNat=v:=F0
 have a2:(((w*2^i:Nat):Int) %((2^32:Nat):Int)).toNat=w*2^i:=F0
 rw[a1,a2,Nat.or_comm,Anw w,<-As5 hv,Auj]
theorem K0(w:Nat)(h:w<2147483648):yG (0:Int32) (Int32.ofInt (w:Int))=Int32.ofInt (w:Int):=by
 have:=Aml (v:=0) (w:=w) (i:=0) Av2 (by simpa using h) F0;simpa using this
theorem carry(hk:k<=31)(h:v*2^k<4294967296)(hv:v<2147483648):Ce (Di (Int32.ofInt (v:Int)) k) k=Int32.ofInt ((if v*2^k<2147483648 then((v*2^k:Nat):Int)else((v*2^k:Nat):Int)-4294967296).fdiv (2^k)):=by
 rw[qP k F0 hv];have e:∀x:Int32,Ce x k=Int32.ofInt (x.toInt.fdiv (2^min k 32)):=λ_=>rfl;have hX:(Int32.ofInt ((v*2^k:Nat):Int)).toInt=if v*2^k<2147483648 then((v*2^k:Nat):Int)else((v*2^k:Nat):Int)-4294967296:=by
  rw[At3,Int.bmod_def,show((Int32.size:Nat):Int)=4294967296 from rfl];generalize v*2^k=X at*
  split<;>split<;>omega
 rw[e,Asl F0,hX]
theorem sx2(b:LB)(a:Nat):sx 2 b a=if Og b a+256*Og b (a+1)<32768 then((Og b a+256*Og b (a+1):Nat):Int)else((Og b a+256*Og b (a+1):Nat):Int)-65536:=rfl
theorem sx3(b:LB)(a:Nat):sx 3 b a=if Og b a+256*Og b (a+1)+65536*Og b (a+2)<8388608 then((Og b a+256*Og b (a+1)+65536*Og b (a+2):Nat):Int)else((Og b a+256*Og b (a+1)+65536*Og b (a+2):Nat):Int)-16777216:=rfl
variable (b:LB)
theorem Arm(bk:Int->LX->Option (LX×Int))(a:Nat)(acc:LX)(h:a+1<=b.length)(hl:b.length<=100000)(ha:acc.length<=100000)(j25:Int->LX->Int32->Int->Option (LX×Int))(j30:LX->Option (LX×Int)):
  Ff (Iy bk 8 b) j25 j30 8 b (a:Int) acc=bk ((a+1:Nat):Int) (acc++[Int32.ofInt (sx 1 b a)]):=by
 have hb:=WW b a;have e:Ak (Ad (b.getD a 0):Int32) (128:Int32)=Int32.ofInt (sx 1 b a):=by
  have e1:Ak (Ad (b.getD a 0):Int32) (128:Int32)=Int32.ofInt ((Int32.ofInt ((b.getD a 0).toNat:Int)).toInt-(128:Int32).toInt):=rfl;rw[e1,fF F0 (by have:=(b.getD a 0).toNat_lt;omega)];rfl
 have q8:Ay (8:Int) 8=1:=F3
 rw[Ff,Abh F2,Abh Awt,ZR F0,Aa,e,As F5,Aa,Iy,Wd,q8,Ag];rfl
theorem Apk(bk:Int->LX->Option (LX×Int))(a:Nat)(acc:LX)(h:a+2<=b.length)(hl:b.length<=100000)(ha:acc.length<=100000)(j28:Int->LX->Option (LX×Int))(j30:LX->Option (LX×Int)):
  Ff j28 (Lo bk 16 b) j30 16 b (a:Int) acc=bk ((a+2:Nat):Int) (acc++[Int32.ofInt (sx 2 b a)]):=by
 have h0:=WW b a;have h1:=WW b (a+1);have q:Ay (16:Int) 8=2:=F3
 have hF:Aq=(Aq-3)+1+1+1:=by have:=Ap;omega
 have z0:(GI.toZ (Bc (8:Int) 0)).toNat=0:=F3
 have z1:(GI.toZ (Bc (8:Int) 1)).toNat=8:=F3
 have z16:(GI.toZ (Ak (32:Int) 16)).toNat=16:=F3
 have s0:Di (Int32.ofInt (Og b a:Int)) 0=Int32.ofInt (Og b a:Int):=by have:=qP (v:=Og b a) 0 F0 F0;simpa using this
 have s1:Di (Int32.ofInt (Og b (a+1):Int)) 8=Int32.ofInt ((Og b (a+1)*2^8:Nat):Int):=qP 8 F0 F0;have o1:=Aml (v:=Og b a) (w:=Og b (a+1)) (i:=8) (by simpa using h0) F0 F0;have c:=carry (v:=Og b a+Og b (a+1)*2^8) (k:=16) F0 F0 F0;rw[Ff,Abh F2,Aa1 Awj,Lo,hF,Ee,Ey,q,Abh F3,show Ae (a:Int) 0=((a:Nat):Int) by rw[Ag];omega,ZR F0,Aa,Bt F3,Aa,z0,
  QF,show((b.getD a 0).toNat:Int)=(Og b a:Int)from rfl,s0,K0 _ F0,show Ae (0:Int) 1=1 by decide,
  Ee,Ey,q,Abh F3,show Ae (a:Int) 1=((a+1:Nat):Int) by rw[Ag];omega,ZR F0,Aa,Bt F3,Aa,z1,
  QF,show((b.getD (a+1) 0).toNat:Int)=(Og b (a+1):Int)from rfl,s1,o1,show Ae (1:Int) 1=2 by decide,
  Ee,Ey,q,Aa1 F3,Wh,DB,Bt F3,Aa,Aa,z16,c,As F5,Aa,Iy,Wd,q,Ag]
 have e:((if(Og b a+Og b (a+1)*2^8)*2^16<2147483648 then(((Og b a+Og b (a+1)*2^8)*2^16:Nat):Int)else(((Og b a+Og b (a+1)*2^8)*2^16:Nat):Int)-4294967296).fdiv (2^16))=sx 2 b a:=by
  rw[An4 _ F0,sx2];split<;>split<;>omega
 rw[e];rfl
theorem Apq(bk:Int->LX->Option (LX×Int))(a:Nat)(acc:LX)(h:a+3<=b.length)(hl:b.length<=100000)(ha:acc.length<=100000)(j28:Int->LX->Option (LX×Int))(j30:LX->Option (LX×Int)):
  Ff j28 (Lo bk 24 b) j30 24 b (a:Int) acc=bk ((a+3:Nat):Int) (acc++[Int32.ofInt (sx 3 b a)]):=by
 have h0:=WW b a;have h1:=WW b (a+1);have h2:=WW b (a+2);have q:Ay (24:Int) 8=3:=F3
 have hF:Aq=(Aq-4)+1+1+1+1:=by have:=Ap;omega
 have z0:(GI.toZ (Bc (8:Int) 0)).toNat=0:=F3
 have z1:(GI.toZ (Bc (8:Int) 1)).toNat=8:=F3
 have z2:(GI.toZ (Bc (8:Int) 2)).toNat=16:=F3
 have z8:(GI.toZ (Ak (32:Int) 24)).toNat=8:=F3
 have s0:Di (Int32.ofInt (Og b a:Int)) 0=Int32.ofInt (Og b a:Int):=by have:=qP (v:=Og b a) 0 F0 F0;simpa using this
 have s1:Di (Int32.ofInt (Og b (a+1):Int)) 8=Int32.ofInt ((Og b (a+1)*2^8:Nat):Int):=qP 8 F0 F0;have s2:Di (Int32.ofInt (Og b (a+2):Int)) 16=Int32.ofInt ((Og b (a+2)*2^16:Nat):Int):=qP 16 F0 F0;have o1:=Aml (v:=Og b a) (w:=Og b (a+1)) (i:=8) (by simpa using h0) F0 F0;have o2:=Aml (v:=Og b a+Og b (a+1)*2^8) (w:=Og b (a+2)) (i:=16) F0 F0 F0;have c:=carry (v:=Og b a+Og b (a+1)*2^8+Og b (a+2)*2^16) (k:=8) F0 F0 F0;rw[Ff,Abh F2,Aa1 Awj,Lo,hF,Ee,Ey,q,Abh F3,show Ae (a:Int) 0=((a:Nat):Int) by rw[Ag];omega,ZR F0,Aa,Bt F3,Aa,z0,
  QF,show((b.getD a 0).toNat:Int)=(Og b a:Int)from rfl,s0,K0 _ F0,show Ae (0:Int) 1=1 by decide,
  Ee,Ey,q,Abh F3,show Ae (a:Int) 1=((a+1:Nat):Int) by rw[Ag];omega,ZR F0,Aa,Bt F3,Aa,z1,
  QF,show((b.getD (a+1) 0).toNat:Int)=(Og b (a+1):Int)from rfl,s1,o1,show Ae (1:Int) 1=2 by decide,
  Ee,Ey,q,Abh F3,show Ae (a:Int) 2=((a+2:Nat):Int) by rw[Ag];omega,ZR F0,Aa,Bt F3,Aa,z2,
  QF,show((b.getD (a+2) 0).toNat:Int)=(Og b (a+2):Int)from rfl,s2,o2,show Ae (2:Int) 1=3 by decide,
  Ee,Ey,q,Aa1 F3,Wh,DB,Bt F3,Aa,Aa,z8,c,As F5,Aa,Iy,Wd,q,Ag]
 have e:((if(Og b a+Og b (a+1)*2^8+Og b (a+2)*2^16)*2^8<2147483648 then(((Og b a+Og b (a+1)*2^8+Og b (a+2)*2^16)*2^8:Nat):Int)else(((Og b a+Og b (a+1)*2^8+Og b (a+2)*2^16)*2^8:Nat):Int)-4294967296).fdiv (2^8))=sx 3 b a:=by
  rw[An4 _ F0,sx3];split<;>split<;>omega
 rw[e];rfl
theorem nO(bits:Int)(n m:Nat)(hn:1<=n)(hm:b.length=m*n)(hl:b.length<=100000)(step:∀(q a:Nat) (acc:LX),a+n<=b.length->acc.length<=100000->Dm bits b (q+1) (a:Int) acc=Dm bits b q ((a+n:Nat):Int) (acc++[Int32.ofInt (sx n b a)])):
  ∀(j x q:Nat),x+j=m->j<q->Dm bits b q ((x*n:Nat):Int) (NP n x b)=some (NP n m b,0)
 |0,x,q+1,hx,_=>by
  obtain rfl:x=m:=F0
  rw[Dm,Ff,Aa1 F2];rfl
 |j+1,x,q+1,hx,hq=>by
  have h1:(x+1)*n<=m*n:=Af0 n F0;rw[Aim,Aqu]at h1;have h2:m<=m*n:=Nat.le_mul_of_pos_right m hn;rw[step q (x*n) _ F0 (by rw[ER];omega),<-jr,show x*n+n=(x+1)*n by rw[Aim,Aqu]];exact nO bits n m hn hm hl step j (x+1) q F0 F0
theorem Agb(h:¬Bg bits):Nd bits=some (0,0,2):=by
 have h8:¬bits=8:=λe=>h (.inl e);have h16:¬bits=16:=λe=>h (.inr (.inl e));have h24:¬bits=24:=λe=>h (.inr (.inr e));rw[Nd,PU,Aa1 (by rw[Ba];simpa using h8),Aa1 (by rw[Ba];simpa using h16),QY,OW,Aa1 (by rw[Ba];simpa using h24)]
theorem Aq7(h:Bg bits)(hl:b.length<=100000)(q a:Nat)(acc:LX)(ha:a+wB bits<=b.length)(hc:acc.length<=100000):
  Dm bits b (q+1) (a:Int) acc=Dm bits b q ((a+wB bits:Nat):Int) (acc++[Int32.ofInt (sx (wB bits) b a)]):=by
 rw[Dm];obtain rfl|rfl|rfl:=h
 ·exact Arm b _ a acc ha hl hc _ _
 ·exact Apk b _ a acc ha hl hc _ _
 ·exact Apq b _ a acc ha hl hc _ _
theorem nA(h:Bg bits)(hm:b.length=m*wB bits)(h4:m<=4000):Zw bits b=some (NP (wB bits) m b,0):=by
 have hn:=vN bits;have hl:b.length<=12000:=by rw[hm];exact Arb h4 hn.2
 rw[Zw,IF,wO h,Aa];simp only;rw[Aa1 Awa,gA h,Bt Av1,Aa];have hr:Fm (Ac b) (wB bits:Int)=0:=by rw[Ac,AV,hm,Asi];rfl
 have hq:Ay (Ac b) (wB bits:Int)=(m:Int):=by rw[Ac,Oy,hm,Auq _ F0]
 rw[Aa1 (by rw[Bl,hr];simp),Aa,hq,Aa1 Av6,SQ];have:=nO b bits (wB bits) m F0 hm F0 (λq a acc ha hc=>Aq7 b h F0 q a acc ha hc) m 0 Aq F0 F7;simpa [NP]using this
theorem Amg(h:Bg bits)(hl:b.length<=100000)(q a:Nat)(acc:LX)(ha:a+wB bits<=b.length)(hc:acc.length<=100000):
  Cn bits b (hB bits) (q+1) (a:Int) acc=Cn bits b (hB bits) q ((a+wB bits:Nat):Int) (acc++[Int32.ofInt (sx (wB bits) b a)]):=by
 have h0:=WW b a;have h1:=WW b (a+1);have h2:=WW b (a+2);have gc:∀k,(Ad (b.getD k 0):Int)=(Og b k:Int):=λk=>gO _;have gx:∀z:Int,(Ad z:Int32)=Int32.ofInt z:=λz=>rfl;have hF:Aq=(Aq-7)+1+1+1+1+1+1+1:=by have:=Ap;omega
 have hw1:wB bits=1\/wB bits=2\/wB bits=3:=by have:=vN bits;omega
 have hend:∀(bk:Int->LX->Option (LX×Int)) (z:Int),0<=z->z<2*hB bits->z=(if bits=8 then(Og b a:Int)else if bits=16 then((Og b a+256*Og b (a+1):Nat):Int)else((Og b a+256*Og b (a+1)+65536*Og b (a+2):Nat):Int))->
   Hn bk bits b (hB bits) (a:Int) z acc=bk ((a+wB bits:Nat):Int) (acc++[Int32.ofInt (sx (wB bits) b a)]):=by
  intro bk z z0 z1 z2;rw[Hn,AD];have e28:∀Aqb,Qd bk bits b (hB bits) (a:Int) Aqb=bk ((a+wB bits:Nat):Int) Aqb:=by
   intro Aqb;rw[Qd,Zz,gA h,Ag];rfl
  simp only[e28];obtain rfl|rfl|rfl:=h
  ·rw[Abh F3,Dx F0 (by simp[hB]at z1;omega),As F5,Aa,gx,z2];rfl
  ·rw[Aa1 F3];have e9:hB 16=32768:=rfl;rw[e9]at z1⊢;simp only[show ¬(16:Int)=8 by decide,Aum,Avz]at z2;have e10:wB 16=2:=rfl;rw[e10,sx2];by_cases hz:32768<=z
   ·rw[Abh (by rw[Hl];simpa using hz),Gu,Dx,As F5,Aa,gx,Aa1 F0,z2];rfl
   ·rw[Aa1 (by rw[Hl];simpa using hz),As F5,Aa,gx,Abh F0,z2]
  ·rw[Aa1 F3];have e9:hB 24=8388608:=rfl;rw[e9]at z1⊢;simp only[show ¬(24:Int)=8 by decide,show ¬(24:Int)=16 by decide,Aum]at z2;have e10:wB 24=3:=rfl;rw[e10,sx3];by_cases hz:8388608<=z
   ·rw[Abh (by rw[Hl];simpa using hz),Gu,Dx,As F5,Aa,gx,Aa1 F0,z2];rfl
   ·rw[Aa1 (by rw[Hl];simpa using hz),As F5,Aa,gx,Abh F0,z2]
 have step:∀(bk:Int->LX->Option (LX×Int)) (q2:Nat) (k:Int) (i:Nat),a+i<b.length->0<=k->k<65536->Cw bk bits b (hB bits) (a:Int) acc (q2+1) k (i:Int)=Cw bk bits b (hB bits) (a:Int) acc q2 (256*k+(Og b (a+i):Int)) ((i:Int)-1):=by
  intro bk q2 k i hi hk hk2;have:=WW b (a+i);rw[Cw,Kr,Abh Awi,Ag (a:=(a:Int)) F0 F0,show(a:Int)+(i:Int)=((a+i:Nat):Int) by omega,ZR F0,Aa,gc,Gu,Ag,Dx]
 have last:∀(bk:Int->LX->Option (LX×Int)) (q2:Nat) (k:Int),Cw bk bits b (hB bits) (a:Int) acc (q2+1) k (-1)=Hn bk bits b (hB bits) (a:Int) k acc:=by
  intro bk q2 k;rw[Cw,Kr,Aa1 (by rw[Hl];decide)]
 rw[Cn,Kp,Abh F2,Qf,hF];generalize Cn bits b (hB bits) q=bk at*
 have hwq:=gA h;rw[hwq,Dx];obtain rfl|rfl|rfl:=h
 ·have e10:wB 8=1:=rfl;rw[e10]at ha⊢;rw[show(((1:Nat):Int)-1)=((0:Nat):Int) by omega,step _ _ 0 0 F0 F0 F0,show(((0:Nat):Int)-1)= -1 by omega,last];exact hend bk _ F0 Aw8 Av2
 ·have e10:wB 16=2:=rfl;rw[e10]at ha⊢;rw[show(((2:Nat):Int)-1)=((1:Nat):Int) by omega,step _ _ 0 1 F0 F0 F0,show(((1:Nat):Int)-1)=((0:Nat):Int) by omega,step _ _ _ 0 F0 F0 F0,show(((0:Nat):Int)-1)= -1 by omega,last];exact hend bk _ F0 Aw8 F5
 ·have e10:wB 24=3:=rfl;rw[e10]at ha⊢;rw[show(((3:Nat):Int)-1)=((2:Nat):Int) by omega,step _ _ 0 2 F0 F0 F0,show(((2:Nat):Int)-1)=((1:Nat):Int) by omega,step _ _ _ 1 F0 F0 F0,show(((1:Nat):Int)-1)=((0:Nat):Int) by omega,step _ _ _ 0 F0 F0 F0,show(((0:Nat):Int)-1)= -1 by omega,last];exact hend bk _ F0 Aw8 F5
theorem VF{bits:Int}(h:Bg bits){m:Nat}(hm:b.length=m*wB bits)(hl:b.length<=100000):
  ∀(j x q:Nat),x+j=m->j<q->Cn bits b (hB bits) q ((x*wB bits:Nat):Int) (NP (wB bits) x b)=some (NP (wB bits) m b,0)
 |0,x,q+1,hx,_=>by
  obtain rfl:x=m:=F0
  rw[Cn,Kp,Aa1 F2];rfl
 |j+1,x,q+1,hx,hq=>by
  have hn:=vN bits;have h1:(x+1)*wB bits<=m*wB bits:=Af0 _ F0;rw[Aim,Aqu]at h1;have h2:m<=m*wB bits:=Nat.le_mul_of_pos_right m hn.1;rw[Amg b h hl q (x*wB bits) _ F0 (by rw[ER];omega),<-jr,show x*wB bits+wB bits=(x+1)*wB bits by rw[Aim,Aqu]];exact VF h hm hl j (x+1) q F0 F0
theorem rQ(h:Bg bits)(hm:b.length=m*wB bits)(h4:m<=4000):Lf bits b=some (NP (wB bits) m b,0):=by
 have hn:=vN bits;have hl:b.length<=12000:=by rw[hm];exact Arb h4 hn.2
 have hpos:=LN bits;rw[Lf,Rj,RZ h,Aa,Aa1 Av5,gA h,Bt Av1,Aa];have hr:Fm (Ac b) (wB bits:Int)=0:=by rw[Ac,AV,hm,Asi];rfl
 have hq:Ay (Ac b) (wB bits:Int)=(m:Int):=by rw[Ac,Oy,hm,Auq _ F0]
 rw[Aa1 (by rw[Ar,hr];simp),Aa,hq,Aa1 Av6,Zt];have:=VF b h hm F0 m 0 Aq F0 F7;simpa [NP]using this
end Go.Pl
namespace Go.Pl
open Go Go.Lv
variable{bits:Int}
theorem S3{c:Nat}{w:Nat}(hc:c<=6)(hw:Bg (w:Int)):Ay (Bc (c:Int) (w:Int)) 8=((c*wB (w:Int):Nat):Int):=by
 have h:w=8\/w=16\/w=24:=by unfold Bg at hw;omega
 have:c=0\/c=1\/c=2\/c=3\/c=4\/c=5\/c=6:=F0
 rcases h with rfl|rfl|rfl<;>rcases this with rfl|rfl|rfl|rfl|rfl|rfl|rfl<;>rfl
theorem qT(z:Int):(u8 z).toNat=(z %256).toNat:=by
 have:(z %256).toNat<256:=F0
 rw[u8,Anq,Acn F0]
theorem vE{bits:Int}(h:Bg bits):∀(l:LX) (i j:Nat),i<l.length->j<wB bits-> (Dl bits l).getD (i*wB bits+j) 0=(IA bits (l.getD i 0).toInt).getD j 0
 |[],i,j,hi,_=>by simp at hi
 |x::l,0,j,_,hj=>by
  have h1:=pU h x.toInt;have e:Dl bits (x::l)=IA bits x.toInt++Dl bits l:=by simp[Dl]
  rw[e,Au5,Ar7,List.getD_eq_getElem?_getD,List.getD_eq_getElem?_getD,List.getElem?_append_left F0];rfl
 |x::l,i+1,j,hi,hj=>by
  have h1:=pU h x.toInt;have e:Dl bits (x::l)=IA bits x.toInt++Dl bits l:=by simp[Dl]
  have ih:=vE h l i j (by simpa using hi) hj;have e2:(i+1)*wB bits+j=(IA bits x.toInt).length+(i*wB bits+j):=by rw[Aim,Aqu,h1];omega
  rw[e,e2,List.getD_eq_getElem?_getD,List.getElem?_append_right F0,At6,<-List.getD_eq_getElem?_getD,ih];rfl
theorem Amy(h:Bg bits)(l:LX)(hr:H2 bits l)(i:Nat)(hi:i<l.length):Int32.ofInt (sx (wB bits) (Dl bits l) (i*wB bits))=l.getD i 0:=by
 have hm:l.getD i 0∈l:=by rw[List.getD_eq_getElem?_getD,List.getElem?_eq_getElem hi];exact Asx hi
 have hv:=hr _ hm;have g:∀j,j<wB bits->Og (Dl bits l) (i*wB bits+j)=((IA bits (l.getD i 0).toInt).getD j 0).toNat:=λj hj=>by rw[Og,vE h l i j hi hj]
 generalize l.getD i 0=x at*
 have key:sx (wB bits) (Dl bits l) (i*wB bits)=x.toInt:=by
  generalize hA:i*wB bits=a at*
  obtain rfl|rfl|rfl:=h
  ·have g0:=g 0 F3;have e1:(IA 8 x.toInt).getD 0 0=u8 (x.toInt+128):=rfl;rw[Asg,e1,qT]at g0;simp only[hB]at hv;simp at hv;have e2:wB 8=1:=rfl;rw[e2,sx,Abh rfl,g0];omega
  ·have g0:=g 0 F3;have g1:=g 1 F3;have e0:(IA 16 x.toInt).getD 0 0=u8 x.toInt:=rfl;have e1:(IA 16 x.toInt).getD 1 0=u8 (x.toInt/256):=rfl;rw[Asg,e0,qT]at g0;rw[e1,qT]at g1;simp only[hB]at hv;simp at hv;have e2:wB 16=2:=rfl;rw[e2,sx2,g0,g1];split<;>omega
  ·have g0:=g 0 F3;have g1:=g 1 F3;have g2:=g 2 F3;have e0:(IA 24 x.toInt).getD 0 0=u8 x.toInt:=rfl;have e1:(IA 24 x.toInt).getD 1 0=u8 (x.toInt/256):=rfl;have e3:(IA 24 x.toInt).getD 2 0=u8 (x.toInt/65536):=rfl;rw[Asg,e0,qT]at g0;rw[e1,qT]at g1;rw[e3,qT]at g2;simp only[hB]at hv;simp at hv;have e2:wB 24=3:=rfl;rw[e2,sx3,g0,g1,g2];split<;>omega
 rw[key];simp
theorem Ajb(h:Bg bits)(l:LX)(hr:H2 bits l):NP (wB bits) l.length (Dl bits l)=l:=by
 refine Arw (ER _ _ _) λi h1 h2=>?_;have:=Amy h l hr i h2;simp only[NP,Aua,Att];rw[this,List.getD_eq_getElem?_getD,List.getElem?_eq_getElem h2];rfl
def Asp(b:LB):LI:=Gf (Am (f3 (jo b))) (f4 (jo b))
theorem Awo{p:Prop}(h:p:=by simp[Bl,Af,Ar];omega):p:=h
end Go.Pl
namespace Go.Pl
open Go Go.Lv
variable{bits n:Int}{b:LB}{f:LQ}{ch r k c w:Nat}
theorem Aah(hb:Bg bits)(h1:1<=ch)(h6:ch<=6):Ep (ch:Int) bits=some 0:=by
 have hr:∃x y,Nd bits=some (x,y,0):=⟨_,_,wO hb⟩;obtain⟨x,y,hr⟩:=hr;rw[Ep,hr,Aa];simp only;rw[Aa1 Awo]
abbrev P6':=Int×Int×Int×LX×LI×Int
def Ah9(e:Int):P6':=(0,0,0,[],[],e)
theorem L4(g:Nat):∀K:Nat,(List.replicate K (g:Int)).sum=((K*g:Nat):Int)
 |0=>by simp
 |K+1=>by
  rw[As8,Ast,L4 g K,Auu];omega
theorem iy{g n:Nat}(hn:1<=n):(Gf g n).sum=(n:Int):=by
 have h:=Nat.div_mul_le_self (n-1) g;rw[Gf,List.sum_append,L4];simp only[Ast,List.sum_nil];omega
theorem Ajg:∀{l:LI},(∀x∈l,0<=x)->0<=l.sum
 |[],_=>by simp
 |x::l,h=>by
  have h1:=h x Aqz;have h2:=Ajg (l:=l) λy hy=>h y (Am5 _ hy);rw[Ast];omega
def Aji(c w:Nat)(fr:LI)(k:Nat):Int:=(((fr.take k).sum.toNat*(c*wB (w:Int)):Nat):Int)
theorem Aag(C W:Nat)(fr:LI):Aji C W fr 0=0:=by rw[Aji,Au6,List.sum_nil];simp
theorem WQ(h:Bg bits){l:LX}(hl:l.length<=4000)(hr:H2 bits l):Al bits l=some 0:=by
 have hh:=LN bits;have key:∀(j i q:Nat),i+j=l.length->j<q->Bb l (hB bits) q (i:Int)=some 0:=by
  intro j
  induction j with
  |zero=>
   intro i q hi hq;obtain⟨q,rfl⟩:∃k,q=k+1:=⟨q-1,F0⟩;rw[Bb,Cj,Aa1 F2];rfl
  |succ j ih=>
   intro i q hi hq;obtain⟨q,rfl⟩:∃k,q=k+1:=⟨q-1,F0⟩;have hx:=hr l[i] (Asx F0);rw[Bb,Cj,Abh F2,Ca,Aa,Aa,Eh,zo,Df F0 F0,Ag,Af,Hl,Aa1 F5,Aa1 F5];exact ih (i+1) q F0 F0
 rw[Al,Dd,RZ h,Aa,Aa1 Av5,Aa1 Av3];exact key l.length 0 Aq F0 F7
theorem xq(h1:1<=r)(h:r<=1048576):Ec (r:Int)=some ((Am r:Int),0):=by
 have hv:=yM h;have e:Bc (r:Int) 256=Bc 256 (r:Int):=by rw[Gu,Gu];omega
 rw[Ec,Aa1 Av4,e];have hq:0<=Ay (Bc 256 (r:Int)) 245:=by
  have e2:Bc 256 (r:Int)=((256*r:Nat):Int):=by rw[Gu];omega
  rw[e2,show(245:Int)=((245:Nat):Int)from rfl,Oy];omega
 rw[T2]at hv;by_cases hz:Ay (Bc 256 (r:Int)) 245=0
 ·rw[Abh (by rw[Ba];simpa using hz)];rw[hz]at hv;have:(1:Int)=(Am r:Int):=F0
  rw[this]
 ·rw[Aa1 (by rw[Ba];simpa using hz)];have:Ay (Bc 256 (r:Int)) 245=(Am r:Int):=F0
  rw[this]
abbrev two(k m:LB):List (LB×LB×Unit):=[([102,109,116,32],k,()),([100,97,116,97],m,())]
def iN(c w r:Int)(g:UInt64):LB:=
 Ot g.toNat 2++Ot (Ad c:UInt64).toNat 2++Ot (Ad r:UInt64).toNat 4++Ot (Bc (Ad r:UInt64) (Ad (Ay (Bc c w) 8):UInt64)).toNat 4++Ot (Ad (Ay (Bc c w) 8):UInt64).toNat 2++Ot (Ad w:UInt64).toNat 2
theorem wr2(n:UInt64):Ah n 2=some (Ot n.toNat 2):=II n 2 F0
theorem wr4(n:UInt64):Ah n 4=some (Ot n.toNat 4):=II n 4 F0
theorem C9(c w r:Int)(g:UInt64):Nu c w r g=some (iN c w r g):=by
 rw[Nu,wr2,Aa,wr2,Aa,As Awb,Aa,wr4,Aa,As Awb,Aa,wr4,Aa,As Awb,Aa,wr2,Aa,As Awb,Aa,wr2,Aa,As Awb,Aa];rfl
theorem Yk{a:Bool}{h:Int}{v:UInt64}(q:Nat)(hn:h<n)(hg:Aj f h=some v)(hw:Aj ([(2:Int),(2:Int),(4:Int),(4:Int),(2:Int),(2:Int),(2:Int),(2:Int),(4:Int)]:LI) h=some (k:Int))
  (h1:1<=k) (h8:k<=8) (hv:v.toNat<256^k) (hb:b.length<=100):Dw a n f (q+1) h b=Dw a n f q (Ae h 1) (b++Ot v.toNat k):=by
 rw[Dw,Rh,Abh (by rw[Af];simpa using hn),hg,Aa,Aa,hw,Aa,QJ v k h1 h8 hv,Aa];simp only;rw[As (by simp[Bi];omega),Aa]
theorem Ag9:∃q,Aq=q+1+1+1+1+1+1+1+1+1+1:=⟨Aq-10,by have:=Ap;omega⟩
theorem Anm{v0 v1 v2 v3 v4 v5:UInt64}{t:LQ}(h0:v0.toNat<65536)(h1:v1.toNat<65536)(h2:v2.toNat<4294967296)(h3:v3.toNat<4294967296)(h4:v4.toNat<65536)(h5:v5.toNat<65536)(a:Bool)(n:Int)(hn:6<=n):
  ∃q,HS a n (v0::v1::v2::v3::v4::v5::t) 0 []=Dw a n (v0::v1::v2::v3::v4::v5::t) (q+1+1+1+1) 6 (Ot v0.toNat 2++Ot v1.toNat 2++Ot v2.toNat 4++Ot v3.toNat 4++Ot v4.toNat 2++Ot v5.toNat 2):=by
 obtain⟨q,hq⟩:=Ag9;refine⟨q,?_⟩;have e:∀i:Nat,i<10->Ae ((i:Nat):Int) 1=((i+1:Nat):Int):=λi hi=>by rw[Ag];omega
 rw[HS,hq,
  Yk (k:=2) _ F0 (show _=some v0 from rfl) rfl F0 F0 h0 Av2,show Ae (0:Int) 1=1 from e 0 F0,
  Yk (k:=2) _ F0 (show _=some v1 from rfl) rfl F0 F0 h1 Awb,show Ae (1:Int) 1=2 from e 1 F0,
  Yk (k:=4) _ F0 (show _=some v2 from rfl) rfl F0 F0 h2 Awb,show Ae (2:Int) 1=3 from e 2 F0,
  Yk (k:=4) _ F0 (show _=some v3 from rfl) rfl F0 F0 h3 Awb,show Ae (3:Int) 1=4 from e 3 F0,
  Yk (k:=2) _ F0 (show _=some v4 from rfl) rfl F0 F0 h4 Awb,show Ae (4:Int) 1=5 from e 4 F0,
  Yk (k:=2) _ F0 (show _=some v5 from rfl) rfl F0 F0 h5 Awb,show Ae (5:Int) 1=6 from e 5 F0]
 simp only[Asa]
theorem Ah4(q:Nat):Dw false n f (q+1) n b=some b:=by
 rw[Dw,Rh,Aa1 Av8,Yi,IQ,Aa1 F3]
def oJ:LB:=[1,0,0,0,0,0,16,0,128,0,0,170,0,56,155,113]
theorem Aft(hb:b.length<=100)(q:Nat):Dw true n f (q+1) n b=some (b++oJ):=by
 rw[Dw,Rh,Aa1 Av8,Yi,IQ,Abh rfl,show Cr ([1,0,0,0,0,0,16,0,128,0,0,170,0,56,155,113]:LB) 0 16=some oJ from by kernel_rfl,Aa,As (by simp[oJ];omega),Aa]
theorem Apn(h1:1<=c)(h6:c<=6)(hw:Bg (w:Int)){R:UInt64}(hR:R.toNat<=1048576):
  (Ad (c:Int):UInt64).toNat<65536/\ (Ad (Ay (Bc (c:Int) (w:Int)) 8):UInt64).toNat<65536/\ (Ad (w:Int):UInt64).toNat<65536/\ (Bc R (Ad (Ay (Bc (c:Int) (w:Int)) 8):UInt64)).toNat<4294967296:=by
 have hc:c=1\/c=2\/c=3\/c=4\/c=5\/c=6:=F0
 have hw':w=8\/w=16\/w=24:=by unfold Bg at hw;omega
 have key:∀B:UInt64,B.toNat<=18-> (Bc R B).toNat<4294967296:=λB hB=>by
  have e:Bc R B=UInt64.ofNat (R.toNat*B.toNat):=by
   show GI.ofZ (((R.toNat:Nat):Int)*((B.toNat:Nat):Int))=_;rw[<-Ana];exact Hb _
  have:=Arb hR hB;rw[e,Ahx,Acn F0];omega
 rcases hc with rfl|rfl|rfl|rfl|rfl|rfl<;>rcases hw' with rfl|rfl|rfl<;>exact⟨F3,F3,F3,key _ F3⟩
theorem Afe(h1:1<=c)(h6:c<=6)(hw:Bg (w:Int))(hr1:1<=r)(hr:r<=1048576):Lh (c:Int) (w:Int) (r:Int)=some 0:=by
 rw[Lh,Aa1 Av4];have hw':w=8\/w=16\/w=24:=by unfold Bg at hw;omega
 rcases hw' with rfl|rfl|rfl
 ·rw[Abh F3,Abh F3]
 ·rw[Aa1 F3,Abh F3,Abh F3]
 ·rw[Aa1 F3,Aa1 F3,Abh F3]
theorem OJ(c w r:Int)(g:UInt64):(iN c w r g).length=16:=by simp[iN,Bi]
theorem SI(a b:Int32):a-b+b=a:=by
 apply Int32.toBitVec_inj.1;simp only[Int32.toBitVec_sub,Int32.toBitVec_add];apply BitVec.eq_of_toNat_eq;simp only[BitVec.toNat_sub,BitVec.toNat_add];have:=a.toBitVec.isLt;have:=b.toBitVec.isLt;omega
def U4(f:Nat->Int32)(ch i:Nat):Int32:=if i+1<ch then f (i+1)-f i else if 1<ch then f (ch-1)-Ay (f (ch-1)-f (ch-2)) (2:Int32)else f (ch-1)
def mx(ch:Nat)(x:LX):LX:=(List.range x.length).map λk=>U4 (λi=>x.getD (k-k %ch+i) 0) ch (k %ch)
theorem LO(ch:Nat)(x:LX):(mx ch x).length=x.length:=by simp[mx]
theorem Aot{x:LX}(h:k<x.length):(mx ch x).getD k 0=U4 (λi=>x.getD (k-k %ch+i) 0) ch (k %ch):=by
 rw[Nz (by rw[LO];exact h)];simp[mx]
def fP(x:Int32):UInt32:=UInt32.ofNat (if 0<=x.toInt then 2*x.toInt.toNat else 2*(-x.toInt-1).toNat+1)
theorem Ahz(x:Int32):vC (fP x)=x:=by
 have h:=Xp x;have e:(fP x).toNat=if 0<=x.toInt then 2*x.toInt.toNat else 2*(-x.toInt-1).toNat+1:=by
  rw[fP,Aj1];split<;>exact Acn F0
 rw[vC,e];by_cases h0:0<=x.toInt
 ·rw[Abh h0,Abh F0,show((2*x.toInt.toNat/2:Nat):Int)=x.toInt by omega,Arz]
 ·rw[Aa1 h0,Aa1 F0,show -(((2*(-x.toInt-1).toNat+1)/2:Nat):Int)-1=x.toInt by omega,Arz]
theorem D7{α:Type}(ch c:Nat)(f g:α->Nat->α)(a0:α):∀m:Nat,(∀i,i<m->∀a,f a i=g a i)->pre ch c f a0 m=pre ch c g a0 m
 |0,_=>rfl
 |m+1,h=>by
  rw[pre,pre,D7 ch c f g a0 m λi hi=>h i F0,h m F0]
theorem Al3(bits:Int)(ch:Nat)(t:LX)(v w:LU)(c i:Nat)(h:i<=v.length):cst bits ch t (v++w) c i=cst bits ch t v c i:=by
 unfold cst;apply D7;intro j hj a;have:(v++w).getD j 0=v.getD j 0:=by
  rw[List.getD_eq_getElem?_getD,List.getD_eq_getElem?_getD,List.getElem?_append_left F0]
 rw[this]
def lL(bits:Int)(s:CS)(x:Int32):Int32:=x-gs (shB bits) s.1-gF (sB bits) s.2.1 s.2.2
theorem E0(bits:Int)(s:CS)(x:Int32):Age bits s (lL bits s x)=x:=by
 rw[Age,lL,SI,SI]
def evl(bits:Int)(ch:Nat)(t m:LX):Nat->LU
 |0=>[]
 |i+1=>evl bits ch t m i++[fP (lL bits (cst bits ch t (evl bits ch t m i) (i %ch) i) (m.getD i 0))]
theorem T7(bits:Int)(ch:Nat)(t m:LX):∀i,(evl bits ch t m i).length=i
 |0=>rfl
 |i+1=>by rw[evl,Abp,T7 bits ch t m i];rfl
theorem Adm(bits:Int)(ch:Nat)(t m:LX):∀(j i:Nat),∃w,evl bits ch t m (i+j)=evl bits ch t m i++w
 |0,i=>⟨[],Av2⟩
 |j+1,i=>by
  obtain⟨w,hw⟩:=Adm bits ch t m j i;rw[<-Ara,evl,hw];exact⟨_,Aqj _ _ _⟩
theorem Awg{p:Prop}(h:p:=by rw[Abp];omega):p:=h
end Go.Pl
namespace Go.Pl
open Go Go.Lv
variable{p:LB}{c d:List Bool}{a k l:Nat}
def tb(l:List Bool)(k:Nat):Nat:=if l.getD k false=true then 1 else 0
theorem Abs(b:Bool)(l:List Bool):tb (b::l) 0=if b=true then 1 else 0:=rfl
theorem Acl(b:Bool)(l:List Bool)(k:Nat):tb (b::l) (k+1)=tb l k:=by simp[tb]
theorem Acr{a b:List Bool}(h:k<a.length):tb (a++b) k=tb a k:=by
 rw[tb,tb,List.getD_eq_getElem?_getD,List.getD_eq_getElem?_getD,List.getElem?_append_left h]
theorem M7(a b:List Bool)(k:Nat):tb (a++b) (a.length+k)=tb b k:=by
 rw[tb,tb,List.getD_eq_getElem?_getD,List.getD_eq_getElem?_getD,List.getElem?_append_right F0,At6]
theorem Aao{l:List Bool}(h:l.length<=k):tb l k=0:=by
 rw[tb,List.getD_eq_getElem?_getD,List.getElem?_eq_none h];rfl
def At(p:LB)(a:Nat)(c:List Bool):Prop:=∀i,i<c.length->Hr p (a+i)=tb c i
theorem At.left(h:At p a (c++d)):At p a c:=λi hi=>by
 rw[h i Awg,Acr hi]
theorem At.right(h:At p a (c++d)):At p (a+c.length) d:=λi hi=>by
 rw[Ara,h (c.length+i) Awg,M7]
theorem At.cons{b:Bool}(h:At p a (b::c)):Hr p a=(if b=true then 1 else 0)/\At p (a+1) c:=by
 have h0:=h 0 Av2;rw[Asg,Abs]at h0;refine⟨h0,λi hi=>?_⟩;have:=h (i+1) F5;rw[Acl]at this;rw[show a+1+i=a+(i+1) by omega,this]
def UN:Nat->Nat->List Bool
 |_,0=>[]
 |v,n+1=>decide (v %2=1)::UN (v/2) n
theorem Rk:∀(v n:Nat),(UN v n).length=n
 |_,0=>rfl
 |v,n+1=>by rw[UN,Al4,Rk (v/2) n]
theorem HZ(p:LB):∀(n a v:Nat),At p a (UN v n)->De p a n=v %2^n
 |0,a,v,_=>by rw[De,Nat.pow_zero,Nat.mod_one]
 |n+1,a,v,h=>by
  rw[UN]at h;obtain⟨h0,h1⟩:=h.cons;rw[De,h0,HZ p n (a+1) (v/2) h1,Ar8,Anw (2^n) 2,Nat.mod_mul];have:=Nat.mod_two_eq_zero_or_one v;rcases this with e|e<;>simp[e]
def PB(l v:Nat):List Bool:=if 48<=v/2^l then List.replicate 48 true++UN v 32 else List.replicate (v/2^l) true++(false::UN (v %2^l) l)
theorem Ae8{v:Nat}(hl:l<=24):1<= (PB l v).length/\ (PB l v).length<=80:=by
 rw[PB];generalize v/2^l=q;split
 ·rw[Abp,Anf,Rk];omega
 ·rw[Abp,Anf,Al4,Rk];omega
def Ml(k l:Nat)(v:UInt32):List Bool:=if v.toNat<2^k then false::UN v.toNat k else true::PB l (v.toNat-2^k)
theorem OB(v:UInt32)(hk:k<=24)(hl:l<=24):1<= (Ml k l v).length/\ (Ml k l v).length<=81:=by
 have:=Ae8 (v:=v.toNat-2^k) hl;rw[Ml];split
 ·rw[Al4,Rk];omega
 ·rw[Al4];omega
def bv:List Bool->Nat
 |[]=>0
 |b::r=>(if b=true then 1 else 0)+2*bv r
theorem An3:∀l:List Bool,bv l<2^l.length
 |[]=>by decide
 |b::r=>by
  have:=An3 r;rw[bv,Al4,Ar8];split<;>omega
theorem Ah5:∀(l:List Bool) (k:Nat),bv l/2^k %2=tb l k
 |[],k=>by simp[bv,tb]
 |b::r,0=>by
  rw[bv,Abs,Nat.pow_zero,Nat.div_one];split<;>omega
 |b::r,k+1=>by
  have:((if b=true then 1 else 0)+2*bv r)/2=bv r:=by split<;>omega
  rw[bv,Acl,Ar8,Anw (2^k) 2,<-Aug,this,Ah5 r k]
def Ed(c:List Bool):LB:=(List.range ((c.length+7)/8)).map λj=>UInt8.ofNat (bv ((c.drop (8*j)).take 8))
theorem Rs(c:List Bool):(Ed c).length=(c.length+7)/8:=by simp[Ed]
theorem Xz(c:List Bool)(i:Nat):Hr (Ed c) i=tb c i:=by
 rw[Hr];by_cases h:i/8<(c.length+7)/8
 ·have hg:(Ed c).getD (i/8) 0=UInt8.ofNat (bv ((c.drop (8*(i/8))).take 8)):=by
   rw[List.getD_eq_getElem?_getD,List.getElem?_eq_getElem (by rw[Rs];exact h)];simp[Ed]
  have hlt:=An3 ((c.drop (8*(i/8))).take 8);have hl8:((c.drop (8*(i/8))).take 8).length<=8:=by rw[Af3];omega
  have hp:=Aj7 (show 0<2 by omega) hl8;have hn:(UInt8.ofNat (bv ((c.drop (8*(i/8))).take 8))).toNat=bv ((c.drop (8*(i/8))).take 8):=by
   rw[Anq];exact Acn F0
  rw[hg,hn,Ah5,tb,tb];have:((c.drop (8*(i/8))).take 8).getD (i %8) false=c.getD i false:=by
   rw[List.getD_eq_getElem?_getD,List.getD_eq_getElem?_getD,List.getElem?_take,Abh F0,List.getElem?_drop,show 8*(i/8)+i %8=i by omega]
  rw[this]
 ·have hg:(Ed c).getD (i/8) 0=0:=by
   rw[List.getD_eq_getElem?_getD,List.getElem?_eq_none (by rw[Rs];omega)];rfl
  rw[hg,Aao F0];simp
def CZ(ch:Nat)(V:LU):Nat->List Bool
 |0=>[]
 |i+1=>CZ ch V i++Ml (now ch (V.take i)).1 (now ch (V.take i)).2.1 (V.getD i 0)
theorem K7(ch:Nat)(v:LU):(now ch v).1<=24/\ (now ch v).2.1<=24:=by
 have:=xK ch v (v.length %ch) v.length;exact⟨this.1,this.2.1⟩
theorem JL(ch:Nat)(V:LU):∀i,(CZ ch V i).length<=81*i
 |0=>by simp[CZ]
 |i+1=>by
  have h:=K7 ch (V.take i);have:=OB (V.getD i 0) h.1 h.2;rw[CZ,Abp];have:=JL ch V i;omega
def Fg(bits:Int)(ch:Nat)(t x:LX):LU:=evl bits ch t (mx ch x) x.length
def P9(bits:Int)(ch:Nat)(t x:LX):LB:=Ed (CZ ch (Fg bits ch t x) x.length)
def DK(bits:Int)(ch:Nat)(t x:LX):LB:=P9 bits ch t x++Ot (Mn (P9 bits ch t x)).toNat 4
theorem Ahg(bits:Int)(ch:Nat)(t x:LX)(h0:1<=x.length)(h4:x.length<=4000):1<= (P9 bits ch t x).length/\ (P9 bits ch t x).length<=40501:=by
 have h:=JL ch (Fg bits ch t x) x.length;obtain⟨k,hk⟩:∃k,x.length=k+1:=⟨x.length-1,F0⟩;have h1:1<= (CZ ch (Fg bits ch t x) x.length).length:=by
  rw[hk,CZ,Abp];have hn:=K7 ch ((Fg bits ch t x).take k);have:=OB ((Fg bits ch t x).getD k 0) hn.1 hn.2;omega
 rw[P9,Rs];omega
theorem je(bits:Int)(ch:Nat)(t x:LX)(h0:1<=x.length)(h4:x.length<=4000):5<= (DK bits ch t x).length/\ (DK bits ch t x).length<=40505:=by
 have:=Ahg bits ch t x h0 h4;rw[DK,Abp,Bi];omega
theorem Awk{p:Prop}(h:p:=by rw[Pn];omega):p:=h
end Go.Pl
namespace Go.Pl
open Go Go.Lv
variable{p:LB}
theorem oz(p:LB)(b0:UInt64)(a0:Int):∀(j m q:Nat),m+j<=300000->j<=64->j<q->
  Pm b0 a0 q (NH p m j) (j:Int) (m:Int) (Ma p 0 m)=some (Ma p 0 (m+j),((m+j:Nat):Int),0)
 |0,m,q+1,_,_,_=>by
  rw[Pm,NO,Aa1 Awl,YE,nB];rfl
 |j+1,m,q+1,hm,hj,hq=>by
  have hroom:Pm b0 a0 (q+1) (NH p m (j+1)) ((j+1:Nat):Int) (m:Int) (Ma p 0 m)=NN (Pm b0 a0 q) b0 a0 (NH p m (j+1)) ((j+1:Nat):Int) (m:Int) (room p 0 m):=by
   rw[Pm,NO,Abh Awl,Acv m F0,room];by_cases h0:m %8=0
   ·rw[Abh (by rw[Ba,h0];rfl),As Aw0,Aa,Abh h0]
   ·rw[Aa1 Av5,Aa1 h0]
  have hl:Ak (Ac (room p 0 m)) 1=((m/8:Nat):Int):=by
   rw[Ac,Pn,Dx];omega
  have e2:Kt ((j+1:Nat):Int) (Ak (8:Int) ((m %8:Nat):Int))=((min (j+1) (8-m %8):Nat):Int):=by
   rw[lA,Dx];omega
  rw[hroom,NN,oO,Acv m F0,e2,hl];generalize hT:min (j+1) (8-m %8)=T;have hT1:1<=T:=F0
  have hT8:m %8+T<=8:=F0
  have hg:Aj (room p 0 m) ((m/8:Nat):Int)=some (UInt8.ofNat (De p (0+8*(m/8)) (m %8))):=by
   rw[Ca Awk,VX]
  have z1:(GI.toZ ((m %8:Nat):Int)).toNat=m %8:=rfl;have z2:(GI.toZ ((T:Nat):Int)).toNat=T:=rfl;have hlt:=pP p (0+8*(m/8)) (m %8+T) F0;have hadd:=eJ p (m %8) T (0+8*(m/8));rw[show 0+8*(m/8)+m %8=m by omega]at hadd;have hbyte:(Ad (Fc (NH p m (j+1)) (Ak (Di (1:UInt64) T) (1:UInt64))):UInt8)=UInt8.ofNat (De p m T):=by
   rw[ZE,As3 _ F0,Ai8 p m (j+1) T F0 hj]
  have hnew:yG (UInt8.ofNat (De p (0+8*(m/8)) (m %8))) (Di (UInt8.ofNat (De p m T)) (m %8))=UInt8.ofNat (De p (0+8*(m/8)) (m %8+T)):=by
   rw[or8 (IZ _ _ _) (by rw[Anw];omega) F0,hadd,Anw (2^(m %8))]
  rw[hg,z1,z2,hbyte];simp only[Aa];rw[Bt Awi,Aa,Bt Awc,Aa,hnew,Xn _ Awk,Aa,pD p 0 m T hT1 hT8,pL,oN,Acv m F0,e2,hT,Bt Awi,Aa,z2,Ah6 p m (j+1) T F0 hj,Dx,Ag];have ih:=oz p b0 a0 (j+1-T) (m+T) q F0 F0 F0;rw[show m+T+(j+1-T)=m+(j+1) by omega]at ih;rw[<-ih,show((j+1:Nat):Int)-((T:Nat):Int)=((j+1-T:Nat):Int) by omega,show(m:Int)+((T:Nat):Int)=((m+T:Nat):Int) by omega]
theorem put_eq(p:LB)(m j:Nat)(hm:m+j<=300000)(hj:j<=63):QG (Ma p 0 m) (m:Int) (NH p m j) (j:Int)=some (Ma p 0 (m+j),((m+j:Nat):Int),0):=by
 have hz:Bm (Ce (NH p m j) (GI.toZ (j:Int)).toNat) 0=false:=by
  have:Ce (NH p m j) j=0:=by
   apply UInt64.toNat_inj.1;rw[FR,QV p m j F0,Ata (IZ p j m)];rfl
  rw[show(GI.toZ (j:Int)).toNat=j from rfl,this];rfl
 have hl:=Iu p 0 m;have htw:VN (Ma p 0 m) (m:Int)=some (Ma p 0 m,(m:Int)):=by
  rw[VN,Bv,As F5,Aa,Aa];rfl
 rw[QG,dD,qK (M8 p 0 m F0),Aa,Aa1 F3,Aa1 Av4,Abh F9,Bt Awi,Aa,hz,Aa1 F3,Ag,Aa1 Av6,htw,Aa];exact oz p _ _ j m Aq hm F0 F7
theorem At.cat{a:Nat}{c d:List Bool}(h:At p a (c++d)):At p a c/\At p (a+c.length) d:=⟨h.left,h.right⟩
theorem qm(p:LB):∀(q a:Nat),At p a (List.replicate q true)->De p a q+1=2^q
 |0,a,_=>by rw[De]
 |q+1,a,h=>by
  rw[As8]at h;obtain⟨h0,h1⟩:=h.cons;have:=qm p q (a+1) h1;rw[De,h0,Ar8,Abh rfl];omega
theorem YA{x:UInt64}{m n:Nat}(hn:n<=63)(h:x.toNat=De p m n):x=NH p m n:=by
 apply UInt64.toNat_inj.1;rw[h,QV p m n F0]
theorem We{n:Nat}(h:n<2^64):(UInt64.ofNat n).toNat=n:=by rw[Ahx];exact Acn h
theorem D3{m q:Nat}(hq:q<=48)(hm:m+48<=300000)(h:At p m (List.replicate q true++(if q=48 then []else [false]))):
  SM (Ma p 0 m) (m:Int) (q:Int)=some (Ma p 0 (m+min (q+1) 48),((m+min (q+1) 48:Nat):Int),0):=by
 have h1:=h.left;have hv:=qm p q m h1;have Avl:2^q<=2^48:=Aj7 F0 hq;have hval:De p m (min (q+1) 48)+1=2^q:=by
  by_cases h48:q=48
  ·subst h48;exact hv
  ·rw[Aa1 h48]at h;have h2:=h.right;rw[Anf]at h2;have h0:=h2.cons.1;rw[show min (q+1) 48=q+1 by omega,VI,h0];simpa using hv
 have hx:(Ak (Di (1:UInt64) q) (1:UInt64)).toNat=De p m (min (q+1) 48):=by
  have e1:(Di (1:UInt64) q).toNat=2^q:=by rw[RF];show 1*2^q %_=_;rw[Aqu];exact Acn F0
  have hpos:0<2^q:=Auh F0;rw[pG,UInt64.toNat_sub_of_le _ _ (by rw[UInt64.le_iff_toNat_le,e1];exact hpos),e1]
  show 2^q-1=_;omega
 rw[SM,qK (M8 p 0 m F0),Aa,Aa1 F3,ZI,Aa1 Av4,Aa];simp only;have e2:Kt (Ae (q:Int) 1) 48=((min (q+1) 48:Nat):Int):=by rw[lA,Ag];omega
 rw[Aa1 F3,Bt Awi,Aa,e2,show(GI.toZ (q:Int)).toNat=q from rfl,YA F0 hx,put_eq p m _ F0 F0,Aa]
theorem Ahd{m l:Nat}{v:UInt32}(hl:l<=24)(hm:m+81<=300000)(h:At p m (PB l v.toNat)):
  YS (Ma p 0 m) (m:Int) v (l:Int)=some (Ma p 0 (m+(PB l v.toNat).length),((m+(PB l v.toNat).length:Nat):Int),0):=by
 have hvl:=v.toNat_lt;have hz:(GI.toZ (l:Int)).toNat=l:=rfl;have hlp:2^l<=2^24:=Aj7 F0 hl;have hpos:0<2^l:=Auh F0;have Atu:FT v (l:Int)=some (decide (48<=v.toNat/2^l)):=by
  rw[FT,Bt Awi,Aa,hz,Ak7,UQ];rfl
 rw[YS,jQ,qK (M8 p 0 m F0),Aa,Aa1 F3,Aa1 Av4,Bt Awi,Aa,Aa,Atu,Aa];rw[PB]at h⊢;by_cases h48:48<=v.toNat/2^l
 ·rw[Abh h48]at h⊢;obtain⟨h1,h2⟩:=h.cat;rw[Anf]at h2;have hval:=HZ p 32 (m+48) v.toNat h2;rw[Acn F0]at hval;have hu:=D3 (p:=p) (m:=m) (q:=48) (Aqe _) F0 (by rw[Abh rfl,Ap2];exact h1);rw[Abh (by simpa using h48),TR,UC,show(48:Int)=((48:Nat):Int)from rfl,hu,Aa];simp only;rw[Aa1 F3,Dg,YA (x:=UInt64.ofNat v.toNat) (p:=p) (m:=m+48) (n:=32) F0 (by rw[We F0,hval]),show(32:Int)=((32:Nat):Int)from rfl,show m+min (48+1) 48=m+48 by omega,put_eq p (m+48) 32 F0 F0,Aa,Abp,Anf,Rk,Ara]
 ·rw[Aa1 h48]at h⊢;generalize hq:v.toNat/2^l=q at*
  obtain⟨h1,h2⟩:=h.cat;rw[Anf]at h2;obtain⟨h3,h4⟩:=h2.cons;have hval:=HZ p l (m+q+1) (v.toNat %2^l) h4;rw[Nat.mod_mod]at hval;have hqa:At p m (List.replicate q true++[false]):=by
   have:List.replicate q true++(false::UN (v.toNat %2^l) l)=(List.replicate q true++[false])++UN (v.toNat %2^l) l:=by simp
   rw[this]at h;exact h.left
  have hu:=D3 (p:=p) (m:=m) (q:=q) F0 F0 (by rw[Aa1 F0];exact hqa);have hgq:(Ad (Ce v l):Int)=(q:Int):=by rw[xk,UQ,hq]
  have hrest:(Ad (Fc v (Ak (Di (1:UInt32) l) 1)):UInt64)=NH p (m+q+1) l:=by
   apply YA F0;have e1:(Di (1:UInt32) l).toNat=2^l:=by rw[uU];show 1*2^l %_=_;rw[Aqu];exact Acn F0
   have e2:(Ak (Di (1:UInt32) l) (1:UInt32)).toNat=2^l-1:=by
    rw[wD,UInt32.toNat_sub_of_le _ _ (by rw[UInt32.le_iff_toNat_le,e1];exact hpos),e1];rfl
   have e3:(Fc v (Ak (Di (1:UInt32) l) 1)).toNat=v.toNat %2^l:=by
    rw[dx,UInt32.toNat_and,e2,Auk]
   rw[Dg,We (by rw[e3];have:=At4 v.toNat hpos;omega),e3,hval]
  rw[Aa1 (by simpa using h48),TR,UC,hz,hgq,hu,Aa];simp only;rw[Aa1 F3,hrest,show m+min (q+1) 48=m+q+1 by omega,put_eq p (m+q+1) l F0 F0,Aa,Abp,Anf,Al4,Rk,show m+q+1+l=m+(q+(l+1)) by omega]
theorem Ajc{k l:Nat}{s t:UInt64}(h:okD k l s t)(v:UInt32):YN [] 0 (k:Int) (l:Int) s t v=
  some (Ed (Ml k l v),((Ml k l v).length:Int),((kS k (FX s (W8 v)):Nat):Int),((lK l t k v:Nat):Int),FX s (W8 v),lT t k v,0):=by
 obtain⟨h1,h2,h3,h4⟩:=h;have hvl:=v.toNat_lt;have hAt:At (Ed (Ml k l v)) 0 (Ml k l v):=λi hi=>by rw[Ar7,Xz]
 have hlen:=OB v h1 h2;have hfull:Ma (Ed (Ml k l v)) 0 (Ml k l v).length=Ed (Ml k l v):=by
  apply X8 (by rw[Iu,Rs]);intro i hi;rw[vF,Ar7,Xz];by_cases hlt:i<(Ml k l v).length
  ·rw[Abh hlt]
  ·rw[Aa1 hlt,Aao F0]
 generalize hP:Ed (Ml k l v)=P at*
 have h0:Ma P 0 0=[]:=rfl;have Ar9:∀(x:Int) (y:UInt64) (aj ai:Int),Zu v (k:Int) s ai P x y=some (P,ai,((kS k (FX s (W8 v)):Nat):Int),x,FX s (W8 v),y,0):=by
  intro x y aj ai;rw[Zu,TE,Dg,uW,Anz k h1];rw[kI,TO,RA,FY,Dg,uW];rfl
 have hp7:∀ai:Int,TQ v (k:Int) (l:Int) s t 0 ai P=some (P,ai,((kS k (FX s (W8 v)):Nat):Int),((lK l t k v:Nat):Int),FX s (W8 v),lT t k v,0):=by
  intro ai;rw[TQ,TC,Aa1 F3,Z8 k l s t h1,Aa];by_cases hv:v.toNat<2^k
  ·rw[Abh hv];simp only;rw[Aa1 Aw6,Ar9 _ _ 0,lK,Abh hv,lT,Abh hv]
  ·rw[Aa1 hv];simp only;rw[Abh Awt,Dg,uW,Anz l h2 _ (λx=>Zu v (k:Int) s ai P x (FX t (UInt64.ofNat (SH k v).toNat))),Ar9 _ _ 0,lK,Aa1 hv,lT,Aa1 hv];rfl
 rw[YN,UE,show Kl [] 0=some 0 from rfl,Aa,Aa1 F3,Aoc ⟨h1,h2,h3,h4⟩,Aa,Aa1 F3,jT,TX,Z8 k l s t h1,Aa];have hput:=put_eq P 0 1 F0 F0;rw[h0,Ar7,show((0:Nat):Int)=0 from rfl,show((1:Nat):Int)=1 from rfl]at hput;by_cases hv:v.toNat<2^k
 ·have hc:Ml k l v=false::UN v.toNat k:=by rw[Ml,Abh hv]
  rw[hc]at hAt hfull;obtain⟨b0,b1⟩:=hAt.cons;have hval:=HZ P k 1 v.toNat b1;rw[Acn hv]at hval;have hz:(Ad (0:Int):UInt64)=NH P 0 1:=YA F0 (by rw[xR,b0];rfl);rw[Abh hv];simp only;rw[hz,hput,Aa];simp only;rw[Abh F3,Dg,YA (x:=UInt64.ofNat v.toNat) (p:=P) (m:=1) (n:=k) F0 (by rw[We F0,hval]),show(1:Int)=((1:Nat):Int)from rfl,put_eq P 1 k F0 F0,Aa];simp only;rw[Al4,Rk,Auj k 1]at hfull;rw[hfull,hp7,hc,Al4,Rk,Auj k 1]
 ·have hc:Ml k l v=true::PB l (v.toNat-2^k):=by rw[Ml,Aa1 hv]
  rw[hc]at hAt hfull;obtain⟨b0,b1⟩:=hAt.cons;have hsub:=Nat.sub_le v.toNat (2^k);have hlv:(SH k v).toNat=v.toNat-2^k:=by rw[SH,Ab6 F0]
  have hz:(Ad (1:Int):UInt64)=NH P 0 1:=YA F0 (by rw[xR,b0];rfl);have hr:=Ahd (p:=P) (m:=1) (l:=l) (v:=SH k v) h2 F0 (by rw[hlv];exact b1);rw[hlv,show((1:Nat):Int)=1 from rfl]at hr;rw[Aa1 hv];simp only;rw[hz,hput,Aa];simp only;rw[Aa1 F3,Abh F3,hr,Aa];simp only;rw[Al4,Auj _ 1]at hfull;rw[hfull,hp7,hc,Al4,Auj _ 1]
section
variable (ch:Nat) (x:LX)
theorem JW{at' i:Nat}(ha:at' %ch=0)(hi:i<ch)(h:at'+i<x.length):(mx ch x).getD (at'+i) 0=U4 (λi=>x.getD (at'+i) 0) ch i:=by
 have hb:(at'+i) %ch=i:=by rw[Nat.add_mod,ha,Ar7,Nat.mod_mod,Acn hi]
 rw[Aot h,hb,show at'+i-i=at' by omega]
theorem qg(bk:Int->LX->Option (LX×Int))(at':Nat)(h1:1<=ch)(h6:ch<=6)(hm:at' %ch=0)(hl:at'+ch<=x.length)(hl2:x.length<=4000):∀(j i q:Nat),i+j=ch-1->j<q->
  CP bk (ch:Int) (at':Int) q (i:Int) (xF (λk=>decide (k<at'+i)) (mx ch x) x)=bk ((at'+ch:Nat):Int) (xF (λk=>decide (k<at'+ch)) (mx ch x) x)
 |j,i,0,_,h=>absurd h (Aqw _)
 |0,i,q+1,hi,_=>by
  have hlen:=LO ch x;have e1:Ak (Ae (at':Int) (ch:Int)-(at':Int)) 1=((ch-1:Nat):Int):=by rw[Ag,Dx];omega
  have e2:Ae (at':Int) (ch:Int)-(at':Int)=(ch:Int):=by rw[Ag];omega
  have e4:Ae (at':Int) (ch:Int)=((at'+ch:Nat):Int):=by rw[Ag];omega
  rw[CP,RO,e1,Aa1 F9,cP,tG,e1,e2];obtain rfl:i=ch-1:=F0
  by_cases h2:1<ch
  ·have e3:Ak ((ch-1:Nat):Int) 1=((ch-2:Nat):Int):=by rw[Dx];omega
   have hv:Ak (x.getD (at'+(ch-1)) 0) (Ay ((mx ch x).getD (at'+(ch-2)) 0) 2)=(mx ch x).getD (at'+(ch-1)) 0:=by
    rw[JW ch x hm F0 F0,JW ch x hm F0 F0,U4,U4,Abh F0,Aa1 F0,Abh h2,VM,show ch-2+1=ch-1 by omega]
   rw[Abh Av6,dw F0,Aa,e3,dw F0,Aa,
    show(at':Int)+((ch-1:Nat):Int)=((at'+(ch-1):Nat):Int) by omega,show(at':Int)+((ch-2:Nat):Int)=((at'+(ch-2):Nat):Int) by omega,
    pC F0,Aa,pC F0,Aa,Aa,Aa1 Av2,Abh F5,hv,T4 F0,Aa,fE,dA,e4]
   congr 1;apply qD;intro k _;rw[An2];simp;omega
  ·obtain rfl:ch=1:=F0
   have hlast:x.getD at' 0=(mx 1 x).getD at' 0:=by
    have:=JW 1 x (i:=0) hm F0 F0;rw[Asg]at this;rw[this,U4,Aa1 F0,Aa1 F0];rfl
   rw[Aa1 Awl,fE,dA,e4];congr 1;apply Arw (by rw[SJ,SJ]);intro k g1 g2;rw[Xg,Xg];by_cases hk:k<at'
   ·rw[Abh F5,Abh F5]
   ·by_cases hk2:k=at'
    ·subst hk2;rw[Aa1 Av2,Abh Av2];exact hlast
    ·rw[Aa1 F5,Aa1 F5]
 |j+1,i,q+1,hi,hq=>by
  have hlen:=LO ch x;have e1:Ak (Ae (at':Int) (ch:Int)-(at':Int)) 1=((ch-1:Nat):Int):=by rw[Ag,Dx];omega
  have e2:Ae (at':Int) (ch:Int)-(at':Int)=(ch:Int):=by rw[Ag];omega
  have e3:Ae (i:Int) 1=((i+1:Nat):Int):=by rw[Ag];omega
  have hv:Ak (x.getD (at'+(i+1)) 0) (x.getD (at'+i) 0)=(mx ch x).getD (at'+i) 0:=by
   rw[JW ch x hm F0 F0,U4,Abh F0,VM]
  rw[CP,RO,e1,Abh F9,e2,e3,dw F0,Aa,dw F0,Aa,
   show(at':Int)+((i+1:Nat):Int)=((at'+(i+1):Nat):Int) by omega,show(at':Int)+(i:Int)=((at'+i:Nat):Int) by omega,
   pC F0,Aa,pC F0,Aa,Aa,Aa1 Av2,Aa1 Av2,hv,T4 F0,Aa]
  have ih:=qg bk at' h1 h6 hm hl hl2 j (i+1) q F0 F0;rw[<-ih];congr 1;apply qD;intro k _;rw[An2];simp;omega
theorem rW(h1:1<=ch)(h6:ch<=6)(hm:x.length %ch=0)(hl2:x.length<=4000):∀(j at' q:Nat),at' %ch=0->at'<=x.length->x.length-at'<=j->j<q->
  CY (ch:Int) q (at':Int) (xF (λk=>decide (k<at')) (mx ch x) x)=some (mx ch x,0)
 |j,at',0,_,_,_,h=>absurd h (Aqw _)
 |j,at',q+1,ha,hle,hj,hq=>by
  have hlen:=LO ch x;have hl:Ac (xF (λk=>decide (k<at')) (mx ch x) x)=(x.length:Int):=by rw[Ac,SJ,hlen]
  rw[CY,cV,hl];by_cases h:at'<x.length
  ·have hb:=lu ha hm h;obtain⟨j,rfl⟩:∃k,j=k+1:=⟨j-1,F0⟩;have e4:Ae (at':Int) (ch:Int)=((at'+ch:Nat):Int):=by rw[Ag];omega
   have hi:=qg ch x (CY (ch:Int) q) at' h1 h6 ha hb hl2 (ch-1) 0 Aq F0 F7;have hrest:=rW h1 h6 hm hl2 j (at'+ch) q (by rw[Nat.add_mod_right,ha]) hb F0 F0;rw[Asg]at hi;rw[Abh F9,show uG (x.length:Int) (at':Int) (Ae (at':Int) (ch:Int))=some () by rw[e4,uG,dw];omega,Aa];exact Asr hi hrest
  ·rw[Aa1 F9,S5 (λk hk=>by simp;omega)];rfl
theorem Afn(h1:1<=ch)(h6:ch<=6)(hm:x.length %ch=0)(hl2:x.length<=4000):uP (ch:Int) x=some (mx ch x,0):=by
 have hlen:=LO ch x;have h:=rW ch x h1 h6 hm hl2 x.length 0 Aq Av2 F0 F0 F7;rw[uP,lR,Ahc ch x h1 h6 hm hl2,Aa,Aa1 Awa,Cx,As F5,Aa,Aa,Asa,rY];rw[vI hlen.symm (λk _=>by simp)]at h;exact h
end
theorem Ahy(a:Int32):gP a=some (fP a):=by
 have h:=Xp a;have hc:(Ad a:UInt32)=UInt32.ofNat (a.toInt %4294967296).toNat:=rfl;have hs:(Ce a (GI.toZ (31:UInt64)).toNat)=if 0<=a.toInt then(0:Int32)else -1:=by
  have e:Ce a 31=Int32.ofInt (a.toInt.fdiv (2^31)):=rfl;rw[show(GI.toZ (31:UInt64)).toNat=31 from rfl,e];by_cases h0:0<=a.toInt
  ·rw[Abh h0,show a.toInt.fdiv (2^31)=0 by rw[An4 _ F3];omega];rfl
  ·rw[Aa1 h0,show a.toInt.fdiv (2^31)= -1 by rw[An4 _ F3];omega];rfl
 rw[gP,hs,hc,fP];congr 1;have hsh:(Di (UInt32.ofNat (a.toInt %4294967296).toNat) (GI.toZ (1:UInt64)).toNat).toNat=2*(a.toInt %4294967296).toNat %4294967296:=by
  rw[show(GI.toZ (1:UInt64)).toNat=1 from rfl,uU,Aj1,Acn (show(a.toInt %4294967296).toNat<2^32 by omega)];omega
 by_cases h0:0<=a.toInt
 ·rw[Abh h0,Abh h0,show(Ad (0:Int32):UInt32)=0 from rfl];apply UInt32.toNat_inj.1;rw[show∀z:UInt32,Zk z (0:UInt32)=z^^^0 from λz=>by rw[UO],Avh,hsh,Aj1,Acn (show 2*a.toInt.toNat<2^32 by omega)]
  show _^^^0=_;rw[Nat.xor_zero];omega
 ·rw[Aa1 h0,Aa1 h0,show(Ad (-1:Int32):UInt32)=4294967295 from rfl];apply UInt32.toNat_inj.1;rw[show∀z:UInt32,Zk z (4294967295:UInt32)=z^^^4294967295 from λz=>by rw[UO],Avh,hsh,Aj1,Acn (show 2*(-a.toInt-1).toNat+1<2^32 by omega)]
  show _^^^4294967295=_;have key:∀n:Nat,n<4294967296->n^^^4294967295=4294967295-n:=by
   intro n hn;have:=BitVec.toNat_not (x:=BitVec.ofNat 32 n);rw[<-BitVec.xor_allOnes,BitVec.toNat_xor,BitVec.toNat_ofNat,Acn F0]at this;simpa using this
  rw[key _ F0];omega
theorem Ag0{bits:Int}(h:Bg bits){t p:LX}(hF:OkF (sB bits) t p)(last x:Int32):
  Us bits last (sB bits) t p x=some (lL bits (last,t,p) x,bits,x,sB bits,A3 t p (lL bits (last,t,p) x),(x-gs (shB bits) last)::p.take 15,0):=by
 rw[Us,Aa9 h,Aa,Aa1 Awa,Ao6 h,Aa];simp only;rw[VM,SY,Aik hF,Aa];simp only;rw[Aa1 Awa,VM,XZ,Aig hF,Aa];simp only;rw[Akn (s:=sB bits) (t:=A3 t p _) (p:=p) ⟨hF.1,JE _ _ _,hF.2.2⟩,Aa,Aa];rfl
theorem Awu{p:Prop}(h:p:=by rw[Af,Ac,Ac];simp;omega):p:=h
theorem Aw2{p:Prop}(h:p:=by rw[Af,Ac];simp):p:=h
theorem Aws{p:Prop}(h:p:=by rw[Bi];omega):p:=h
end Go.Pl
namespace Go.Pl
open Go Go.Lv
variable{p:Prop}
theorem OU(bits:Int)(ch:Nat)(t x:LX):(Fg bits ch t x).length=x.length:=T7 _ _ _ _ _
theorem Z7{bits:Int}{ch:Nat}{t x:LX}{i:Nat}(h:i<x.length):(Fg bits ch t x).getD i 0=fP (lL bits (cst bits ch t (Fg bits ch t x) (i %ch) i) ((mx ch x).getD i 0)):=by
 obtain⟨w,hw⟩:=Adm bits ch t (mx ch x) (x.length-(i+1)) (i+1);rw[show i+1+(x.length-(i+1))=x.length by omega,evl,Aqj]at hw;have hli:=T7 bits ch t (mx ch x) i;have hw':Fg bits ch t x=_:=hw;have hg:(Fg bits ch t x).getD i 0=fP (lL bits (cst bits ch t (evl bits ch t (mx ch x) i) (i %ch) i) ((mx ch x).getD i 0)):=by
  rw[hw',List.getD_eq_getElem?_getD,List.getElem?_append_right F0,hli,Nat.sub_self];rfl
 have hc:cst bits ch t (Fg bits ch t x) (i %ch) i=cst bits ch t (evl bits ch t (mx ch x) i) (i %ch) i:=by rw[hw',Al3 _ _ _ _ _ _ _ F0]
 rw[hg,hc]
section
variable {bits:Int} {ch:Nat} {t x:LX} (hb:Bg bits) (ht:t.length=16) (h1:1<=ch) (h6:ch<=6) (hx1:1<=x.length) (hx4:x.length<=4000) (hm:x.length %ch=0)
include hb ht h1 h6 hx1 hx4 hm
omit ht in
theorem Aon(hr:H2 bits x):IX (ch:Int) bits x=some 0:=by
 rw[IX,Aah hb h1 h6,Aa,Aa1 F3,QH hb x hx4,WQ hb hx4 hr,Aa,Aa1 F3,Aa1 (by rw[Ba,Ac,Atw];omega),Bt Av1,Aa,Ac,AV,hm,Aa1 F3]
omit hm in
theorem E8:∀(j i q:Nat),i+j=x.length->j<q->
  Kh (mx ch x) (ch:Int) bits q (i:Int) (cts bits ch t (Fg bits ch t x) i) ((Fg bits ch t x).take i)=some (Fg bits ch t x,0)
 |j,i,0,_,h=>absurd h (Aqw _)
 |0,i,q+1,hi,_=>by
  have hl:=LO ch x;have hV:=OU bits ch t x;rw[Kh,Ug,Aa1 F2,Aka F0];rfl
 |j+1,i,q+1,hi,hq=>by
  have hl:=LO ch x;have hV:=OU bits ch t x;have hc:i %ch<6:=Apa (At4 _ F0) h6;have hok:=Abg bits ch ht (Fg bits ch t x) (i %ch) i;have hs:=Al9 (bits:=bits) (ch:=ch) (t:=t) (v:=Fg bits ch t x) (i:=i) hc rfl;have hg:=Z7 (bits:=bits) (ch:=ch) (t:=t) (x:=x) (i:=i) F0;have ih:=E8 j (i+1) q F0 F0;have htk:(Fg bits ch t x).take i++[(Fg bits ch t x).getD i 0]=(Fg bits ch t x).take (i+1):=by
   have:(Fg bits ch t x).getD i 0=(Fg bits ch t x)[i]' F0:=by rw[List.getD_eq_getElem?_getD,List.getElem?_eq_getElem F0];rfl
   rw[this,Hh F0]
  have hfw:=Ag0 hb hok (cst bits ch t (Fg bits ch t x) (i %ch) i).1 ((mx ch x).getD i 0);rw[Kh,Ug,Abh F2,U6 F0,Aa,Aa,Bt Av1,Aa,AV,Amo hc,Aa,Aa];refine Asr (congrArg (λo=>Option.bind o _) hfw) ?_;rw[Aa];simp only;rw[Aa1 F3];have hst:((bits,(mx ch x).getD i 0,(sB bits,A3 (cst bits ch t (Fg bits ch t x) (i %ch) i).2.1 (cst bits ch t (Fg bits ch t x) (i %ch) i).2.2 (lL bits (cst bits ch t (Fg bits ch t x) (i %ch) i) ((mx ch x).getD i 0)),((mx ch x).getD i 0-gs (shB bits) (cst bits ch t (Fg bits ch t x) (i %ch) i).1)::(cst bits ch t (Fg bits ch t x) (i %ch) i).2.2.take 15,()),()):CL)=toC bits (sS bits (cst bits ch t (Fg bits ch t x) (i %ch) i) (vC ((Fg bits ch t x).getD i 0))):=by
   rw[hg,Ahz,toC,sS,E0];simp only;rw[lL,SI]
  refine Asr (congrArg (λo=>Option.bind o _) ((congrArg (λz=>Ku (cts bits ch t (Fg bits ch t x) i) ((i %ch:Nat):Int) z) hst).trans hs)) ?_;rw[Aa,Ahy,Aa];have hg2:fP (lL bits ((cst bits ch t (Fg bits ch t x) (i %ch) i).1,(cst bits ch t (Fg bits ch t x) (i %ch) i).2.1,(cst bits ch t (Fg bits ch t x) (i %ch) i).2.2) ((mx ch x).getD i 0))=(Fg bits ch t x).getD i 0:=hg.symm;rw[hg2,As (by rw[Af3];simp;omega),Aa,htk,Ag];exact ih
theorem Aav(hr:H2 bits x):DX (ch:Int) bits t x=some (Fg bits ch t x,0):=by
 have hl:=LO ch x;have h:=E8 hb ht h1 h6 hx1 hx4 x.length 0 Aq F0 F7;have e:Aq=(Aq-7)+1+1+1+1+1+1+1:=by have:=Ap;omega
 have hs:GA (ch:Int) bits t (mx ch x) 0 (List.replicate 6 ((0:Int),(0:Int32),((0:Int),(List.replicate 16 (0:Int32)),(List.replicate 16 (0:Int32)),()),()))=RN (ch:Int) bits (mx ch x) (cts bits ch t (Fg bits ch t x) 0):=by
  rw[GA,e];obtain rfl|rfl|rfl:=hb<;>rfl
 rw[DX,DY,Aon hb h1 h6 hx1 hx4 hm hr,Aa,Aa1 F3,Afn ch x h1 h6 hm hx4,Aa];simp only;rw[Aa1 F3];refine Asr hs ?_;exact h
end
theorem Aaq(ch:Nat):EU=some (sts ch []):=by
 have e:Aq=(Aq-7)+1+1+1+1+1+1+1:=by have:=Ap;omega
 rw[EU,DT,SL,e];rfl
theorem eF(c:List Bool){n:Nat}(h:n<=c.length):Ma (Ed c) 0 n=Ed (c.take n):=by
 have hl:(c.take n).length=n:=by rw[Af3];omega
 apply X8 (by rw[Iu,Rs,hl]);intro i hi;rw[vF,Ar7,Xz,Xz];by_cases hlt:i<n
 ·rw[Abh hlt,tb,tb,List.getD_eq_getElem?_getD,List.getD_eq_getElem?_getD,List.getElem?_take,Abh hlt]
 ·rw[Aa1 hlt,Aao F0]
theorem Apv(a:UInt8){k:Nat}(hk:k<8):Fc (Ce a k) (1:UInt8)=UInt8.ofNat (a.toNat/2^k %2):=by
 apply UInt8.toNat_inj.1;rw[Ako,UInt8.toNat_and,U3,Anq]
 show _&&&1=_;rw[Nat.and_one_is_mod];generalize a.toNat/2^k=X;omega
theorem vo(E code:List Bool)(hE:E.length+code.length<=330000)(bk:Int->List (Int×Int×UInt64×UInt64×Unit)->Int->LB->Bo)(V:LU)(b f g:Int)(k:List (Int×Int×UInt64×UInt64×Unit)):∀(j o q:Nat),o+j=code.length->j<q->
  Fx bk V b f (code.length:Int) g k (Ed code) q (o:Int) ((E.length+o:Nat):Int) (Ma (Ed (E++code)) 0 (E.length+o))=bk (Ae g 1) k ((E.length+code.length:Nat):Int) (Ed (E++code))
 |j,o,0,_,h=>absurd h (Aqw _)
 |0,o,q+1,ho,_=>by
  obtain rfl:o=code.length:=F0
  rw[Fx,Ui,Aa1 Av8,BL,PG,eF _ Awg,Aka Awg]
 |j+1,o,q+1,ho,hq=>by
  generalize hP:Ed (E++code)=P;have hPo:Hr P (E.length+o)=Hr (Ed code) o:=by rw[<-hP,Xz,Xz,M7]
  have ih:=vo E code hE bk V b f g k j (o+1) q F0 F0;rw[hP,<-Ara]at ih;generalize hn:E.length+o=n at*
  have hq8:Ay (n:Int) 8=((n/8:Nat):Int):=by rw[show(8:Int)=((8:Nat):Int)from rfl,Oy]
  have hr8:Fm (n:Int) 8=((n %8:Nat):Int):=by rw[show(8:Int)=((8:Nat):Int)from rfl,AV]
  have hqo:Ay (o:Int) 8=((o/8:Nat):Int):=by rw[show(8:Int)=((8:Nat):Int)from rfl,Oy]
  have hro:Fm (o:Int) 8=((o %8:Nat):Int):=by rw[show(8:Int)=((8:Nat):Int)from rfl,AV]
  have hroom:Fx bk V b f (code.length:Int) g k (Ed code) (q+1) (o:Int) (n:Int) (Ma P 0 n)=Tj (Fx bk V b f (code.length:Int) g k (Ed code) q) (code.length:Int) V g b f k (Ed code) (o:Int) (n:Int) (room P 0 n):=by
   rw[Fx,Ui,Abh F9,hr8,room];by_cases h0:n %8=0
   ·rw[Abh (by rw[Ba,h0];rfl),As Aw0,Aa,Abh h0]
   ·rw[Aa1 Av5,Aa1 h0]
  have hcl:=Rs code;have hgm:Aj (Ed code) ((o/8:Nat):Int)=some ((Ed code).getD (o/8) 0):=by
   rw[Ca,List.getD_eq_getElem?_getD,List.getElem?_eq_getElem F0];rfl
  have hg:Aj (room P 0 n) ((n/8:Nat):Int)=some (UInt8.ofNat (De P (0+8*(n/8)) (n %8))):=by
   rw[Ca Awk,VX]
  have hbit:Fc (Ce ((Ed code).getD (o/8) 0) (o %8)) (1:UInt8)=UInt8.ofNat (Hr P n):=by
   rw[Apv _ F0,hPo,Hr]
  have hlt:=pP P (0+8*(n/8)) (n %8+1) F0;have hsn:=VI P (0+8*(n/8)) (n %8);rw[show 0+8*(n/8)+n %8=n by omega]at hsn;have hnew:yG (UInt8.ofNat (De P (0+8*(n/8)) (n %8))) (Di (UInt8.ofNat (Hr P n)) (n %8))=UInt8.ofNat (De P (0+8*(n/8)) (n %8+1)):=by
   rw[or8 (IZ _ _ _) (by rw[Anw];omega) F0,hsn,Anw (2^(n %8))]
  rw[hroom,Tj,OR,hqo,hro,hq8,hr8,hgm,Aa,Aa,Bt Awc,Aa,hg,Aa,Bt Awc,Aa,Aa,Aa,
   show(GI.toZ ((o %8:Nat):Int)).toNat=o %8 from rfl,show(GI.toZ ((n %8:Nat):Int)).toNat=n %8 from rfl,hbit,hnew,Xn _ Awk,Aa,pD P 0 n 1 F0 F0,PO,RB,Ag,Ag]
  exact ih
theorem Asy(l m:LB)(h:l.length+m.length<=1000000):Dy [l,m]=some (l++m):=by
 have hF:Aq=(Aq-3)+1+1+1:=by have:=Ap;omega
 rw[Dy,Nw,Wy];have g0:Aj [l,m] (0:Int)=some l:=rfl;have g1:Aj [l,m] (1:Int)=some m:=rfl;have l2:Ac [l,m]=2:=rfl;have h3:Fb [l,m] []=some (l++m):=by
  rw[Fb,Iq,Ip,hF,By,Cv,l2,Abh F3,g0,Aa,As F5,Aa,Asa,show Ae (0:Int) 1=1 by decide,
   By,Cv,l2,Abh F3,g1,Aa,As,Aa,show Ae (1:Int) 1=2 by decide,By,Cv,l2,Aa1 F3]
  rfl
 rw[hF,Cc,Db,l2,Abh F3,g0,Aa,Ag Awe Awe,Aa1 Aw2,show Ae (0:Int) 1=1 by decide,
  Cc,Db,l2,Abh F3,g1,Aa,Ag Awe Awe,Aa1 Awu,show Ae (1:Int) 1=2 by decide,
  Cc,Db,l2,Aa1 F3,Fe,Ir,Aa1 Awu,Mz,Is]
 have z:Ak (0:Int) 0=0:=F3
 have n0:(0:Int)+Ac l+Ac m=((l.length+m.length:Nat):Int):=by simp[Ac]
 rw[z,n0,Dx,Int.sub_zero];by_cases hp:0<l.length+m.length
 ·rw[Abh Av6,show uG (0:Int) 0 0=some ()from rfl,Aa,I5,Aa,As F5,Aa];rw[show uG (Ac ([]++List.replicate ((l.length+m.length:Nat):Int).toNat (0:UInt8))) 0 0=some () by rw[uG,Bt];simp[Ac];omega,Aa];simp only[tP,Int.sub_self,Int.toNat_zero,Au6];exact h3
 ·rw[Aa1 Av6];exact h3
theorem uh(bits:Int)(ch:Nat)(h1:1<=ch)(h6:ch<=6)(V:LU)(hV:V.length<=4000):∀(j i q:Nat),i+j=V.length->j<q->
  Ia V (ch:Int) bits q (i:Int) (sts ch (V.take i)) ((CZ ch V i).length:Int) (Ed (CZ ch V i))=some (Ed (CZ ch V V.length)++Ot (Mn (Ed (CZ ch V V.length))).toNat 4,0)
 |j,i,0,_,h=>absurd h (Aqw _)
 |0,i,q+1,hi,_=>by
  obtain rfl:i=V.length:=F0
  have hel:=JL ch V V.length;have hpl:=Rs (CZ ch V V.length);have hlt:=(Mn (Ed (CZ ch V V.length))).toNat_lt;rw[Ia,Tx,Aa1 Aw2,BA,QI,Aaa _ F0,Aa];simp only;have e64:(UInt64.ofNat (Mn (Ed (CZ ch V V.length))).toNat).toNat=(Mn (Ed (CZ ch V V.length))).toNat:=We F0;rw[Aa1 F3,Dg,show(4:Int)=((4:Nat):Int)from rfl,QJ _ 4 F0 F0 (by rw[e64];omega),Aa];simp only;rw[Aa1 F3,e64,Asy _ _ Aws,Aa]
 |j+1,i,q+1,hi,hq=>by
  have hc:i %ch<6:=Apa (At4 _ F0) h6;have hvl:(V.take i).length=i:=by rw[Af3];omega
  have hel:=JL ch V i;have hk:=K7 ch (V.take i);have hcl:=OB (V.getD i 0) hk.1 hk.2;have ih:=uh bits ch h1 h6 V hV j (i+1) q F0 F0;have hvi:V.getD i 0=V[i]' F0:=by rw[List.getD_eq_getElem?_getD,List.getElem?_eq_getElem F0];rfl
  have htk:V.take i++[V.getD i 0]=V.take (i+1):=by rw[hvi,Hh F0]
  have hst:=Ali (ch:=ch) (v:=V.take i) hc;have hset:=Amq (ch:=ch) (v:=V.take i) (V.getD i 0) hc (by rw[hvl]);have Atx:tM ch (V.take i) (i %ch) (V.take i).length=now ch (V.take i):=Amu (by rw[hvl]);rw[Atx]at hst hset;rw[htk]at hset;have hdp:=Ajc (k:=(now ch (V.take i)).1) (l:=(now ch (V.take i)).2.1) (s:=(now ch (V.take i)).2.2.1) (t:=(now ch (V.take i)).2.2.2) (xK ch (V.take i) _ _) (V.getD i 0);have hpc:=vo (CZ ch V i) (Ml (now ch (V.take i)).1 (now ch (V.take i)).2.1 (V.getD i 0)) F0 (Ia V (ch:Int) bits q) V (ch:Int) bits (i:Int) (sts ch (V.take (i+1))) (Ml (now ch (V.take i)).1 (now ch (V.take i)).2.1 (V.getD i 0)).length 0 Aq F0 F7;rw[show(CZ ch V i).length+0=(CZ ch V i).length from rfl,eF _ Awg,List.take_left,show((0:Nat):Int)=0 from rfl]at hpc;rw[Ia,Tx,Abh F2,pH F0,Aa,Aa,Bt Av1,Aa,AV,hst,Aa,Aa];refine Asr (congrArg (λo=>Option.bind o _) hdp) ?_;rw[Aa];simp only;rw[Aa1 F3,Aa,Aa];refine Asr (congrArg (λo=>Option.bind o _) hset) ?_;rw[Aa];refine Asr hpc ?_;rw[Ag];rw[CZ,Abp]at ih;exact ih
theorem oT{bits:Int}{ch:Nat}{t x:LX}(hb:Bg bits)(ht:t.length=16)(h1:1<=ch)(h6:ch<=6)(hx1:1<=x.length)(hx4:x.length<=4000)(hm:x.length %ch=0)(hr:H2 bits x):
  Xs (ch:Int) bits t x=some (DK bits ch t x,0):=by
 have hV:=OU bits ch t x;have h:=uh bits ch h1 h6 (Fg bits ch t x) F0 (Fg bits ch t x).length 0 Aq F0 F7;have e0:Ed (CZ ch (Fg bits ch t x) 0)=[]:=by simp[CZ,Ed]
 have e1:((CZ ch (Fg bits ch t x) 0).length:Int)=0:=rfl;rw[e0,e1,Au6,hV,show((0:Nat):Int)=0 from rfl]at h;rw[Xs,DP,Aav hb ht h1 h6 hx1 hx4 hm hr,Aa];simp only;rw[Aa1 F3,Aaq ch,Aa,DK,P9,ON];exact h
theorem Aw5(h:p:=by simp[Bl,Af];omega):p:=h
theorem Awx(h:p:=by rw[Ba,Atw];omega):p:=h
theorem Awr(h:p:=by simp[Bl]):p:=h
end Go.Pl
namespace Go.Pl
open Go Go.Lv
variable{bits:Int}{x:LX}{c w r n:Nat}{p:Prop}
structure ClipOk (c w r n:Nat) (x:LX):Prop where
 ch:1<=c/\c<=6
 bits:Bg (w:Int)
 rate:1<=r/\r<=1048576
 cnt:1<=n/\n<=4000/c
 len:x.length=n*c
 fr:(n-1)/Am r+1<=1000
 rng:H2 (w:Int) x
theorem ClipOk.le(h:ClipOk c w r n x):n<=4000/\n*c<=4000/\1<=x.length/\x.length<=4000:=by
 have h1:=Af0 c h.cnt.2;have h2:=Nat.div_mul_le_self 4000 c;have h3:=Aqh 4000 c;have h4:=Avf h.cnt.1 h.ch.1;have h5:=h.len;have:=h.cnt;omega
theorem ClipOk.w3(h:ClipOk c w r n x):w=8\/w=16\/w=24:=by
 have:=h.bits;unfold Bg at this;omega
theorem ClipOk.shape(h:ClipOk c w r n x)(f:Nat)(hf:f=1\/f=2):Uz f c w r n=true:=by
 have:=h.w3;have:=h.ch;have:=h.rate;have:=h.cnt;simp only[Uz,Aef];omega
theorem ClipOk.fit(h:ClipOk c w r n x):qJ c r n=true:=by
 have:=h.cnt;have:=h.fr;simp only[qJ,Aef];omega
theorem Aq2(h:Bg bits){l:LX}(hl:l.length<=4000):Al bits l=some 0\/Al bits l=some 16:=by
 have hh:=LN bits;have key:∀(j i q:Nat),i+j=l.length->j<q->Bb l (hB bits) q (i:Int)=some 0\/Bb l (hB bits) q (i:Int)=some 16:=by
  intro j
  induction j with
  |zero=>
   intro i q hi hq;obtain⟨q,rfl⟩:∃q',q=q'+1:=⟨q-1,F0⟩;rw[Bb,Cj,Aa1 F2];exact .inl rfl
  |succ j ih=>
   intro i q hi hq;obtain⟨q,rfl⟩:∃q',q=q'+1:=⟨q-1,F0⟩;have ih:=ih (i+1) q F0 F0;have hi1:Ae (i:Int) 1=((i+1:Nat):Int):=by rw[Ag];omega
   rw[Bb,Cj,Abh F2,Ca,Aa,Aa,hi1];split
   ·exact .inr rfl
   ·split
    ·exact .inr rfl
    ·exact ih
 have hk:=key l.length 0 Aq F0 F7;rw[Al,Dd,RZ h,Aa,Aa1 Av5,Aa1 Av3];exact hk
theorem oD(h:¬Bg bits):Ef bits=some 0/\Nd bits=some (0,0,2):=by
 unfold Bg at h;constructor
 ·rw[Ef,Aa1 Awx,Aa1 Awx,Aa1 Awx]
 ·have e:(geq bits 24)=false:=by rw[Ba,beq_eq_false_iff_ne];omega
  rw[Nd,PU,Aa1 Awx,Aa1 Awx,e,QY,OW,Aa1 F3]
theorem qA{r:Nat}(h:r<=1048576):∀(j n q:Nat) (acc:LI),n<=4000->n<=j->j<q->acc.length+n<=10000->
  Jl (Am r:Int) q (n:Int) acc=some (if 1000<(acc++(if n=0 then []else Gf (Am r) n)).length then([],4)else(acc++(if n=0 then []else Gf (Am r) n),0))
 |j,n,0,acc,_,_,h,_=>absurd h (Aqw _)
 |j,n,q+1,acc,hn,hj,hq,ha=>by
  have hp:=Km r;by_cases h0:n=0
  ·subst h0;rw[Abh rfl,Ap2,Jl,Qv,Aa1 Awl,Zb,NA,Ar,Ac];by_cases hk:1000<acc.length
   ·rw[Abh hk,Abh F5]
   ·rw[Aa1 hk,Aa1 F5]
  ·obtain⟨j,rfl⟩:∃j',j=j'+1:=⟨j-1,F0⟩;rw[Jl,Qv,Abh Av6,As F5,Aa,lA];by_cases hs:n<=Am r
   ·rw[show min (n:Int) (Am r:Int)=(n:Int) by omega,Dx,Int.sub_self];have ih:=qA h j 0 q (acc++[(n:Int)]) F0 F0 F0 F5;rw[Abh rfl,Ap2]at ih;rw[Aa1 h0,kP hs F0];exact ih
   ·rw[show min (n:Int) (Am r:Int)=(Am r:Int) by omega,Dx,show(n:Int)-(Am r:Int)=((n-Am r:Nat):Int) by omega];have e:acc++Gf (Am r) n=(acc++[(Am r:Int)])++Gf (Am r) (n-Am r):=by rw[tH hp (show Am r<n by omega)];simp
    have ih:=qA h j (n-Am r) q (acc++[(Am r:Int)]) F0 F0 F0 F5;rw[Aa1 (show ¬n-Am r=0 by omega),<-e]at ih;rw[Aa1 h0];exact ih
theorem Aal(C W R:Int)(x:LX)(hlen:x.length<4611686018427387904):(Cl C W R x=some 8/\Hu C W R x=some 8)\/
  (∃c w r n:Nat,C=(c:Int)/\W=(w:Int)/\R=(r:Int)/\ClipOk c w r n x/\Cl C W R x=some 0/\Hu C W R x=some 0):=by
 have zX:∀e:Int,e≠0->Bk C W x=some e->Cl C W R x=some 8:=by
  intro e he h;rw[Cl,Hy,Aa];simp only;rw[h,Aa,Abh (by rw[Bl];simpa using he)]
 by_cases hC:C<1
 ·refine .inl ⟨zX 2 F3 ?_,?_⟩
  ·rw[Bk,Cg,Abh Av4,Aa,Abh F3]
  ·rw[Hu,Abh (by rw[Af];simpa using hC)]
 obtain⟨c,rfl⟩:=Akc (show 0<=C by omega);have hc1:1<=c:=F0
 have hq:Ay (Ac x) (c:Int)=((x.length/c:Nat):Int):=by rw[Ac,Oy]
 have hr0:Fm (Ac x) (c:Int)=((x.length %c:Nat):Int):=by rw[Ac,AV]
 have Ah9:(∀m:Nat,x.length=m*c->HV (c:Int) W R x (m:Int)=some 8)->Hu (c:Int) W R x=some 8:=by
  intro h;rw[Hu,Aa1 (by rw[Af];simpa using hC),Bt Av1,Aa,hr0];by_cases hm:x.length %c=0
  ·have hx:x.length=x.length/c*c:=by have:=At9 x.length c;rw[hm,Anw]at this;omega
   rw[hm,Aa1 F3,Aa,hq,h _ hx,Aa,Abh F3]
  ·rw[Abh Av1]
 by_cases h6:6<c
 ·refine .inl ⟨zX 2 F3 ?_,Ah9 λm hm=>?_⟩
  ·rw[Bk,Cg,Abh Av4,Aa,Abh F3]
  ·rw[HV,OY,Aa];simp only;have:Ep (c:Int) W=some 2:=by
    rw[Ep];by_cases hb:Bg W
    ·rw[wO hb,Aa];simp only;rw[Abh Awo]
    ·rw[(oD hb).2,Aa];simp only;rw[Abh Awr]
   rw[this,Aa,Abh Awr]
 by_cases hb:Bg W
 rotate_left
 ·refine .inl ⟨zX 2 F3 ?_,Ah9 λm hm=>?_⟩
  ·rw[Bk,Cg,Aa1 Av4,(oD hb).1,Aa,Abh F3,Aa,Abh F3]
  ·rw[HV,OY,Aa];simp only;have:Ep (c:Int) W=some 2:=by
    rw[Ep,(oD hb).2,Aa];simp only;rw[Abh Awr]
   rw[this,Aa,Abh Awr]
 have hhB:=LN W;have e20:Cg (c:Int) W=some 0:=by
  rw[Cg,Aa1 Av4,RZ hb,Aa,Aa1 Av5]
 have hq4:=Akf hc1 (show c<=6 by omega);have ecf:=Aah hb hc1 (show c<=6 by omega);have Adw:∀m:Nat,HV (c:Int) W R x (m:Int)=if m<1\/4000/c<m then some 8 else Option.bind (Kq R (m:Int)) λy=>if(Bm y.2 0)=true then some 8 else some 0:=by
  intro m;rw[HV,OY,Aa];simp only;rw[ecf,Aa];by_cases hm:m<1
  ·rw[Abh Aw5,Abh (.inl hm)]
  ·rw[Aa1 Aw5,Bt Av1,Aa,hq4];by_cases hm2:4000/c<m
   ·rw[Abh (by rw[Ar,Aef,gt_iff_lt,Int.ofNat_lt];exact hm2),Abh (.inr hm2)]
   ·rw[Aa1 (by rw[Ar,Aef,gt_iff_lt,Int.ofNat_lt];exact hm2),Aa1 F0]
 by_cases hx4:4000<x.length
 ·refine .inl ⟨zX 4 F3 ?_,Ah9 λm hm=>?_⟩
  ·have:Al W x=some 4:=by
    rw[Al,Dd,RZ hb,Aa,Aa1 Av5,Abh Av3]
   rw[Bk,e20,Aa,Aa1 F3,this,Aa,Abh F3,Aa]
  ·rw[Adw,Abh];refine .inr ?_;rw[Nat.div_lt_iff_lt_mul F0];omega
 have hx4:x.length<=4000:=F0
 have hsame:=QH hb x hx4;rcases Aq2 hb hx4 with h18|h18
 rotate_left
 ·refine .inl ⟨zX 16 F3 ?_,?_⟩
  ·rw[Bk,e20,Aa,Aa1 F3,h18,Aa,Abh F3,Aa]
  ·rw[Hu,Aa1 (by rw[Af];simpa using hC),Bt Av1,Aa,hr0];by_cases hm:x.length %c=0
   ·rw[hm,Aa1 F3,Aa,hq,Adw];split
    ·rw[Aa,Abh F3]
    ·rename_i hh;by_cases hR:1<=R/\R<=1048576
     ·obtain⟨r,rfl⟩:=Akc (show 0<=R by omega);have hd:=Aqh x.length c;rw[lQ F0 F0 F0 F0,Aa];split
      ·rw[Abh F3,Aa,Abh F3]
      ·rw[Aa1 Awr,Aa,Aa1 F3,hsame,h18,Aa,Abh F3]
     ·rw[Kq,Ko,Abh Av4,Aa];simp only;rw[Abh F3,Aa];simp only;rw[Abh F3,Aa,Abh F3]
   ·rw[Abh Av1]
 by_cases hx1:x.length<1
 ·refine .inl ⟨zX 2 F3 ?_,Ah9 λm hm=>?_⟩
  ·rw[Bk,e20,Aa,Aa1 F3,h18,Aa,Aa1 F3,Abh F2]
  ·have h0:m*c=0:=F0
   have:m=0:=by rcases Nat.mul_eq_zero.1 h0 with h|h<;>omega
   rw[Adw,Abh (.inl F0)]
 have hA:x.length %c=0->Bk (c:Int) W x=some 0:=by
  intro hm;rw[Bk,e20,Aa,Aa1 F3,h18,Aa,Aa1 F3,Aa1 F2,Bt Av1,Aa,hr0,hm,Aa1 F3]
 by_cases hm:x.length %c=0
 rotate_left
 ·refine .inl ⟨zX 2 F3 ?_,?_⟩
  ·rw[Bk,e20,Aa,Aa1 F3,h18,Aa,Aa1 F3,Aa1 F2,Bt Av1,Aa,hr0,Abh Av6]
  ·rw[Hu,Aa1 (by rw[Af];simpa using hC),Bt Av1,Aa,hr0,Abh Av1]
 have hxn:x.length=x.length/c*c:=by have:=At9 x.length c;rw[hm,Anw]at this;omega
 generalize hN:x.length/c=n at*
 have hn1:1<=n:=by
  by_cases h0:n=0
  ·rw[h0]at hxn;omega
  ·omega
 have hn4:n<=4000/c:=by rw[<-hN];exact Au7 hx4
 have hn4':n<=4000:=Nat.le_trans hn4 (Aqh _ _);have e21:Nv (c:Int) W (n:Int)=some 0:=by
  rw[Nv,e20,Aa,Aa1 Aw5,Bt Av1,Aa,hq4,Aa1 (by rw[Ar,Aef,gt_iff_lt,Int.ofNat_lt];omega)]
 have Aj8:∀z e:Int,Jy R (n:Int)=some (z,e)->Cl (c:Int) W R x=some (if e=0 then 0 else 8):=by
  intro z e hz;rw[Cl,Hy,Aa];simp only;rw[hA hm,Aa,Aa1 F3,Bt Av1,Aa,hq,GB,Hy,Aa];simp only;rw[e21,Aa,Aa1 F3,hz,Aa,Aa,Ba];by_cases he:e=0
  ·subst he;rfl
  ·rw[Aa1 he,Abh (by simpa using he)]
 have K1:Hu (c:Int) W R x=Option.bind (Option.bind (Kq R (n:Int)) λy=>if(Bm y.2 0)=true then some 8 else some 0) λg=>if(Bm g 0)=true then some g else some 0:=by
  rw[Hu,Aa1 (by rw[Af];simpa using hC),Bt Av1,Aa,hr0,hm,Aa1 F3,Aa,hq,Adw,Aa1 F0,hsame,h18];rfl
 by_cases hR:1<=R/\R<=1048576
 rotate_left
 ·refine .inl ⟨?_,?_⟩
  ·refine Aj8 0 2 ?_;rw[Jy,Yl,Qy,Ec,Abh Av4,Aa];simp only;rw[Abh Awr,Aa];rfl
  ·rw[K1,Kq,Ko,Abh Av4,Aa];simp only;rw[Abh F3,Aa];simp only;rw[Abh F3,Aa,Abh F3]
 obtain⟨r,rfl⟩:=Akc (show 0<=R by omega);have hl:=qA (r:=r) F0 n n Aq [] hn4' (Aqe _) F7 F5;rw[Aa1 (show ¬n=0 by omega),Asa,dL]at hl;have hcount:∃z:Int,Jy (r:Int) (n:Int)=some (z,if 1000<(n-1)/Am r+1 then 4 else 0):=by
  rw[Jy,Yl,Qy,xq F0 F0,Aa];simp only;rw[Aa1 Awo,MV,hl,Aa];split<;>exact⟨_,rfl⟩
 obtain⟨z,hz⟩:=hcount;have h24:=Aj8 z _ hz;rw[lQ F0 F0 hn1 hn4',Aa]at K1;by_cases hk:1000<(n-1)/Am r+1
 ·rw[Abh hk]at h24 K1;exact .inl ⟨h24,K1⟩
 ·rw[Aa1 hk]at h24 K1;have hw:∃w:Nat,W=(w:Int):=by
   rcases hb with rfl|rfl|rfl
   ·exact⟨8,rfl⟩
   ·exact⟨16,rfl⟩
   ·exact⟨24,rfl⟩
  obtain⟨w,rfl⟩:=hw;exact .inr ⟨c,w,r,n,rfl,rfl,rfl,⟨⟨hc1,F0⟩,hb,F0,⟨hn1,hn4⟩,hxn,F0,rK hb hx4 h18⟩,h24,K1⟩
theorem Ad1(C W R:Int)(h:4000<x.length):Cl C W R x=some 8:=by
 have key:∃e:Int,e≠0/\Bk C W x=some e:=by
  rw[Bk,Cg];by_cases h1:((Cm C 1)||(Da C 6))=true
  ·rw[Abh h1,Aa,Abh F3];exact⟨2,F3,rfl⟩
  ·rw[Aa1 h1];by_cases hb:Bg W
   ·have hh:=LN W;have h18:Al W x=some 4:=by
     rw[Al,Dd,RZ hb,Aa,Aa1 Av5,Abh Av3]
    rw[RZ hb,Aa,Aa1 Av5,Aa,Aa1 F3,h18,Aa,Abh F3,Aa];exact⟨4,F3,rfl⟩
   ·rw[(oD hb).1,Aa,Abh F3,Aa,Abh F3];exact⟨2,F3,rfl⟩
 obtain⟨e,he,h1⟩:=key;rw[Cl,Hy,Aa];simp only;rw[h1,Aa,Abh (by rw[Bl];simpa using he)]
theorem sN(C W R:Int)(x:LX):(Cl C W R x=some 8/\ (x.length<4611686018427387904->Hu C W R x=some 8))\/
  (∃c w r n:Nat,C=(c:Int)/\W=(w:Int)/\R=(r:Int)/\ClipOk c w r n x/\Cl C W R x=some 0/\Hu C W R x=some 0):=by
 by_cases hx:x.length<4611686018427387904
 ·rcases Aal C W R x hx with⟨h1,h2⟩|h
  ·exact .inl ⟨h1,λ_=>h2⟩
  ·exact .inr h
 ·exact .inl ⟨Ad1 C W R F0,λh=>absurd h hx⟩
theorem Aw4(h:p:=by rw[Aqi];omega):p:=h
theorem Aw7(h:p:=by simp[Bi,ES]):p:=h
end Go.Pl
namespace Go.Pl
open Go Go.Lv
variable{α:Type}
def zT(f c w r n:Nat):LB:=ES++Ot f 2++Ot c 2++Ot w 2++Ot r 4++Ot n 4
def R5(f c w r n:Nat):LB:=zT f c w r n++Ot (Mn (zT f c w r n)).toNat 4
theorem eU(f c w r n:Nat):(zT f c w r n).length=18:=by simp only[zT,ES,Abp,Bi];rfl
theorem pM(f c w r n:Nat):(R5 f c w r n).length=22:=by rw[R5,Abp,eU,Bi]
theorem tA(b f g h k:Int)(m v w q:Nat)(a:LB)(hm:m<5)(hv:Aj ([b,f,g,h,k]:LI) (m:Int)=some (v:Int))(hw:Aj ([2,2,2,4,4]:LI) (m:Int)=some (w:Int))(h1:1<=w)(h8:w<=8)(hlt:v<256^w)(h64:v<18446744073709551616)(ha:a.length<=100):
  Lr b f g h k (q+1) (m:Int) a=Lr b f g h k q ((m+1:Nat):Int) (a++Ot v w):=by
 have e64:(UInt64.ofNat v).toNat=v:=We F0;have hi1:Ae (m:Int) 1=((m+1:Nat):Int):=by rw[Ag];omega
 rw[Lr,AP,Abh F9,hv,Aa,hw,Aa,Sr,QJ _ w h1 h8 (by rw[e64];exact hlt),Aa];simp only;rw[As Aws,Aa,hi1,e64]
theorem T9{f c w r n:Nat}(h1:Uz f c w r n=true)(h2:qJ c r n=true):NS (f:Int) (c:Int) (w:Int) (r:Int) (n:Int)=some (R5 f c w r n,0):=by
 have hs:(f=1\/f=2)/\ (1<=c/\c<=6)/\ (w=8\/w=16\/w=24)/\ (1<=r/\r<=1048576)/\1<=n:=by simpa only[Uz,Aef]using h1
 have hn:n<=4000:=by
  simp only[qJ,Aef]at h2;have:=Aqh 4000 c;omega
 have hck:NG (f:Int) (c:Int) (w:Int) (r:Int) (n:Int)=some 0:=by
  rw[NG,Y1,Aa,h1,Aa1 F3,Ael h1,Aa,h2,Aa1 F3]
 have hF:Aq=(Aq-6)+1+1+1+1+1+1:=by have:=Ap;omega
 have hlt:=(Mn (zT f c w r n)).toNat_lt;have e64:(UInt64.ofNat (Mn (zT f c w r n)).toNat).toNat=(Mn (zT f c w r n)).toNat:=We F0;have hfin:AR (zT f c w r n)=some (R5 f c w r n,0):=by
  rw[AR,aH,Aaa _ (by rw[eU];omega),Aa];simp only;rw[Dg,show(4:Int)=((4:Nat):Int)from rfl,QJ _ 4 F0 F0 (by rw[e64];omega),Aa];simp only;rw[As (by rw[eU,Bi];omega),Aa,e64];rfl
 rw[NS,MI,hck,Aa,Aa1 F3,aO,hF];have s0:=tA (f:Int) (c:Int) (w:Int) (r:Int) (n:Int) 0 f 2 ((Aq-6)+1+1+1+1+1) ES F0 rfl rfl F0 F0 F0 F0 F3;have s1:=tA (f:Int) (c:Int) (w:Int) (r:Int) (n:Int) 1 c 2 ((Aq-6)+1+1+1+1) (ES++Ot f 2) F0 rfl rfl F0 F0 F0 F0 Aw7;have s2:=tA (f:Int) (c:Int) (w:Int) (r:Int) (n:Int) 2 w 2 ((Aq-6)+1+1+1) (ES++Ot f 2++Ot c 2) F0 rfl rfl F0 F0 F0 F0 Aw7;have s3:=tA (f:Int) (c:Int) (w:Int) (r:Int) (n:Int) 3 r 4 ((Aq-6)+1+1) (ES++Ot f 2++Ot c 2++Ot w 2) F0 rfl rfl F0 F0 F0 F0 Aw7;have s4:=tA (f:Int) (c:Int) (w:Int) (r:Int) (n:Int) 4 n 4 ((Aq-6)+1) (ES++Ot f 2++Ot c 2++Ot w 2++Ot r 4) F0 rfl rfl F0 F0 F0 F0 Aw7;refine s0.trans (s1.trans (s2.trans (s3.trans (s4.trans ?_))));rw[Lr,AP,Aa1 F3];exact hfin
def nF(l:LI):LB:=l.flatMap λx=>Ot x.toNat 4
def jm(l:LI):LB:=nF l++Ot (Mn (nF l)).toNat 4
theorem OI(l:LI):(nF l).length=4*l.length:=by
 induction l with
 |nil=>rfl
 |cons x l ih=>rw[nF,List.flatMap_cons,Abp,Bi,show(l.flatMap λx=>Ot x.toNat 4)=nF l from rfl,ih,Al4];omega
theorem yR(l:LI):(jm l).length=4*l.length+4:=by rw[jm,Abp,OI,Bi]
theorem E1(l:LI)(x:Int):nF (l++[x])=nF l++Ot x.toNat 4:=by simp[nF]
theorem sV(l:LI)(hl:l.length<=1000)(h5:∀x∈l,5<=x/\x<=100000):∀(j i q:Nat),i+j=l.length->j<q->Ri l q (i:Int) (nF (l.take i))=some (jm l,0)
 |j,i,0,_,h=>absurd h (Aqw _)
 |0,i,q+1,hi,_=>by
  have hlt:=(Mn (nF l)).toNat_lt;have e64:(UInt64.ofNat (Mn (nF l)).toNat).toNat=(Mn (nF l)).toNat:=We F0;rw[Ri,FU,Aa1 F2,Aka F0,LR,aI,Aaa _ (by rw[OI];omega),Aa];simp only;rw[Dg,show(4:Int)=((4:Nat):Int)from rfl,QJ _ 4 F0 F0 (by rw[e64];omega),Aa];simp only;rw[As (by rw[OI,Bi];omega),Aa,e64];rfl
 |j+1,i,q+1,hi,hq=>by
  have ih:=sV l hl h5 j (i+1) q F0 F0;obtain⟨x5,x6⟩:=h5 l[i] (Asx _);obtain⟨v,hv⟩:=Akc (show 0<=l[i] by omega);have e64:(UInt64.ofNat v).toNat=v:=We F0;have hi1:Ae (i:Int) 1=((i+1:Nat):Int):=by rw[Ag];omega
  rw[Ri,FU,Abh F2,Ca,Aa,hv,Sr,show(4:Int)=((4:Nat):Int)from rfl,QJ _ 4 F0 F0 (by rw[e64];omega),Aa];simp only;rw[As (by rw[OI,Bi,Af3];omega),Aa,LZ,aR,hi1,e64];rw[Hh F0,E1,hv,Ajs]at ih;exact ih
theorem uz(l:LI):LA l=some (if yU l=true then(jm l,0)else([],8)):=by
 rw[LA,PC,uT,Aa];by_cases h:yU l=true
 ·rw[Abh h,Abh h,Aa1 F3];simp only[yU,Afq,Aef]at h;obtain⟨⟨h1,h2⟩,h3⟩:=h;have h4:=(uI l 100000 F0).1 h3;have h6:=yg h4.1;have hl:=sV l h2 (λx hx=>⟨h4.1 x hx,by have:=h6 x hx;omega⟩) l.length 0 Aq F0 F7;exact hl
 ·rw[Aa1 h,Aa1 h,Abh F3]
def Gt(c:Nat):LX->LI->List LX
 |_,[]=>[]
 |x,m::l=>x.take (m.toNat*c)::Gt c (x.drop (m.toNat*c)) l
theorem ZT(c:Nat):∀(l:LI) (x:LX),(Gt c x l).length=l.length
 |[],x=>rfl
 |m::l,x=>by rw[Gt,Al4,Al4,ZT c l]
theorem sL(c:Nat):∀(l:LI) (x:LX),(∀m∈l,0<=m)->x.length=l.sum.toNat*c-> (Gt c x l).flatten=x
 |[],x,_,h=>by
  have:x=[]:=Ark (by simpa using h);rw[this];rfl
 |m::l,x,h0,h=>by
  have hm:=h0 m Aqz;have hl:0<=l.sum:=by
   have:∀l:LI,(∀m∈l,0<=m)->0<=l.sum:=by
    intro l
    induction l with
    |nil=>intro _;simp
    |cons a l ih=>intro h;have:=ih (λm hm=>h m (Am5 _ hm));have:=h a Aqz;rw[Ast];omega
   exact this l λm hm=>h0 m (Am5 _ hm)
  rw[Ast,show(m+l.sum).toNat=m.toNat+l.sum.toNat by omega,Aim]at h;have ih:=sL c l (x.drop (m.toNat*c)) (λm hm=>h0 m (Am5 _ hm)) Aw4;rw[Gt,Auw,ih,Aul]
theorem kV(c:Nat)(h1:1<=c):∀(l:LI) (x:LX),(∀m∈l,1<=m)->x.length=l.sum.toNat*c->∀y∈Gt c x l,1<=y.length/\y.length<=x.length/\y.length %c=0/\∀v∈y,v∈x
 |[],x,_,_=>λy hy=>by simp[Gt]at hy
 |m::l,x,hm,hx=>by
  have hm1:=hm m Aqz;have hl:0<=l.sum:=by
   have:∀l:LI,(∀m∈l,1<=m)->0<=l.sum:=by
    intro l
    induction l with
    |nil=>intro _;simp
    |cons a l ih=>intro h;have:=ih (λm hm=>h m (Am5 _ hm));have:=h a Aqz;rw[Ast];omega
   exact this l λm hm'=>hm m (Am5 _ hm')
  rw[Ast,show(m+l.sum).toNat=m.toNat+l.sum.toNat by omega,Aim]at hx;have hpos:1<=m.toNat*c:=Avf F0 h1;intro y hy;rw[Gt,List.mem_cons]at hy;rcases hy with rfl|hy
  ·have hlen:(x.take (m.toNat*c)).length=m.toNat*c:=by rw[Af3];omega
   rw[hlen];exact⟨hpos,F0,Asi _ _,λv hv=>List.mem_of_mem_take hv⟩
  ·obtain⟨a1,a2,a3,a4⟩:=kV c h1 l (x.drop (m.toNat*c)) (λm hm'=>hm m (Am5 _ hm')) Aw4 y hy;rw[Aqi]at a2;exact⟨a1,F0,a3,λv hv=>Aue (a4 v hv)⟩
theorem vU(bits:Int)(ch:Nat)(t x:LX)(h0:1<=x.length)(h4:x.length<=4000):5<= (DK bits ch t x).length/\ (DK bits ch t x).length<=15*x.length:=by
 have h5:=je bits ch t x h0 h4;have h:=JL ch (Fg bits ch t x) x.length;refine⟨h5.1,?_⟩;rw[DK,Abp,Bi,P9,Rs];omega
def Ic(fs:List LB):LI:=fs.map λf=>(f.length:Int)
theorem Xf(fs:List LB):(Ic fs).length=fs.length:=by rw[Ic,List.length_map]
theorem wN:∀fs:List LB,(Ic fs).sum=(fs.flatten.length:Int)
 |[]=>rfl
 |f::fs=>by rw[Ic,Asj,Ast,Auw,Abp,show(fs.map λf=>(f.length:Int))=Ic fs from rfl,wN fs];omega
theorem Af6(bits:Int)(ch:Nat)(t:LX):∀ys:List LX,(∀y∈ys,1<=y.length/\y.length<=4000)-> ((ys.map (DK bits ch t)).flatten).length<=15*ys.flatten.length
 |[],_=>by simp
 |y::ys,h=>by
  have ih:=Af6 bits ch t ys λy hy=>h y (Am5 _ hy);obtain⟨h1,h4⟩:=h y Aqz;have:=(vU bits ch t y h1 h4).2;rw[Asj,Auw,Auw,Abp,Abp];omega
def Zv(p:LB):Nat:=if p=[]then 1 else 2
def nS(p:LB):LB:=if p=[]then []else Ot (JI p).toNat 8
theorem mo(p:LB):Zv p=1\/Zv p=2:=by unfold Zv;split<;>simp
theorem zR(p:LB):(nS p).length=if Zv p=2 then 8 else 0:=by
 unfold nS Zv;by_cases h:p=[]
 ·rw[Abh h,Abh h];rfl
 ·rw[Aa1 h,Aa1 h,Bi];rfl
def Aat(c r n:Nat)(x:LX):List LX:=Gt c x (Gf (Am r) n)
def NM(c w r n:Nat)(x:LX)(p:LB):List LB:=(Aat c r n x).map (DK (w:Int) c (Tt p))
def ML(c w r n:Nat)(x:LX)(p:LB):LB:=R5 (Zv p) c w r n++(nS p++(jm (Ic (NM c w r n x p))++(NM c w r n x p).flatten))
theorem tD{g n:Nat}(hg:1<=g)(h1:1<=n):∀m∈Gf g n,1<=m:=by
 intro m hm;rw[Gf,List.mem_append,List.mem_replicate,List.mem_singleton]at hm;have h:=Nat.div_mul_le_self (n-1) g;rcases hm with⟨_,rfl⟩|rfl
 ·omega
 ·omega
section
variable {c w r n:Nat} {x:LX} (h:ClipOk c w r n x)
include h
theorem ClipOk.sum:(Gf (Am r) n).sum=(n:Int):=iy h.cnt.1
theorem Ad5:(Aat c r n x).flatten=x:=by
 refine sL _ _ _ (λm hm=>?_) ?_
 ·have:=tD (Km r) h.cnt.1 m hm;omega
 ·rw[h.sum,h.len,Ajs]
theorem pJ:∀y∈Aat c r n x,1<=y.length/\y.length<=4000/\y.length %c=0/\H2 (w:Int) y:=by
 intro y hy;obtain⟨a1,a2,a3,a4⟩:=kV c h.ch.1 _ _ (tD (Km r) h.cnt.1) (by rw[h.sum,h.len,Ajs]) y hy;have:=h.le;exact⟨a1,F0,a3,λv hv=>h.rng v (a4 v hv)⟩
omit h in
theorem Amw(p:LB):(NM c w r n x p).length=(Gf (Am r) n).length:=by rw[NM,List.length_map];exact ZT _ _ _
theorem Abw(p:LB):1<= (NM c w r n x p).length/\ (NM c w r n x p).length<=1000:=by
 rw[Amw,dL];exact⟨Nat.le_add_left _ _,h.fr⟩
theorem su(p:LB):((NM c w r n x p).flatten).length<=15*x.length:=by
 have:=Af6 (w:Int) c (Tt p) (Aat c r n x) λy hy=>⟨(pJ h y hy).1,(pJ h y hy).2.1⟩;rw[Ad5 h]at this;exact this
theorem uw(p:LB):∀f∈NM c w r n x p,5<=f.length:=by
 intro f hf;rw[NM,List.mem_map]at hf;obtain⟨y,hy,rfl⟩:=hf;exact(vU _ _ _ _ (pJ h y hy).1 (pJ h y hy).2.1).1
theorem Z2(p:LB):yU (Ic (NM c w r n x p))=true:=by
 have h1:=Abw h p;have h2:=su h p;have h3:=h.le;simp only[yU,Afq,Aef];rw[uI _ _ F0,Xf,wN];refine⟨F0,λz hz=>?_,F0⟩;rw[Ic,List.mem_map]at hz;obtain⟨f,hf,rfl⟩:=hz;have:=uw h p f hf;omega
omit h in
theorem pT(p:LB):(ML c w r n x p).length=22+(if Zv p=2 then 8 else 0)+(4*(NM c w r n x p).length+4)+(NM c w r n x p).flatten.length:=by
 rw[ML,Abp,Abp,Abp,pM,zR,yR,Xf];omega
theorem Ajm(p:LB):(ML c w r n x p).length<=34+4*(NM c w r n x p).length+15*x.length:=by
 have h1:=pT (c:=c) (w:=w) (r:=r) (n:=n) (x:=x) p;have h2:=su h p;split at h1<;>omega
theorem H9(p:LB):(ML c w r n x p).length<=64034:=by
 have:=Ajm h p;have:=Abw h p;have:=h.le;omega
end
theorem sH:∀{l:LI},(∀x∈l,0<=x)->∀k,0<= (l.take k).sum
 |[],_,k=>by simp
 |x::l,h,0=>by simp
 |x::l,h,k+1=>by
  have:=sH (l:=l) (λy hy=>h y (Am5 _ hy)) k;have:=h x Aqz;rw[List.take_succ_cons,Ast];omega
theorem xN(c:Nat)(h1:1<=c):∀(l:LI) (x:LX),(∀m∈l,1<=m)->x.length=l.sum.toNat*c->∀(k:Nat) (hk:k<l.length) (hk':k<(Gt c x l).length),(Gt c x l)[k].length=l[k].toNat*c
 |[],x,_,_=>λk hk=>absurd hk (Aqw _)
 |m::l,x,hm,hx=>by
  have hm1:=hm m Aqz;have hl:0<=l.sum:=by
   have:=sH (l:=l) (λy hy=>by have:=hm y (Am5 _ hy);omega) l.length;rw[Aut]at this;exact this
  rw[Ast,show(m+l.sum).toNat=m.toNat+l.sum.toNat by omega,Aim]at hx;intro k hk hk';cases k with
  |zero=>simp only[Gt,List.getElem_cons_zero,Af3];omega
  |succ k=>
   simp only[Gt,List.getElem_cons_succ];exact xN c h1 l (x.drop (m.toNat*c)) (λm hm'=>hm m (Am5 _ hm')) Aw4 k (by simpa using hk) _
structure FileOf (c w r n:Nat) (x:LX) (p:LB) (T:Nat) (fs:List LB) (z b:LB):Prop where
 clip:ClipOk c w r n x
 pass:p.length<=64
 front:Ww b=((T:Int),0)
 le:b.length<=100000
 lens:Ic fs=Ic (NM c w r n x p)
 form:b.drop T=R5 (Zv p) c w r n++(nS p++(jm (Ic (NM c w r n x p))++(fs.flatten++z)))
section
variable {c w r n:Nat} {x:LX} {p:LB} {T:Nat} {fs:List LB} {z b:LB} (h:FileOf c w r n x p T fs z b)
include h
theorem FileOf.cnt:fs.length=(NM c w r n x p).length:=by
 have:=congrArg List.length h.lens;rw[Xf,Xf]at this;exact this
end
theorem Am1(fs:List LB):∀x∈Ic fs,0<=x:=by
 intro x hx;rw[Ic,List.mem_map]at hx;obtain⟨f,_,rfl⟩:=hx;omega
def Cd(e:Int):Prop:=e=0\/e=4\/e=12\/e=16\/e=22\/e=24\/e=26\/e=38
instance(e:Int):Decidable (Cd e):=by unfold Cd;infer_instance
structure HdI (f c w r n:Int) (F C W R N:Nat):Prop where
 ef:f=F
 ec:c=C
 ew:w=W
 er:r=R
 en:n=N
 shape:Uz F C W R N=true
 fit:qJ C R N=true
theorem Alk(l:List α):geq (Ac l) 0=decide (l=[]):=by
 cases l with
 |nil=>rfl
 |cons x l=>rw[Ba,Ac,Al4,Anr Av2,beq_eq_false_iff_ne];omega
theorem nR(l:List α):Da (Ac l) 0=decide (l≠ []):=by
 cases l with
 |nil=>rfl
 |cons x l=>rw[Ar,Ac,Al4,Auc Av2];simp
inductive FitD (o:LB) (f c w r n:Int) (g:LI) (a:Int) (x:LB):Prop
 |new:f=0->c=0->w=0->r=0->n=0->g=[]->a=0->x=[]->FitD o f c w r n g a x
 |head (F C W R N:Nat):HdI f c w r n F C W R N-> (o==([]:LB))=decide (F=1)->g=[]->a=0->x=[]->FitD o f c w r n g a x
 |tab (F C W R N A:Nat):HdI f c w r n F C W R N-> (o==([]:LB))=decide (F=1)->yU g=true->g.length=(Gf (Am R) N).length->a=A->A<=g.length->FitD o f c w r n g a x
def ID3:LB:=[73,68,51]
def APX:LB:=[65,80,69,84,65,71,69,88]
def Afz(b s:LB):Bool:=decide (b.length<s.length)&&(b==s.take b.length)
theorem J3(b s:LB):Qu b s=some (Afz b s):=by
 rw[Qu,Afz];by_cases h:b.length<s.length
 ·rw[Abh Awu,Ac,Tu,Aa,Auc h,Avc];rfl
 ·rw[Aa1 Awu,Anr h];rfl
def stS(b:LB):Int×Int×Int×Int×Int×Int×Int:=
 if(Ww b).2=24 then(0,0,0,0,0,0, -1)else if(Ww b).2≠0 then(0,0,0,0,0,0,(Ww b).2)else
 if(Afz (jo b) ID3||Afz (jo b) APX)=true then(0,0,0,0,0,0, -1)else
 if(AG (jo b)).2.2.2.2.2=24 then(0,0,0,0,0,0, -1)else((Ww b).1+22,(AG (jo b)).1,(AG (jo b)).2.1,(AG (jo b)).2.2.1,(AG (jo b)).2.2.2.1,(AG (jo b)).2.2.2.2.1,(AG (jo b)).2.2.2.2.2)
theorem za(b:LB)(hb:b.length<=100000):Xl b=some (stS b):=by
 rw[Xl,BT,O6 b F0,Aa,stS];have hok:=Ad6 (b:=b);simp only;by_cases h1:(Ww b).2=24
 ·rw[Abh (by rw[Ba];simpa using h1),Abh h1]
 rw[Aa1 (by rw[Ba];simpa using h1),Aa1 h1];by_cases h2:(Ww b).2≠0
 ·rw[Abh (by rw[Bl];simpa using h2),Abh h2]
 have h0:(Ww b).2=0:=by simpa using h2
 obtain⟨k1,k2,k3⟩:=hok h0;rw[Aa1 (by rw[Bl,h0];simp),Aa1 h2,Yo,Aa,J3,Aa,show b.drop (Ww b).1.toNat=jo b from rfl,show([73,68,51]:LB)=ID3 from rfl,show([65,80,69,84,65,71,69,88]:LB)=APX from rfl];by_cases h3:Afz (jo b) ID3=true
 ·rw[Abh h3,h3,Bool.true_or,Abh rfl]
 rw[Aa1 h3,J3,Aa,Bool.eq_false_iff.2 h3,Bool.false_or];by_cases h4:Afz (jo b) APX=true
 ·rw[Abh h4,Abh h4]
 have hl:(jo b).length<=b.length:=by rw[jo,Aqi];omega
 rw[Aa1 h4,Aa1 h4,BR,CB,Agz _ F0,Aa];simp only;by_cases h5:(AG (jo b)).2.2.2.2.2=24
 ·rw[Abh (by rw[Ba];simpa using h5),Abh h5]
 ·rw[Aa1 (by rw[Ba];simpa using h5),Aa1 h5,Ag]
structure SzD (p:LB) (g:LI) (a:Int) (x:LB):Prop where
 hp:p.length<=100000
 hg:g.length<=1000
 hx:x.length+12000*(g.length-a.toNat)<=13000000
section
variable {bk:LB->Int->Int->Int->Int->Int->Int->LI->LB->Xq} {o p:LB} {f c w r n:Int} {g:LI} {a:Int} {x:LB} {u:Bool} {v:Int}
theorem f75{d:Bool}{e:Int}:qZ bk o u v f c w r n a x d e p g=WA bk o u v p f c w r n a d e g x:=rfl
end
theorem bnd{β:Type}{o:Option α}{f:α->Option β}{r:β}(h:Option.bind o f=some r):∃x,o=some x/\f x=some r:=by
 cases o with
 |none=>cases h
 |some x=>exact⟨x,rfl,h⟩
def OutB(f c w r n:Int)(g:LI)(a:Int)(x:LB):Prop:=∀(F C W R N A:Nat),HdI f c w r n F C W R N->g≠ []->a=(A:Int)-> (x.length:Int)<=Aji C W (Gf (Am R) N) A
theorem OutB.nil{f c w r n:Int}{a:Int}{x:LB}:OutB f c w r n [] a x:=λ_ _ _ _ _ _ _ h=>absurd rfl h
theorem OutB.zero{f c w r n:Int}{g:LI}:OutB f c w r n g 0 []:=λF C W R N A h hg ha=>by
 obtain rfl:A=0:=F0
 rw[Aag];simp
structure Wt (o p:LB) (f c w r n:Int) (g:LI) (a:Int) (x:LB):Prop where
 fit:FitD o f c w r n g a x
 sz:SzD p g a x
 out:OutB f c w r n g a x
 wait:FL o p f c w r n g a x false 0=some (o,p,f,c,w,r,n,g,a,x,false,0, -1)
abbrev An1(q:Nat)(o p:LB)(f c w r n:Int)(g:LI)(a:Int)(x:LB):=KU q o p f c w r n g a x false 0
abbrev Fd(o s:LB):=An1 Aq o s 0 0 0 0 0 [] 0 []
inductive Bh (o s:LB):LB->Int->Int->Int->Int->Int->LI->Int->LB->Int->Prop
 |wt {p:LB} {f c w r n:Int} {g:LI} {a:Int} {x:LB}:Wt o p f c w r n g a x->p.length<=s.length-> (∀b:LB,(s++b).length<=100000->Fd o (s++b)=An1 Aq o (p++b) f c w r n g a x)->Bh o s p f c w r n g a x 0
 |er {x:LB} {e:Int}:0<e->Cd e->x.length<=12000-> (∀b:LB,(s++b).length<=100000->Fd o (s++b)=some (o,[],0,0,0,0,0,[],0,x,false,e,e))->Bh o s [] 0 0 0 0 0 [] 0 x e
variable {o s p:LB} {f c w r n:Int} {g:LI} {a:Int} {x:LB} {e:Int}
theorem Bh.new(ho:o.length<=64):Bh o [] [] 0 0 0 0 0 [] 0 [] 0:=by
 refine .wt ⟨.new rfl rfl rfl rfl rfl rfl rfl rfl,⟨Av2,Av2,Av2⟩,OutB.nil,?_⟩ (Aqe _) λb _=>rfl;rw[FL,KF,Abh F3,za [] Av2,Aa];rfl
end Go.Pl
namespace Go.Pl
open Go Go.Lv
section
variable {o s p:LB} {f c w r n:Int} {g:LI} {a:Int} {x:LB} {e:Int}
theorem FitD.drop(h:FitD o f c w r n g a x)(t:Nat):FitD o f c w r n g a (x.drop t):=by
 cases h with
 |new e1 e2 e3 e4 e5 e6 e7 e8=>subst e8;exact .new e1 e2 e3 e4 e5 e6 e7 Av2
 |head F C W R N hd hpw e6 e7 e8=>subst e8;exact .head F C W R N hd hpw e6 e7 Av2
 |tab F C W R N A hd hpw ht hl ea hA=>exact .tab F C W R N A hd hpw ht hl ea hA
theorem OutB.drop(h:OutB f c w r n g a x)(t:Nat):OutB f c w r n g a (x.drop t):=by
 intro F C W R N A hd hg ha;have:=h F C W R N A hd hg ha;rw[Aqi];omega
end
theorem zH{w:Nat}(hw:Bg (w:Int)){X:LX}(hl:X.length<=4000)(hr:H2 (w:Int) X):CU (w:Int) X=some (Dl (w:Int) X,0):=Aae hw hl (WQ hw hl hr)
theorem qS{t z:LB}{i:Nat}(h:i<t.length):Og (t++z) i=Og t i:=by
 rw[Og,Og,List.getD_eq_getElem?_getD,List.getD_eq_getElem?_getD,List.getElem?_append_left h]
theorem hU(t:LB)(a i:Nat):Og (t.drop a) i=Og t (a+i):=by
 rw[Og,Og,List.getD_eq_getElem?_getD,List.getD_eq_getElem?_getD,List.getElem?_drop]
theorem An9{w:Nat}(hw:Bg (w:Int)){t z:LB}{a:Nat}(h:a+wB (w:Int)<=t.length):sx (wB (w:Int)) (t++z) a=sx (wB (w:Int)) t a:=by
 rcases hw with hw|hw|hw
 ·rw[hw]at h⊢;have e:wB 8=1:=rfl;rw[e]at h⊢;rw[sx,sx,Abh rfl,Abh rfl,qS F0]
 ·rw[hw]at h⊢;have e:wB 16=2:=rfl;rw[e]at h⊢;rw[sx2,sx2,qS F0,qS F0]
 ·rw[hw]at h⊢;have e:wB 24=3:=rfl;rw[e]at h⊢;rw[sx3,sx3,qS F0,qS F0,qS F0]
theorem Amc{w:Nat}(hw:Bg (w:Int))(t:LB)(a b:Nat):sx (wB (w:Int)) (t.drop a) b=sx (wB (w:Int)) t (a+b):=by
 rcases hw with hw|hw|hw
 ·rw[hw,show wB 8=1 from rfl,sx,sx,Abh rfl,Abh rfl,hU]
 ·rw[hw,show wB 16=2 from rfl,sx2,sx2,hU,hU];rfl
 ·rw[hw,show wB 24=3 from rfl,sx3,sx3,hU,hU,hU];rfl
theorem P0{w:Nat}(hw:Bg (w:Int)){t z:LB}{m:Nat}(h:m*wB (w:Int)<=t.length):NP (wB (w:Int)) m (t++z)=NP (wB (w:Int)) m t:=by
 rw[NP,NP];apply Avg;intro x hx;have hx:=List.mem_range.1 hx;have h2:(x+1)*wB (w:Int)<=m*wB (w:Int):=Af0 _ hx;rw[Aim,Aqu]at h2;rw[An9 hw F0]
theorem Acd{w:Nat}(hw:Bg (w:Int))(t:LB)(m j:Nat):NP (wB (w:Int)) (m+j) t=NP (wB (w:Int)) m t++NP (wB (w:Int)) j (t.drop (m*wB (w:Int))):=by
 rw[NP,NP,NP,List.range_add,At8,List.map_map];congr 1;apply Avg;intro x hx
 show Int32.ofInt (sx (wB (w:Int)) t ((m+x)*wB (w:Int)))=_;rw[Amc hw,Aim]
theorem Aop{w:Nat}(hw:Bg (w:Int))(t:LB)(a:Nat): -(hB (w:Int))<=sx (wB (w:Int)) t a/\sx (wB (w:Int)) t a<hB (w:Int):=by
 have b0:=WW t a;have b1:=WW t (a+1);have b2:=WW t (a+2);rcases hw with hw|hw|hw
 ·rw[hw,show wB 8=1 from rfl,show hB 8=128 from rfl,sx,Abh rfl];omega
 ·rw[hw,show wB 16=2 from rfl,show hB 16=32768 from rfl,sx2];split<;>omega
 ·rw[hw,show wB 24=3 from rfl,show hB 24=8388608 from rfl,sx3];split<;>omega
theorem N6{w:Nat}(hw:Bg (w:Int))(m:Nat)(t:LB):H2 (w:Int) (NP (wB (w:Int)) m t):=by
 intro x hx;rw[NP,List.mem_map]at hx;obtain⟨k,_,rfl⟩:=hx;have h:=Aop hw t (k*wB (w:Int));have hh:=LN (w:Int);rw[fF F0 F0];exact h
theorem gU(c L:Nat):∀(k:Nat) (x y:LX),k*(L*c)<=x.length->Gt c (x++y) (List.replicate k (L:Int))=Gt c x (List.replicate k (L:Int))
 |0,x,y,_=>rfl
 |k+1,x,y,h=>by
  rw[Aim,Aqu]at h;rw[As8,Gt,Gt,Ajs,Aus F0,Atf F0,gU c L k _ y Aw4]
theorem pX(c:Nat):∀(l m:LI) (x:LX),(∀z∈l,0<=z)->Gt c x (l++m)=Gt c x l++Gt c (x.drop (l.sum.toNat*c)) m
 |[],m,x,_=>by simp[Gt]
 |z::l,m,x,h=>by
  have hz:=h z Aqz;have hl:0<=l.sum:=Ajg λy hy=>h y (Am5 _ hy);rw[Aur,Gt,Gt,pX c l m _ (λy hy=>h y (Am5 _ hy)),Aur,Auv,Ast,show(z+l.sum).toNat=z.toNat+l.sum.toNat by omega,Aim]
theorem Agn(k L:Nat):∀z∈List.replicate k (L:Int),0<=z:=λz hz=>by rw[(List.mem_replicate.1 hz).2];omega
theorem zD(k L c:Nat):(List.replicate k (L:Int)).sum.toNat*c=k*(L*c):=by rw[L4,Ajs,Ar3]
theorem zm(c L k:Nat)(x:LX)(h:x.length=(k+1)*(L*c)):Gt c x (List.replicate (k+1) (L:Int))=Gt c x (List.replicate k (L:Int))++[x.drop (k*(L*c))]:=by
 rw[List.replicate_succ',pX c _ _ _ (Agn k L),zD,Gt,Gt,Ajs,Aka (by rw[Aqi,h,Aim];omega)]
theorem Aww{p:Prop}(h:p:=by rw[Ar,Ac];simp only[Aef];omega):p:=h
theorem Awp{p:Prop}(h:p:=by rw[Hl,Ac];simp;omega):p:=h
theorem Awh{p:Prop}(h:p:=by rw[Aim,Aqu];omega):p:=h
theorem Av7{p:Prop}(h:p:=by rw[<-Ana];omega):p:=h
theorem Awq{p:Prop}(h:p:=by rw[Af3];omega):p:=h
end Go.Pl
namespace Go.Pl
open Go Go.Lv
structure EncOk (c w r:Nat) (p:LB):Prop where
 ch:1<=c/\c<=6
 bits:Bg (w:Int)
 rate:1<=r/\r<=1048576
 pass:p.length<=64
def jS(c w:Nat):Nat:=c*wB (w:Int)
def nE(c w:Nat)(t:LB):Nat:=t.length/jS c w
def XE(c w:Nat)(t:LB):LX:=NP (wB (w:Int)) (nE c w t*c) t
def RE(c w:Nat)(t:LB):LB:=t.drop (nE c w t*jS c w)
def kE(c w r:Nat)(t:LB):Nat:=nE c w t/Am r
def SE(c w r:Nat)(t:LB):LX:=(XE c w t).drop (kE c w r t*(Am r*c))
def FE(c w r:Nat)(p t:LB):List LB:=(Gt c (XE c w t) (List.replicate (kE c w r t) (Am r:Int))).map (DK (w:Int) c (Tt p))
def Rp(c r n:Nat):Prop:=n*c<=4000/\ (n=0\/ (n-1)/Am r+1<=1000)
instance(c r n:Nat):Decidable (Rp c r n):=by unfold Rp;exact inferInstance
theorem Rp.mono{c r n m:Nat}(h:Rp c r n)(hm:m<=n):Rp c r m:=by
 obtain⟨h1,h2⟩:=h;have h3:=Af0 c hm;have h4:(m-1)/Am r<= (n-1)/Am r:=Au7 F0;refine⟨F0,?_⟩;omega
section
variable {c w r:Nat} {p:LB} (h:EncOk c w r p) (t:LB)
include h
theorem fD:1<=jS c w/\jS c w<=18:=by
 have h1:=vN (w:Int);have h2:=h.ch;have h3:=Avf (show 0<c by omega) (show 0<wB (w:Int) by omega);have h4:c*wB (w:Int)<=6*3:=Arb h2.2 h1.2;unfold jS;omega
theorem Acp:Rt (c:Int) (w:Int)=some (jS c w:Int):=by
 have h2:=h.ch;have hw3:w=8\/w=16\/w=24:=by have:=h.bits;unfold Bg at this;omega
 rcases hw3 with rfl|rfl|rfl
 ·show some (Ay (Bc (c:Int) (8:Int)) 8)=_;rw[Gu,show(c:Int)*8=((c*8:Nat):Int) by omega,show(8:Int)=((8:Nat):Int)from rfl,Oy,jS,show wB ((8:Nat):Int)=1 from rfl];congr 2;omega
 ·show some (Ay (Bc (c:Int) (16:Int)) 8)=_;rw[Gu,show(c:Int)*16=((c*16:Nat):Int) by omega,show(8:Int)=((8:Nat):Int)from rfl,Oy,jS,show wB ((16:Nat):Int)=2 from rfl];congr 2;omega
 ·show some (Ay (Bc (c:Int) (24:Int)) 8)=_;rw[Gu,show(c:Int)*24=((c*24:Nat):Int) by omega,show(8:Int)=((8:Nat):Int)from rfl,Oy,jS,show wB ((24:Nat):Int)=3 from rfl];congr 2;omega
theorem wC:t.length=nE c w t*jS c w+(RE c w t).length/\ (RE c w t).length<jS c w:=by
 have hs:=fD h;have h1:=At9 t.length (jS c w);have h2:=At4 t.length (show 0<jS c w by omega);rw[Anw]at h1;have e:(RE c w t).length=t.length-nE c w t*jS c w:=by rw[RE,Aqi]
 have e2:nE c w t*jS c w=t.length/jS c w*jS c w:=rfl;omega
omit h in
theorem fA:(XE c w t).length=nE c w t*c:=ER _ _ _
theorem rF:H2 (w:Int) (XE c w t):=N6 h.bits _ _
theorem vT:nE c w t=kE c w r t*Am r+nE c w t %Am r/\nE c w t %Am r<Am r:=by
 have _:=h;have hp:=Km r;have h1:=At9 (nE c w t) (Am r);rw[Anw]at h1;exact⟨h1.symm,At4 _ F0⟩
theorem PN:(SE c w r t).length=nE c w t %Am r*c:=by
 have h1:=(vT h t).1;rw[SE,Aqi,fA]
 conv=>lhs;rw[h1]
 rw[Aim,<-Ar3,At6]
omit h in
theorem dY:(FE c w r p t).length=kE c w r t:=by rw[FE,List.length_map,ZT,Anf]
theorem Aix(b:UInt8)(hl:(RE c w t).length+1<jS c w):nE c w (t++[b])=nE c w t/\XE c w (t++[b])=XE c w t/\RE c w (t++[b])=RE c w t++[b]:=by
 have h1:=wC h t;have hs:=fD h;have hn:nE c w (t++[b])=nE c w t:=by
  rw[nE,Abp,Ass];exact Aub F0 Awh
 refine⟨hn,?_,?_⟩
 ·rw[XE,hn,XE];exact P0 h.bits (by
   have e:nE c w t*c*wB (w:Int)=nE c w t*jS c w:=by rw[jS,Ar3]
   rw[e];omega)
 ·rw[RE,hn,RE,Atf F0]
theorem Aip(b:UInt8)(hl:¬(RE c w t).length+1<jS c w):(RE c w t).length+1=jS c w/\nE c w (t++[b])=nE c w t+1/\XE c w (t++[b])=XE c w t++NP (wB (w:Int)) c (RE c w t++[b])/\RE c w (t++[b])=[]:=by
 have h1:=wC h t;have hs:=fD h;have hn:nE c w (t++[b])=nE c w t+1:=by
  rw[nE,Abp,Ass];exact Aub Awh (by rw[Aim,Aim,Aqu];omega)
 have e:nE c w t*c*wB (w:Int)=nE c w t*jS c w:=by rw[jS,Ar3]
 refine⟨F0,hn,?_,?_⟩
 ·rw[XE,hn,Aim,Aqu,Acd h.bits,P0 h.bits (by rw[e];omega),e,Atf F0];rfl
 ·rw[RE,hn,Asf];rw[Abp,Ass,Aim,Aqu];omega
theorem vP:kE c w r t*(Am r*c)<= (XE c w t).length:=by
 have h1:=(vT h t).1;rw[fA]
 conv=>rhs;rw[h1]
 rw[Aim,<-Ar3];omega
theorem Am8{b:UInt8}(hl:(RE c w t).length+1<jS c w):kE c w r (t++[b])=kE c w r t/\SE c w r (t++[b])=SE c w r t/\FE c w r p (t++[b])=FE c w r p t:=by
 obtain⟨h1,h2,h3⟩:=Aix h t b hl;have hk:kE c w r (t++[b])=kE c w r t:=by rw[kE,h1,kE]
 exact⟨hk,by rw[SE,hk,h2,SE],by rw[FE,hk,h2,FE]⟩
theorem Anp{b:UInt8}(hl:¬(RE c w t).length+1<jS c w):
  ((SE c w r t++NP (wB (w:Int)) c (RE c w t++[b])).length<Am r*c->kE c w r (t++[b])=kE c w r t/\SE c w r (t++[b])=SE c w r t++NP (wB (w:Int)) c (RE c w t++[b])/\FE c w r p (t++[b])=FE c w r p t)/\
  (¬(SE c w r t++NP (wB (w:Int)) c (RE c w t++[b])).length<Am r*c-> (SE c w r t++NP (wB (w:Int)) c (RE c w t++[b])).length=Am r*c/\kE c w r (t++[b])=kE c w r t+1/\SE c w r (t++[b])=[]/\FE c w r p (t++[b])=FE c w r p t++[DK (w:Int) c (Tt p) (SE c w r t++NP (wB (w:Int)) c (RE c w t++[b]))]):=by
 obtain⟨_,h1,h2,h3⟩:=Aip h t b hl;obtain⟨d1,d2⟩:=vT h t;have hsl:=PN h t;have hc:=h.ch;have hp:=Km r;have hdk:=vP h t;have hlen:(SE c w r t++NP (wB (w:Int)) c (RE c w t++[b])).length=(nE c w t %Am r+1)*c:=by rw[Abp,hsl,ER,Aim,Aqu]
 rw[hlen];constructor
 ·intro hlt;have hlt2:nE c w t %Am r+1<Am r:=Nat.lt_of_mul_lt_mul_right hlt;have hk:kE c w r (t++[b])=kE c w r t:=by
   rw[kE,h1];exact Aub F0 Awh
  refine⟨hk,?_,?_⟩
  ·rw[SE,hk,h2,Atf hdk,SE]
  ·rw[FE,hk,h2,gU c (Am r) _ _ _ hdk,FE]
 ·intro hge;have Avq:Am r<=nE c w t %Am r+1:=by
   refine Nat.le_of_not_lt λhh=>hge ?_;exact Nat.mul_lt_mul_of_pos_right hh hc.1
  have heq:nE c w t %Am r+1=Am r:=F0
  have hk:kE c w r (t++[b])=kE c w r t+1:=by
   rw[kE,h1];exact Aub Awh (by rw[Aim,Aim,Aqu];omega)
  have hXl:(XE c w (t++[b])).length=(kE c w r t+1)*(Am r*c):=by
   rw[fA,h1,<-Ar3];congr 1;rw[Aim,Aqu];omega
  refine⟨by rw[heq],hk,?_,?_⟩
  ·rw[SE,hk,<-hXl,At2]
  ·rw[FE,hk,zm c (Am r) _ _ hXl,At8,h2,gU c (Am r) _ _ _ hdk,Atf hdk,FE];rfl
theorem Aas(hR:Rp c r (nE c w t)):∀f∈FE c w r p t,5<=f.length/\f.length<= (81*(Am r*c)+7)/8+4:=by
 intro f hf;obtain⟨y,hy,rfl⟩:=List.mem_map.1 hf;have hx:(XE c w t).take (kE c w r t*(Am r*c))++(XE c w t).drop (kE c w r t*(Am r*c))=XE c w t:=Aul _ _;have hdk:=vP h t;have hpr:=gU c (Am r) (kE c w r t) ((XE c w t).take (kE c w r t*(Am r*c))) ((XE c w t).drop (kE c w r t*(Am r*c))) Awq;rw[hx]at hpr;rw[hpr]at hy;have hp:=Km r;obtain⟨k,hk,hk2⟩:=List.getElem_of_mem hy;have hl1:∀z∈List.replicate (kE c w r t) (Am r:Int),1<=z:=λz hz=>by rw[(List.mem_replicate.1 hz).2];omega
 have hlx:((XE c w t).take (kE c w r t*(Am r*c))).length=(List.replicate (kE c w r t) (Am r:Int)).sum.toNat*c:=by rw[zD,Af3];omega
 have hg:=xN c h.ch.1 _ _ hl1 hlx k (by rw[ZT]at hk;exact hk) hk;rw[hk2,List.getElem_replicate,Ajs]at hg;obtain⟨a1,a2,_,_⟩:=kV c h.ch.1 _ _ hl1 hlx y hy;have hle:y.length<=4000:=by
  have:=hR.1;have h2:((XE c w t).take (kE c w r t*(Am r*c))).length<= (XE c w t).length:=by rw[Af3];omega
  rw[fA]at h2;omega
 have h5:=je (w:Int) c (Tt p) y a1 hle;have he:=JL c (Fg (w:Int) c (Tt p) y) y.length;refine⟨h5.1,?_⟩;rw[DK,Abp,Bi,P9,Rs,<-hg];omega
omit h in
theorem I6(b:List LB)(f a M:Int)(hM:Ae (Ay (Ae (Bc (Bc 81 f) a) 7) 8) 4=M)(hb:b.length<=100000)(hm:∀y∈b,5<=y.length/\ (y.length:Int)<=M):∀(j i q:Nat),i+j=b.length->j<q->Du b f a q (i:Int)=some true
 |j,i,0,_,h=>absurd h (Aqw _)
 |0,i,q+1,hi,_=>by
  rw[Du,Jh,Aa1 F2];rfl
 |j+1,i,q+1,hi,hq=>by
  have ih:=I6 b f a M hM hb hm j (i+1) q F0 F0;have hy:=hm b[i] (Asx _);have hi1:Ae (i:Int) 1=((i+1:Nat):Int):=by rw[Ag];omega
  rw[Du,Jh,Abh F2,Ca,Aa,Qi,Zl,hM,Aa1 Awy,Za,Zf,hi1];exact ih
theorem E7:Qg (c:Int) (w:Int) (r:Int) p=some ((Am r:Int),true):=by
 have hp:=h.pass;rw[Qg,gK h.rate.1 h.rate.2,Aa];simp only;rw[Aah h.bits h.ch.1 h.ch.2,Aa];simp[Ba,Sm,Ac];omega
theorem rC(hR:Rp c r (nE c w t))(p' m' n':LB)(u:Bool)(v k o:Int):Qe (c:Int) k o p' m' (SE c w r t) (FE c w r p t) n' u v (Am r:Int)=some (nE c w t:Int):=by
 have hc:=h.ch;obtain⟨d1,d2⟩:=vT h t;have hsl:=PN h t;have hlt:=EM h.rate.2;have hn:nE c w t<=4000:=by
  have:=hR.1;have:nE c w t*1<=nE c w t*c:=At1 _ hc.1;omega
 have e1:Bc (Ac (FE c w r p t)) (Am r:Int)=((kE c w r t*Am r:Nat):Int):=by
  rw[Ac,dY,Gu Av7 Av7,<-Ana]
 have e2:Ay (Ac (SE c w r t)) (c:Int)=((nE c w t %Am r:Nat):Int):=by
  rw[Ac,hsl,Oy (by
   have:nE c w t %Am r*c<=nE c w t*c:=Af0 _ (Avm _ _);have:=hR.1;omega),Auq _ F0]
 rw[Qe,Bt Av1,Aa,e1,e2,Ag];congr 1;omega
theorem E5(hR:Rp c r (nE c w t)):Uu (c:Int) (w:Int) (r:Int) p (RE c w t) (SE c w r t) (FE c w r p t) [] false 0=some 0:=by
 have hc:=h.ch;have hw:=h.bits;obtain⟨d1,d2⟩:=vT h t;have hsl:=PN h t;have htl:=wC h t;have hlt:=EM h.rate.2;have hp:=Km r;have hfl:=dY (c:=c) (w:=w) (r:=r) (p:=p) t;have hn4:=hR.1;have hmod:nE c w t %Am r*c<=nE c w t*c:=Af0 _ (Avm _ _);have hn:nE c w t<=4000:=by
  have:nE c w t*1<=nE c w t*c:=At1 _ hc.1;omega
 have hfr:kE c w r t+(if 0<nE c w t %Am r then 1 else 0)<=1000:=by
  rcases hR.2 with h0|h0
  ·have:kE c w r t=0:=by rw[kE,h0];exact Avs _
   rw[h0,Nat.zero_mod,this];decide
  ·generalize hq:Am r=L at*
   have hk:kE c w r t=nE c w t/L:=by rw[kE,hq]
   by_cases hz:0<nE c w t %L
   ·rw[Abh hz];have:(nE c w t-1)/L=kE c w r t:=Aub F0 Awh;omega
   ·rw[Aa1 hz];by_cases hk0:kE c w r t=0
    ·omega
    ·obtain⟨k',hk'⟩:∃k',kE c w r t=k'+1:=⟨kE c w r t-1,F0⟩;rw[hk',Aim,Aqu]at d1;have:(nE c w t-1)/L=k':=Aub F0 Awh;omega
 have hcnt:=rC h t hR p (RE c w t) [] false 0 (w:Int) (r:Int);have hin:H2 (w:Int) (SE c w r t):=λv hv=>rF h t v (Aue hv);have hwc:Po (w:Int) (SE c w r t)=some 0:=by rw[QH hw _ F0,WQ hw F0 hin]
 have hroom:∀k:Int,k<=1000->Py (c:Int) (w:Int) (r:Int) p (RE c w t) (SE c w r t) (FE c w r p t) [] false 0 k (nE c w t:Int)=some true:=by
  intro k hk;rw[Py,Gu Av7 Av7,<-Ana];simp[Sm];omega
 have hLc:Am r*c<=1100000*6:=Arb F0 hc.2;have hM:Ae (Ay (Ae (Bc (Bc 81 (Am r:Int)) (c:Int)) 7) 8) 4=(((81*(Am r*c)+7)/8+4:Nat):Int):=by
  have e1:Bc 81 (Am r:Int)=((81*Am r:Nat):Int):=by rw[Gu];omega
  have e2:Bc ((81*Am r:Nat):Int) (c:Int)=((81*(Am r*c):Nat):Int):=by
   rw[Gu (by rw[<-Ana,Ar3];omega) (by rw[<-Ana,Ar3];omega),<-Ana,Ar3]
  rw[e1,e2,Ag (a:=((81*(Am r*c):Nat):Int)) (b:=7) F0 F0,show((81*(Am r*c):Nat):Int)+7=((81*(Am r*c)+7:Nat):Int) by omega,show(8:Int)=((8:Nat):Int)from rfl,Oy,Ag];omega
 have hloop:=I6 (FE c w r p t) (Am r:Int) (c:Int) _ hM F0 (λy hy=>by
  have:=Aas h t hR y hy;omega) (FE c w r p t).length 0 Aq F0 F7
 have Asc:Oz (c:Int) (w:Int) (r:Int) p (RE c w t) (SE c w r t) (FE c w r p t) [] false 0 (Am r:Int)=some true:=by
  have Aqc:Ay (Ac (SE c w r t)) (c:Int)=((nE c w t %Am r:Nat):Int):=by
   rw[Ac,hsl,Oy,Auq _ F0]
  have Aty:Fm (Ac (SE c w r t)) (c:Int)=0:=by rw[Ac,hsl,AV,Asi];rfl
  have hkk:kE c w r t<=1000:=by split at hfr<;>omega
  rw[Oz,Th,Aa1 F3,Acp h,Aa,Aa1 Awp,Bt Av1,Aa,Aty,Aa1 F3,Aa,Aqc,Aa1 (by simp[Hl,Ar,Ac,hfl];omega),Qn,Qr,hwc,Aa,Aa1 F3];by_cases hz:0<nE c w t %Am r
  ·rw[Abh hz]at hfr;have hpos:=Avf hz (show 0<c by omega);rw[Abh Av3,Md,Mb,hcnt,Aa,Ac,hfl,Ag,hroom _ F0,Aa,Aa1 F3,Ra,Ly,Ql];exact hloop
  ·have h0:nE c w t %Am r=0:=F0
   rw[h0,Au5]at hsl;rw[Aa1 Aww,Md,Mb,hcnt,Aa,Ac,hfl,hroom _ F0,Aa,Aa1 F3,Ra,Ly,Ql];exact hloop
 rw[Uu,E7 h,Aa];simp only;rw[Aa1 F3,Aa1 F3,Aa1 F3,Asc,Aa,Aa1 F3]
end
theorem Av9{p:Prop}(h:p:=by rw[Af,Ac];simp only[Aef];omega):p:=h
theorem Awm{p:Prop}(h:p:=by rw[Af,Ac,Abp,Ass];simp;omega):p:=h
end Go.Pl
namespace Go.Pl
open Go Go.Lv
theorem jZ(a:List LB)(ha:∀y∈a,y.length<=17179869184)(w:List LB)(hw:w.length=a.length)(ha2:a.length<=100000)(b f g:Int)(h:LB)(k:Bool)(m:Int)(n:LB)(o:LX)(p:LB):∀(j i q:Nat),i+j=a.length->j<q->Pb w a b f g h k m n o p q (i:Int) a=some (b,f,g,h,n,o,a,p,k,m)
 |j,i,0,_,h=>absurd h (Aqw _)
 |0,i,q+1,hi,_=>by
  have hc:aS w a=a:=by rw[aS,hw,Aut,Asf F0,Ap2]
  rw[Pb,AS,hc,Aa1 F2];rfl
 |j+1,i,q+1,hi,hq=>by
  have ih:=jZ a ha w hw ha2 b f g h k m n o p j (i+1) q F0 F0;have hc:aS w a=a:=by rw[aS,hw,Aut,Asf F0,Ap2]
  have hi1:Ae (i:Int) 1=((i+1:Nat):Int):=by rw[Ag];omega
  have hy:=ha a[i] (Asx _);rw[Pb,AS,hc,Abh F2,Ca,Aa,Aa,Bv,As (by simpa using hy),Aa,Aa,Aa,Asa,Xn _ F0,Aa,List.set_getElem_self,hi1];exact ih
theorem Aiu{a:List LB}(ha:∀y∈a,y.length<=17179869184)(ha2:a.length<=100000)(b f g:Int)(h:LB){x:LB}{s:LX}{z:LB}(hx:x.length<=17179869184)(hs:s.length<=17179869184)(hz:z.length<=17179869184)(k:Bool)(m:Int):NT b f g h x s a z k m=some (b,f,g,h,x,s,a,z,k,m):=by
 have hl:=jZ a ha (List.replicate a.length []) (by rw[Anf]) ha2 b f g h k m x s z a.length 0 Aq F0 F7;have hc:aS (List.replicate a.length []) a=a:=by rw[aS,Anf,Aut,Asf (by rw[Anf];omega),Ap2]
 rw[NT,LV,Bv,As (by simpa using hx),Aa,Aa,Cx,As (by simpa using hs),Aa,Aa,Bv,As (by simpa using hz),Aa,Aa,aN,ME,I5 Awe Awe,Aa,Bt Aw6,Aa];simp only[Asa,Ac,Ajs,hc];exact hl
section
variable {c w r:Nat} {p:LB} (h:EncOk c w r p)
include h
theorem D0(t:LB)(hR:Rp c r (nE c w t)):AH (c:Int) (w:Int) (r:Int) p (RE c w t) (SE c w r t) (FE c w r p t) [] false 0=some ((c:Int),(w:Int),(r:Int),p,RE c w t,SE c w r t,FE c w r p t,[],false,0,(Am r:Int),0):=by
 have h1:=wC h t;have hs:=fD h;have hsl:=PN h t;have hfl:=dY (c:=c) (w:=w) (r:=r) (p:=p) t;have hn4:=hR.1;have hmod:nE c w t %Am r*c<=nE c w t*c:=Af0 _ (Avm _ _);have hn:nE c w t<=4000:=by
  have:nE c w t*1<=nE c w t*c:=At1 _ h.ch.1;omega
 have hk:kE c w r t<=nE c w t:=Aqh _ _;have hlt:=EM h.rate.2;have hLc:Am r*c<=1100000*6:=Arb F0 h.ch.2;have htw:=Aiu (a:=FE c w r p t) (λy hy=>by have:=Aas h t hR y hy;omega) F0 (c:Int) (w:Int) (r:Int) p (x:=RE c w t) (s:=SE c w r t) (z:=[]) F0 F0 Av2 false 0;rw[AH,UK,E5 h t hR,Aa,Aa1 F3,gK h.rate.1 h.rate.2,Aa];simp only;rw[Aa1 F3,Aa1 F3,XT,US,htw,Aa]
abbrev Asn:=Int×Int×Int×LB×LB×LX×(List LB)×LB×Bool×Int×Int
def iO(c w r:Nat)(p t:LB):Asn:=if Rp c r (nE c w t)then((c:Int),(w:Int),(r:Int),p,RE c w t,SE c w r t,FE c w r p t,[],false,0,0)else((c:Int),(w:Int),(r:Int),p,[],[],[],[],false,18,18)
theorem kO(t b:LB)(hb:b.length<=1000000):∀(j u q:Nat) (T:LB),u+j=b.length->j<q->T=t++b.take u->Rp c r (nE c w T)->If (jS c w:Int) b (c:Int) (w:Int) (r:Int) p false 0 (Am r:Int) [] q (u:Int) (RE c w T) (SE c w r T) (FE c w r p T)=some (iO c w r p (t++b))
 |j,u,0,T,_,h,_,_=>absurd h (Aqw _)
 |0,u,q+1,T,hu,_,hT,hR=>by
  rw[Aka F0]at hT;rw[If,Yh,Aa1 F2,IM,UU,iO,<-hT,Abh hR]
 |j+1,u,q+1,T,hu,hq,hT,hR=>by
  have hc:=h.ch;have hs:=fD h;have hu1:Ae (u:Int) 1=((u+1:Nat):Int):=by rw[Ag];omega
  have hT':T++[b[u]' F0]=t++b.take (u+1):=by rw[hT,Hh F0,Aqj]
  have hpre:(T++[b[u]' F0]).length<= (t++b).length:=by rw[hT',Abp,Abp,Af3];omega
  have hmono:nE c w (T++[b[u]' F0])<=nE c w (t++b):=Au7 hpre;have hgd:Aj b (u:Int)=some (b[u]' F0):=Ca;generalize b[u]' F0=d at hT' hpre hmono hgd⊢;have ih:=kO t b hb j (u+1) q (T++[d]) F0 F0 hT';have htl:=wC h T;have hsl:=PN h T;have hfl:=dY (c:=c) (w:=w) (r:=r) (p:=p) T;have hn4:=hR.1;have hmod:nE c w T %Am r*c<=nE c w T*c:=Af0 _ (Avm _ _);have hn:nE c w T<=4000:=by
   have:nE c w T*1<=nE c w T*c:=At1 _ hc.1;omega
  have hk:kE c w r T<=nE c w T:=Aqh _ _;have hlt:=EM h.rate.2;rw[If,Yh,Abh F2,hgd,Aa,As F5,Aa];by_cases hlt1:(RE c w T).length+1<jS c w
  ·obtain⟨m1,m2,m3⟩:=Aix h T d hlt1;obtain⟨g1,g2,g3⟩:=Am8 h T (b:=d) hlt1;rw[m1,m3,g2,g3]at ih;rw[Abh Awm,Nf,Ya,hu1];exact ih hR
  ·obtain⟨m0,m1,m2,m3⟩:=Aip h T d hlt1;obtain⟨g1,g2⟩:=Anp h T (b:=d) hlt1;have hcnt:=rC h T hR p (RE c w T++[d]) [] false 0 (w:Int) (r:Int);have hroom:Py (c:Int) (w:Int) (r:Int) p (RE c w T++[d]) (SE c w r T) (FE c w r p T) [] false 0 (Ae (Ac (FE c w r p T)) 1) (Ae (nE c w T:Int) 1)=some (decide ((kE c w r T:Int)+1<=1000)&&decide ((((nE c w T+1)*c:Nat):Int)<=4000)):=by
    have hle:(nE c w T+1)*c<=4001*6:=Arb F0 hc.2;rw[Py,Ac,hfl,Ag,Ag,show(nE c w T:Int)+1=((nE c w T+1:Nat):Int) by omega,Gu Av7 Av7,<-Ana,Sm,Sm]
   rw[Aa1 Awm,hcnt,Aa,hroom,Aa];by_cases hok:kE c w r T+1<=1000/\ (nE c w T+1)*c<=4000
   ·have hR':Rp c r (nE c w (T++[d])):=by rw[m1];exact⟨hok.2, .inr (by rw[Avo];exact hok.1)⟩
    have ih:=ih hR';have Aqd:=nA (RE c w T++[d]) h.bits (m:=c) (by rw[Abp,Ass,m0];rfl) F0;have hLc:Am r*c<=1100000*6:=Arb F0 hc.2;have hmul:Bc (Am r:Int) (c:Int)=((Am r*c:Nat):Int):=by rw[Gu Av7 Av7,<-Ana]
    rw[Aa1 (by rw[Auc (show(kE c w r T:Int)+1<=1000 by omega),Auc (show(((nE c w T+1)*c:Nat):Int)<=4000 by omega)];decide),HX,UZ,Aqd,Aa];simp only;rw[Aa1 F3,As (by rw[ER];omega),Aa,hmul];by_cases hfull:(SE c w r T++NP (wB (w:Int)) c (RE c w T++[d])).length<Am r*c
    ·obtain⟨k1,k2,k3⟩:=g1 hfull;rw[m3,k2,k3]at ih;rw[Abh Av9,Io,Yb,Aa1 F3,Nf,Ya,hu1];exact ih
    ·obtain⟨k0,k1,k2,k3⟩:=g2 hfull;rw[m3,k2,k3]at ih;have hXl:Am r*c<=4000:=by
      have e:=hR'.1;have hlen:(XE c w (T++[d])).length=nE c w (T++[d])*c:=fA (T++[d]);have hdk:=vP (r:=r) h (T++[d]);rw[k1,Aim,Aqu]at hdk;omega
     have hin:H2 (w:Int) (SE c w r T++NP (wB (w:Int)) c (RE c w T++[d])):=by
      intro v hv;rw[List.mem_append]at hv;rcases hv with hv|hv
      ·exact rF h T v (Aue hv)
      ·exact N6 h.bits _ _ v hv
     have hLp:=Avf (Km r) hc.1;have henc:=oT (t:=Tt p) (x:=SE c w r T++NP (wB (w:Int)) c (RE c w T++[d])) h.bits (YM p) hc.1 hc.2 F0 F0 (by rw[k0];exact Asi _ _) hin;rw[Aa1 Av9,H8 p h.pass,Aa];simp only;rw[Aa1 F3,henc,Aa];simp only;rw[Aa1 F3,As F5,Aa,VL,WX,Io,Yb,Aa1 F3,Nf,Ya,hu1];exact ih
   ·have hno:¬Rp c r (nE c w (t++b)):=by
     intro hh;have:=hh.mono hmono;rw[m1]at this;obtain⟨z1,z2⟩:=this;apply hok;rw[Avo]at z2;have hkE:kE c w r T=nE c w T/Am r:=rfl;omega
    rw[Abh (by
     rw[An6,Bool.and_eq_false_iff,Asb,Asb];omega),Io,Yb,Abh F3,Ue,Aa,iO,Aa1 hno]
theorem Ajp(t b:LB)(hb:b.length<=1000000)(hR:Rp c r (nE c w t)):NI (c:Int) (w:Int) (r:Int) p (RE c w t) (SE c w r t) (FE c w r p t) [] false 0 b=some (iO c w r p (t++b)):=by
 have hl:=kO h t b hb b.length 0 Aq t F0 F7 Av2 hR;rw[NI,MH,D0 h t hR,Aa];simp only;rw[Aa1 F3,Acp h,Aa,WN];exact hl
theorem Amm:CM (c:Int) (w:Int) (r:Int) p=some ((c:Int),(w:Int),(r:Int),p,RE c w [],SE c w r [],FE c w r p [],[],false,0,0):=by
 have h0:nE c w []=0:=Avs _;have hk:kE c w r []=0:=by rw[kE,h0];exact Avs _
 rw[CM,E7 h,Aa];simp only;rw[Aa1 F3,RE,SE,FE,XE,hk,h0];simp[NP,Gt]
omit h in
theorem J1(c r:Nat):Rp c r 0:=⟨F0, .inl rfl⟩
end
theorem Awz{p:Prop}(h:p:=by rw[Ar];simp only[Aef];omega):p:=h
end Go.Pl
namespace Go.Pl
open Go Go.Lv
variable{x:LX}
theorem yQ(l:List LB)(hf:l.flatten.length<=1000000)(hl:l.length<=1000000)(v:LB)(hfin:Fe l (l.flatten.length:Int)=some v):∀(j i q:Nat),i+j=l.length->j<q->Cc l q (((l.take i).flatten.length:Nat):Int) (i:Int)=some v
 |j,i,0,_,h=>absurd h (Aqw _)
 |0,i,q+1,hi,_=>by
  rw[Cc,Db,Aa1 F2,Aka F0];exact hfin
 |j+1,i,q+1,hi,hq=>by
  have ih:=yQ l hf hl v hfin j (i+1) q F0 F0;have hi1:Ae (i:Int) 1=((i+1:Nat):Int):=by rw[Ag];omega
  have hsn:(l.take (i+1)).flatten=(l.take i).flatten++l[i]:=by rw[Hh F0,Au0];simp
  have hsp:l.flatten=(l.take (i+1)).flatten++(l.drop (i+1)).flatten:=by rw[<-Au0,Aul]
  have hle:((l.take i).flatten).length+(l[i]).length<=1000000:=by
   rw[hsp,Abp,hsn,Abp]at hf;omega
  have hadd:Ae (((l.take i).flatten.length:Nat):Int) (Ac l[i])=(((l.take (i+1)).flatten.length:Nat):Int):=by
   rw[Ac,Ag,hsn,Abp];omega
  rw[Cc,Db,Abh F2,Ca,Aa,hadd,Aa1 (by rw[Af];simp only[Aef];omega),hi1];exact ih
theorem xL(l:List LB)(hf:l.flatten.length<=1000000)(hl:l.length<=1000000):∀(j i q:Nat),i+j=l.length->j<q->By l q (i:Int) (l.take i).flatten=some l.flatten
 |j,i,0,_,h=>absurd h (Aqw _)
 |0,i,q+1,hi,_=>by
  rw[By,Cv,Aa1 F2,Aka F0];rfl
 |j+1,i,q+1,hi,hq=>by
  have ih:=xL l hf hl j (i+1) q F0 F0;have hi1:Ae (i:Int) 1=((i+1:Nat):Int):=by rw[Ag];omega
  have hsn:(l.take (i+1)).flatten=(l.take i).flatten++l[i]:=by rw[Hh F0,Au0];simp
  have hsp:l.flatten=(l.take (i+1)).flatten++(l.drop (i+1)).flatten:=by rw[<-Au0,Aul]
  have hle:((l.take i).flatten).length+(l[i]).length<=1000000:=by
   rw[hsp,Abp,hsn,Abp]at hf;omega
  rw[By,Cv,Abh F2,Ca,Aa,As,Aa,hi1,<-hsn];exact ih
theorem Aa6(l:List LB)(hf:l.flatten.length<=1000000)(hl:l.length<=1000000):Dy l=some l.flatten:=by
 have h3:Fb l []=some l.flatten:=by
  rw[Fb,Iq,Ip];exact xL l hf hl l.length 0 Aq F0 F7
 have h11:Fe l (l.flatten.length:Int)=some l.flatten:=by
  have z:Ak (0:Int) 0=0:=F3
  rw[Fe,Ir,Aa1 (by rw[Af];simp only[Aef];omega),Mz,Is,z,Dx,Int.sub_zero];by_cases hp:0<l.flatten.length
  ·rw[Abh Awz,show uG (0:Int) 0 0=some ()from rfl,Aa,I5,Aa,As (by simp only[List.length_nil,Anf];omega),Aa];rw[show uG (Ac ([]++List.replicate ((l.flatten.length:Nat):Int).toNat (0:UInt8))) 0 0=some () by rw[uG,Bt];simp[Ac],Aa];simp only[tP,Int.sub_self,Int.toNat_zero,Au6];exact h3
  ·rw[Aa1 Awz];exact h3
 have:=yQ l hf hl _ h11 l.length 0 Aq F0 F7;exact this
theorem xu{p:LB}(hp:p.length<=64):JF p=some ((Zv p:Int),0):=by
 rw[JF,Aa1 Av3,Zv];by_cases h:p=[]
 ·rw[Abh (by rw[Ba,Ac,h];rfl),Abh h];rfl
 ·have:p.length≠0:=λe=>h (Ark e);rw[Aa1 (by rw[Ba,Ac,Atw];omega),Aa1 h];rfl
theorem yF(a:List LB)(ha:a.length<=100000)(f g h:Int)(b k:LB)(m:LX)(n:LB)(o:Bool)(p:Int)(u v:LB)(hfin:Up f g h b k m a n o p u (Ic a)=some (v,0)):∀(j i q:Nat),i+j=a.length->j<q->Pa a f g h b k m n o p u q (i:Int) (Ic (a.take i))=some (v,0)
 |j,i,0,_,h=>absurd h (Aqw _)
 |0,i,q+1,hi,_=>by
  rw[Pa,AM,Aa1 F2,Aka F0];exact hfin
 |j+1,i,q+1,hi,hq=>by
  have ih:=yF a ha f g h b k m n o p u v hfin j (i+1) q F0 F0;have hi1:Ae (i:Int) 1=((i+1:Nat):Int):=by rw[Ag];omega
  have hll:(Ic (a.take i)).length=i:=by rw[Xf,Af3];omega
  have hsn:Ic (a.take i)++[Ac a[i]]=Ic (a.take (i+1)):=by rw[Hh F0,Ic,Ic,At8];rfl
  rw[Pa,AM,Abh F2,Ca,Aa,As F5,Aa,hsn,hi1];exact ih
theorem lg{c w r n:Nat}(h:ClipOk c w r n x){p:LB}(hp:p.length<=64)(k:LB)(m:LX)(n':LB)(o:Bool)(e:Int):NY (c:Int) (w:Int) (r:Int) p k m (NM c w r n x p) n' o e (n:Int)=some (ML c w r n x p,0):=by
 have hn:=Abw h p;have hl:=H9 h p;have hlen:=pT (c:=c) (w:=w) (r:=r) (n:=n) (x:=x) p;have hdl:=zR p;have hfin:Up (c:Int) (w:Int) (r:Int) p k m (NM c w r n x p) n' o e (R5 (Zv p) c w r n++nS p) (Ic (NM c w r n x p))=some (ML c w r n x p,0):=by
  have hh:=pM (Zv p) c w r n;have ht:=yR (Ic (NM c w r n x p));have hll:=Xf (NM c w r n x p);rw[Up,AL,uz,Abh (Z2 h p),Aa];simp only;rw[Aa1 F3,As Awg,Aa,Aa6 _ F0 F0,Aa,As (by rw[Abp,Abp];omega),Aa];simp[ML]
 have hlp:=yF (NM c w r n x p) F0 (c:Int) (w:Int) (r:Int) p k m n' o e (R5 (Zv p) c w r n++nS p) _ hfin (NM c w r n x p).length 0 Aq F0 F7;rw[NY,LK,xu hp,Aa];simp only;rw[Aa1 F3,T9 (h.shape _ (mo p)) h.fit,Aa];simp only;rw[Aa1 F3];by_cases h0:p=[]
 ·have e2:nS p=[]:=by rw[nS,Abh h0]
  rw[e2,Ap2]at hlp;rw[Aa1 (by simp[h0]),LH,AT];exact hlp
 ·have e2:nS p=Ot (JI p).toNat 8:=by rw[nS,Aa1 h0]
  rw[e2]at hlp;rw[Abh (by simpa using h0),Aee p hp,Aa];simp only;rw[Aa1 F3,As (by rw[pM,Bi];omega),Aa,LH,AT];exact hlp
section
variable {c w r:Nat} {p:LB} (h:EncOk c w r p) (t:LB) (hR:Rp c r (nE c w t))
include h hR
theorem qb(h1:1<=nE c w t):ClipOk c w r (nE c w t) (XE c w t):=by
 have hc:=h.ch;refine⟨hc,h.bits,h.rate,⟨h1,?_⟩,fA t,?_,rF h t⟩
 ·rw[Nat.le_div_iff_mul_le F0];exact hR.1
 ·rcases hR.2 with h0|h0
  ·omega
  ·exact h0
omit hR in
theorem wK(h1:1<=nE c w t):NM c w r (nE c w t) (XE c w t) p=FE c w r p t++(if SE c w r t=[]then []else [DK (w:Int) c (Tt p) (SE c w r t)]):=by
 have hc:=h.ch;have hp:=Km r;obtain⟨d1,d2⟩:=vT h t;have hsl:=PN h t;have key:Aat c r (nE c w t) (XE c w t)=Gt c (XE c w t) (List.replicate (kE c w r t) (Am r:Int))++(if SE c w r t=[]then []else [SE c w r t]):=by
  by_cases hz:nE c w t %Am r=0
  ·have hS:SE c w r t=[]:=Ark (by rw[hsl,hz,Au5]);rw[Abh hS,Ap2,Aat];congr 1;rw[hz,Asg]at d1;have hk1:1<=kE c w r t:=by
    rcases Avn (kE c w r t)with h0|h0
    ·rw[h0,Au5]at d1;omega
    ·exact h0
   obtain⟨k',hk'⟩:∃k',kE c w r t=k'+1:=⟨kE c w r t-1,F0⟩;have hd:(nE c w t-1)/Am r=k':=by
    rw[hk',Aim,Aqu]at d1;exact Aub F0 Awh
   rw[Gf,hd,hk',List.replicate_succ'];congr 2;rw[hk',Aim,Aqu]at d1;omega
  ·have hS:SE c w r t≠ []:=by
    intro e;have:=congrArg List.length e;rw[hsl,List.length_nil]at this;rcases Nat.mul_eq_zero.1 this with h0|h0<;>omega
   have hd:(nE c w t-1)/Am r=kE c w r t:=Aub F0 Awh;have hdk:=vP (r:=r) h t;rw[Aa1 hS,Aat,Gf,hd,pX c _ _ _ (Agn _ _),zD,Gt,Gt,Ajs];congr 2;rw[Aka]
   ·rfl
   ·rw[Aqi,fA,<-Ar3,<-Avd];exact Aqe _
 rw[NM,key,At8,FE];congr 1;split<;>rfl
theorem Aaz:DN (c:Int) (w:Int) (r:Int) p (RE c w t) (SE c w r t) (FE c w r p t) [] false 0=
  some (if RE c w t≠ []\/nE c w t=0 then((c:Int),(w:Int),(r:Int),p,[],[],[],[],false,24,24)else((c:Int),(w:Int),(r:Int),p,[],[],[],ML c w r (nE c w t) (XE c w t) p,true,0,0)):=by
 have hc:=h.ch;have hsl:=PN h t;have hfl:=dY (c:=c) (w:=w) (r:=r) (p:=p) t;have hn4:=hR.1;have hmod:nE c w t %Am r*c<=nE c w t*c:=Af0 _ (Avm _ _);have hn:nE c w t<=4000:=by
  have:nE c w t*1<=nE c w t*c:=At1 _ hc.1;omega
 have hk:kE c w r t<=nE c w t:=Aqh _ _;rw[DN,SR,D0 h t hR,Aa];simp only;rw[Aa1 F3,rC h t hR,Aa];by_cases hbad:RE c w t≠ []\/nE c w t=0
 ·have hcond:((Da (Ac (RE c w t)) 0)||(geq (nE c w t:Int) 0))=true:=by
   rcases hbad with h0|h0
   ·have:RE c w t≠ []:=h0;have hl:0<(RE c w t).length:=List.length_pos_iff.2 this;rw[Ar,Ac,Aqm];left;simpa using hl
   ·rw[h0];simp[Ba]
  rw[Abh hbad,Abh hcond,Ue,Aa]
 ·have hR0:RE c w t=[]:=by
   by_cases h0:RE c w t=[]
   ·exact h0
   ·exact absurd (.inl h0) hbad
  have hn1:1<=nE c w t:=by
   rcases Avn (nE c w t)with h0|h0
   ·exact absurd (.inr h0) hbad
   ·exact h0
  have hcl:=qb h t hR hn1;have hfr:=wK h t hn1;have hcond:¬(((Da (Ac (RE c w t)) 0)||(geq (nE c w t:Int) 0))=true):=by rw[hR0];simp[Ar,Ba,Ac];omega
  rw[Aa1 hbad,Aa1 hcond];by_cases hS:SE c w r t=[]
  ·rw[Abh hS,Ap2]at hfr;have hf:=lg hcl h.pass (RE c w t) (SE c w r t) [] false 0;rw[hfr]at hf;rw[Aa1 (by rw[hS];decide),Wi,DS,hf,Aa];simp only;rw[Aa1 F3]
  ·rw[Aa1 hS]at hfr;have hl:0<(SE c w r t).length:=List.length_pos_iff.2 hS;have hin:H2 (w:Int) (SE c w r t):=λv hv=>rF h t v (Aue hv);have henc:=oT (t:=Tt p) (x:=SE c w r t) h.bits (YM p) hc.1 hc.2 F0 F0 (by rw[hsl];exact Asi _ _) hin;have hf:=lg hcl h.pass (RE c w t) [] [] false 0;rw[hfr]at hf;rw[Abh (by rw[Ar,Ac];simpa using hl),H8 p h.pass,Aa];simp only;rw[Aa1 F3,henc,Aa];simp only;rw[Aa1 F3,As F5,Aa,SA,RU,Aa1 F3,Wi,DS,hf,Aa];simp only;rw[Aa1 F3]
end
inductive Pl (S D A:Int) (G:Nat->Int) (l:LI) (a:Int):UInt8->Int->Int->Prop
 |t:a<S->Pl S D A G l a 1 0 0
 |h:S<=a->a<S+22->Pl S D A G l a 2 0 0
 |d:S+22<=a->a<D->Pl S D A G l a 3 0 0
 |s:S+22<=a->D<=a->a<A->Pl S D A G l a 4 0 0
 |f (i:Nat):S+22<=a->D<=a->A<=a->i<l.length->A+(l.take i).sum<=a->a<A+(l.take (i+1)).sum->Pl S D A G l a 5 i (G i)
 |b:S+22<=a->D<=a->A<=a->A+l.sum<=a->Pl S D A G l a 6 0 0
theorem ClipOk.enc{c w r n:Nat}(h:ClipOk c w r n x){p:LB}(hp:p.length<=64):EncOk c w r p:=⟨h.ch,h.bits,h.rate,hp⟩
theorem uf{c w r n:Nat}(h:ClipOk c w r n x){p:LB}(hp:p.length<=64):nE c w (Dl (w:Int) x)=n/\XE c w (Dl (w:Int) x)=x/\RE c w (Dl (w:Int) x)=[]/\Rp c r n:=by
 have he:=h.enc hp;have hs:=fD he;have hbl:(Dl (w:Int) x).length=n*jS c w:=by rw[cR h.bits,h.len,jS,Ar3]
 have hn:nE c w (Dl (w:Int) x)=n:=by rw[nE,hbl,Auq _ F0]
 have hle:=h.le;refine⟨hn,?_,?_,hle.2.1, .inr h.fr⟩
 ·rw[XE,hn,<-h.len];exact Ajb h.bits x h.rng
 ·rw[RE,hn,<-hbl,At2]
theorem yB{c w r n:Nat}(h:ClipOk c w r n x)(hk:Hu (c:Int) (w:Int) (r:Int) x=some 0){p:LB}(hp:p.length<=64):Kw (c:Int) (w:Int) (r:Int) x p=some (ML c w r n x p,0):=by
 have he:=h.enc hp;obtain⟨f1,f2,f3,f4⟩:=uf h hp;have hle:=h.le;have hbl:=IP (w:Int) x;have hf:=Ajp he [] (Dl (w:Int) x) F0 (by rw[show nE c w []=0 from Avs _];exact J1 c r);rw[Asa,iO,f1,Abh f4]at hf;have hfin:=Aaz he (Dl (w:Int) x) (by rw[f1];exact f4);rw[f1,f2,f3,Aa1 (by have:=h.cnt.1;simp;omega)]at hfin;rw[f3]at hf;rw[Kw,Wf,hk,Aa,Aa1 F3,zH h.bits F0 h.rng,Aa];simp only;rw[Aa1 F3,Amm he,Aa];simp only;rw[Aa1 F3,hf,Aa];simp only;rw[SN,RM,Aa1 F3,hfin,Aa];simp only;rw[SF,SS,FM,RS,Aa1 F3]
theorem Awd{p:Prop}(h:p:=by rw[Ba,Ac];simp;omega):p:=h
end Go.Pl
namespace Go.Pl
open Go Go.Lv
variable{a H p:LB}
theorem G9(a:LB)(ha:a.length<=100000):∀(j i q:Nat),i+j=a.length->j<q->∃t,Fw a q (i:Int)=some t
 |0,i,q+1,hi,_=>by
  rw[Fw,Se,Aa1 F2];exact⟨_,rfl⟩
 |j+1,i,q+1,hi,hq=>by
  have hlt:i<a.length:=F0
  rw[Fw,Se,Abh F2,Ca hlt,Aa,Aa];by_cases hb:(Cm a[i] 32||Da a[i] 126)=true
  ·rw[Abh hb];exact⟨_,rfl⟩
  ·rw[Aa1 hb,show Ae (i:Int) 1=((i+1:Nat):Int) by rw[Ag];omega];exact G9 a ha j (i+1) q F0 F0
theorem eW(ha:a.length<=100000):∃t,Xa a=some t:=
 G9 a ha a.length 0 Aq F0 F7
theorem kG{l:LB}(h:l.length<=100000):(Ad (Ac l):UInt64).toNat=l.length:=by
 rw[Ac,Sr,Ahx];omega
theorem qc(h:a.length<=100000):Ta a=some a:=by
 rw[Ta,As F5,Aa];rfl
theorem Arj{b g:LB}{f:UInt64}(hb:b.length<=100000):DD b f g=some ([],[],[],false)\/
  (f.toNat<=b.length/\∃o,DD b f g=some (g,b.take f.toNat,o,true)/\o.length<=b.length):=by
 rw[DD];by_cases hf:b.length<f.toNat
 ·rw[Abh (by rw[Qp,kG hb];simpa using hf)];exact .inl rfl
 ·rw[Aa1 (by rw[Qp,kG hb];simpa using hf),Ho,Tu,Aa,qc Awq,Aa,Yo,Aa,Ajs];by_cases h1:geq (Oq f 2) 1=true
  ·rw[Abh h1];by_cases h2:geq (Ac (b.drop f.toNat)) 0=true
   ·rw[Abh h2];exact .inl rfl
   ·have hd:0<(b.drop f.toNat).length:=by
     rw[Ba,Ac]at h2;simp at h2⊢;omega
    rw[Aa1 h2,show Aj (b.drop f.toNat) 0=some ((b.drop f.toNat)[0]'hd)from Ca hd,Aa];by_cases h3:Bm ((b.drop f.toNat)[0]'hd) 0=true
    ·rw[Abh h3];exact .inl rfl
    ·rw[Aa1 h3,Yo,Aa];exact .inr ⟨F0,_,rfl,Av2⟩
  ·rw[Aa1 h1];exact .inr ⟨F0,_,rfl,Av2⟩
theorem Ahr{h:LB}(hh:h.length<=100000):∃m n o p,OC h=some (m,n,o,p)/\ (p=true->o.length+8<=h.length/\n.length<=h.length):=by
 rw[OC,ZZ];by_cases h8:h.length<8
 ·rw[Abh F2];exact⟨_,_,_,_,rfl,λe=>by cases e⟩
 ·rw[Aa1 F2,Tu,Aa];obtain⟨t,ht⟩:=eW (a:=h.take (4:Int).toNat) Awq;rw[ht,Aa];cases t with
  |false=>exact⟨_,_,_,_,rfl,λe=>by cases e⟩
  |true=>
   rw[Aa1 F3,XV,YL,show kH h 4 4=_ from Y6 h 4 4 F0 F0 F0 F0,Aa];simp only;rw[Tu,Aa,Yo,Aa,YH];have hl:(h.drop (8:Int).toNat).length=h.length-8:=by simp
   rcases Arj (b:=h.drop (8:Int).toNat) (g:=h.take (4:Int).toNat) (f:=gS (part h 4 4)) F0 with e|⟨e1,o,e,e2⟩
   ·exact⟨_,_,_,_,e,λe=>by cases e⟩
   ·exact⟨_,_,_,_,e,λ_=>⟨F0,by rw[Af3];omega⟩⟩
theorem G6{a f:LB}{b:UInt64}:∀(q:Nat) (h:LB) (g:List (LB×LB×Unit)),h.length<q->h.length<=20000->g.length<=20-> (∀c∈g,c.2.1.length<=20000)->
  ∃y G e,Un a b f q h g=some (y,G,e)/\G.length<=20/\ (∀c∈G,c.2.1.length<=20000)/\ (∀L,h.length<=L-> (∀c∈g,c.2.1.length<=L)->∀c∈G,c.2.1.length<=L)
 |q+1,h,g,hq,hh,hg,hgc=>by
  rw[Un,NU];by_cases h0:0<h.length
  ·rw[Abh Av3];by_cases h20:g.length=20
   ·rw[Abh (by rw[Ba,Ac];simp[h20])];exact⟨_,_,_,rfl,Av2,Av2,Av2⟩
   ·rw[Aa1 Awd];obtain⟨m,n,o,p,e,hp⟩:=Ahr (h:=h) F0;rw[e,Aa];simp only;cases p with
    |false=>exact⟨_,_,_,rfl,Av2,Av2,Av2⟩
    |true=>
     obtain⟨h1,h2⟩:=hp rfl;rw[Aa1 F3,As F5,Aa];have hgc':∀c∈g++[(m,n,())],c.2.1.length<=20000:=λc hc=>by
      rcases List.mem_append.1 hc with hc|hc
      ·exact hgc c hc
      ·simp at hc;subst hc;simp only;omega
     obtain⟨y,G,e,k1,k2,k3,k4⟩:=G6 (a:=a) (f:=f) (b:=b) q o (g++[(m,n,())]) F0 F0 F5 hgc';refine⟨y,G,e,k1,k2,k3,λL hL hgL=>k4 L F0 λc hc=>?_⟩;rcases List.mem_append.1 hc with hc|hc
     ·exact hgL c hc
     ·simp at hc;subst hc;simp only;omega
  ·rw[Aa1 (by rw[Ar,Ac];simp;exact Ark F0),IV,UD];by_cases hm:Da (Ad (Ac a):UInt64) (Ae b 8)=true
   ·rw[Abh hm];exact⟨_,_,_,rfl,Av2,Av2,Av2⟩
   ·rw[Aa1 hm];exact⟨_,_,_,rfl,hg,hgc,λL _ h=>h⟩
theorem Aca{b:UInt64}{k:Nat}(h:b.toNat<4294967296)(hk:k<=100):(Ae b (UInt64.ofNat k)).toNat=b.toNat+k:=by
 have e:Ae b (UInt64.ofNat k)=UInt64.ofNat (b.toNat+(UInt64.ofNat k).toNat):=by
  show GI.ofZ (((b.toNat:Nat):Int)+(((UInt64.ofNat k).toNat:Nat):Int))=_;rw[<-Au9];exact Hb _
 rw[e,Ahx,Ahx];omega
theorem Aha(ha:a.length<=2000):∃y G e,OD a=some (y,G,e)/\G.length<=20/\∀c∈G,c.2.1.length<=2000:=by
 rw[OD,NV];by_cases h12:a.length<12
 ·rw[Abh F2];exact⟨_,_,_,rfl,Av2,Av2⟩
 rw[Aa1 F2,show kH a 4 4=_ from Y6 a 4 4 F0 F0 F0 F0,Aa];simp only;rw[Ve,Aa,Tu,Aa];have hb:(gS (part a 4 4)).toNat<4294967296:=by
  have hp:(part a 4 4).length=4:=Dj;rw[Yn F0];exact gY F0
 generalize gS (part a 4 4)=b at hb;have hb8:(Ae b 8).toNat=b.toNat+8:=Aca (k:=8) hb F0;have six:∀(f:LB) (k:Bool),(k=false->4<=b.toNat)->∃y G e,Pr a b f k=some (y,G,e)/\G.length<=20/\∀c∈G,c.2.1.length<=2000:=by
  intro f k hk;rw[Pr,FD];cases k with
  |true=>exact⟨_,_,_,rfl,Av2,Av2⟩
  |false=>
   have h4:=hk rfl;rw[Aa1 F3];by_cases h1:Da (Ae b 8) 100000=true
   ·rw[Abh h1];exact⟨_,_,_,rfl,Av2,Av2⟩
   rw[Aa1 h1];by_cases h2:a.length<b.toNat+8
   ·rw[Abh (by rw[Qp,kG F0,hb8];simpa using h2)];exact⟨_,_,_,rfl,Av2,Av2⟩
   rw[Aa1 (by rw[Qp,kG F0,hb8];simpa using h2),NX,NL,Ho,hb8,Ve,Aa,ZA];obtain⟨y,G,e,k1,k2,_,k4⟩:=G6 (a:=a) (b:=b) (f:=f) Aq ((a.take ((b.toNat+8:Nat):Int).toNat).drop (12:Int).toNat) [] (by have:=Ap;simp;omega) F5 Av2 Av2;exact⟨y,G,e,k1,k2,k4 2000 F5 Av2⟩
 have h4b:∀x:Bool,(x||Cm b 4)=false->4<=b.toNat:=λx hx=>by
  rw[Aud,gX]at hx;have:=hx.2;simp at this;exact this
 by_cases hr:(a.take (4:Int).toNat != [82,73,70,70])=true
 ·rw[Abh hr];exact six _ _ (h4b true)
 ·rw[Aa1 hr];obtain⟨t,ht⟩:=eW (a:=(a.take (12:Int).toNat).drop (8:Int).toNat) F5;rw[ht,Aa];exact six _ _ (h4b _)
theorem D5(ha:a.length<=100000):Wk a=Xa a:=by
 have loop:∀(j i q1 q2:Nat),i+j=a.length->j<q1->j<q2->Eg a q1 (i:Int)=Fw a q2 (i:Int):=by
  intro j
  induction j with
  |zero=>
   intro i q1 q2 hi h1 h2;obtain⟨q1,rfl⟩:∃z,q1=z+1:=⟨q1-1,F0⟩;obtain⟨q2,rfl⟩:∃z,q2=z+1:=⟨q2-1,F0⟩;rw[Eg,Qc,Aa1 F2,Fw,Se,Aa1 F2];rfl
  |succ j ih=>
   intro i q1 q2 hi h1 h2;obtain⟨q1,rfl⟩:∃z,q1=z+1:=⟨q1-1,F0⟩;obtain⟨q2,rfl⟩:∃z,q2=z+1:=⟨q2-1,F0⟩;have hlt:i<a.length:=F0
   have hA:Eg a (q1+1) (i:Int)=if(Cm a[i] 32||Da a[i] 126)=true then some false else Eg a q1 ((i+1:Nat):Int):=by
    rw[Eg,Qc,Abh F2,Ca hlt,Aa,Ag];cases Cm a[i] 32 with
    |true=>rfl
    |false=>
     rw[Aa1 F3,Aa];cases Da a[i] 126 with
     |true=>rfl
     |false=>rfl
   have hB:Fw a (q2+1) (i:Int)=if(Cm a[i] 32||Da a[i] 126)=true then some false else Fw a q2 ((i+1:Nat):Int):=by
    rw[Fw,Se,Abh F2,Ca hlt,Aa,Aa,Ag];rfl
   rw[hA,hB,ih (i+1) q1 q2 F0 F0 F0]
 exact loop a.length 0 Aq Aq F0 F7 F7
def yS(H:LB):Option (LB×LB×Nat):=
 if H.length<8 then none else if ¬Xa (H.take 4)=some true then none else
 if H.length-8<Li (part H 4 4)+Li (part H 4 4) %2 then none else
 if Li (part H 4 4) %2=1/\H.getD (8+Li (part H 4 4)) 0≠0 then none else
 some (H.take 4,(H.drop 8).take (Li (part H 4 4)),8+Li (part H 4 4)+Li (part H 4 4) %2)
theorem Ajh{z:LB×LB×Nat}(h:yS H=some z):8<=z.2.2/\z.2.2<=H.length/\z.2.1.length<=H.length:=by
 rw[yS]at h;split at h
 ·cases h
 ·split at h
  ·cases h
  ·split at h
   ·cases h
   ·split at h
    ·cases h
    ·rw[<-Auy h];simp only[Af3,Aqi];omega
theorem Arr(f:UInt64):geq (Oq f 2) 1=decide (f.toNat %2=1):=by
 rw[uE,VB,An2];simp only[Atw,<-Avj,Au3,Aef];rfl
theorem Apw{α:Type}{l:List α}(h:0<l.length):Aj l 0=some (l[0]'h):=Ca h
theorem Ae4(hh:H.length<=100000):OC H=some (match yS H with|none=>([],[],[],false)|some z=>(z.1,z.2.1,H.drop z.2.2,true)):=by
 rw[OC,ZZ,yS];by_cases h8:H.length<8
 ·rw[Abh F2,Abh h8]
 rw[Aa1 F2,Tu,Aa,Aa1 h8];obtain⟨t,ht⟩:=eW (a:=H.take (4:Int).toNat) Awq;have ht':Xa (H.take 4)=some t:=ht;rw[ht,Aa,ht'];cases t with
 |false=>rw[Abh F3,Abh Av2]
 |true=>
  have hp:(part H 4 4).length=4:=Dj;have hn:=Yn (l:=part H 4 4) F0;have hn4:=gY (l:=part H 4 4) F0;rw[Aa1 F3,Aa1 Av2,XV,YL,show kH H 4 4=_ from Y6 H 4 4 F0 F0 F0 F0,Aa];simp only;rw[Tu,Aa,Yo,Aa,YH,show(8:Int).toNat=8 from rfl,show(4:Int).toNat=4 from rfl,DD];have hl:(H.drop 8).length=H.length-8:=by simp
  rw[<-hn];generalize gS (part H 4 4)=f at hn;by_cases hf:(H.drop 8).length<f.toNat
  ·rw[Abh (by rw[Qp,kG F0];simpa using hf),Abh F0]
  rw[Aa1 (by rw[Qp,kG F0];simpa using hf),Ho,Tu,Aa,qc Awq,Aa,Yo,Aa,Ajs,Arr];by_cases h1:f.toNat %2=1
  ·rw[Abh (by simpa using h1)];by_cases h2:(H.drop 8).length=f.toNat
   ·rw[Abh Awd,Abh F0]
   ·have hd:0<((H.drop 8).drop f.toNat).length:=by rw[Aqi];omega
    have hg:((H.drop 8).drop f.toNat)[0]'hd=H.getD (8+f.toNat) 0:=by
     rw[List.getElem_drop,List.getElem_drop,List.getD_eq_getElem?_getD,List.getElem?_eq_getElem F0];rfl
    rw[Aa1 Awd,Apw hd,Aa,hg,Aa1 (show ¬H.length-8<f.toNat+f.toNat %2 by omega)];by_cases h3:H.getD (8+f.toNat) 0=0
    ·rw[h3,Aa1 F3,Yo,Aa,Aa1 Av2];simp only;rw[show(1:Int).toNat=1 from rfl,Auv,Auv,h1,show 8+(f.toNat+1)=8+f.toNat+1 by omega]
    ·rw[Abh (by rw[R9];simpa using h3),Abh ⟨h1,h3⟩]
  ·rw[Aa1 (by simpa using h1),Aa1 (show ¬H.length-8<f.toNat+f.toNat %2 by omega),Aa1 (λh=>h1 h.1)];simp only;rw[Auv,show f.toNat %2=0 by omega,Asg]
theorem Y3{a f:LB}{b:UInt64}{E s q:Nat}{g:List (LB×LB×Unit)}(ha:a.length<=100000)(hb:b.toNat+8=E)(hE:E<=a.length)(hs:s<E)(hg:g.length<=20):
  Cs a f b (q+1) (s:Int) g=if g.length=20 then some ([],[],4)else match yS ((a.take E).drop s)with
   |none=>some ([],[],12)
   |some z=>Cs a f b q ((s+z.2.2:Nat):Int) (g++[(z.1,z.2.1,())]):=by
 have hgb:(Ad b:Int)=(b.toNat:Int):=Ym F0;have e8:Ae (Ad b:Int) 8=(E:Int):=by rw[hgb,Ag];omega
 have hl:((a.take E).drop s).length=E-s:=by rw[Aqi,Af3];omega
 have es:Ak (E:Int) (s:Int)=((E-s:Nat):Int):=by rw[Dx];omega
 rw[Cs,Of,e8,Abh F9];by_cases h20:g.length=20
 ·rw[Abh Awd,Abh h20]
 rw[Aa1 Awd,Aa1 h20,es,yS,hl];by_cases h8:E-s<8
 ·rw[Abh F9,Abh h8]
 have hc4:Cr a (s:Int) (Ae (s:Int) 4)=some (((a.take E).drop s).take 4):=by
  rw[Ag,show(s:Int)+4=((s+4:Nat):Int) by omega,Ve,Ajs,Ajs,Avu,Avu,List.take_take];congr 2;omega
 rw[Aa1 F9,Aa1 h8,hc4,Aa,D5 Awq];obtain⟨t,ht⟩:=eW (a:=((a.take E).drop s).take 4) Awq;rw[ht,Aa];cases t with
 |false=>rw[Abh F3,Abh Av2]
 |true=>
  have hp:(part ((a.take E).drop s) 4 4).length=4:=Dj;have hn:=Yn (l:=part ((a.take E).drop s) 4 4) F0;have hn4:=gY (l:=part ((a.take E).drop s) 4 4) F0;have hc8:Cr a (Ae (s:Int) 4) (Ae (s:Int) 8)=some (part ((a.take E).drop s) 4 4):=by
   rw[Ag,Ag,show(s:Int)+4=((s+4:Nat):Int) by omega,show(s:Int)+8=((s+8:Nat):Int) by omega,Ve,Ajs,Ajs,part];simp only[Avu,Auv,List.take_take];congr 2;omega
  rw[Aa1 F3,Aa1 Av2,HA,Vy,hc8,Aa,oY _ F0,Aa,e8,es];rw[<-hn]at hn4⊢;generalize gS (part ((a.take E).drop s) 4 4)=n at hn4;have hmod:(Ae n (Oq n 2)).toNat=n.toNat+n.toNat %2:=by
   have e:Ae n (Oq n 2)=UInt64.ofNat (n.toNat+n.toNat %2):=by
    rw[QC,UInt64.ofNat_add];congr 1
    ·simp
    ·rw[VB];apply UInt64.toNat_inj.1;rw[Au3,Ahx];show n.toNat %2=_;omega
   rw[e,Ahx,Acn F0]
  have hsz:(Ad (Ak ((E-s:Nat):Int) 8):UInt64).toNat=E-s-8:=by
   rw[Dx,show((E-s:Nat):Int)-8=((E-s-8:Nat):Int) by omega,Sr,Ahx,Acn F0]
  by_cases hbig:E-s-8<n.toNat+n.toNat %2
  ·rw[Abh (by rw[Qp,hmod,hsz];simpa using hbig),Abh hbig]
  rw[Aa1 (by rw[Qp,hmod,hsz];simpa using hbig),Aa1 hbig,Arr];have hgn:(Ad n:Int)=(n.toNat:Int):=Ym F0;have h23:On (Cs a f b q) a f b (s:Int) n g=Cs a f b q ((s+(8+n.toNat+n.toNat %2):Nat):Int) (g++[(((a.take E).drop s).take 4,(((a.take E).drop s).drop 8).take n.toNat,())]):=by
   have hcd:Cr a (Ae (s:Int) 8) (Ae (Ae (s:Int) 8) (Ad n:Int))=some ((((a.take E).drop s).drop 8).take n.toNat):=by
    rw[hgn,Ag (a:=(s:Int)) F0 F0,Ag,show(s:Int)+8+(n.toNat:Int)=((s+8+n.toNat:Nat):Int) by omega,show(s:Int)+8=((s+8:Nat):Int) by omega,Ve,Ajs,Ajs];simp only[Avu,Auv,List.take_take];congr 2;omega
   rw[On,Oc,hc4,Aa,hcd,Aa,As F5,Aa,Asa,As F5,Aa,Vj,HK,Ym (by rw[hmod];omega),hmod,Ag (a:=(8:Int)) F0 F0,Ag];congr 1;omega
  by_cases h1:n.toNat %2=1
  ·have hix:Ae (Ae (s:Int) 8) (Ad n:Int)=((s+8+n.toNat:Nat):Int):=by
    rw[hgn,Ag (a:=(s:Int)) F0 F0,Ag];omega
   have hgd:a[s+8+n.toNat]' F0=((a.take E).drop s).getD (8+n.toNat) 0:=by
    rw[List.getD_eq_getElem?_getD,List.getElem?_eq_getElem F0,Option.getD_some,List.getElem_drop,Ava];congr 1;omega
   rw[Abh (by simpa using h1),hix,Ca,Aa,hgd];by_cases h3:((a.take E).drop s).getD (8+n.toNat) 0=0
   ·rw[h3,Aa1 F3,Aa1 Av2];simp only;exact h23
   ·rw[Abh (by rw[R9];simpa using h3),Abh ⟨h1,h3⟩]
  ·rw[Aa1 (by simpa using h1),Aa1 (λh=>h1 h.1)];simp only;exact h23
theorem E9{a f:LB}{b:UInt64}{E:Nat}(ha:a.length<=100000)(hb:b.toNat+8=E)(hE:E<=a.length):∀(q1 q2 s:Nat) (g:List (LB×LB×Unit)),E-s<q1->E-s<q2->s<=E->g.length<=20->
  Cs a f b q2 (s:Int) g=Un a b f q1 ((a.take E).drop s) g
 |0,q2,s,g,h,_,_,_=>absurd h (Aqw _)
 |q1+1,0,s,g,_,h,_,_=>absurd h (Aqw _)
 |q1+1,q2+1,s,g,h1,h2,hs,hg=>by
  have hl:((a.take E).drop s).length=E-s:=by rw[Aqi,Af3];omega
  rw[Un,NU];by_cases h0:s<E
  ·rw[Abh Aww];by_cases h20:g.length=20
   ·rw[Abh Awd,Y3 ha hb hE h0 hg,Abh h20]
   rw[Aa1 Awd,Ae4 F0,Aa,Y3 ha hb hE h0 hg,Aa1 h20];cases hz:yS ((a.take E).drop s)with
   |none=>rfl
   |some z=>
    obtain⟨z1,z2,z3⟩:=Ajh hz;simp only;rw[Aa1 F3,As F5,Aa,Auv];exact E9 ha hb hE q1 q2 (s+z.2.2) _ F0 F0 F0 F5
  ·have hgb:(Ad b:Int)=(b.toNat:Int):=Ym F0;have e8:Ae (Ad b:Int) 8=(E:Int):=by rw[hgb,Ag];omega
   have hb8:(Ae b 8).toNat=b.toNat+8:=by
    have e:Ae b 8=UInt64.ofNat (b.toNat+8):=by rw[QC,UInt64.ofNat_add];simp
    rw[e,Ahx,Acn F0]
   rw[Cs,Of,e8,Aa1 F9,Aa1 Aww,Vw,HO,IV,UD,e8];by_cases hm:E<a.length
   ·rw[Abh Av3,Abh (by rw[Qp,kG ha,hb8];simp;omega)]
   ·rw[Aa1 Av3,Aa1 (by rw[Qp,kG ha,hb8];simp;omega)]
theorem Aed(ha:a.length<=2000):Wp a=OD a:=by
 rw[Wp,Wz,OD,NV];by_cases h12:a.length<12
 ·rw[Abh F2,Abh F2]
 have hc:Cr a 4 8=some (part a 4 4):=by
  rw[Ve];rfl
 rw[Aa1 F2,Aa1 F2,show kH a 4 4=_ from Y6 a 4 4 F0 F0 F0 F0,Aa];simp only;have hp:(part a 4 4).length=4:=Dj;rw[hc,Ve,Aa,Aa,Aa,oY _ F0,Aa,Tu,Aa,Aa];have hb:(gS (part a 4 4)).toNat<4294967296:=by
  rw[Yn F0];exact gY F0
 generalize gS (part a 4 4)=b at hb;have hb8:(Ae b 8).toNat=b.toNat+8:=Aca (k:=8) hb F0;have hgb:(Ad b:Int)=(b.toNat:Int):=Ym F0;have e8:Ae (Ad b:Int) 8=((b.toNat+8:Nat):Int):=by rw[hgb,Ag];omega
 have six:4<=b.toNat->∀(f:LB),Va a f b=Pr a b f false:=by
  intro h4 f;rw[Va,Vb];have e6:Pr a b f false=(if Da (Ae b 8) 100000=true then some ([],[],4)else if Da (Ae b 8) (Ad (Ac a):UInt64)=true then some ([],[],24)else NX a b f):=by
   rw[Pr,FD,Aa1 Bool.false_ne_true]
  rw[e6];by_cases h1:Da (Ae b 8) 100000=true
  ·rw[Abh h1,Abh h1]
  rw[Aa1 h1,Aa1 h1,e8];by_cases h2:a.length<b.toNat+8
  ·rw[Abh F2,Abh (by rw[Qp,kG F0,hb8];simpa using h2)]
  rw[Aa1 F2,Aa1 (by rw[Qp,kG F0,hb8];simpa using h2),NX,NL,Ho,hb8];rw[Ve,Aa,ZA,GR,Ajs];exact E9 (E:=b.toNat+8) F0 rfl F0 Aq Aq 12 [] F7 F7 F0 Av2
 have h6:∀f:LB,Pr a b f true=some ([],[],12):=λf=>by rw[Pr,FD,Abh rfl]
 have ht4:(true||Cm b 4)=true:=Bool.true_or _;by_cases hr:(a.take (4:Int).toNat != [82,73,70,70])=true
 ·rw[Abh hr,Abh hr,Abh ht4,ht4,h6]
 ·rw[Aa1 hr,Aa1 hr,D5 F5];obtain⟨t,ht⟩:=eW (a:=(a.take (12:Int).toNat).drop (8:Int).toNat) F5;rw[ht,Aa,Aa];by_cases hx:((!t)||Cm b 4)=true
  ·rw[Abh hx,hx,h6]
  ·have h4:4<=b.toNat:=by
    have h:=Bool.eq_false_iff.2 hx;rw[Aud,gX]at h;have:=h.2;simp at this;exact this
   rw[Aa1 hx,Bool.eq_false_iff.2 hx];exact six h4 _
def A8(f:Nat->Int32)(ch:Nat):LX:=(List.range ch).map λi=>U4 f ch i
theorem VT(f:Nat->Int32)(ch:Nat):(A8 f ch).length=ch:=by simp[A8]
theorem uS(f:Nat->Int32){ch i:Nat}(h:i<ch):(A8 f ch).getD i 0=U4 f ch i:=by
 rw[Nz (by rw[VT];exact h)];simp[A8]
theorem Aad(a b:Int32):Bn (Ak (Ad a:Int) (Ay (Ad b:Int) (2:Int)))=some (a-Ay b (2:Int32)):=by
 have:=Xp a;have hb:=Xp b;have hd: -2147483648<=b.toInt.tdiv 2/\b.toInt.tdiv 2<=2147483648:=by
  rw[Int.tdiv_eq_ediv,show Int.sign 2=1 from rfl];by_cases h:0<=b.toInt\/2∣b.toInt
  ·rw[Abh h];omega
  ·rw[Aa1 h];omega
 have e:Ay b (2:Int32)=Int32.ofInt (b.toInt.tdiv 2):=rfl;rw[Eh,Eh,TK,Df F0 F0,Dx,uJ,Int32.ofInt_sub,Arz,e]
theorem zC(seg:LX)(ch:Nat)(h1:1<=ch)(h6:ch<=6)(hs:seg.length=ch):∀(j i q:Nat),i+j=ch->j<q->
  Hj seg q (i:Int) ((A8 (λi=>seg.getD i 0) ch).take i)=some (A8 (λi=>seg.getD i 0) ch)
 |j,i,0,_,h=>absurd h (Aqw _)
 |0,i,q+1,hi,_=>by
  have hlen:=VT (λi=>seg.getD i 0) ch;rw[Hj,Om,Aa1 F2,Aka F0];rfl
 |j+1,i,q+1,hi,hq=>by
  have hlen:=VT (λi=>seg.getD i 0) ch;have hg:=uS (λi=>seg.getD i 0) (show i<ch by omega);have ih:=zC seg ch h1 h6 hs j (i+1) q F0 F0;rw[Hh F0,<-Nz F0,hg]at ih;have htl:((A8 (λi=>seg.getD i 0) ch).take i).length=i:=by rw[Af3];omega
  have e3:Ae (i:Int) 1=((i+1:Nat):Int):=by rw[Ag];omega
  have e1:Ak (Ac seg) 1=((ch-1:Nat):Int):=by rw[Ac,hs,Dx];omega
  rw[Hj,Om,Abh F2];by_cases hc:ch=1
  ·have hv:U4 (λi=>seg.getD i 0) ch i=seg.getD i 0:=by
    rw[U4,Aa1 F0,Aa1 F0,show ch-1=i by omega]
   have h0:Aj seg 0=some (seg.getD i 0):=by
    have:=U6 (l:=seg) (k:=i) F0;rw[show(i:Int)=0 by omega]at this;exact this
   rw[hv]at ih;rw[Abh (by rw[Ba,Ac,hs,hc];rfl),h0,Aa,As (by rw[htl];simp;omega),Aa,e3];exact ih
  ·rw[Aa1 (by rw[Ba,Ac,hs];simp;omega),e1];by_cases hl:i+1<ch
   ·have hv:U4 (λi=>seg.getD i 0) ch i=seg.getD (i+1) 0-seg.getD i 0:=by rw[U4,Abh hl]
    rw[hv]at ih;rw[Abh F9,e3,U6 F0,Aa,U6 F0,Aa,yW,Aa,As (by rw[htl];simp;omega),Aa];exact ih
   ·have hv:U4 (λi=>seg.getD i 0) ch i=seg.getD (ch-1) 0-Ay (seg.getD (ch-1) 0-seg.getD (ch-2) 0) (2:Int32):=by rw[U4,Aa1 hl,Abh F0]
    rw[hv]at ih;have e4:Ak (i:Int) 1=((i-1:Nat):Int):=by rw[Dx];omega
    have hp:((A8 (λi=>seg.getD i 0) ch).take i).getD (i-1) 0=seg.getD (ch-1) 0-seg.getD (ch-2) 0:=by
     rw[Nz F0,Ava,<-Nz F0,uS _ F0,U4,Abh F0,show i-1+1=ch-1 by omega,show i-1=ch-2 by omega]
    rw[Aa1 F9,e4,U6 F0,Aa,U6 F0,Aa,Aa,hp,Aad,Aa,As (by rw[htl];simp;omega),Aa,e3,show seg.getD i 0=seg.getD (ch-1) 0 by rw[show i=ch-1 by omega]];exact ih
theorem Aif(seg:LX)(ch:Nat)(h1:1<=ch)(h6:ch<=6)(hs:seg.length=ch):AY seg=some (A8 (λi=>seg.getD i 0) ch):=
 zC seg ch h1 h6 hs ch 0 Aq F0 F7
theorem uR(ch:Nat)(m:LX)(h1:1<=ch)(h6:ch<=6)(hm:m.length %ch=0)(hl2:m.length<=4000):∀(j at' q:Nat),at' %ch=0->at'<=m.length->m.length-at'<=j->j<q->
  Mg (ch:Int) m q (at':Int) ((mx ch m).take at')=some (mx ch m,0)
 |j,at',0,_,_,_,h=>absurd h (Aqw _)
 |j,at',q+1,ha,hle,hj,hq=>by
  have hlen:=LO ch m;rw[Mg,Zn];by_cases h:at'<m.length
  ·have hb:=lu ha hm h;have e4:Ae (at':Int) (ch:Int)=((at'+ch:Nat):Int):=by rw[Ag];omega
   have hrest:=uR ch m h1 h6 hm hl2 (j-1) (at'+ch) q (by rw[Nat.add_mod_right,ha]) hb F0 F0;have hseg:((m.take (at'+ch)).drop at').length=ch:=by simp;omega
   have htl:((mx ch m).take at').length=at':=by simp[hlen];omega
   rw[Abh F2,e4,Ve,Aa,show((at'+ch:Nat):Int).toNat=at'+ch from rfl,show(at':Int).toNat=at' from rfl,Aif _ ch h1 h6 hseg,Aa,As (by rw[htl,VT];omega),Aa];have e:(mx ch m).take at'++A8 (λi=>((m.take (at'+ch)).drop at').getD i 0) ch=(mx ch m).take (at'+ch):=by
    apply Arw (by rw[Abp,htl,VT,Af3,hlen];omega);intro k k1 k2;rw[Af3,hlen]at k2;rw[List.getElem_append,Ava];by_cases hk:k<at'
    ·rw[dif_pos (by rw[htl];exact hk),Ava]
    ·rw[dif_neg (by rw[htl];exact hk)];have hu:=JW ch m ha (show k-at'<ch by omega) F0;rw[show at'+(k-at')=k by omega,Nz F0]at hu;have hf:∀i,i<ch-> ((m.take (at'+ch)).drop at').getD i 0=m.getD (at'+i) 0:=by
      intro i hi;rw[Nz F0,Nz F0];simp
     have hx:U4 (λi=>((m.take (at'+ch)).drop at').getD i 0) ch (k-at')=U4 (λi=>m.getD (at'+i) 0) ch (k-at'):=by
      unfold U4;split
      ·simp only;rw[hf _ F0,hf _ F0]
      ·split
       ·simp only;rw[hf _ F0,hf _ F0]
       ·simp only;rw[hf _ F0]
     have hy:=uS (λi=>((m.take (at'+ch)).drop at').getD i 0) (show k-at'<ch by omega);rw[Nz (by rw[VT];omega)]at hy;rw[hu,<-hx,<-hy];congr 1;rw[htl]
   rw[e];exact hrest
  ·rw[Aa1 F2,Aka F0];rfl
theorem Aie(ch:Nat)(m:LX)(h1:1<=ch)(h6:ch<=6)(hm:m.length %ch=0)(hl2:m.length<=4000):Yg (ch:Int) m=some (mx ch m,0):=by
 have h:=uR ch m h1 h6 hm hl2 m.length 0 Aq Av2 F0 F0 F7;rw[Yg,Ys,Aly ch m h1 h6 hm hl2,Aa,Aa1 Awa];exact h
theorem Aoq{s:Int}{t p:LX}(h:OkF s t p)(x:Int32):Wl s t p x=some (x-gF s t p,s,A3 t p (x-gF s t p),x::p.take 15):=by
 rw[Wl,Akz h,Aa,yW,Aa,Abc h,Aa];simp only;rw[Afc h.2.2,Aa]
theorem Apd{bits:Int}(h:Bg bits){t p:LX}(hF:OkF (sB bits) t p)(last x:Int32):
  Pw bits last (sB bits) t p x=some (lL bits (last,t,p) x,bits,x,sB bits,A3 t p (lL bits (last,t,p) x),(x-gs (shB bits) last)::p.take 15):=by
 have hb:Mj bits last (sB bits) t p=some (Ad (gs (shB bits) last):Int):=by
  rw[Mj];obtain rfl|rfl|rfl:=h
  ·rw[Abh Awt,rD 4 (.inl rfl),Aa];rfl
  ·rw[Aa1 Awj,rD 5 (.inr rfl),Aa];rfl
  ·rw[Aa1 Awj,rD 5 (.inr rfl),Aa];rfl
 rw[Pw,hb,Aa,yW,Aa,Aoq hF,Aa];rfl
theorem Akt(a:Int32):Wq a=some (fP a):=by
 have h:=Xp a;have e1:Ls a 0=decide (0<=a.toInt):=rfl;rw[Wq,fP];by_cases h0:0<=a.toInt
 ·have e2:Bc 2 (Ad a:UInt32)=UInt32.ofNat (2*a.toInt.toNat):=by
   have e3:(Ad a:UInt32)=UInt32.ofNat a.toInt.toNat:=by
    show UInt32.ofNat (a.toInt %4294967296).toNat=_;rw[Int.emod_eq_of_lt h0 F0]
   rw[e3,ru,UInt32.ofNat_mul];rfl
  rw[Abh (by rw[e1];simpa using h0),e2,Abh h0]
 ·have e2:Ak (Bc (-2:Int) (Ad a:Int)) 1=((2*(-a.toInt-1).toNat+1:Nat):Int):=by
   rw[Eh,Gu,Dx];omega
  rw[Aa1 (by rw[e1];simpa using h0),e2,J0,Aa1 h0]
def RK(p:Nat->Bool)(a:LU):LU:=(List.range a.length).map λk=>if p k=true then a.getD k 0 else 0
theorem AE(p:Nat->Bool)(a:LU):(RK p a).length=a.length:=by simp[RK]
theorem kY{p r:Nat->Bool}{a:LU}(h:∀k,k<a.length->p k=r k):RK p a=RK r a:=by
 apply Arw (by rw[AE,AE]);intro k h1 h2;rw[AE]at h1;simp only[RK,Aua,Att,h k h1]
theorem Air{p:Nat->Bool}{a:LU}{i:Nat}(h:i<a.length):Ku (RK p a) (i:Int) (a.getD i 0)=some (RK (λk=>p k||decide (k=i)) a):=by
 rw[Xn _ (by rw[AE];exact h)];congr 1;apply Arw (by rw[Auz,AE,AE]);intro k h1 h2;rw[Au4];simp only[RK,Aua,Att];by_cases hk:i=k
 ·subst hk;rw[Abh rfl,Abh Av2]
 ·rw[Aa1 hk];have:(p k||decide (k=i))=p k:=by rw[Anr (λe=>hk e.symm),Bool.or_false]
  rw[this]
theorem Ais{p:Nat->Bool}{a:LU}(h:∀k,k<a.length->p k=true):RK p a=a:=by
 apply Arw (by rw[AE]);intro k h1 h2;simp only[RK,Aua,Att];rw[Abh (h k h2),List.getD_eq_getElem?_getD,List.getElem?_eq_getElem h2];rfl
theorem Afl{p:Nat->Bool}{a:LU}(h:∀k,k<a.length->p k=false):RK p a=List.replicate a.length 0:=by
 apply Arw (by rw[AE,Anf]);intro k h1 h2;rw[AE]at h1;simp only[RK,Aua,Att,List.getElem_replicate];rw[Aa1 (by rw[h k h1];decide)]
def chan(ch c:Nat)(l:LX):LX:=(List.range (l.length/ch)).map λm=>l.getD (c+m*ch) 0
theorem nN(ch c:Nat)(l:LX):(chan ch c l).length=l.length/ch:=by simp[chan]
theorem oh{ch c m:Nat}{l:LX}(h:m<l.length/ch):(chan ch c l).getD m 0=l.getD (c+m*ch) 0:=by
 rw[Nz (by rw[nN];exact h)];simp[chan]
theorem Adg{ch c m n:Nat}(hc:c<ch)(h:m<n):c+m*ch<n*ch:=by
 have:(m+1)*ch<=n*ch:=Af0 ch h;rw[Aim,Aqu]at this;omega
theorem Aaw(ch c:Nat)(l:LX)(hc:c<ch)(h6:ch<=6)(hm:l.length %ch=0)(hl:l.length<=4000):Pq l (c:Int) (ch:Int)=some (chan ch c l):=by
 have hdm:l.length=l.length/ch*ch:=by have:=At9 l.length ch;rw[Anw]at this;omega
 have hcl:=nN ch c l;have hN:l.length/ch<=l.length:=Aqh _ _;have loop:∀(j m q:Nat),m+j=l.length/ch->j<q->Fj l (ch:Int) q ((c+m*ch:Nat):Int) ((chan ch c l).take m)=some (chan ch c l):=by
  intro j
  induction j with
  |zero=>
   intro m q hi hq;obtain⟨q,rfl⟩:∃q',q=q'+1:=⟨q-1,F0⟩;rw[show m=l.length/ch by omega];rw[Fj,Lj,Aa1 Av9,Aka F0];rfl
  |succ j ih=>
   intro m q hi hq;obtain⟨q,rfl⟩:∃q',q=q'+1:=⟨q-1,F0⟩;have hin:=Adg hc (show m<l.length/ch by omega);have hg:=oh (ch:=ch) (c:=c) (l:=l) (show m<l.length/ch by omega);have h2:=ih (m+1) q F0 F0;rw[Hh F0,<-Nz F0,hg]at h2;have e:Ae ((c+m*ch:Nat):Int) (ch:Int)=((c+(m+1)*ch:Nat):Int):=by
    rw[Aim,Aqu];generalize m*ch=z at hin⊢;rw[Ag];omega
   rw[Fj,Lj,Abh Av9,U6 F0,Aa,As F5,Aa,e];exact h2
 have h0:=loop (l.length/ch) 0 Aq F0 F7;rw[Au5,Asg]at h0;rw[Pq,Sg];exact h0
section
variable {bits:Int} {ch:Nat} {t x:LX} (hb:Bg bits) (ht:t.length=16) (h1:1<=ch) (h6:ch<=6) (hx4:x.length<=4000) (hm:x.length %ch=0)
include hb ht h1 h6 hx4 hm
theorem tE(bk:Int->LU->Option LU)(c:Nat)(hc:c<ch):∀(j m q:Nat),m+j=x.length/ch->j<q->
  Ge bk (ch:Int) bits t (mx ch x) (c:Int) (chan ch c (mx ch x)) q (m:Int) (RK (λk=>decide (k %ch<c\/ (k %ch=c/\k<c+m*ch))) (Fg bits ch t x)) bits (cst bits ch t (Fg bits ch t x) c (c+m*ch)).1 (sB bits) (cst bits ch t (Fg bits ch t x) c (c+m*ch)).2.1 (cst bits ch t (Fg bits ch t x) c (c+m*ch)).2.2=
   bk ((c+1:Nat):Int) (RK (λk=>decide (k %ch<c+1)) (Fg bits ch t x))
 |j,m,0,_,h=>absurd h (Aqw _)
 |0,m,q+1,hi,_=>by
  have hVl:=OU bits ch t x;have hml:=LO ch x;have hcl:=nN ch c (mx ch x);have hdm:x.length=x.length/ch*ch:=by have:=At9 x.length ch;rw[Anw]at this;omega
  rw[hml]at hcl;rw[Ge,Jc,Aa1 Av9,Ts,DL,Ag];have wo:RK (λk=>decide (k %ch<c\/ (k %ch=c/\k<c+m*ch))) (Fg bits ch t x)=RK (λk=>decide (k %ch<c+1)) (Fg bits ch t x):=by
   apply kY;intro k hk;rw[show m=x.length/ch by omega,<-hdm];rw[An2];simp only[Aef];omega
  rw[wo];rfl
 |j+1,m,q+1,hi,hq=>by
  have hVl:=OU bits ch t x;have hml:=LO ch x;have hcl:=nN ch c (mx ch x);rw[hml]at hcl;have hdm:x.length=x.length/ch*ch:=by have:=At9 x.length ch;rw[Anw]at this;omega
  have hin:=Adg hc (show m<x.length/ch by omega);have hNd:x.length/ch<=x.length:=Aqh _ _;rw[<-hdm]at hin;have hg:=oh (ch:=ch) (c:=c) (l:=mx ch x) (m:=m) (by rw[hml];omega);have ih:=tE bk c hc j (m+1) q F0 F0;have hmul:(m+1)*ch=m*ch+ch:=by rw[Aim,Aqu]
  have hmod:(c+m*ch) %ch=c:=by rw[Nat.add_mul_mod_self_right,Acn hc]
  rw[hmul,<-Ara]at ih;have hidx:Ae (c:Int) (Bc (m:Int) (ch:Int))=((c+m*ch:Nat):Int):=by
   rw[Gu Av7 Av7,<-Ana,Ag];omega
  generalize hI:c+m*ch=i at*
  have hok:=Abg bits ch ht (Fg bits ch t x) c i;have hV:=Z7 (bits:=bits) (ch:=ch) (t:=t) (x:=x) (i:=i) F0;rw[hmod]at hV;have hst:=Apd hb hok (cst bits ch t (Fg bits ch t x) c i).1 ((mx ch x).getD i 0);have tA:cst bits ch t (Fg bits ch t x) c (i+ch)=sS bits (cst bits ch t (Fg bits ch t x) c i) (vC ((Fg bits ch t x).getD i 0)):=Ahj ch c i _ _ hmod hc;rw[hV,Ahz]at tA;have hset:=Air (p:=λk=>decide (k %ch<c\/ (k %ch=c/\k<i))) (a:=Fg bits ch t x) (i:=i) F0;have wo:RK (λk=>decide (k %ch<c\/ (k %ch=c/\k<i))||decide (k=i)) (Fg bits ch t x)=RK (λk=>decide (k %ch<c\/ (k %ch=c/\k<i+ch))) (Fg bits ch t x):=by
   apply kY;intro k _;rw[An2];simp only[Aqm,Aef];constructor
   ·rintro((h1|h1)|h1)
    ·exact .inl h1
    ·exact .inr ⟨h1.1,F0⟩
    ·subst h1;exact .inr ⟨hmod,F0⟩
   ·rintro(h1|⟨h1,h2⟩)
    ·exact .inl (.inl h1)
    ·by_cases h3:k<i
     ·exact .inl (.inr ⟨h1,h3⟩)
     ·refine .inr ?_;have h4:(i+(k-i)) %ch=i %ch:=by rw[show i+(k-i)=k by omega,h1,hmod]
      have h5:=Nat.sub_mod_eq_zero_of_mod_eq h4;rw[At6,Acn F0]at h5;omega
  rw[wo]at hset;rw[tA]at ih;have hz:(sS bits (cst bits ch t (Fg bits ch t x) c i) (lL bits (cst bits ch t (Fg bits ch t x) c i) ((mx ch x).getD i 0)))=((mx ch x).getD i 0,A3 (cst bits ch t (Fg bits ch t x) c i).2.1 (cst bits ch t (Fg bits ch t x) c i).2.2 (lL bits (cst bits ch t (Fg bits ch t x) c i) ((mx ch x).getD i 0)),((mx ch x).getD i 0-gs (shB bits) (cst bits ch t (Fg bits ch t x) c i).1)::(cst bits ch t (Fg bits ch t x) c i).2.2.take 15):=by
   rw[sS,E0,lL,SI]
  rw[hz]at ih;obtain⟨y0,hy0⟩:∃y,Aj (RK (λk=>decide (k %ch<c\/ (k %ch=c/\k<i))) (Fg bits ch t x)) (i:Int)=some y:=⟨_,pH (by rw[AE];omega)⟩;rw[Ge,Jc,Abh Av9,U6 F0,Aa,Aa,hg];refine Asr (congrArg (λo=>Option.bind o _) hst) ?_;rw[Aa];simp only;rw[Tq,DI,Akt,Aa,hidx];refine Asr (congrArg (λo=>Option.bind o _) hy0) ?_;rw[Aa];rw[hV]at hset;refine Asr (congrArg (λo=>Option.bind o _) hset) ?_;rw[Aa,Ag];exact ih
theorem sD:∀(j c q:Nat),c+j=ch->j<q->
  Em (ch:Int) bits t (mx ch x) q (c:Int) (RK (λk=>decide (k %ch<c)) (Fg bits ch t x))=some (Fg bits ch t x)
 |j,c,0,_,h=>absurd h (Aqw _)
 |0,c,q+1,hc,_=>by
  rw[Em,Mt,Aa1 F9,Ais (λk hk=>by have:=At4 k (show 0<ch by omega);simp;omega)];rfl
 |j+1,c,q+1,hc,hq=>by
  have hml:=LO ch x;have ih:=sD j (c+1) q F0 F0;have hin:=tE hb ht h1 h6 hx4 hm (Em (ch:Int) bits t (mx ch x) q) c F0 (x.length/ch) 0 Aq F0 (by have:=Ap;have:=Aqh x.length ch;omega);rw[Au5,Asg]at hin;have h0:cst bits ch t (Fg bits ch t x) c c=(0,t,List.replicate 16 0):=Ado ch c _ _ c (Aqe _) F0;rw[h0]at hin;have wo:RK (λk=>decide (k %ch<c\/ (k %ch=c/\k<c))) (Fg bits ch t x)=RK (λk=>decide (k %ch<c)) (Fg bits ch t x):=by
   apply kY;intro k hk;have:=Avm k ch;rw[An2];simp only[Aef];omega
  rw[wo]at hin;rw[Em,Mt,Abh F9,Ars hb,Aa];simp only;rw[Aaw ch c (mx ch x) F0 h6 (by rw[hml];exact hm) F0,Aa,Tz];exact Asr hin ih
theorem Ad0:Ua (ch:Int) bits t x=some (Fg bits ch t x):=by
 have hVl:=OU bits ch t x;have h:=sD hb ht h1 h6 hx4 hm ch 0 Aq F0 F7;rw[Afl (λk _=>by simp),hVl]at h;rw[Ua,Vt,Aie ch x h1 h6 hm hx4,Aa];simp only;rw[Ac,I5,Aa,Bt Aw6,Aa,Ajs,DQ];exact h
end
theorem W0{m:Nat}{b:Bool}{c:List Bool}(h:At p m (b::c))(hm:m<=400000):Ck (Ma p 0 m) (m:Int) (if b=true then 1 else 0)=some (Ma p 0 (m+1),((m+1:Nat):Int)):=by
 have h0:=h.cons.1;have:=uY p 0 m hm;rw[Ar7,h0]at this;cases b<;>exact this
theorem mF{m n:Nat}(hm:m+n<=300000)(hn:n<=63):Jg (Ma p 0 m) (m:Int) (NH p m n) (n:Int)=some (Ma p 0 (m+n),((m+n:Nat):Int)):=by
 have loop:∀(j i q:Nat),i+j=n->j<q->Gh (n:Int) q (NH p (m+i) j) (i:Int) ((m+i:Nat):Int) (Ma p 0 (m+i))=some (Ma p 0 (m+n),((m+n:Nat):Int)):=by
  intro j
  induction j with
  |zero=>
   intro i q hi hq;obtain⟨q,rfl⟩:∃q',q=q'+1:=⟨q-1,F0⟩;obtain rfl:i=n:=F0
   rw[Gh,Mx,Aa1 Av8];rfl
  |succ j ih=>
   intro i q hi hq;obtain⟨q,rfl⟩:∃q',q=q'+1:=⟨q-1,F0⟩;have hg:(NH p (m+i) (j+1)).toNat=Hr p (m+i)+2*De p (m+i+1) j:=by rw[QV _ _ _ F0,De]
   have hlt:=WE p (m+i);have e1:(Ad (Oq (NH p (m+i) (j+1)) (2:UInt64)):Int)=((Hr p (m+i):Nat):Int):=by
    have e:(Oq (NH p (m+i) (j+1)) (2:UInt64)).toNat=Hr p (m+i):=by
     rw[VB,Au3,hg];show _ %2=_;omega
    rw[Ym (by rw[e];omega),e]
   have e2:Ay (NH p (m+i) (j+1)) (2:UInt64)=NH p (m+i+1) j:=by
    apply UInt64.toNat_inj.1;rw[fN,Au2,hg,QV _ _ _ F0];show _/2=_;omega
   have ha:=uY p 0 (m+i) F0;rw[Ar7]at ha;rw[Gh,Mx,Abh F9,e1,ha,Aa];simp only;rw[e2,Ag];exact ih (i+1) q F0 F0
 exact loop n 0 Aq F0 F7
theorem Apl{q i:Nat}(h:i<q):tb (List.replicate q true) i=1:=by
 rw[tb,Abh];rw[List.getD_eq_getElem?_getD,List.getElem?_eq_getElem (by simpa using h)];simp
theorem I2{m n:Nat}(hn:n<=48)(hm:m+48<=300000)(h:At p m (List.replicate n true++(if n=48 then []else [false]))):HW (Ma p 0 m) (m:Int) (n:Int)=some (Ma p 0 (m+min (n+1) 48),((m+min (n+1) 48:Nat):Int)):=by
 have loop:∀(j i q:Nat),i+j=n->j<q->Je (n:Int) q (i:Int) ((m+i:Nat):Int) (Ma p 0 (m+i))=some (Ma p 0 (m+min (n+1) 48),((m+min (n+1) 48:Nat):Int)):=by
  intro j
  induction j with
  |zero=>
   intro i q hi hq;obtain⟨q,rfl⟩:∃q',q=q'+1:=⟨q-1,F0⟩;obtain rfl:i=n:=F0
   rw[Je,Qq,Aa1 Av8,Zp,MP];by_cases h48:i=48
   ·rw[Aa1 F9,show m+min (i+1) 48=m+i by omega]
   ·have h2:=h.right;rw[Aa1 h48,Anf]at h2;have ha:=W0 h2 F0;rw[Aa1 F3]at ha;rw[Abh F9,ha,Aa,show m+min (i+1) 48=m+i+1 by omega]
  |succ j ih=>
   intro i q hi hq;obtain⟨q,rfl⟩:∃q',q=q'+1:=⟨q-1,F0⟩;have hb:Hr p (m+i)=1:=by
    rw[h i (by rw[Abp,Anf];omega),Acr (by rw[Anf];omega),Apl F0]
   have ha:=uY p 0 (m+i) F0;rw[Ar7,hb]at ha;rw[Je,Qq,Abh F9,show(1:Int)=((1:Nat):Int)from rfl,ha,Aa];simp only;rw[Ag];exact ih (i+1) q F0 F0
 exact loop n 0 Aq F0 F7
theorem Ag7{m l:Nat}{v:UInt32}(hl:l<=24)(hm:m+81<=300000)(h:At p m (PB l v.toNat)):
  Kk (Ma p 0 m) (m:Int) v (l:Int)=some (Ma p 0 (m+(PB l v.toNat).length),((m+(PB l v.toNat).length:Nat):Int)):=by
 have hvl:=v.toNat_lt;have hpos:0<2^l:=Auh F0;rw[Kk,Ak4 v l hl,Aa];rw[PB]at h⊢;by_cases h48:48<=v.toNat/2^l
 ·rw[Abh h48]at h⊢;obtain⟨h1,h2⟩:=h.cat;rw[Anf]at h2;have hval:=HZ p 32 (m+48) v.toNat h2;rw[Acn F0]at hval;have hu:=I2 (p:=p) (m:=m) (n:=48) (Aqe _) F0 (by rw[Abh rfl,Ap2];exact h1);rw[show min 48 (v.toNat/2^l)=48 by omega,hu,Aa];simp only;rw[Abh F3,Dg,YA (x:=UInt64.ofNat v.toNat) (p:=p) (m:=m+48) (n:=32) F0 (by rw[We F0,hval]),show(32:Int)=((32:Nat):Int)from rfl,show m+min (48+1) 48=m+48 by omega,mF F0 F0,Aa,Abp,Anf,Rk,Ara]
 ·rw[Aa1 h48]at h⊢;generalize hq:v.toNat/2^l=q at*
  obtain⟨h1,h2⟩:=h.cat;rw[Anf]at h2;obtain⟨h3,h4⟩:=h2.cons;have hval:=HZ p l (m+q+1) (v.toNat %2^l) h4;rw[Nat.mod_mod]at hval;have hqa:At p m (List.replicate q true++[false]):=by
   have:List.replicate q true++(false::UN (v.toNat %2^l) l)=(List.replicate q true++[false])++UN (v.toNat %2^l) l:=by simp
   rw[this]at h;exact h.left
  have hu:=I2 (p:=p) (m:=m) (n:=q) F0 F0 (by rw[Aa1 F0];exact hqa);have hp2:=RT (show l<=63 by omega);have hrest:Oq (Ad v:UInt64) (UInt64.ofNat (2^l))=NH p (m+q+1) l:=by
   apply YA F0;rw[VB,Au3,hp2,Dg,We F0,hval]
  rw[show min 48 q=q by omega,hu,Aa];simp only;rw[Aa1 Av5,WB l F0,Aa,Bt (by rw[nW];simp only[Aup,ne_eq,<-Avj,hp2];simp),Aa,hrest,show m+min (q+1) 48=m+q+1 by omega,mF F0 F0,Aa,Abp,Anf,Al4,Rk,show m+q+1+l=m+(q+(l+1)) by omega]
theorem Ahw{k l:Nat}{s t:UInt64}(hk:k<=24)(hl:l<=24)(v:UInt32):Gc [] 0 (k:Int) (l:Int) s t v=some (Ed (Ml k l v),((Ml k l v).length:Int)):=by
 have hvl:=v.toNat_lt;have hlen:=OB v hk hl;have hAt:At (Ed (Ml k l v)) 0 (Ml k l v):=λi _=>by rw[Ar7,Xz]
 have hfin:Ma (Ed (Ml k l v)) 0 (Ml k l v).length=Ed (Ml k l v):=by rw[eF _ (Aqe _),Aut]
 have h0:Ma (Ed (Ml k l v)) 0 0=[]:=rfl;have key:∀(p:LB),p=Ed (Ml k l v)->Gc (Ma p 0 0) ((0:Nat):Int) (k:Int) (l:Int) s t v=some (Ma p 0 (Ml k l v).length,((Ml k l v).length:Int)):=by
  intro p hp;rw[<-hp]at hAt;rw[Ml]at hAt⊢;rw[Gc,Qw,Ahm k l s t hk v,Aa];by_cases hs:v.toNat<2^k
  ·rw[Abh hs]at hAt⊢;have ha:=W0 hAt F0;rw[Aa1 F3]at ha;obtain⟨_,hc⟩:=hAt.cons;have hval:=HZ p k (0+1) v.toNat hc;rw[Acn hs]at hval;rw[Abh (by simpa using hs),ha,Aa];simp only;rw[Dg,YA (x:=UInt64.ofNat v.toNat) (p:=p) (m:=0+1) (n:=k) F0 (by rw[We F0,hval]),mF F0 F0,Aa,Al4,Rk,show 0+1+k=k+1 by omega]
  ·rw[Aa1 hs]at hAt⊢;have ha:=W0 hAt F0;rw[Abh rfl]at ha;obtain⟨_,hc⟩:=hAt.cons;have hleft:(SH k v).toNat=v.toNat-2^k:=by rw[SH,Aj1];exact Acn (Atj (Nat.sub_le _ _) F0)
   rw[<-hleft]at hc;have hr:=Ag7 (v:=SH k v) hl F0 hc;rw[Aa1 (by simpa using hs),Yy,Rb,ha,Aa];simp only;rw[left_eq k l s t hk v hs,Aa,hr,Aa,hleft,Al4,show 0+1+(PB l (v.toNat-2^k)).length=(PB l (v.toNat-2^k)).length+1 by omega]
 have:=key _ rfl;rw[hfin,h0]at this;exact this
def rG(ch:Nat)(V:LU):List DuL:=(List.range V.length).map λi=>toI (now ch (V.take i))
theorem zI(ch:Nat)(V:LU):(rG ch V).length=V.length:=by simp[rG]
theorem xD{ch:Nat}{V:LU}{i:Nat}(h:i<V.length):(rG ch V)[i]'(by rw[zI];exact h)=toI (now ch (V.take i)):=by simp[rG]
theorem Afm(ch:Nat)(h1:1<=ch)(h6:ch<=6)(V:LU)(hV:V.length<=4000):Qs (ch:Int) V=some (rG ch V):=by
 have hlen:=zI ch V;have loop:∀(j i q:Nat),i+j=V.length->j<q->Gg (ch:Int) V q (i:Int) ((rG ch V).take i)=some (rG ch V):=by
  intro j
  induction j with
  |zero=>
   intro i q hi hq;obtain⟨q,rfl⟩:∃q',q=q'+1:=⟨q-1,F0⟩;rw[Gg,My,Aa1 F2,Aka F0];rfl
  |succ j ih=>
   intro i q hi hq;obtain⟨q,rfl⟩:∃q',q=q'+1:=⟨q-1,F0⟩;have hg:=xD (ch:=ch) (V:=V) (i:=i) F0;have h2:=ih (i+1) q F0 F0;rw[Hh F0,hg]at h2;have htl:((rG ch V).take i).length=i:=by rw[Af3];omega
   have hVi:(V.take i).length=i:=by rw[Af3];omega
   rw[Gg,My,Abh F2];by_cases hc:i<ch
   ·have hn:now ch (V.take i)=U2:=by
     rw[now,hVi,Acn hc];exact Ab1 ch _ i i (Aqe _) hc
    rw[hn]at h2;rw[Abh F9,Nl,Aa];simp only;rw[As (by rw[htl];simp;omega),Aa,Ag];exact h2
   ·have e1:Ak (i:Int) (ch:Int)=((i-ch:Nat):Int):=by rw[Dx];omega
    have hVj:(V.take (i-ch)).length=i-ch:=by rw[Af3];omega
    have hga:Aj ((rG ch V).take i) ((i-ch:Nat):Int)=some (toI (now ch (V.take (i-ch)))):=by
     rw[Ca,Ava,xD F0]
    have hsplit:V.take i=V.take (i-ch)++(V.drop (i-ch)).take ch:=by
     rw[<-List.take_add,show i-ch+ch=i by omega]
    have hmod:(i-ch) %ch=i %ch:=by rw[<-Nat.add_mod_right (i-ch) ch,show i-ch+ch=i by omega]
    have hgd:(V.take i).getD (i-ch) 0=V.getD (i-ch) 0:=by
     rw[List.getD_eq_getElem?_getD,List.getD_eq_getElem?_getD,List.getElem?_take,Abh F0]
    have hn:now ch (V.take i)=nxt (now ch (V.take (i-ch))) (V.getD (i-ch) 0):=by
     have hst:=Ah8 ch (V.take i) (i %ch) (i-ch) hmod (At4 _ F0);rw[show i-ch+ch=i by omega,hgd]at hst;have hap:tM ch (V.take i) (i %ch) (i-ch)=tM ch (V.take (i-ch)) (i %ch) (i-ch):=by
      rw[hsplit];exact U0 ch _ _ _ _ F0
     rw[now,now,hVi,hVj,hst,hap,hmod]
    rw[hn]at h2;have hle:=Afi (xK ch (V.take (i-ch)) ((V.take (i-ch)).length %ch) (V.take (i-ch)).length) (V.getD (i-ch) 0);rw[Aa1 F9,e1,hga,Aa,pH F0,Aa,Aa];refine Asr (congrArg (λo=>Option.bind o _) hle) ?_;rw[Aa];simp only;rw[As (by rw[htl];simp;omega),Aa,Ag];exact h2
 rw[Qs,Uh];exact loop V.length 0 Aq F0 F7
theorem shZ{k:Nat}(hk:k<64):(GI.toZ (Ad (k:Int):UInt64)).toNat=k:=by
 rw[Sr,Ho,Ajs,We F0]
theorem Asq{k:Nat}(hk:k<8):Di (1:UInt8) k=UInt8.ofNat (2^k):=by
 have:∀k,k<8->Di (1:UInt8) k=UInt8.ofNat (2^k):=F3
 exact this k hk
theorem As4(a:UInt8)(k:Nat):geq (Oq (Ce a k) (2:UInt8)) (1:UInt8)=decide (a.toNat/2^k %2=1):=by
 rw[xG,Ac7,An2];simp only[Atw,<-UInt8.toNat_inj,UInt8.toNat_mod,Aef,U3];rfl
theorem I0(E code:List Bool)(hE:E.length+code.length<=330000)(bk:Int->Int->LB->Option LB)(V:LU)(B:List DuL)(a:Int):∀(j o q:Nat),o+j=code.length->j<q->
  Dk bk V B a (code.length:Int) (Ed code) q ((E.length+o:Nat):Int) (o:Int) (Ma (Ed (E++code)) 0 (E.length+o))=bk ((E.length+code.length:Nat):Int) (Ae a 1) (Ed (E++code))
 |j,o,0,_,h=>absurd h (Aqw _)
 |0,o,q+1,ho,_=>by
  obtain rfl:o=code.length:=F0
  rw[Dk,Mv,Aa1 Av8,Tg,EL,eF _ Awg,Aka Awg]
 |j+1,o,q+1,ho,hq=>by
  generalize hP:Ed (E++code)=P;have hPo:Hr P (E.length+o)=Hr (Ed code) o:=by rw[<-hP,Xz,Xz,M7]
  have ih:=I0 E code hE bk V B a j (o+1) q F0 F0;rw[hP,<-Ara]at ih;generalize hn:E.length+o=n at*
  have hq8:Ay (n:Int) 8=((n/8:Nat):Int):=by rw[show(8:Int)=((8:Nat):Int)from rfl,Oy]
  have hr8:Fm (n:Int) 8=((n %8:Nat):Int):=by rw[show(8:Int)=((8:Nat):Int)from rfl,AV]
  have hqo:Ay (o:Int) 8=((o/8:Nat):Int):=by rw[show(8:Int)=((8:Nat):Int)from rfl,Oy]
  have hro:Fm (o:Int) 8=((o %8:Nat):Int):=by rw[show(8:Int)=((8:Nat):Int)from rfl,AV]
  have hroom:Dk bk V B a (code.length:Int) (Ed code) (q+1) (n:Int) (o:Int) (Ma P 0 n)=Mu (Dk bk V B a (code.length:Int) (Ed code) q) V a B (code.length:Int) (Ed code) (n:Int) (o:Int) (room P 0 n):=by
   rw[Dk,Mv,Abh F9,hr8,room];by_cases h0:n %8=0
   ·rw[Abh (by rw[Ba,h0];rfl),As Aw0,Aa,Abh h0]
   ·rw[Aa1 Av5,Aa1 h0]
  have hcl:=Rs code;have hgm:Aj (Ed code) ((o/8:Nat):Int)=some ((Ed code).getD (o/8) 0):=by
   rw[Ca,List.getD_eq_getElem?_getD,List.getElem?_eq_getElem F0];rfl
  have hg:Aj (room P 0 n) ((n/8:Nat):Int)=some (UInt8.ofNat (De P (0+8*(n/8)) (n %8))):=by
   rw[Ca Awk,VX]
  have hlt:=pP P (0+8*(n/8)) (n %8+1) F0;have hsn:=VI P (0+8*(n/8)) (n %8);rw[show 0+8*(n/8)+n %8=n by omega]at hsn;have hrs:=pD P 0 n 1 F0 F0;have hbit:geq (Oq (Ce ((Ed code).getD (o/8) 0) (o %8)) (2:UInt8)) (1:UInt8)=decide (Hr P n=1):=by
   rw[As4,hPo,Hr]
  rw[hroom,Mu,DZ,hqo,hro,hq8,hr8,hgm,Aa,Aa,shZ F0,shZ F0,hbit];have hbl:=WE P n;by_cases hone:Hr P n=1
  ·have hnew:Ae (UInt8.ofNat (De P (0+8*(n/8)) (n %8))) (Di (1:UInt8) (n %8))=UInt8.ofNat (De P (0+8*(n/8)) (n %8+1)):=by
    rw[Asq F0,Adj,hsn,hone,Nat.mul_one,UInt8.ofNat_add]
   rw[Abh (by simpa using hone),hg,Aa,Aa,Aa,hnew,Xn _ Awk,Aa,hrs,Ag,Ag];exact ih
  ·have hz:Hr P n=0:=F0
   have hsn:De P (0+8*(n/8)) (n %8+1)=De P (0+8*(n/8)) (n %8):=by rw[hsn,hz];simp
   have hsame:room P 0 n=Ma P 0 (n+1):=by
    rw[<-hrs,hsn,<-VX,List.set_getElem_self]
   rw[Aa1 (by simpa using hone),hsame,Ag,Ag];exact ih
theorem rT(ch:Nat)(h1:1<=ch)(h6:ch<=6)(V:LU)(hV:V.length<=4000):∀(j i q:Nat),i+j=V.length->j<q->
  Ei V (rG ch V) q ((CZ ch V i).length:Int) (i:Int) (Ed (CZ ch V i))=some (Ed (CZ ch V V.length)++Ot (Mn (Ed (CZ ch V V.length))).toNat 4)
 |j,i,0,_,h=>absurd h (Aqw _)
 |0,i,q+1,hi,_=>by
  obtain rfl:i=V.length:=F0
  have hel:=JL ch V V.length;have hpl:=Rs (CZ ch V V.length);rw[Ei,Ja,Aa1 Aw2,Tm,FB,Ae6 _ F0,Aa]
 |j+1,i,q+1,hi,hq=>by
  have hlen:=zI ch V;have hno:=K7 ch (V.take i);have hdl:=OB (V.getD i 0) hno.1 hno.2;have hel:=JL ch V i;have ih:=rT ch h1 h6 V hV j (i+1) q F0 F0;have hgs:Aj (rG ch V) (i:Int)=some (toI (now ch (V.take i))):=by rw[Ca,xD F0]
  have hda:=Ahw (s:=(now ch (V.take i)).2.2.1) (t:=(now ch (V.take i)).2.2.2) hno.1 hno.2 (V.getD i 0);have hpc:=I0 (CZ ch V i) (Ml (now ch (V.take i)).1 (now ch (V.take i)).2.1 (V.getD i 0)) F0 (Ei V (rG ch V) q) V (rG ch V) (i:Int) (Ml (now ch (V.take i)).1 (now ch (V.take i)).2.1 (V.getD i 0)).length 0 Aq F0 F7;rw[Asg,eF _ Awg,List.take_left]at hpc;rw[Ei,Ja,Abh F2];refine Asr (congrArg (λo=>Option.bind o _) hgs) ?_;rw[Aa,pH F0,Aa];refine Asr (congrArg (λo=>Option.bind o _) hgs) ?_;rw[Aa];refine Asr (congrArg (λo=>Option.bind o _) hda) ?_;rw[Aa];simp only;rw[DO,Uj,Tw];refine Asr hpc ?_;rw[Ag];rw[CZ,Abp]at ih;exact ih
theorem xA{bits:Int}{ch:Nat}{t x:LX}(hb:Bg bits)(ht:t.length=16)(h1:1<=ch)(h6:ch<=6)(hx1:1<=x.length)(hx4:x.length<=4000)(hm:x.length %ch=0)(hr:H2 bits x):Mm (ch:Int) bits t x=some (DK bits ch t x,0):=by
 have hVl:=OU bits ch t x;have hh:=LN bits;have hck:Cg (ch:Int) bits=some 0:=by
  rw[Cg,Aa1 Av4,RZ hb,Aa,Aa1 Av5]
 have Abo:Bk (ch:Int) bits x=some 0:=by
  rw[Bk,hck,Aa,Aa1 F3,WQ hb hx4 hr,Aa,Aa1 F3,Aa1 F2,Bt Av1,Aa,Ac,AV,hm,Aa1 F3]
 have hlp:=rT ch h1 h6 (Fg bits ch t x) F0 x.length 0 Aq F0 F7;rw[Mm,Abo,Aa,Aa1 F3,Ad0 hb ht h1 h6 hx4 hm,Aa,AX,Vi,Afm ch h1 h6 _ F0,Aa,EY];have e1:Ed []=[]:=rfl;rw[show CZ ch (Fg bits ch t x) 0=[]from rfl,e1,List.length_nil,show((0:Nat):Int)=0 from rfl]at hlp;rw[hlp];rw[Aa,DK,P9,hVl]
theorem Bh.len{o s:LB}{f c w r n:Int}{g:LI}{a:Int}{x:LB}{e:Int}(h:Bh o s p f c w r n g a x e):p.length<=s.length/\g.length<=1000/\x.length<=13000000:=by
 cases h with
 |wt W hl hb=>exact⟨hl,W.sz.hg,by have:=W.sz.hx;omega⟩
 |er h0 hc hx hb=>exact⟨Av2,Av2,F0⟩
end Go.Pl
