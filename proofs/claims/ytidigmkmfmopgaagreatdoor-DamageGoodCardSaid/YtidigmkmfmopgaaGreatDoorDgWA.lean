/- A part of a proof (see the text that ends in Proof). No conditions. -/
import Derived.Test.YtidigmkmfmopgaaGreatDoorDgPA
set_option linter.unusedVariables false
set_option linter.unusedSimpArgs false
namespace Go.Lv
theorem Ak{a b:Int}(h: -9223372036854775808<=a+b:=by omega)(h':a+b<=9223372036854775807:=by omega):Ad a b=a+b:=by rw[Azh,Dd h h']
theorem Bs{a b:Int}(h: -9223372036854775808<=a-b:=by omega)(h':a-b<=9223372036854775807:=by omega):Ap a b=a-b:=by rw[Ay9,Dd h h']
theorem Ii{a b:Int}(h: -9223372036854775808<=a*b:=by omega)(h':a*b<=9223372036854775807:=by omega):Br a b=a*b:=by rw[Apo,Dd h h']
theorem VW(c:UInt8):(Af c:Int)=(c.toNat:Int):=by rw[Asv,Dd]<;>have:=c.toNat_lt<;>omega
theorem X5(c:UInt32):(Af c:Int)=(c.toNat:Int):=by rw[An4,Dd]<;>have:=c.toNat_lt<;>omega
theorem vJ(c:UInt8):(Af c:UInt64)=UInt64.ofNat c.toNat:=by simp only[Af,EJ,Ju]
theorem Dw(c:UInt32):(Af c:UInt64)=UInt64.ofNat c.toNat:=by simp only[Af,BS,Ju]
theorem aH(c:UInt64):(Af c:UInt8)=UInt8.ofNat c.toNat:=by simp only[Af,Ln,Qu]
theorem uR(c:UInt32):(Af c:UInt8)=UInt8.ofNat c.toNat:=by simp only[Af,BS,Qu]
theorem Yb(n:Nat):(Af (n:Int):UInt64)=UInt64.ofNat n:=by simp only[Af];exact Ju n
theorem yu(n:Nat):(Af (n:Int):UInt32)=UInt32.ofNat n:=by simp only[Af];exact Gk n
theorem Ar1(n:Nat):(Af (n:Int):UInt8)=UInt8.ofNat n:=by simp only[Af];exact Qu n
theorem zE{c:UInt64}(h:c.toNat<9223372036854775808):(Af c:Int)=(c.toNat:Int):=by rw[Ano,Dd]<;>omega
theorem Ajn:LIM=17179869184:=by decide
theorem As:36893488147419103231<Ax:=by decide
theorem Bn{α:Type}{l:List α}{n:Nat}(h:n<l.length:=by omega):Ao l (n:Int)=some l[n]:=by simp[Ao,h]
theorem Uq{α:Type}{l:List α}{n:Nat}(x:α)(h:n<l.length):Nk l (n:Int) x=some (l.set n x):=by simp[Nk,h]
theorem Oa{α:Type}{l:List α}{a b:Int}(h:0<=a:=by omega)(h1:a<=b:=by omega)(h2:b<=l.length:=by omega):Bm l a b=some ((l.take b.toNat).drop a.toNat):=by rw[Bm,Ab3 ⟨h,h1,h2⟩]
theorem Bl{α:Type}{l:List α}{a:Int}(h:0<=a:=by omega)(h1:a<=l.length:=by omega):Bm l a (Ac l)=some (l.drop a.toNat):=by
 unfold Ac;rw[Oa h h1 (Int.le_refl _),Ae3,Ba9]
theorem Dg{α:Type}{l:List α}{b:Int}(h:0<=b:=by omega)(h1:b<=l.length:=by omega):Bm l 0 b=some (l.take b.toNat):=by rw[Oa (Int.le_refl _) h h1];rfl
theorem Bw{α:Type}{l m:List α}(h:l.length+m.length<=17179869184:=by omega):Et l m=some (l++m):=by rw[Et,Ajn,Ab3 h]
theorem xE{α:Type}{n:Int}{z:α}(h:0<=n:=by omega)(h':n<=17179869184:=by omega):mkI n z=some (List.replicate n.toNat z):=by rw[mkI,Ajn,Ab3 ⟨h,h'⟩]
theorem Bt{b:Bool}(h:b=true):Md b=some ():=by rw[h];rfl
theorem Aa{α β:Type}(a:α)(f:α->Option β):Option.bind (some a) f=f a:=rfl
theorem drop_cons{α:Type}{l:List α}{n:Nat}(h:n<l.length):l.drop n=l[n]::l.drop (n+1):=List.drop_eq_getElem_cons h
theorem Lg{α:Type}{l:List α}{n:Nat}(h:n<l.length):l.take (n+1)=l.take n++[l[n]]:=by rw[List.take_add_one,List.getElem?_eq_getElem h];rfl
def Df:List UInt8->Nat
 |[]=>0
 |x::r=>x.toNat+256*Df r
theorem uZ:∀l:List UInt8,Df l<256^l.length
 |[]=>by simp[Df]
 |x::r=>by
  have h:=uZ r;have:=x.toNat_lt;simp only[Df,Akt,Ayo];omega
theorem uS:∀l m:List UInt8,Df (l++m)=Df l+256^l.length*Df m
 |[],m=>by simp[Df]
 |x::r,m=>by
  simp only[Df,Bdv,uS r m,Akt,Ayo,Nat.mul_add];rw[Ape (256^r.length) 256,Bb7];omega
def sV(l:List UInt8):UInt64:=UInt64.ofNat (Df l)
theorem Axv{l:List UInt8}(h:l.length<=8):Df l<18446744073709551616:=by
 have h1:=uZ l;have h2:256^l.length<=256^8:=Afq (by omega) h;exact Ai7 h1 (by simpa using h2)
theorem zx{l:List UInt8}(h:l.length<=4):Df l<4294967296:=by
 have h1:=uZ l;have h2:256^l.length<=256^4:=Afq (by omega) h;exact Ai7 h1 (by simpa using h2)
theorem cJ{l:List UInt8}(h:l.length<=8):(sV l).toNat=Df l:=by
 rw[sV,Ag1,Ack (Axv h)]
theorem PB{l:List UInt8}(h:l.length<=4):(Af (sV l):Int)=(Df l:Int):=by
 have:=zx h;rw[zE]<;>rw[cJ (by omega)];omega
def Rc(n:Nat):Nat->List UInt8
 |0=>[]
 |w+1=>UInt8.ofNat n::Rc (n/256) w
theorem Ca:∀(w n:Nat),(Rc n w).length=w
 |0,_=>rfl
 |w+1,n=>by simp[Rc,Ca w]
theorem Acy:∀(w n:Nat),Rc n (w+1)=Rc n w++[UInt8.ofNat (n/256^w)]
 |0,n=>by simp[Rc]
 |w+1,n=>by
  rw[Rc,Acy w (n/256),Rc];simp[Bdt,Ayo,Ape]
def Hu(p:List UInt8)(i:Nat):Nat:=(p.getD (i/8) 0).toNat/2^(i %8) %2
theorem DM(p:List UInt8)(i:Nat):Hu p i<2:=Bde _ (by omega)
def Cg(p:List UInt8):Nat->Nat->Nat
 |_,0=>0
 |a,n+1=>Hu p a+2*Cg p (a+1) n
theorem Rn(p:List UInt8):∀(n a:Nat),Cg p a n<2^n
 |0,_=>by simp[Cg]
 |n+1,a=>by
  have:=Rn p n (a+1);have:=DM p a;rw[Cg,Ayo];omega
theorem RN(p:List UInt8):∀(m n a:Nat),Cg p a (m+n)=Cg p a m+2^m*Cg p (a+m) n
 |0,n,a=>by simp[Cg]
 |m+1,n,a=>by
  rw[show m+1+n=(m+n)+1 by omega,Cg,Cg,RN p m n (a+1),show a+1+m=a+(m+1) by omega,Ayo,Nat.mul_add,Ape (2^m) 2,Bb7];omega
theorem xN(p:List UInt8)(a:Nat):Cg p a 1=Hu p a:=by simp[Cg]
theorem rE(p:List UInt8)(a n:Nat):Cg p a (n+1)=Cg p a n+2^n*Hu p (a+n):=by rw[RN p n 1 a,xN]
theorem fV(p:List UInt8)(a:Nat):∀t:Nat,a %8+t<=8->Cg p a t=(p.getD (a/8) 0).toNat/2^(a %8) %2^t
 |0,_=>by simp[Cg,Nat.mod_one]
 |t+1,h=>by
  have h1:(a+t)/8=a/8:=by omega
  have h2:(a+t) %8=a %8+t:=by omega
  rw[rE,fV p a t (by omega),Hu,h1,h2,Nat.mod_pow_succ,Bfc,Bdt]
theorem C6{p:List UInt8}:∀(n a:Nat),(∀k,k<n->Hu p (a+k)=0)->Cg p a n=0
 |0,_,_=>rfl
 |n+1,a,h=>by
  have h0:=h 0 (by omega);rw[Cg,C6 n (a+1) λk hk=>by have:=h (k+1) (by omega);rwa [show a+1+k=a+(k+1) by omega]];rw[Bcz]at h0;omega
def okB(p:List UInt8)(n:Nat):Prop:=n<=330000/\p.length=(n+7)/8/\∀k,n<=k->k<8*p.length->Hu p k=0
def Tf(p:List UInt8)(a n:Nat):List UInt8:=(List.range ((n+7)/8)).map λj=>UInt8.ofNat (Cg p (a+8*j) (min 8 (n-8*j)))
theorem Ke(p:List UInt8)(a n:Nat):(Tf p a n).length=(n+7)/8:=by simp[Tf]
theorem Ac0(p:List UInt8):∀(n a k:Nat),k<n->Cg p a n/2^k %2=Hu p (a+k)
 |n+1,a,0,_=>by have:=DM p a;rw[Cg];simp;omega
 |n+1,a,k+1,h=>by
  have hb:=DM p a;have e:(Hu p a+2*Cg p (a+1) n)/2=Cg p (a+1) n:=by omega
  rw[Cg,Ayo,Ape (2^k) 2,<-Bdt,e,Ac0 p n (a+1) k (by omega),show a+1+k=a+(k+1) by omega]
theorem Ao2(p:List UInt8)(n a k:Nat)(h:n<=k):Cg p a n/2^k %2=0:=by
 have:=Rn p n a;rw[Bc7 (Ai7 this (Afq (by omega) h))]
theorem wG(p:List UInt8)(a n k:Nat):Hu (Tf p a n) k=if k<n then Hu p (a+k)else 0:=by
 rw[Hu];by_cases hj:k/8<(n+7)/8
 ·have e:(Tf p a n).getD (k/8) 0=UInt8.ofNat (Cg p (a+8*(k/8)) (min 8 (n-8*(k/8)))):=by
   rw[List.getD_eq_getElem?_getD,List.getElem?_eq_getElem (by rw[Ke];exact hj)];simp[Tf]
  have hlt:Cg p (a+8*(k/8)) (min 8 (n-8*(k/8)))<256:=by
   have:=Rn p (min 8 (n-8*(k/8))) (a+8*(k/8));have h2:2^(min 8 (n-8*(k/8)))<=2^8:=Afq (by omega) (by omega);omega
  have hu:(UInt8.ofNat (Cg p (a+8*(k/8)) (min 8 (n-8*(k/8))))).toNat=Cg p (a+8*(k/8)) (min 8 (n-8*(k/8))):=by
   rw[Apd];exact Ack hlt
  rw[e,hu];by_cases hk:k<n
  ·rw[Ab3 hk,Ac0 p _ _ _ (by omega),show a+8*(k/8)+k %8=a+k by omega]
  ·rw[Aau hk,Ao2 p _ _ _ (by omega)]
 ·have e:(Tf p a n).getD (k/8) 0=0:=by
   rw[List.getD_eq_getElem?_getD,List.getElem?_eq_none (by rw[Ke];omega)];rfl
  rw[e,Aau (by omega)];simp
theorem yM(p:List UInt8)(a n:Nat)(h:n<=330000):okB (Tf p a n) n:=⟨h,Ke p a n,λk hk _=>by rw[wG,Aau (by omega)]⟩
theorem Adt{p q:List UInt8}(hl:p.length=q.length)(h:∀k,k<8*p.length->Hu p k=Hu q k):p=q:=by
 apply Bae hl;intro i h1 h2;have hp:Cg p (8*i) 8=Cg q (8*i) 8:=by
  have key:∀(n a:Nat),a+n<=8*p.length->Cg p a n=Cg q a n:=by
   intro n
   induction n with
   |zero=>intros;rfl
   |succ n ih=>intro a ha;rw[Cg,Cg,h a (by omega),ih (a+1) (by omega)]
  exact key 8 (8*i) (by omega)
 rw[fV p _ 8 (by omega),fV q _ 8 (by omega)]at hp;have e1:8*i/8=i:=by omega
 have e2:8*i %8=0:=by omega
 rw[e1,e2]at hp;have a1:p.getD i 0=p[i]:=by simp[List.getD_eq_getElem?_getD,h1]
 have a2:q.getD i 0=q[i]:=by simp[List.getD_eq_getElem?_getD,h2]
 rw[a1,a2]at hp;apply UInt8.toNat_inj.1;have:=p[i].toNat_lt;have:=q[i].toNat_lt;simp at hp;omega
end Go.Lv
namespace Go.Pl
open Go Go.Lv
theorem Aqd(b:List UInt8)(hb:b.length<4611686018427387904):∀(j q:Nat),j<=b.length->j<q->Qn b q (sV (b.drop j)) ((j:Int)-1)=some (sV b)
 |0,q+1,_,_=>by
  rw[Qn,EY,Aau (by rw[Dy];simp)];simp[WE,WA]
 |j+1,q+1,hj,hq=>by
  rw[Qn,EY,Ab3 (by rw[Dy];simp),show((j+1:Nat):Int)-1=(j:Int) by omega,Bn,Aa,Bs];have h:Ad (Br (256:UInt64) (sV (b.drop (j+1)))) (Af b[j]:UInt64)=sV (b.drop j):=by
   rw[RL,RI,vJ,drop_cons (n:=j) (by omega),sV,sV,Df,UInt64.ofNat_add,UInt64.ofNat_mul];exact UInt64.add_comm _ _
  rw[h];exact Aqd b hb j q (by omega) (by omega)
theorem Agh(b:List UInt8)(hb:b.length<4611686018427387904):Eh b=some (sV b):=by
 have h:=Aqd b hb b.length Ax (Am4 _) (by have:=As;omega);rw[Eh,YT,aC];have e:Ap (Ac b) 1=(b.length:Int)-1:=Bs (by unfold Ac;omega) (by unfold Ac;omega);rw[e,<-h,Bdz];rfl
theorem Asi{n c:UInt64}{i:Nat}(hn:n.toNat<2^i)(hc:c.toNat*2^i<18446744073709551616):D0 n (Ei c i)=UInt64.ofNat (n.toNat+c.toNat*2^i):=by
 rw[Av3];apply UInt64.toNat_inj.1;rw[UInt64.toNat_or,XB,Ack hc,Ape,Nat.or_comm,<-Bbb hn,Ag1,Ack,Be5,Ape];have h:=Bbb hn c.toNat;have h2:2^i*c.toNat+n.toNat<2^64:=by
  rw[h];exact Nat.or_lt_two_pow (by rw[Ape];simpa using hc) n.toNat_lt
 rw[Be5];first|exact h2|(rw[Ape];exact h2)
theorem ql(b:List UInt8)(hb:b.length<=8):∀(j i q:Nat),i+j=b.length->j<q->FW b q (sV (b.take i)) (i:Int)=some (sV b,0)
 |0,i,q+1,hi,_=>by
  rw[FW,cI,Aau (by rw[Ae,Ac];simp;omega),show i=b.length by omega,Ba9];rfl
 |j+1,i,q+1,hi,hq=>by
  have hlt:i<b.length:=by omega
  rw[FW,cI,Ab3 (by rw[Ae,Ac];simp;omega),Bn hlt,Aa,Ii,Bt (by rw[Dy];simp;omega),Aa,Ak];have h:D0 (sV (b.take i)) (Ei (Af b[i]:UInt64) (GI.toZ ((8:Int)*(i:Int))).toNat)=sV (b.take (i+1)):=by
   have e:(GI.toZ ((8:Int)*(i:Int))).toNat=8*i:=by show((8:Int)*(i:Int)).toNat=_;omega
   have e2:(2:Nat)^(8*i)=256^i:=by rw[Nat.pow_mul]
   have h1:=uZ (b.take i);rw[Afa,Apg (by omega)]at h1;have h3:=b[i].toNat_lt;have hle:(256:Nat)^(i+1)<=256^8:=Afq (by omega) (by omega);rw[Ayo]at hle;have h4:(Af b[i]:UInt64).toNat=b[i].toNat:=by rw[vJ,Ag1];omega
   have h5:b[i].toNat*256^i<18446744073709551616:=by
    have:b[i].toNat*256^i<256*256^i:=Nat.mul_lt_mul_of_pos_right (by simpa using h3) (Bdk (by omega));simp at hle;omega
   rw[e,Asi (by rw[cJ (by simp;omega),e2];exact h1) (by rw[h4,e2];exact h5),cJ (by simp;omega),h4,e2,Lg hlt];rw[sV,uS];simp only[Df,Afa,Apg (Nat.le_of_lt hlt),Nat.mul_zero,Bcz];rw[Ape]
  rw[h];exact ql b hb j (i+1) q (by omega) (by omega)
theorem Agd(b:List UInt8)(h1:1<=b.length)(h2:b.length<=8):nO b=some (sV b,0):=by
 have h:=ql b h2 b.length 0 Ax (by omega) (by have:=As;omega);rw[nO,oT,Aau (by simp[Ae,Aq,Ac];omega),nX];exact h
def part(b:List UInt8)(at' w:Nat):List UInt8:=(b.take (at'+w)).drop at'
theorem Ew{b:List UInt8}{a w:Nat}(h:a+w<=b.length:=by omega):(part b a w).length=w:=by simp[part];omega
theorem wz(b:List UInt8)(a w:Nat)(h1:1<=w)(h2:w<=8)(h3:a+w<=b.length)(hb:b.length<4611686018427387904):eJ b (a:Int) (w:Int)=some (sV (part b a w),0):=by
 rw[eJ,Aau (by simp[Ae,Aq];omega),Aau (by rw[Aq,Bs (by unfold Ac;omega) (by unfold Ac;omega),Ac];simp;omega),Ak,Oa,Aa];rw[show((a:Int)+(w:Int)).toNat=a+w by omega,show(a:Int).toNat=a by omega];rw[Agd _ (by rw[show((b.take (a+w)).drop a).length=_ from Ew h3];exact h1) (by rw[show((b.take (a+w)).drop a).length=_ from Ew h3];exact h2),Aa];rfl
theorem G0(w:Nat)(hw:w<=1000):∀(j i q:Nat) (n:UInt64) (acc:List UInt8),i+j=w->j<q->acc.length+j<=1000000->Jt (w:Int) q n (i:Int) acc=some (acc++Rc n.toNat j)
 |0,i,q+1,n,acc,hi,_,_=>by
  rw[Jt,Vn,Aau (by rw[Ae];simp;omega)];simp[GC,GN,Rc]
 |j+1,i,q+1,n,acc,hi,hq,ha=>by
  rw[Jt,Vn,Ab3 (by rw[Ae];simp;omega)];have e:(Af (GR n (256:UInt64)):UInt8)=UInt8.ofNat n.toNat:=by
   rw[aH,Acv];apply UInt8.toNat_inj.1;rw[Apd,Apd,UInt64.toNat_mod]
   show n.toNat %256 %256=_;omega
  have e2:(Db n (256:UInt64)).toNat=n.toNat/256:=by rw[wP,Bfw];rfl
  rw[Bw (by simp;omega),Aa,Ak,e];have h:=G0 w hw j (i+1) q (Db n 256) (acc++[UInt8.ofNat n.toNat]) (by omega) (by omega) (by simp;omega);rw[e2]at h;rw[show((i:Int)+1)=((i+1:Nat):Int) by omega,h,Rc];simp
theorem Z7(n:UInt64)(w:Nat)(hw:w<=1000):Fq n (w:Int)=some (Rc n.toNat w):=by
 rw[Fq,FZ,FH];have h:=G0 w hw w 0 Ax n [] (by omega) (by have:=As;omega) (by simp;omega);simpa using h
theorem jF{α:Type}{l m:List α}{x y:α}{i:Nat}(h:l.length=i):(l++x::m).set i y=l++y::m:=by subst h;simp
theorem wo(n:UInt64)(l4:List UInt8)(w:Nat)(hl:l4.length=w)(hw:w<=8):∀(j i q:Nat),i+j=w->j<q->FP n l4 q (i:Int) (Rc n.toNat i++List.replicate j 0)=some (Rc n.toNat w,0)
 |0,i,q+1,hi,_=>by
  rw[FP,bL,Aau (by rw[Ae,Ac];simp;omega)];obtain rfl:i=w:=by omega
  simp[nN,G4]
 |j+1,i,q+1,hi,hq=>by
  have hlen:(Rc n.toNat i++List.replicate (j+1) 0).length=i+(j+1):=by simp[Ca]
  rw[FP,bL,Ab3 (by rw[Ae,Ac];simp;omega),Ii,Bt (by rw[Dy];simp;omega),Aa,Bn (by rw[hlen];omega),Aa,Uq _ (by rw[hlen];omega),Aa,Ak];have e:(Af (Ct n (GI.toZ ((8:Int)*(i:Int))).toNat):UInt8)=UInt8.ofNat (n.toNat/256^i):=by
   have e:(GI.toZ ((8:Int)*(i:Int))).toNat=8*i:=by show((8:Int)*(i:Int)).toNat=_;omega
   rw[e,aH,LC,Nat.pow_mul]
  rw[e,Bbk,jF (Ca _ _)];have h:=wo n l4 w hl hw j (i+1) q (by omega) (by omega);rw[Acy]at h;simpa using h
theorem Axw(n:UInt64)(w:Nat)(h1:1<=w)(h2:w<=8)(h:n.toNat<256^w):L7 n (w:Int)=some true:=by
 rw[L7];by_cases h8:w=8
 ·subst h8;rw[Ab3 (by rw[Ar];rfl)]
 ·rw[Aau (by rw[Ar];simp;omega),Ii,Bt (by rw[Dy];simp;omega),Aa];have e:(GI.toZ ((8:Int)*(w:Int))).toNat=8*w:=by show((8:Int)*(w:Int)).toNat=_;omega
  rw[e,N2];have:Ct n (8*w)=0:=by
   apply UInt64.toNat_inj.1;rw[LC,Nat.pow_mul];exact Bc7 h
  rw[this];rfl
theorem YH(n:UInt64)(w:Nat)(h1:1<=w)(h2:w<=8)(h:n.toNat<256^w):DE n (w:Int)=some (Rc n.toNat w,0):=by
 rw[DE,qG,Aau (by simp[Ae,Aq];omega),Axw n w h1 h2 h,Aa,Aau (by simp),xE,Aa,Bt (by rw[Ar];simp),Aa,nV];have h:=wo n (List.replicate (w:Int).toNat 0) w (by simp) h2 w 0 Ax (by omega) (by have:=As;omega);simpa [Rc]using h
theorem H3(n:Nat)(h:n<4611686018427387904):Ey (n:Int) (7:Int)=((n %8:Nat):Int):=by
 have e:Ey (n:Int) (7:Int)=wrap64 ((BitVec.ofInt 64 (n:Int)&&&BitVec.ofInt 64 7).toNat:Int):=rfl;rw[e,BitVec.toNat_and,Bdr,Bdr];have h1:((n:Int) %((2^64:Nat):Int)).toNat=n:=by omega
 have h2:((7:Int) %((2^64:Nat):Int)).toNat=2^3-1:=by decide
 rw[h1,h2,Bds,Dd (by omega) (by omega)]
theorem Bbt(n:Nat):Aap (n:Int) (GI.toZ (3:UInt64)).toNat=((n/8:Nat):Int):=by
 have e:Aap (n:Int) (GI.toZ (3:UInt64)).toNat=(n:Int).fdiv 8:=rfl;rw[e,Aye _ (by omega)];omega
theorem Bch{t:Nat}(h:t<=8):Ap (Ei (1:UInt8) t) (1:UInt8)=UInt8.ofNat (2^t-1):=by
 have:t=0\/t=1\/t=2\/t=3\/t=4\/t=5\/t=6\/t=7\/t=8:=by omega
 rcases this with rfl|rfl|rfl|rfl|rfl|rfl|rfl|rfl|rfl<;>decide
theorem bitsOf(c:UInt8)(off t:Nat)(h:t<=8):(Ey (Ct c off) (Ap (Ei (1:UInt8) t) (1:UInt8))).toNat=c.toNat/2^off %2^t:=by
 have hp:2^t<=2^8:=Afq (by omega) h;rw[Bch h,Ajq,UInt8.toNat_and,Aah,Apd,Ack (by have:=Bdk (n:=t) (show 0<2 by omega);omega),Bds]
theorem ky{p:List UInt8}{k:Nat}(h:k<p.length):Ao p (k:Int)=some (p.getD k 0):=by
 rw[Bn h];simp[List.getD_eq_getElem?_getD,h]
def Ro(p:List UInt8)(a n:Nat):UInt64:=UInt64.ofNat (Cg p a n)
theorem Zx(p:List UInt8)(a n:Nat)(h:n<=64):(Ro p a n).toNat=Cg p a n:=by
 have h1:=Rn p n a;have h2:2^n<=2^64:=Afq (by omega) h;rw[Ro,Ag1,Ack (by omega)]
theorem Afm(p:List UInt8)(N:Int)(a n:Nat)(hn:n<=64)(ha:a+n<=8*p.length)(hp:p.length<=1000000):∀(j h q:Nat),h+j=n->j<q->RX (a:Int) (n:Int) p N q (Ro p a h) (h:Int)=some (Ro p a n)
 |j,h,q+1,hj,hq=>by
  rw[RX,nJ];by_cases hlt:h<n
  ·have e1:Ad (a:Int) (h:Int)=((a+h:Nat):Int):=by rw[Ak];omega
   have e2:Fj (Ap (n:Int) (h:Int)) (Ap (8:Int) (((a+h) %8:Nat):Int))=((min (n-h) (8-(a+h) %8):Nat):Int):=by
    rw[HL,Bs,Bs];omega
   have hm:(a+h)/8<p.length:=by omega
   rw[Ab3 (by rw[Ae];simp;omega),e1,Bbt,ky hm,Aa,H3 _ (by omega),Bt (by rw[Dy];simp;omega),Aa,e2,Bt (by rw[Dy];simp),Aa,Bt (by rw[Dy];simp),Aa];generalize hT:min (n-h) (8-(a+h) %8)=T;have hT8:T<=8:=by omega
   have hT1:1<=T:=by omega
   have hb:(a+h) %8+T<=8:=by omega
   have hv:=fV p (a+h) T hb;have z1:(GI.toZ (((a+h) %8:Nat):Int)).toNat=(a+h) %8:=rfl;have z2:(GI.toZ ((T:Nat):Int)).toNat=T:=rfl;have z3:(GI.toZ ((h:Nat):Int)).toNat=h:=rfl;rw[z1,z2,z3];have hx:(Af (Ey (Ct (p.getD ((a+h)/8) 0) ((a+h) %8)) (Ap (Ei (1:UInt8) T) (1:UInt8))):UInt64).toNat=Cg p (a+h) T:=by
    rw[vJ,Ag1,bitsOf _ _ _ hT8,<-hv];have:=Rn p T (a+h);have h2:2^T<=2^8:=Afq (by omega) hT8;omega
   have hlt2:=Rn p (h+T) a;rw[RN]at hlt2;have h64:2^(h+T)<=2^64:=Afq (by omega) (by omega);have hor:D0 (Ro p a h) (Ei (Af (Ey (Ct (p.getD ((a+h)/8) 0) ((a+h) %8)) (Ap (Ei (1:UInt8) T) (1:UInt8))):UInt64) h)=Ro p a (h+T):=by
    rw[Asi (by rw[Zx p a h (by omega)];exact Rn p h a) (by rw[hx,Ape];omega),hx,Zx p a h (by omega),Ro,RN,Ape (2^h)]
   rw[hor,Ak,show(h:Int)+((T:Nat):Int)=((h+T:Nat):Int) by omega];exact Afm p N a n hn ha hp (j-T) (h+T) q (by omega) (by omega)
  ·rw[Aau (by rw[Ae];simp;omega),show h=n by omega];rfl
theorem get_eq(p:List UInt8)(N:Int)(a n:Nat)(hn:n<=64)(ha:a+n<=8*p.length)(hp:p.length<=1000000):yG p N (a:Int) (n:Int)=some (Ro p a n):=by
 have:=Afm p N a n hn ha hp n 0 Ax (by omega) (by have:=As;omega);exact this
theorem BL{p:List UInt8}{n:Nat}(h:okB p n):Ky p (n:Int)=some 0:=by
 obtain⟨h1,h2,h3⟩:=h;have e7:Ad (n:Int) 7=((n+7:Nat):Int):=by rw[Ak];omega
 rw[Ky,e7,Bbt,Aau (by simp[Ae,Aq,Ag,Ac,h2];omega),H3 _ (by omega)];by_cases hz:n %8=0
 ·rw[Aau (by rw[Aq];simp;omega)]
 ·have el:Ap (Ac p) 1=((p.length-1:Nat):Int):=by rw[Ac,Bs];omega
  rw[Ab3 (by rw[Aq];simp;omega),el,ky (by omega),Aa,Bt (by rw[Dy];simp;omega),Aa];have z:(GI.toZ ((n %8:Nat):Int)).toNat=n %8:=rfl;have hs:Ct (p.getD (p.length-1) 0) (n %8)=0:=by
   apply UInt8.toNat_inj.1;rw[Aah];have hv:=fV p n (8-n %8) (by omega);have h0:Cg p n (8-n %8)=0:=C6 _ _ λk hk=>h3 _ (by omega) (by omega);rw[h0,show n/8=p.length-1 by omega]at hv;have hlt:(p.getD (p.length-1) 0).toNat/2^(n %8)<2^(8-n %8):=by
    have:=(p.getD (p.length-1) 0).toNat_lt;rw[Nat.div_lt_iff_lt_mul (Bdk (by omega)),<-Bfc,show 8-n %8+n %8=8 by omega];simpa using this
   rw[Ack hlt]at hv;exact hv.symm
  rw[z,hs,Aau (by rw[Ah1];simp)]
theorem B4{p:List UInt8}{N:Nat}(h:okB p N)(a n:Nat)(hn:n<=64):KG p (N:Int) (a:Int) (n:Int)=some (if N<a+n then(0,24)else(Ro p a n,0)):=by
 obtain⟨h1,h2,h3⟩:=h;rw[KG,BL ⟨h1,h2,h3⟩,Aa,Aau (by rw[Ag];simp),Aau (by simp[Ae,Aq];omega),Bs];by_cases hl:N<a+n
 ·rw[Ab3 (by rw[Aq];simp;omega),Ab3 hl]
 ·rw[Aau (by rw[Aq];simp;omega),get_eq p N a n hn (by omega) (by omega),Aa,Aau hl]
theorem Bdn(c:Nat)(h:c<4611686018427387904):Db (c:Int) (2:Int)=((c/2:Nat):Int):=by
 rw[TX,Bbn (by omega),Dd (by omega) (by omega)];omega
theorem Bbq(c:Nat)(h:c<4611686018427387904):Db (c:Int) (8:Int)=((c/8:Nat):Int):=by
 rw[TX,Bbn (by omega),Dd (by omega) (by omega)];omega
theorem As7(c:Nat):Io (c:Int) (8:Int)=((c %8:Nat):Int):=by rw[Io,Bef (by omega)];omega
theorem Bd7(c:Nat):Io (c:Int) (2:Int)=((c %2:Nat):Int):=by rw[Io,Bef (by omega)];omega
theorem Aj6(i c:Nat)(hc:c<256):∀(j k q:Nat),k+j=i %8->j<q->Qm (i:Int) q ((c/2^k:Nat):Int) (k:Int)=some (((c/2^(i %8) %2:Nat):Int))
 |0,k,q+1,hk,_=>by
  rw[Qm,EV,As7,Aau (by rw[Ae];simp;omega),ZQ,aI,Bd7,show k=i %8 by omega]
 |j+1,k,q+1,hk,hq=>by
  have hle:c/2^k<=c:=Auf _ _;rw[Qm,EV,As7,Ab3 (by rw[Ae];simp;omega),Bdn _ (by omega),Ak,Bdt,<-Ayo];exact Aj6 i c hc j (k+1) q (by omega) (by omega)
theorem C4(p:List UInt8)(N:Int)(i:Nat)(h:i/8<p.length)(hi:i<4611686018427387904):Ny p N (i:Int)=some ((Hu p i:Nat):Int):=by
 have hc:=(p.getD (i/8) 0).toNat_lt;have:=Aj6 i (p.getD (i/8) 0).toNat (by simpa using hc) (i %8) 0 Ax (by omega) (by have:=As;omega);rw[Ny,ZU,Bbq _ hi,ky h,Aa,VW,WC];simpa [Hu]using this
theorem cu(p:List UInt8)(N:Int)(a n:Nat)(ha:a+n<=8*p.length)(hp:p.length<=1000000):∀(j q:Nat),j<=n->j<q->Mc (a:Int) p N q (Ro p (a+j) (n-j)) ((j:Int)-1)=some (Ro p a n)
 |0,q+1,_,_=>by
  rw[Mc,Yc,Aau (by rw[Dy];simp)];rfl
 |j+1,q+1,hj,hq=>by
  have hb:=DM p (a+j);rw[Mc,Yc,show((j+1:Nat):Int)-1=(j:Int) by omega,Ab3 (by rw[Dy];simp),Ak (a:=(a:Int)) (by omega) (by omega),show(a:Int)+(j:Int)=((a+j:Nat):Int) by omega,C4 p N (a+j) (by omega) (by omega),Aa,Bs];have e:Ad (Br (2:UInt64) (Ro p (a+(j+1)) (n-(j+1)))) (Af ((Hu p (a+j):Nat):Int):UInt64)=Ro p (a+j) (n-j):=by
   rw[RL,RI,Yb,Ro,Ro,show n-j=(n-(j+1))+1 by omega,Cg,show a+j+1=a+(j+1) by omega,UInt64.ofNat_add,UInt64.ofNat_mul];exact UInt64.add_comm _ _
  rw[e];exact cu p N a n ha hp j q (by omega) (by omega)
theorem uG(p:List UInt8)(N:Int)(a n:Nat)(ha:a+n<=8*p.length)(hp:p.length<=1000000):Wv p N (a:Int) (n:Int)=some (Ro p a n):=by
 have:=cu p N a n ha hp n Ax (Am4 _) (by have:=As;omega);have hz:Ro p (a+n) (n-n)=0:=by rw[Nat.sub_self];rfl
 rw[hz]at this;rw[Wv,MY,ME,Bs];exact this
theorem Al3(bit:Int)(N:Nat)(l:List UInt8):∀(j k q:Nat),k+j=N %8->j<q->Ou bit (N:Int) l q ((2^k:Nat):Int) (k:Int)=DC bit ((2^(N %8):Nat):Int) (N:Int) l
 |0,k,q+1,hk,_=>by
  rw[Ou,CQ,As7,Aau (by rw[Ae];simp;omega),show k=N %8 by omega]
 |j+1,k,q+1,hk,hq=>by
  have hp:2^k<=2^8:=Afq (by omega) (by omega);have e:Br ((2^k:Nat):Int) 2=((2^(k+1):Nat):Int):=by
   rw[Ayo];generalize 2^k=K at*
   rw[Ii];omega
  rw[Ou,CQ,As7,Ab3 (by rw[Ae];simp;omega),e,Ak];exact Al3 bit N l j (k+1) q (by omega) (by omega)
theorem jg(p:List UInt8)(a n j:Nat)(h:j<(n+7)/8):(Tf p a n)[j]'(by rw[Ke];exact h)=UInt8.ofNat (Cg p (a+8*j) (min 8 (n-8*j))):=by simp[Tf]
theorem yN(p:List UInt8)(a t:Nat)(h:t<=8):Cg p a t<256:=by
 have h1:=Rn p t a;have h2:2^t<=2^8:=Afq (by omega) h;omega
def room(p:List UInt8)(a n:Nat):List UInt8:=if n %8=0 then Tf p a n++[0]else Tf p a n
theorem Qv(p:List UInt8)(a n:Nat):(room p a n).length=n/8+1:=by
 rw[room];split<;>simp[Ke]<;>omega
theorem Acw(p:List UInt8)(a n j:Nat)(h:j<n/8+1):(room p a n)[j]'(by rw[Qv];exact h)=UInt8.ofNat (Cg p (a+8*j) (min 8 (n-8*j))):=by
 have h0:(room p a n)[j]? =some (UInt8.ofNat (Cg p (a+8*j) (min 8 (n-8*j)))):=by
  rw[room];split
  ·by_cases hj:j<(n+7)/8
   ·rw[List.getElem?_append_left (by rw[Ke];exact hj),List.getElem?_eq_getElem (by rw[Ke];exact hj),jg p a n j hj]
   ·rw[List.getElem?_append_right (by rw[Ke];omega),Ke,show j-(n+7)/8=0 by omega,show n-8*j=0 by omega];rfl
  ·rw[List.getElem?_eq_getElem (by rw[Ke];omega),jg p a n j (by omega)]
 rw[List.getElem?_eq_getElem (by rw[Qv];exact h)]at h0;exact Apf h0
theorem wK(p:List UInt8)(a n T:Nat)(h1:1<=T)(h:n %8+T<=8):(room p a n).set (n/8) (UInt8.ofNat (Cg p (a+8*(n/8)) (n %8+T)))=Tf p a (n+T):=by
 apply Bae (by rw[Bco,Qv,Ke];omega);intro j g1 g2;rw[Bco,Qv]at g1;rw[Bfx,jg p a (n+T) j (by rw[Ke]at g2;exact g2)];split
 ·rename_i e;subst e;rw[show min 8 (n+T-8*(n/8))=n %8+T by omega]
 ·rw[Acw p a n j g1,show min 8 (n-8*j)=8 by omega,show min 8 (n+T-8*j)=8 by omega]
theorem rZ(p:List UInt8)(a n:Nat):(room p a n)[n/8]'(by rw[Qv];omega)=UInt8.ofNat (Cg p (a+8*(n/8)) (n %8)):=by
 rw[Acw p a n _ (by omega),show min 8 (n-8*(n/8))=n %8 by omega]
theorem Ap6(p:List UInt8)(a n:Nat)(hn:n<=400000):BM (Tf p a n) (n:Int) ((Hu p (a+n):Nat):Int)=some (Tf p a (n+1),((n+1:Nat):Int)):=by
 have hb:=DM p (a+n);have hp:2^(n %8)<=2^7:=Afq (by omega) (by omega);have hroom:BM (Tf p a n) (n:Int) ((Hu p (a+n):Nat):Int)=CK ((Hu p (a+n):Nat):Int) (n:Int) (room p a n):=by
  rw[BM,UT,As7,room];by_cases h0:n %8=0
  ·rw[Ab3 (by rw[Ar,h0];rfl),Bw (by rw[Ke];simp;omega),Aa,Ab3 h0]
  ·rw[Aau (by rw[Ar];simp;omega),Aau h0]
 have hl:=Al3 ((Hu p (a+n):Nat):Int) n (room p a n) (n %8) 0 Ax (by omega) (by have:=As;omega);rw[hroom,CK,UK,UP];refine Bcq hl ?_;have hg:Ao (room p a n) ((n/8:Nat):Int)=some (UInt8.ofNat (Cg p (a+8*(n/8)) (n %8))):=by
  rw[Bn (by rw[Qv];omega),rZ]
 have hlt:=yN p (a+8*(n/8)) (n %8+1) (by omega);have hsn:=rE p (a+8*(n/8)) (n %8);rw[show a+8*(n/8)+n %8=a+n by omega]at hsn;have hm:Br ((Hu p (a+n):Nat):Int) ((2^(n %8):Nat):Int)=((2^(n %8)*Hu p (a+n):Nat):Int):=by
  have hle:2^(n %8)*Hu p (a+n)<=2^7*1:=Bce hp (by omega);rw[Apo,<-Ba1,Dd (by omega) (by rw[Ape];omega),Ape]
 have hx:Ad (UInt8.ofNat (Cg p (a+8*(n/8)) (n %8))) (Af (((2^(n %8)*Hu p (a+n):Nat):Int)):UInt8)=UInt8.ofNat (Cg p (a+8*(n/8)) (n %8+1)):=by
  rw[Avf,Ar1,hsn,UInt8.ofNat_add]
 rw[DC,UJ,Bbq _ (by omega),hg,Aa,Aa,Aa,hm,hx,Uq _ (by rw[Qv];omega),Aa,wK p a n 1 (by omega) (by omega),Ak];rfl
theorem xB(p:List UInt8)(N:Int)(a n:Nat)(ha:a+n<=8*p.length)(hp:p.length<=1000000)(hn:n<=300000):∀(j m q:Nat),m+j=n->j<q->Jr ((a+n:Nat):Int) p N q ((a+m:Nat):Int) (m:Int) (Tf p a m)=some (Tf p a n,(n:Int))
 |0,m,q+1,hm,_=>by
  rw[Jr,Us,Aau (by rw[Ae];simp;omega),show m=n by omega];rfl
 |j+1,m,q+1,hm,hq=>by
  rw[Jr,Us,Ab3 (by rw[Ae];simp;omega),C4 p N (a+m) (by omega) (by omega),Aa,Ap6 p a m (by omega),Aa];simp only;rw[Ak];exact xB p N a n ha hp hn j (m+1) q (by omega) (by omega)
theorem Ad3(p:List UInt8)(N:Int)(a n:Nat)(ha:a+n<=8*p.length)(hp:p.length<=1000000)(hn:n<=300000):SA p N (a:Int) ((a+n:Nat):Int)=some (Tf p a n,(n:Int)):=by
 have:=xB p N a n ha hp hn n 0 Ax (by omega) (by have:=As;omega);exact this
theorem Azz{t:Nat}(h:t<=8):Ap (Ei (1:UInt64) t) (1:UInt64)=UInt64.ofNat (2^t-1):=by
 have:t=0\/t=1\/t=2\/t=3\/t=4\/t=5\/t=6\/t=7\/t=8:=by omega
 rcases this with rfl|rfl|rfl|rfl|rfl|rfl|rfl|rfl|rfl<;>decide
theorem Bbw(v:UInt64){t:Nat}(h:t<=8):(Ey v (Ap (Ei (1:UInt64) t) (1:UInt64))).toNat=v.toNat %2^t:=by
 have hp:2^t<=2^8:=Afq (by omega) h;rw[Azz h,X0,UInt64.toNat_and,Ag1,Ack (by have:=Bdk (n:=t) (show 0<2 by omega);omega),Bds]
theorem or8{v w i:Nat}(hv:v<2^i)(hw:w*2^i<256)(hi:i<8):D0 (UInt8.ofNat v) (Ei (UInt8.ofNat w) i)=UInt8.ofNat (v+w*2^i):=by
 have hp:2^i<=2^8:=Afq (by omega) (by omega);have hpos:0<2^i:=Bdk (by omega);have hw2:w<256:=Bdg (Nat.le_mul_of_pos_right w hpos) hw;rw[Aza];apply UInt8.toNat_inj.1;have e1:(UInt8.ofNat v).toNat=v:=by rw[Apd,Ack (by omega)]
 have e2:(UInt8.ofNat w).toNat=w:=by rw[Apd,Ack (by omega)]
 rw[UInt8.toNat_or,Auv,e1,e2,Ack hw,Ape w,Nat.or_comm,<-Bbb hv,Apd,Be5 v];rw[Ape]at hw;have hb:2^i*w+v<256:=by
  rw[Bbb hv];exact Nat.or_lt_two_pow (n:=8) hw (by omega)
 rw[Ack hb]
theorem Ac9(p:List UInt8)(a n T:Nat)(h:T<=n)(hn:n<=64):Ct (Ro p a n) T=Ro p (a+T) (n-T):=by
 apply UInt64.toNat_inj.1;rw[LC,Zx p a n hn,Zx p (a+T) (n-T) (by omega)];have:=Rn p T a
 conv=>lhs;rw[show n=T+(n-T) by omega,RN,Nat.add_mul_div_left _ _ (Bdk (by omega)),Bc7 this,Azm]
theorem Aep(p:List UInt8)(a n T:Nat)(h:T<=n)(hn:n<=64):(Ro p a n).toNat %2^T=Cg p a T:=by
 have:=Rn p T a;rw[Zx p a n hn]
 conv=>lhs;rw[show n=T+(n-T) by omega,RN,Nat.add_mul_mod_self_left,Ack this]
theorem X3(bk:Int->Int->List UInt8->Option (List UInt8×Int×Int))(to':Int)(p:List UInt8)(N fr:Int)(r6:UInt64)(a:Nat):∀(j m q:Nat),m+j<=300000->j<=64->j<q->
  Td bk to' p N fr r6 q (Ro p (a+m) j) (j:Int) (m:Int) (Tf p a m)=UZ bk to' p N fr ((m+j:Nat):Int) (Tf p a (m+j))
 |0,m,q+1,_,_,_=>by
  rw[Td,VC,Aau (by rw[Aq];simp)];rfl
 |j+1,m,q+1,hm,hj,hq=>by
  have hroom:Td bk to' p N fr r6 (q+1) (Ro p (a+m) (j+1)) ((j+1:Nat):Int) (m:Int) (Tf p a m)=UY (Td bk to' p N fr r6 q) to' fr p N r6 (Ro p (a+m) (j+1)) ((j+1:Nat):Int) (m:Int) (room p a m):=by
   rw[Td,VC,Ab3 (by rw[Aq];simp),H3 m (by omega),room];by_cases h0:m %8=0
   ·rw[Ab3 (by rw[Ar,h0];rfl),Bw (by rw[Ke];simp;omega),Aa,Ab3 h0]
   ·rw[Aau (by rw[Ar];simp;omega),Aau h0]
  have hl:Ap (Ac (room p a m)) 1=((m/8:Nat):Int):=by
   rw[Ac,Qv,Bs];omega
  have e2:Fj ((j+1:Nat):Int) (Ap (8:Int) ((m %8:Nat):Int))=((min (j+1) (8-m %8):Nat):Int):=by
   rw[HL,Bs];omega
  rw[hroom,UY,kA,H3 m (by omega),e2,hl];generalize hT:min (j+1) (8-m %8)=T;have hT1:1<=T:=by omega
  have hT8:m %8+T<=8:=by omega
  have hg:Ao (room p a m) ((m/8:Nat):Int)=some (UInt8.ofNat (Cg p (a+8*(m/8)) (m %8))):=by
   rw[Bn (by rw[Qv];omega),rZ]
  have z1:(GI.toZ ((m %8:Nat):Int)).toNat=m %8:=rfl;have z2:(GI.toZ ((T:Nat):Int)).toNat=T:=rfl;have hlt:=yN p (a+8*(m/8)) (m %8+T) (by omega);have hadd:=RN p (m %8) T (a+8*(m/8));rw[show a+8*(m/8)+m %8=a+m by omega]at hadd;have hbyte:(Af (Ey (Ro p (a+m) (j+1)) (Ap (Ei (1:UInt64) T) (1:UInt64))):UInt8)=UInt8.ofNat (Cg p (a+m) T):=by
   rw[aH,Bbw _ (by omega),Aep p (a+m) (j+1) T (by omega) hj]
  have hnew:D0 (UInt8.ofNat (Cg p (a+8*(m/8)) (m %8))) (Ei (UInt8.ofNat (Cg p (a+m) T)) (m %8))=UInt8.ofNat (Cg p (a+8*(m/8)) (m %8+T)):=by
   rw[or8 (Rn _ _ _) (by rw[Ape];omega) (by omega),hadd,Ape (2^(m %8))]
  rw[hg,z1,z2,hbyte];simp only[Aa];rw[Bt (by rw[Dy];simp),Aa,Bt (by rw[Dy];simp;omega),Aa,hnew,Uq _ (by rw[Qv];omega),Aa,wK p a m T hT1 hT8,jV,yJ,H3 m (by omega),e2,hT,Bt (by rw[Dy];simp),Aa,z2,Ac9 p (a+m) (j+1) T (by omega) hj,Bs,Ak];have ih:=X3 bk to' p N fr r6 a (j+1-T) (m+T) q (by omega) (by omega) (by omega);rw[show m+T+(j+1-T)=m+(j+1) by omega]at ih;rw[<-ih,show a+m+T=a+(m+T) by omega,show((j+1:Nat):Int)-((T:Nat):Int)=((j+1-T:Nat):Int) by omega,show(m:Int)+((T:Nat):Int)=((m+T:Nat):Int) by omega]
theorem Aec(p:List UInt8)(N:Int)(a n:Nat)(ha:a+n<=8*p.length)(hp:p.length<=1000000)(hn:n<=300000):∀(j m f q:Nat),(f=m\/n<=f/\m=n)->m+j=n->f<=n+64->j<q->BT ((a+n:Nat):Int) p N q ((a+f:Nat):Int) (m:Int) (Tf p a m)=some (Tf p a n,(n:Int),0)
 |j,m,f,q+1,hf,hm,hf2,hq=>by
  rw[BT,kG];by_cases hlt:f<n
  ·obtain rfl:f=m:=by omega
   have e1:Fj (64:Int) (Ap ((a+n:Nat):Int) ((a+f:Nat):Int))=((min 64 (n-f):Nat):Int):=by
    rw[HL,Bs];omega
   rw[Ab3 (by rw[Ae];simp;omega),e1,get_eq p N (a+f) _ (by omega) (by omega) hp,Aa,jM];have h1:=X3 (BT ((a+n:Nat):Int) p N q) ((a+n:Nat):Int) p N ((a+f:Nat):Int) (Ro p (a+f) (min 64 (n-f))) a (min 64 (n-f)) f Ax (by omega) (by omega) (by have:=As;omega);refine Bcq h1 ?_;rw[UZ,xA,Ak,show((a+f:Nat):Int)+64=((a+(f+64):Nat):Int) by omega];exact Aec p N a n ha hp hn (j-min 64 (n-f)) (f+min 64 (n-f)) (f+64) q (by omega) (by omega) (by omega) (by omega)
  ·rw[Aau (by rw[Ae];simp;omega),jW,xD,show m=n by omega]
theorem Bat{p:List UInt8}{N:Nat}(h:okB p N)(a n:Nat)(ha:a+n<=N)(hn:n<=300000):nB p (N:Int) (a:Int) ((a+n:Nat):Int)=some (Tf p a n,(n:Int),0):=by
 obtain⟨h1,h2,h3⟩:=h;have:=Aec p N a n (by omega) (by omega) hn n 0 0 Ax (by omega) (by omega) (by omega) (by have:=As;omega);rw[nB,qL,BL ⟨h1,h2,h3⟩,Aa,Aau (by rw[Ag];simp),Aau (by simp[Ae,Aq];omega),iM];exact this
def Ha(p:List UInt8):Nat->Nat->Nat
 |_,0=>0
 |a,m+1=>if Hu p a=1 then 1+Ha p (a+1) m else 0
theorem bJ(p:List UInt8):∀(m a:Nat),Ha p a m<=m
 |0,_=>Am4 _
 |m+1,a=>by rw[Ha];split<;>have:=bJ p m (a+1)<;>omega
theorem Aei(p:List UInt8):∀(m a:Nat),∃s,Cg p a m+1=2^(Ha p a m+1)*s+2^Ha p a m/\ (Ha p a m=m->s=0)
 |0,a=>⟨0,by simp[Cg,Ha],λ_=>rfl⟩
 |m+1,a=>by
  have hb:=DM p a;obtain⟨s,h1,h2⟩:=Aei p m (a+1);by_cases h:Hu p a=1
  ·refine⟨s,?_,λe=>h2 ?_⟩
   ·rw[Ha,Ab3 h,Cg,h,show 1+Ha p (a+1) m+1=(Ha p (a+1) m+1)+1 by omega,show 1+Ha p (a+1) m=Ha p (a+1) m+1 by omega,Ayo,Ayo (n:=2) (m:=Ha p (a+1) m)];rw[Ayo]at h1;generalize Cg p (a+1) m=V at*
    generalize 2^Ha p (a+1) m=W at*
    have e1:W*2*2*s=2*(W*2*s):=by rw[Nat.mul_right_comm (W*2) 2 s,Ape]
    omega
   ·rw[Ha,Ab3 h]at e;omega
  ·refine⟨Cg p (a+1) m,?_,λe=>?_⟩
   ·rw[Ha,Aau h,Cg];simp;omega
   ·rw[Ha,Aau h]at e;omega
theorem Awf{n t s:Nat}(h:2^(t+1)*s+2^t<=2^n)(ht:t<n)(x:Nat)(hx:x=2^n-(2^(t+1)*s+2^t)):x&&& (2^(t+1)*s+2^t)=2^t:=by
 have hpos:0<2^t:=Bdk (by omega);have hlt:2^t<2^(t+1):=by rw[Ayo];omega
 have e:x=2^n-((2^(t+1)*s+(2^t-1))+1):=by rw[hx];congr 1;omega
 apply Bdl;intro i;rw[Nat.testBit_and,e,Nat.testBit_two_pow_sub_succ (by omega),Nat.testBit_two_pow_mul_add _ (by omega),Nat.testBit_two_pow_mul_add _ hlt];by_cases hi:i<t+1
 ·rw[Ab3 hi,Ab3 hi,Nat.testBit_two_pow_sub_one,Nat.testBit_two_pow];by_cases hit:t=i
  ·subst hit;simp;exact ht
  ·have:¬i=t:=λe=>hit e.symm;simp[hit]
 ·rw[Aau hi,Aau hi,Nat.testBit_two_pow];have:¬t=i:=by omega
  simp[this]
theorem Arr(a:UInt64):(jh a).toNat=18446744073709551615-a.toNat:=by
 have h:=a.toNat_lt;have e:jh a=UInt64.ofNat (BitVec.ofInt 64 18446744073709551615^^^BitVec.ofInt 64 (a.toNat:Int)).toNat:=Ju _;have h1:BitVec.ofInt 64 (a.toNat:Int)=a.toBitVec:=Abe a;have h2:(BitVec.ofInt 64 18446744073709551615:BitVec 64)=BitVec.allOnes 64:=by decide
 rw[e,Ag1,h1,h2,BitVec.allOnes_xor,BitVec.toNat_not];show(18446744073709551616-1-a.toNat) %18446744073709551616=18446744073709551615-a.toNat;omega
theorem Ary(a:UInt64):(wL a).toNat=(18446744073709551616-a.toNat) %18446744073709551616:=by
 have h:=a.toNat_lt;have e:wL a=UInt64.ofNat ((0-(a.toNat:Int)) %18446744073709551616).toNat:=Aax _;rw[e,Ag1];show((0-(a.toNat:Int)) %18446744073709551616).toNat %18446744073709551616=_;omega
def Bcc:List UInt8:=[0,1,56,2,57,49,28,3,61,58,42,50,38,29,17,4,62,47,59,36,45,43,51,22,53,39,33,30,24,18,12,5,63,55,48,27,60,41,37,16,46,35,44,21,52,32,23,11,54,26,40,15,34,20,31,10,25,14,19,9,13,8,7,6]
theorem Amn:∀t:Fin 64,Ao Bcc (GI.toZ (Ct (Br (UInt64.ofNat (2^t.val)) (285870213051353865:UInt64)) (GI.toZ (58:UInt64)).toNat))=some (UInt8.ofNat t.val):=by decide +kernel
theorem Bcj(x:UInt64)(t s:Nat)(ht:t<64)(h:x.toNat+(2^(t+1)*s+2^t)=18446744073709551616):Ic x=some (t:Int):=by
 have hpos:0<2^t:=Bdk (by omega);have hx:x.toNat=2^64-(2^(t+1)*s+2^t):=by show x.toNat=18446744073709551616-_;omega
 have hle:2^t<=2^63:=Afq (by omega) (by omega);have hne:x≠0:=by
  intro e;rw[e]at h;have h':2^t*(2*s+1)=2^64:=by
   rw[Nat.mul_add,Nat.mul_one,<-Bb7,<-Ayo]
   show _=18446744073709551616;simpa using h
  have h2:2^64=2^t*2^(64-t):=by rw[<-Bfc];congr 1;omega
  rw[h2]at h';have h3:=Nat.eq_of_mul_eq_mul_left hpos h';rw[show 64-t=(63-t)+1 by omega,Ayo]at h3;omega
 have hx0:x.toNat≠0:=λe=>hne (UInt64.toNat_inj.1 e);have hl:Ey x (wL x)=UInt64.ofNat (2^t):=by
  apply UInt64.toNat_inj.1;rw[X0,UInt64.toNat_and,Ary,show(18446744073709551616-x.toNat) %18446744073709551616=2^(t+1)*s+2^t by omega,Awf (n:=64) (by show _<=18446744073709551616;omega) ht _ hx,Ag1,Ack];exact Bdg hle (by decide)
 have hb:=Amn ⟨t,ht⟩;rw[Ic,Aau (by rw[N2];simpa using hne),hl];refine Bcq (congrArg (λo=>Option.bind o λc=>some (Af c:Int)) hb) ?_;rw[Aa,VW,Apd,Ack (by show t<256;omega)]
theorem Awr(p:List UInt8)(a m:Nat)(hm:m<=48):Ic (jh (Ro p a m))=some ((Ha p a m:Nat):Int):=by
 obtain⟨s,h1,h2⟩:=Aei p m a;have hle:=bJ p m a;have hlt:=Rn p m a;have h48:2^m<=2^48:=Afq (by omega) hm;have hn:(jh (Ro p a m)).toNat=18446744073709551615-Cg p a m:=by rw[Arr,Zx p a m (by omega)]
 have h3:(281474976710656:Nat)=2^48:=rfl;refine Bcj _ (Ha p a m) s (by omega) ?_;rw[hn];omega
def unS(p:List UInt8)(N a:Nat):Int×Int×Int:=
 if Ha p a (min 48 (N-a))<min 48 (N-a)then((Ha p a (min 48 (N-a)):Nat),((a+Ha p a (min 48 (N-a))+1:Nat):Int),0)else
 if Ha p a (min 48 (N-a))=48 then(48,((a+48:Nat):Int),0)else(0,0,24)
theorem Aqg{p:List UInt8}{N:Nat}(h:okB p N)(a:Nat)(ha:a<N):NU p (N:Int) (a:Int)=some (unS p N a):=by
 have hN:=h.1;have e1:Fj (48:Int) (Ap (N:Int) (a:Int))=((min 48 (N-a):Nat):Int):=by rw[HL,Bs];omega
 have hle:=bJ p (min 48 (N-a)) a;rw[NU,DL,BL h,Aa,Aau (by rw[Ag];simp),Aau (by rw[Ae];simp),Aau (by rw[Dy];simp;omega),e1,B4 h a _ (by omega),Aau (by omega),Aa];simp only;rw[cQ,cL,Aau (by rw[Ag];simp),Awr p a _ (by omega),Aa,dR,dC,e1,unS];by_cases h1:Ha p a (min 48 (N-a))<min 48 (N-a)
 ·rw[Ab3 (by rw[Ae];simp;omega),Ab3 h1,Ak (a:=(a:Int)) (by omega) (by omega),show Ad (0:Int) 1=1 by decide,Ak];congr 3;omega
 ·rw[Aau (by rw[Ae];simp;omega),Aau h1,dX,dW];by_cases h2:Ha p a (min 48 (N-a))=48
  ·rw[Ab3 (by rw[Ar,h2];rfl),Ab3 h2,h2,Ak (a:=(a:Int)) (by omega) (by omega),Ak];congr 3;omega
  ·rw[Aau (by rw[Ar];simp;omega),Aau h2];rfl
theorem yl(p:List UInt8):∀(m a:Nat),Ha p a m<m->Hu p (a+Ha p a m)≠1
 |0,_,h=>by simp[Ha]at h
 |m+1,a,h=>by
  by_cases hb:Hu p a=1
  ·rw[Ha,Ab3 hb]at h⊢;have:=yl p m (a+1) (by omega);rwa [show a+(1+Ha p (a+1) m)=a+1+Ha p (a+1) m by omega]
  ·rw[Ha,Aau hb];exact hb
theorem qz(p:List UInt8):∀(m a k:Nat),k<Ha p a m->Hu p (a+k)=1
 |0,a,k,h=>by simp[Ha]at h
 |m+1,a,k,h=>by
  by_cases hb:Hu p a=1
  ·rw[Ha,Ab3 hb]at h;cases k with
   |zero=>exact hb
   |succ k=>
    have:=qz p m (a+1) k (by omega);rwa [show a+(k+1)=a+1+k by omega]
  ·rw[Ha,Aau hb]at h;omega
def unR(p:List UInt8)(N a:Nat):Int×Int:=if(unS p N a).2.2=0 then((unS p N a).1,(unS p N a).2.1)else(-1,0)
theorem T0{p:List UInt8}{N:Nat}(h:okB p N)(a:Nat)(ha:a<N):∀(j k q:Nat),k+j=Ha p a (min 48 (N-a))->j<q->Ok (a:Int) p (N:Int) q (k:Int)=some (unR p N a)
 |0,k,q+1,hk,_=>by
  obtain⟨hN,hl,hz⟩:=h;have hle:=bJ p (min 48 (N-a)) a;have hk':k=Ha p a (min 48 (N-a)):=by omega
  have e1:Ad (a:Int) (k:Int)=((a+k:Nat):Int):=by rw[Ak];omega
  have hend:CN (a:Int) (k:Int) p (N:Int)=some (unR p N a):=by
   rw[CN,UC,e1];by_cases h48:k=48
   ·have hu:unS p N a=(48,((a+48:Nat):Int),0):=by rw[unS,<-hk',Aau (by omega),Ab3 h48]
    rw[Ab3 (by rw[Ar,h48];rfl),unR,hu,h48];rfl
   ·rw[Aau (by rw[Ar];simp;omega)];by_cases hN2:N<=a+k
    ·have hu:unS p N a=(0,0,24):=by rw[unS,<-hk',Aau (by omega),Aau h48]
     rw[Ab3 (by rw[Dy];simp;omega),unR,hu];rfl
    ·have hu:unS p N a=(((k:Nat):Int),((a+k+1:Nat):Int),0):=by rw[unS,<-hk',Ab3 (by omega)]
     rw[Aau (by rw[Dy];simp;omega),unR,hu,Ak];rfl
  rw[Ok,DB,e1];by_cases hc:a+k<N/\k<48
  ·have hb:=DM p (a+k);have hs:=yl p (min 48 (N-a)) a (by omega);rw[<-hk']at hs;rw[Ab3 (by simp[Ae];omega),C4 p _ (a+k) (by omega) (by omega),Aa,Aau (by rw[Ar];simp;omega),hend]
  ·rw[Aau (by simp[Ae];omega),hend]
 |j+1,k,q+1,hk,hq=>by
  obtain⟨hN,hl,hz⟩:=h;have hle:=bJ p (min 48 (N-a)) a;have hb:=qz p (min 48 (N-a)) a k (by omega);have e1:Ad (a:Int) (k:Int)=((a+k:Nat):Int):=by rw[Ak];omega
  rw[Ok,DB,e1,Ab3 (by simp[Ae];omega),C4 p _ (a+k) (by omega) (by omega),Aa,hb,Ab3 (by decide),Ak];exact T0 ⟨hN,hl,hz⟩ a ha j (k+1) q (by omega) (by omega)
theorem Ark{p:List UInt8}{N:Nat}(h:okB p N)(a:Nat)(ha:a<N):fU p (N:Int) (a:Int)=some (unR p N a):=by
 have hle:=bJ p (min 48 (N-a)) a;have:=T0 h a ha (Ha p a (min 48 (N-a))) 0 Ax (by omega) (by have:=As;omega);exact this
theorem Aty{p:List UInt8}{N a:Nat}(h:Ha p a (min 48 (N-a))<min 48 (N-a)):unS p N a=(((Ha p a (min 48 (N-a)):Nat):Int),((a+Ha p a (min 48 (N-a))+1:Nat):Int),0):=by rw[unS,Ab3 h]
theorem Atl{p:List UInt8}{N a:Nat}(h:¬Ha p a (min 48 (N-a))<min 48 (N-a))(h2:Ha p a (min 48 (N-a))=48):unS p N a=(48,((a+48:Nat):Int),0):=by rw[unS,Aau h,Ab3 h2]
theorem Asy{p:List UInt8}{N a:Nat}(h:¬Ha p a (min 48 (N-a))<min 48 (N-a))(h2:¬Ha p a (min 48 (N-a))=48):unS p N a=(0,0,24):=by rw[unS,Aau h,Aau h2]
theorem Ao0{p:List UInt8}{N:Nat}(h:okB p N)(a:Nat)(ha:N<=a):NU p (N:Int) (a:Int)=some (0,0,24):=by
 rw[NU,DL,BL h,Aa,Aau (by rw[Ag];simp),Aau (by rw[Ae];simp),Ab3 (by rw[Dy];simp;omega)]
def aD(p:List UInt8)(N a k:Nat):UInt32×Int×Int:=
 if N<=a then(0,0,24)else
 if Ha p a (min 48 (N-a))<min 48 (N-a)then
  (if N<a+Ha p a (min 48 (N-a))+1+k then(0,0,24)else(UInt32.ofNat (Ha p a (min 48 (N-a))*2^k+Cg p (a+Ha p a (min 48 (N-a))+1) k),((a+Ha p a (min 48 (N-a))+1+k:Nat):Int),0))
 else if Ha p a (min 48 (N-a))=48 then
  (if N<a+48+32 then(0,0,24)else if Cg p (a+48) 32/2^k<48 then(0,0,12)else(UInt32.ofNat (Cg p (a+48) 32),((a+48+32:Nat):Int),0))
 else(0,0,24)
theorem xV{p:List UInt8}{a n:Nat}(h:n<=32):(Af (Ro p a n):UInt32)=UInt32.ofNat (Cg p a n):=by
 have e:(Af (Ro p a n):UInt32)=UInt32.ofNat (Ro p a n).toNat:=by simp only[Af,Ln,Gk]
 rw[e,Zx p a n (by omega)]
theorem aZ{n:Nat}(h:n<4294967296):(UInt32.ofNat n).toNat=n:=by rw[Ajz];exact Ack h
theorem Ado(p:List UInt8)(a:Nat){n:Nat}(h:n<=32):Cg p a n<4294967296:=by
 have h1:=Rn p n a;have h2:2^n<=2^32:=Afq (by omega) h;omega
theorem Azd{q v k:Nat}(hq:q<48)(hv:v<2^k)(hk:k<=24):D0 (Ei (Af (q:Int):UInt32) k) (UInt32.ofNat v)=UInt32.ofNat (q*2^k+v):=by
 have hp:2^k<=2^24:=Afq (by omega) hk;have h1:q*2^k<=47*2^24:=Bce (by omega) hp;rw[Avy];apply UInt32.toNat_inj.1;rw[UInt32.toNat_or,pJ,yu,aZ (by omega),aZ (n:=v) (by omega),Ack (by omega),Ape q,<-Bbb hv,aZ (by rw[Ape];omega)]
theorem Au1{p:List UInt8}{N:Nat}(h:okB p N)(a k:Nat)(hk:k<=24):rF p (N:Int) (a:Int) (k:Int)=some (aD p N a k):=by
 have hN:=h.1;rw[rF,jH,BL h,Aa,Aau (by rw[Ag];simp),Aau (by simp[Ae,Aq];omega)];by_cases ha:N<=a
 ·rw[Ao0 h a ha,Aa,aD,Ab3 ha];rfl
 have hle:=bJ p (min 48 (N-a)) a;rw[Aqg h a (by omega),Aa];by_cases h1:Ha p a (min 48 (N-a))<min 48 (N-a)
 ·have hS:aD p N a k=if N<a+Ha p a (min 48 (N-a))+1+k then(0,0,24)else(UInt32.ofNat (Ha p a (min 48 (N-a))*2^k+Cg p (a+Ha p a (min 48 (N-a))+1) k),((a+Ha p a (min 48 (N-a))+1+k:Nat):Int),0):=by rw[aD,Aau ha,Ab3 h1]
  rw[Aty h1,hS];generalize Ha p a (min 48 (N-a))=q at*
  simp only;rw[Aau (by rw[Ag];simp),Aau (by rw[Ar];simp;omega),VE,iC,B4 h _ k (by omega),Aa];by_cases h2:N<a+q+1+k
  ·rw[Ab3 h2,Ab3 h2];rfl
  ·rw[Aau h2,Aau h2];simp only;have z:(GI.toZ (k:Int)).toNat=k:=rfl;rw[Aau (by rw[Ag];simp),Ab3 (by rw[Ae];simp;omega),Bt (by rw[Dy];simp),Aa,z,xV (by omega),Azd (by omega) (Rn _ _ _) hk,Ak];rfl
 ·by_cases h2:Ha p a (min 48 (N-a))=48
  ·have hS:aD p N a k=if N<a+48+32 then(0,0,24)else if Cg p (a+48) 32/2^k<48 then(0,0,12)else(UInt32.ofNat (Cg p (a+48) 32),((a+48+32:Nat):Int),0):=by rw[aD,Aau ha,Aau h1,Ab3 h2]
   have hg:=B4 h (a+48) 32 (by omega);rw[Atl h1 h2,hS];simp only;rw[Aau (by rw[Ag];simp),Ab3 (by rw[Ar];rfl),VE,iC];refine Bcq (congrArg (λo=>Option.bind o _) hg) ?_;rw[Aa];by_cases h3:N<a+48+32
   ·rw[Ab3 h3,Ab3 h3];rfl
   ·rw[Aau h3,Aau h3];simp only;have z:(GI.toZ (k:Int)).toNat=k:=rfl;have hv:=Ado p (a+48) (n:=32) (by omega);rw[Aau (by rw[Ag];simp),Aau (by rw[Ae];simp),BY,Bt (by rw[Dy];simp),Aa,Aa,z,xV (by omega),Ajv];have e:(decide ((48:UInt32).toNat<= (Ct (UInt32.ofNat (Cg p (a+48) 32)) k).toNat))=decide (¬Cg p (a+48) 32/2^k<48):=by
     rw[PY,aZ hv];simp
    rw[e];by_cases h4:Cg p (a+48) 32/2^k<48
    ·rw[Ab3 (by simp[h4]),Ab3 h4]
    ·rw[Aau (by simp;omega),Aau h4,Ak];rfl
  ·rw[Asy h1 h2,aD,Aau ha,Aau h1,Aau h2];rfl
theorem O6(k:Nat)(hk:k<=63):∀(j i q:Nat),i+j=k->j<q->Lq (k:Int) q (UInt64.ofNat (2^i)) (i:Int)=some (UInt64.ofNat (2^k))
 |0,i,q+1,hi,_=>by
  rw[Lq,Yo,Aau (by rw[Ae];simp;omega),show i=k by omega];rfl
 |j+1,i,q+1,hi,hq=>by
  have e:Br (UInt64.ofNat (2^i)) (2:UInt64)=UInt64.ofNat (2^(i+1)):=by
   rw[RI,Ayo,UInt64.ofNat_mul];rfl
  rw[Lq,Yo,Ab3 (by rw[Ae];simp;omega),Ak,e];exact O6 k hk j (i+1) q (by omega) (by omega)
theorem RE(k:Nat)(hk:k<=63):Hp (k:Int)=some (UInt64.ofNat (2^k)):=
 O6 k hk k 0 Ax (by omega) (by have:=As;omega)
theorem aX{k:Nat}(hk:k<=63):(UInt64.ofNat (2^k)).toNat=2^k:=by
 have hp:2^k<=2^63:=Afq (by omega) hk;rw[Ag1,Ack (by omega)]
theorem Avo(v:UInt32)(k:Nat)(hk:k<=24):IB v (k:Int)=some ((min 48 (v.toNat/2^k):Nat):Int):=by
 have hpos:0<2^k:=Bdk (by omega);have hv:=v.toNat_lt;rw[IB,RE k (by omega),Aa,Bt (by rw[VQ];simp only[Bfp,ne_eq,<-Be9,aX (show k<=63 by omega)];simp),Aa];have e:(Db (Af v:UInt64) (UInt64.ofNat (2^k))).toNat=v.toNat/2^k:=by
  rw[wP,Bfw,Dw,aX (by omega),Ag1,Ack (by omega)]
 have hle:v.toNat/2^k<=v.toNat:=Auf _ _;have e2:Fj (48:UInt64) (Db (Af v:UInt64) (UInt64.ofNat (2^k)))=UInt64.ofNat (min 48 (v.toNat/2^k)):=by
  apply UInt64.toNat_inj.1;rw[Ag1,Ack (by omega)];show(if _ then _ else _:UInt64).toNat=_;rw[show(GI.toZ (Db (Af v:UInt64) (UInt64.ofNat (2^k))))=((v.toNat/2^k:Nat):Int) by rw[Ln,e],show GI.toZ (48:UInt64)=48 from rfl];split
  ·rw[e];omega
  ·show 48=_;omega
 rw[e2,zE (by rw[Ag1,Ack]<;>omega),Ag1,Ack (by omega)]
theorem As9{p:List UInt8}{N:Nat}(h:okB p N)(a k:Nat)(hk:k<=24):OK p (N:Int) (a:Int) (k:Int)=some (aD p N a k):=by
 obtain⟨hN,hl,hz⟩:=h;have h:okB p N:=⟨hN,hl,hz⟩;rw[OK,UQ];by_cases ha:N<=a
 ·rw[Ab3 (by rw[Dy];simp;omega),aD,Ab3 ha]
 have hle:=bJ p (min 48 (N-a)) a;rw[Aau (by rw[Dy];simp;omega),Ark h a (by omega),Aa,unR];by_cases h1:Ha p a (min 48 (N-a))<min 48 (N-a)
 ·have hS:aD p N a k=if N<a+Ha p a (min 48 (N-a))+1+k then(0,0,24)else(UInt32.ofNat (Ha p a (min 48 (N-a))*2^k+Cg p (a+Ha p a (min 48 (N-a))+1) k),((a+Ha p a (min 48 (N-a))+1+k:Nat):Int),0):=by rw[aD,Aau ha,Ab3 h1]
  rw[Aty h1,hS];generalize Ha p a (min 48 (N-a))=q at*
  rw[Ab3 rfl];simp only;rw[Aau (by rw[Ar];simp;omega),CH,CC,Bs];by_cases h2:N<a+q+1+k
  ·rw[Ab3 (by simp[Ae];omega),Ab3 h2]
  ·have hp:2^k<=2^24:=Afq (by omega) hk;have hm:q*2^k<=47*2^24:=Bce (by omega) hp;have hv:=Rn p k (a+q+1);have e:(Af (Ad (Br (Af (q:Int):UInt64) (UInt64.ofNat (2^k))) (Ro p (a+q+1) k)):UInt32)=UInt32.ofNat (q*2^k+Cg p (a+q+1) k):=by
    have e1:Ad (Br (Af (q:Int):UInt64) (UInt64.ofNat (2^k))) (Ro p (a+q+1) k)=UInt64.ofNat (q*2^k+Cg p (a+q+1) k):=by
     rw[RL,RI,Yb,Ro,UInt64.ofNat_add,UInt64.ofNat_mul]
    rw[e1];have e2:∀x:UInt64,(Af x:UInt32)=UInt32.ofNat x.toNat:=λx=>by simp only[Af,Ln,Gk]
    rw[e2,Ag1,Ack (by omega)]
   rw[Aau (by simp[Ae];omega),Aau h2,uG p _ _ k (by omega) (by omega),Aa,Ab3 (by rw[Ae];simp;omega),RE k (by omega),Aa,e,Ak];rfl
 ·by_cases h2:Ha p a (min 48 (N-a))=48
  ·have hS:aD p N a k=if N<a+48+32 then(0,0,24)else if Cg p (a+48) 32/2^k<48 then(0,0,12)else(UInt32.ofNat (Cg p (a+48) 32),((a+48+32:Nat):Int),0):=by rw[aD,Aau ha,Aau h1,Ab3 h2]
   rw[Atl h1 h2,hS,Ab3 rfl];simp only;rw[Ab3 (by rw[Ar];rfl),CH,CC,Bs];by_cases h3:N<a+48+32
   ·rw[Ab3 (by simp[Ae];omega),Ab3 h3]
   ·have hg:=uG p (N:Int) (a+48) 32 (by omega) (by omega);have hv:=Ado p (a+48) (n:=32) (by omega);rw[Aau (by simp[Ae];omega),Aau h3];refine Bcq (congrArg (λo=>Option.bind o _) hg) ?_;rw[Aa,Aau (by rw[Ae];simp),xV (by omega),Avo _ k hk,Aa,aZ hv];by_cases h4:Cg p (a+48) 32/2^k<48
    ·rw[Ab3 (by rw[Ae];simp;omega),Ab3 h4]
    ·rw[Aau (by rw[Ae];simp;omega),Aau h4,Ak];rfl
  ·rw[Asy h1 h2,aD,Aau ha,Aau h1,Aau h2];have e:(if((0:Int),(0:Int),(24:Int)).2.2=0 then(((0:Int),(0:Int),(24:Int)).1,((0:Int),(0:Int),(24:Int)).2.1)else((-1:Int),(0:Int)))=(-1,0):=by decide
   rw[e];rfl
theorem Bab{p:List UInt8}{N a k:Nat}{v:UInt32}{n:Int}(h:aD p N a k=(v,n,0)):(a:Int)<n/\n<=N:=by
 unfold aD at h;split at h
 ·simp at h
 split at h
 ·split at h
  ·simp at h
  ·simp only[Agt]at h;omega
 ·split at h
  ·split at h
   ·simp at h
   ·split at h
    ·simp at h
    ·simp only[Agt]at h;omega
  ·simp at h
def okD(k l:Nat)(s t:UInt64):Prop:=k<=24/\l<=24/\s.toNat<=68719476735/\t.toNat<=68719476735
theorem Ae4(a b:UInt64)(h:a.toNat<=b.toNat):Fj a b=a:=by
 show(if _ then _ else _)=_;rw[Ln,Ln,Aau (by omega)]
theorem xM(a:UInt64):geq a a=true:=by rw[N2];simp
theorem Atk{k l:Nat}{s t:UInt64}(h:okD k l s t):WW (k:Int) (l:Int) s t=some 0:=by
 obtain⟨h1,h2,h3,h4⟩:=h;have e1:Fj (sD (k:Int) 0) 24=(k:Int):=by rw[HL,Abw];omega
 have e2:Fj (sD (l:Int) 0) 24=(l:Int):=by rw[HL,Abw];omega
 have e3:Fj s (68719476735:UInt64)=s:=Ae4 _ _ (by simpa using h3);have e4:Fj t (68719476735:UInt64)=t:=Ae4 _ _ (by simpa using h4);have e5:∀a:Int,geq a a=true:=λa=>by rw[Ar];simp
 rw[WW,OX,dB,OZ,dT,tG,e1,e2,e3,e4,e5,e5,xM,xM];rfl
def Zm(s n:UInt64):UInt64:=s+n-s/16
def kS(k:Nat)(s:UInt64):Nat:=if 0<k/\s.toNat<2^(k+4)then k-1 else if k<24/\2^(k+5)<s.toNat then k+1 else k
theorem Ax9{k:Nat}(h:k<=24)(s:UInt64):kS k s<=24:=by
 unfold kS;by_cases h1:0<k/\s.toNat<2^(k+4)
 ·rw[Ab3 h1];omega
 ·rw[Aau h1];split<;>omega
theorem Ake{k:Nat}{s:UInt64}(h:¬(0<k/\s.toNat<2^(k+4))):(if k<24/\2^(k+5)<s.toNat then((k+1:Nat):Int)else(k:Int))=((kS k s:Nat):Int):=by
 rw[kS,Aau h];split<;>rfl
theorem Akb{s n:UInt64}(h:s.toNat<=68719476735)(hn:n.toNat<=4294967295):(Zm s n).toNat<=68719476735:=by
 have h1:=s.toNat_lt;have e:(s+n).toNat=s.toNat+n.toNat:=by rw[UInt64.toNat_add];omega
 have e2:(s/16).toNat=s.toNat/16:=by rw[Bfw];rfl
 rw[Zm,UInt64.toNat_sub_of_le _ _ (by rw[UInt64.le_iff_toNat_le,e,e2];omega),e,e2];omega
theorem fF(s n:UInt64):Ad s (Ap n (Ct s (GI.toZ (4:UInt64)).toNat))=Zm s n:=by
 have e:Ct s (GI.toZ (4:UInt64)).toNat=s/16:=by
  apply UInt64.toNat_inj.1;rw[LC,Bfw];rfl
 rw[e,RL,yH,Zm,UInt64.sub_eq_add_neg,UInt64.sub_eq_add_neg,UInt64.add_assoc]
theorem Al1(s n:UInt64):Ap (Ad s n) (Db s (16:UInt64))=Zm s n:=by rw[RL,yH,wP,Zm]
theorem Bcd{k:Nat}(h:k<=24):(Ei (16:UInt64) k).toNat=2^(k+4):=by
 have hp:2^k<=2^24:=Afq (by omega) h;rw[XB,Bfc]
 show 16*2^k %_=2^k*16;rw[Ack (by omega),Ape]
theorem Aze{k:Nat}(h:k<=24):(Ei (32:UInt64) k).toNat=2^(k+5):=by
 have hp:2^k<=2^24:=Afq (by omega) h;rw[XB,Bfc]
 show 32*2^k %_=2^k*32;rw[Ack (by omega),Ape]
theorem Ayh{k:Nat}{s:UInt64}(h:0<k)(h2:s.toNat<2^(k+4)):kS k s=k-1:=by rw[kS,Ab3 ⟨h,h2⟩]
theorem Ayf{k:Nat}{s:UInt64}(h:¬(0<k/\s.toNat<2^(k+4)))(h2:k<24)(h3:2^(k+5)<s.toNat):kS k s=k+1:=by rw[kS,Aau h,Ab3 ⟨h2,h3⟩]
theorem Aji{k:Nat}{s:UInt64}(h:¬(0<k/\s.toNat<2^(k+4)))(h2:¬(k<24/\2^(k+5)<s.toNat)):kS k s=k:=by rw[kS,Aau h,Aau h2]
theorem Ale{α:Type}(k:Nat)(hk:k<=24)(s:UInt64)(f:Int->Option α):
  (if(Ex (k:Int) (0:Int))=true then(
   Option.bind (Md (Nj (k:Int) (0:Int))) λ_=>
   if(Cj s (Ei (16:UInt64) (GI.toZ (k:Int)).toNat))=true then f (Ap (k:Int) (1:Int))
   else(if(Cj (k:Int) (24:Int))=true then(
    Option.bind (Md (Nj (k:Int) (0:Int))) λ_=>
    if(Ex s (Ei (32:UInt64) (GI.toZ (k:Int)).toNat))=true then f (Ad (k:Int) (1:Int))else f (k:Int))
    else f (k:Int)))
  else(if(Cj (k:Int) (24:Int))=true then(
    Option.bind (Md (Nj (k:Int) (0:Int))) λ_=>
    if(Ex s (Ei (32:UInt64) (GI.toZ (k:Int)).toNat))=true then f (Ad (k:Int) (1:Int))else f (k:Int))
    else f (k:Int)))=f ((kS k s:Nat):Int):=by
 have z:(GI.toZ (k:Int)).toNat=k:=rfl;rw[z,Bt (by rw[Dy];simp)];simp only[Aa];rw[N4,cF,Bcd hk,Aze hk];by_cases h0:0<k
 ·rw[Ab3 (by rw[Aq];simp;omega)];by_cases h1:s.toNat<2^(k+4)
  ·rw[Ab3 (by simp[h1]),Ayh h0 h1,Bs];congr 1;omega
  ·rw[Aau (by simp;omega)];by_cases h2:k<24
   ·rw[Ab3 (by rw[Ae];simp;omega)];by_cases h3:2^(k+5)<s.toNat
    ·rw[Ab3 (by simp[h3]),Ayf (λh=>h1 h.2) h2 h3,Ak];rfl
    ·rw[Aau (by simp;omega),Aji (λh=>h1 h.2) (λh=>h3 h.2)]
   ·rw[Aau (by rw[Ae];simp;omega),Aji (λh=>h1 h.2) (λh=>h2 h.1)]
 ·rw[Aau (by rw[Aq];simp;omega)];by_cases h2:k<24
  ·rw[Ab3 (by rw[Ae];simp;omega)];by_cases h3:2^(k+5)<s.toNat
   ·rw[Ab3 (by simp[h3]),Ayf (λh=>h0 h.1) h2 h3,Ak];rfl
   ·rw[Aau (by simp;omega),Aji (λh=>h0 h.1) (λh=>h3 h.2)]
  ·rw[Aau (by rw[Ae];simp;omega),Aji (λh=>h0 h.1) (λh=>h2 h.1)]
theorem Ajm(k:Nat)(hk:k<=24)(s n:UInt64):Zi (k:Int) s n=some (((kS k (Zm s n):Nat):Int),Zm s n):=by
 have g1:Ad (k:Int) 4=((k+4:Nat):Int):=by rw[Ak];omega
 have g2:Ad (k:Int) 5=((k+5:Nat):Int):=by rw[Ak];omega
 have hp:AQ (k:Int) s n=some (if k<24/\2^(k+5)<(Zm s n).toNat then((k+1:Nat):Int)else(k:Int),Zm s n):=by
  rw[AQ,SK,g2,RE _ (by omega),Aa,Al1,cF,aX (by omega)];by_cases h2:k<24
  ·rw[Ab3 (by rw[Ae];simp;omega)];by_cases h3:2^(k+5)<(Zm s n).toNat
   ·rw[Ab3 (by simp[h3]),Ab3 ⟨h2,h3⟩,Ak];rfl
   ·rw[Aau (by simp;omega),Aau (λh=>h3 h.2)]
  ·rw[Aau (by rw[Ae];simp;omega),Aau (λh=>h2 h.1)]
 rw[Zi,SE,g1,RE _ (by omega),Aa,Al1,N4,aX (by omega),hp];by_cases h0:0<k
 ·rw[Ab3 (by rw[Aq];simp;omega)];by_cases h1:(Zm s n).toNat<2^(k+4)
  ·rw[Ab3 (by simp[h1]),Ayh h0 h1,Bs];congr 2;omega
  ·rw[Aau (by simp;omega),Ake (λh=>h1 h.2)]
 ·rw[Aau (by rw[Aq];simp;omega),Ake (λh=>h0 h.1)]
def L8(v:UInt32):UInt64:=UInt64.ofNat v.toNat
theorem Aqp(v:UInt32):(L8 v).toNat<=4294967295:=by have:=v.toNat_lt;rw[L8,Ag1,Ack (by omega)];omega
def kT(k:Nat)(v:UInt32):UInt32:=UInt32.ofNat (v.toNat-2^k)
def lK(l:Nat)(t:UInt64)(k:Nat)(v:UInt32):Nat:=if v.toNat<2^k then l else kS l (Zm t (L8 (kT k v)))
def lT(t:UInt64)(k:Nat)(v:UInt32):UInt64:=if v.toNat<2^k then t else Zm t (L8 (kT k v))
theorem Apj{k l:Nat}{s t:UInt64}(h:okD k l s t)(v:UInt32):okD (kS k (Zm s (L8 v))) (lK l t k v) (Zm s (L8 v)) (lT t k v):=by
 obtain⟨h1,h2,h3,h4⟩:=h;refine⟨Ax9 h1 _,?_,Akb h3 (Aqp v),?_⟩
 ·unfold lK;split; · exact h2
  exact Ax9 h2 _
 ·unfold lT;split; · exact h4
  exact Akb h4 (Aqp _)
theorem Az7(k l:Nat)(s t:UInt64)(hk:k<=24)(v:UInt32):NV (k:Int) (l:Int) s t v=some (decide (v.toNat<2^k)):=by
 have:=v.toNat_lt;rw[NV,RE k (by omega),Aa,N4,aX (by omega),Dw,Ag1,Ack (by omega)]
theorem left_eq(k l:Nat)(s t:UInt64)(hk:k<=24)(v:UInt32)(h:¬v.toNat<2^k):HT (k:Int) (l:Int) s t v=some (kT k v):=by
 have:=v.toNat_lt;have e2:∀x:UInt64,(Af x:UInt32)=UInt32.ofNat x.toNat:=λx=>by simp only[Af,Ln,Gk]
 have e3:(UInt64.ofNat v.toNat).toNat=v.toNat:=by rw[Ag1,Ack (by omega)]
 rw[HT,RE k (by omega),Aa,e2,yH,Dw,UInt64.toNat_sub_of_le _ _ (by rw[UInt64.le_iff_toNat_le,aX (by omega),e3];omega),aX (by omega),e3,kT]
theorem Aoi{k l:Nat}{s t:UInt64}(h:okD k l s t)(v:UInt32):CZ (k:Int) (l:Int) s t v=some (((kS k (Zm s (L8 v)):Nat):Int),((lK l t k v:Nat):Int),Zm s (L8 v),lT t k v):=by
 obtain⟨h1,h2,h3,h4⟩:=h;have hp:∀(r1:Int) (r2:UInt64),Wh v (k:Int) (l:Int) s t r1 r2=some (((kS k (Zm s (L8 v)):Nat):Int),r1,Zm s (L8 v),r2):=by
  intro r1 r2;rw[Wh,HC,Dw,Ajm k h1,Aa];rfl
 rw[CZ,KV,Az7 k l s t h1,Aa];by_cases hv:v.toNat<2^k
 ·rw[Aau (by simp[hv]),hp,lK,Ab3 hv,lT,Ab3 hv]
 ·rw[Ab3 (by simp;omega),left_eq k l s t h1 v hv,Aa,Dw,Ajm l h2,Aa];simp only;rw[hp,lK,Aau hv,lT,Aau hv];rfl
theorem X7(k l:Nat)(s t:UInt64)(hk:k<=24)(v:UInt32):NJ (k:Int) (l:Int) s t v=some (if v.toNat<2^k then(0,v)else(1,kT k v)):=by
 have hp:2^k<=2^24:=Afq (by omega) hk;have hpos:0<2^k:=Bdk (by omega);have hl:=v.toNat_lt;have z:(GI.toZ (k:Int)).toNat=k:=rfl;have e1:geq (Ct v k) (0:UInt32)=decide (v.toNat<2^k):=by
  rw[Aat,Ajf];simp only[Aug,<-UInt32.toNat_inj,PY,Acj]
  show _/_=0↔_;rw[Nat.div_eq_zero_iff];omega
 have e2:¬v.toNat<2^k->Ap v (Ei (1:UInt32) k)=kT k v:=by
  intro h;have e3:(Ei (1:UInt32) k).toNat=2^k:=by rw[pJ];show 1*2^k %_=_;rw[Ack (by omega),Bgb]
  apply UInt32.toNat_inj.1;rw[X8,Bfy _ _ (by rw[Bfz,e3];omega),e3,kT,aZ (by omega)]
 rw[NJ,Bt (by rw[Dy];simp),Aa,Aa,z,e1];by_cases h:v.toNat<2^k
 ·rw[Ab3 (by simp[h]),Ab3 h]
 ·rw[Aau (by simp;omega),Aau h,e2 h]
abbrev Rd:=UInt32×Int×Int×Int×UInt64×UInt64×Int
theorem mi{k l:Nat}{s t:UInt64}(h:okD k l s t)(v:UInt32)(r:Int):VH (k:Int) (l:Int) s t v r=some (v,r,((kS k (Zm s (L8 v)):Nat):Int),((lK l t k v:Nat):Int),Zm s (L8 v),lT t k v,0):=by
 obtain⟨h1,h2,h3,h4⟩:=h;have hp:∀(x:Int) (y:UInt64),JT v r (k:Int) s x y=some (v,r,((kS k (Zm s (L8 v)):Nat):Int),x,Zm s (L8 v),y,0):=by
  intro x y;rw[JT,kD,Dw,fF,Ale k h1];rw[iL,kM,dV,tQ,Dw,fF];rfl
 rw[VH,iZ,X7 k l s t h1,Aa];by_cases hv:v.toNat<2^k
 ·rw[Ab3 hv];simp only;rw[Aau (by rw[Ar];simp),hp,lK,Ab3 hv,lT,Ab3 hv]
 ·rw[Aau hv];simp only;rw[Ab3 (by rw[Ar];rfl),Dw,fF,Ale l h2 _ (λx=>JT v r (k:Int) s x (Zm t (UInt64.ofNat (kT k v).toNat))),hp,lK,Aau hv,lT,Aau hv];rfl
def eD(p:List UInt8)(N a k l:Nat):UInt32×Int×Int:=
 if N<=a then(0,0,24)else
 if Hu p a=0 then(if N<a+1+k then(0,0,24)else(UInt32.ofNat (Cg p (a+1) k),((a+1+k:Nat):Int),0))else
 if(aD p N (a+1) l).2.2≠0 then(0,0,(aD p N (a+1) l).2.2)else
 if 4294967295<(aD p N (a+1) l).1.toNat+2^k then(0,0,12)else(UInt32.ofNat ((aD p N (a+1) l).1.toNat+2^k),(aD p N (a+1) l).2.1,0)
theorem Bac{p:List UInt8}{N a k l:Nat}(h:(eD p N a k l).2.2=0):(a:Int)<(eD p N a k l).2.1/\ (eD p N a k l).2.1<=N:=by
 revert h
 unfold eD;split
 ·simp
 split
 ·split
  ·simp
  ·simp only;omega
 ·split
  ·intro h;contradiction
  ·rename_i h1;split
   ·simp
   ·intro _;have:=Bab (p:=p) (N:=N) (a:=a+1) (k:=l) (v:=(aD p N (a+1) l).1) (n:=(aD p N (a+1) l).2.1) (by
     have e:(aD p N (a+1) l).2.2=0:=by simpa using h1
     rw[<-e])
    simp only;omega
theorem Axq{p:List UInt8}{N:Nat}(h:okB p N)(a:Nat){k l:Nat}{s t:UInt64}(hd:okD k l s t):OI p (N:Int) (a:Int) (k:Int) (l:Int) s t=
  some (if(eD p N a k l).2.2≠0 then(0,0,0,0,0,0,(eD p N a k l).2.2)else((eD p N a k l).1,(eD p N a k l).2.1,((kS k (Zm s (L8 (eD p N a k l).1)):Nat):Int),((lK l t k (eD p N a k l).1:Nat):Int),Zm s (L8 (eD p N a k l).1),lT t k (eD p N a k l).1,0)):=by
 obtain⟨h1,h2,h3,h4⟩:=hd;have hd:okD k l s t:=⟨h1,h2,h3,h4⟩;have hN:=h.1;have hg:=B4 h a 1 (by omega);have hb:=DM p a;rw[OI,jX,BL h,Aa,Aau (by rw[Ag];simp),Atk hd,Aa,Aau (by rw[Ag];simp),iD,jZ];refine Bcq (congrArg (λo=>Option.bind o _) hg) ?_;rw[Aa];by_cases ha:N<=a
 ·have hS:eD p N a k l=(0,0,24):=by rw[eD,Ab3 ha]
  rw[Ab3 (by omega),hS];rfl
 rw[Aau (by omega)];simp only;have e0:geq (Ro p a 1) (0:UInt64)=decide (Hu p a=0):=by
  rw[N2,Ajf];simp only[Aug,<-Be9,Acj,Zx p a 1 (by omega),xN];rfl
 have e1:Ad (a:Int) 1=((a+1:Nat):Int):=by rw[Ak];omega
 rw[Aau (by rw[Ag];simp),e0,e1];by_cases hz:Hu p a=0
 ·rw[Ab3 (by simp[hz]),B4 h (a+1) k (by omega),Aa];by_cases h5:N<a+1+k
  ·have hS:eD p N a k l=(0,0,24):=by rw[eD,Aau ha,Ab3 hz,Ab3 h5]
   rw[Ab3 h5,hS];rfl
  ·have hS:eD p N a k l=(UInt32.ofNat (Cg p (a+1) k),((a+1+k:Nat):Int),0):=by rw[eD,Aau ha,Ab3 hz,Aau h5]
   rw[Aau h5,hS];simp only;rw[Aau (by rw[Ag];simp),mi hd,xV (by omega),Ak];rfl
 ·rw[Aau (by simp[hz]),Au1 h (a+1) l h2,Aa];have hp:2^k<=2^24:=Afq (by omega) h1;by_cases h5:(aD p N (a+1) l).2.2≠0
  ·have hS:eD p N a k l=(0,0,(aD p N (a+1) l).2.2):=by rw[eD,Aau ha,Aau hz,Ab3 h5]
   rw[hS];generalize aD p N (a+1) l=R at*
   obtain⟨v,n,e⟩:=R;simp only at*
   rw[Ab3 (by rw[Ag];simpa using h5),Ab3 h5]
  ·have hv:=(aD p N (a+1) l).1.toNat_lt;have z:(GI.toZ (k:Int)).toNat=k:=rfl;have e3:(Ei (1:UInt32) k).toNat=2^k:=by rw[pJ];show 1*2^k %_=_;rw[Ack (by omega),Bgb]
   by_cases h6:4294967295<(aD p N (a+1) l).1.toNat+2^k
   ·have hS:eD p N a k l=(0,0,12):=by rw[eD,Aau ha,Aau hz,Aau h5,Ab3 h6]
    rw[hS];generalize aD p N (a+1) l=R at*
    obtain⟨v,n,e⟩:=R;simp only at*
    rw[Aau (by rw[Ag];simpa using h5),Bt (by rw[Dy];simp),Aa,z,Ab3 (by rw[Aju,Q8,UInt32.toNat_add,e3];simp;omega),Ab3 (by decide)]
   ·have hS:eD p N a k l=(UInt32.ofNat ((aD p N (a+1) l).1.toNat+2^k),(aD p N (a+1) l).2.1,0):=by rw[eD,Aau ha,Aau hz,Aau h5,Aau h6]
    rw[hS];generalize aD p N (a+1) l=R at*
    obtain⟨v,n,e⟩:=R;simp only at*
    have e4:Ad v (Ei (1:UInt32) k)=UInt32.ofNat (v.toNat+2^k):=by
     apply UInt32.toNat_inj.1;rw[Q8,UInt32.toNat_add,e3,aZ (by omega),Ack (by omega)]
    rw[Aau (by rw[Ag];simpa using h5),Bt (by rw[Dy];simp),Aa,z,Aau (by rw[Aju,Q8,UInt32.toNat_add,e3];simp;omega),e4,mi hd];rfl
theorem Aqf{p:List UInt8}{N:Nat}(h:okB p N)(a:Nat)(k l:Nat)(s t:UInt64)(h1:k<=24)(h2:l<=24):NI p (N:Int) (a:Int) (k:Int) (l:Int) s t=some (eD p N a k l):=by
 have hN:=h.1;have hl:=h.2.1;have hb:=DM p a;rw[NI];by_cases ha:N<=a
 ·rw[Ab3 (by rw[Dy];simp;omega),eD,Ab3 ha]
 rw[Aau (by rw[Dy];simp;omega),C4 p _ a (by omega) (by omega),Aa,Bs (a:=(N:Int)) (b:=(a:Int)) (by omega) (by omega),Bs];have e1:Ad (a:Int) 1=((a+1:Nat):Int):=by rw[Ak];omega
 rw[e1];by_cases hz:Hu p a=0
 ·rw[Ab3 (by rw[Ar];simp[hz])];by_cases h5:N<a+1+k
  ·rw[Ab3 (by rw[Ae];simp;omega),eD,Aau ha,Ab3 hz,Ab3 h5]
  ·rw[Aau (by rw[Ae];simp;omega),uG p _ (a+1) k (by omega) (by omega),Aa,eD,Aau ha,Ab3 hz,Aau h5,xV (by omega),Ak];rfl
 ·rw[Aau (by rw[Ar];simp;omega),As9 h (a+1) l h2,Aa];have hp:2^k<=2^24:=Afq (by omega) h1;have hv:=(aD p N (a+1) l).1.toNat_lt;have e2:∀x:UInt64,(Af x:UInt32)=UInt32.ofNat x.toNat:=λx=>by simp only[Af,Ln,Gk]
  by_cases h5:(aD p N (a+1) l).2.2≠0
  ·have hS:eD p N a k l=(0,0,(aD p N (a+1) l).2.2):=by rw[eD,Aau ha,Aau hz,Ab3 h5]
   rw[hS];generalize aD p N (a+1) l=R at*
   obtain⟨v,n,e⟩:=R;simp only at*
   rw[Ab3 (by rw[Ag];simpa using h5)]
  ·have hsum:∀v:UInt32,(Ad (Af v:UInt64) (UInt64.ofNat (2^k))).toNat=v.toNat+2^k:=by
    intro v;have:=v.toNat_lt;have:=Bdk (n:=k) (show 0<2 by omega);rw[RL,UInt64.toNat_add,Dw,aX (by omega),Ag1];omega
   by_cases h6:4294967295<(aD p N (a+1) l).1.toNat+2^k
   ·have hS:eD p N a k l=(0,0,12):=by rw[eD,Aau ha,Aau hz,Aau h5,Ab3 h6]
    rw[hS];generalize aD p N (a+1) l=R at*
    obtain⟨v,n,e⟩:=R;simp only at*
    rw[Aau (by rw[Ag];simpa using h5),RE k (by omega),Aa,Ab3 (by rw[cF,hsum];simpa using h6)]
   ·have hS:eD p N a k l=(UInt32.ofNat ((aD p N (a+1) l).1.toNat+2^k),(aD p N (a+1) l).2.1,0):=by rw[eD,Aau ha,Aau hz,Aau h5,Aau h6]
    rw[hS];generalize aD p N (a+1) l=R at*
    obtain⟨v,n,e⟩:=R;simp only at*
    rw[Aau (by rw[Ag];simpa using h5),RE k (by omega),Aa,Aau (by rw[cF,hsum];simpa using h6),e2,hsum]
abbrev DuN:=Nat×Nat×UInt64×UInt64
def okN(d:DuN):Prop:=okD d.1 d.2.1 d.2.2.1 d.2.2.2
def nxt(d:DuN)(v:UInt32):DuN:=(kS d.1 (Zm d.2.2.1 (L8 v)),lK d.2.1 d.2.2.2 d.1 v,Zm d.2.2.1 (L8 v),lT d.2.2.2 d.1 v)
def Ace:DuN:=(10,10,16384,16384)
theorem Aqh:okN Ace:=⟨by decide,by decide,by decide,by decide⟩
theorem Ay7{d:DuN}(h:okN d)(v:UInt32):okN (nxt d v):=Apj h v
abbrev DuL:=Int×Int×UInt64×UInt64×Unit
def toI(d:DuN):DuL:=((d.1:Int),(d.2.1:Int),d.2.2.1,d.2.2.2,())
def mC(ch:Nat)(v:List UInt32)(c:Nat):Nat->DuN
 |0=>Ace
 |m+1=>if m %ch=c then nxt (mC ch v c m) (v.getD m 0)else mC ch v c m
theorem pS(ch:Nat)(v:List UInt32)(c:Nat):∀m,okN (mC ch v c m)
 |0=>Aqh
 |m+1=>by rw[mC];split;exact Ay7 (pS ch v c m) _;exact pS ch v c m
theorem Alc(ch:Nat)(v w:List UInt32)(c:Nat):∀m,m<=v.length->mC ch (v++w) c m=mC ch v c m
 |0,_=>rfl
 |m+1,h=>by
  have e:(v++w).getD m 0=v.getD m 0:=by simp[List.getD_eq_getElem?_getD,List.getElem?_append_left (show m<v.length by omega)]
  rw[mC,mC,Alc ch v w c m (by omega),e]
theorem Aag(ch:Nat)(v:List UInt32)(c:Nat):∀m,m<=c->c<ch->mC ch v c m=Ace
 |0,_,_=>rfl
 |m+1,h,h2=>by rw[mC,Aau (by rw[Ack (by omega)];omega),Aag ch v c m (by omega) h2]
theorem Acr(ch:Nat)(v:List UInt32)(c i:Nat)(hi:i %ch=c)(hc:c<ch):∀j,j<ch->mC ch v c (i+1+j)=mC ch v c (i+1)
 |0,_=>rfl
 |j+1,h=>by
  have hne:(i+1+j) %ch≠c:=by
   intro e;have h1:(i+(1+j)) %ch=i %ch:=by rw[hi,<-e];congr 1;omega
   have h2:(1+j) %ch=0:=by
    have h3:=Nat.sub_mod_eq_zero_of_mod_eq h1;rwa [Bba]at h3
   rw[Ack (by omega)]at h2;omega
  rw[show i+1+(j+1)=(i+1+j)+1 by omega,mC,Aau hne,Acr ch v c i hi hc j (by omega)]
theorem Aq1(ch:Nat)(v:List UInt32)(c i:Nat)(hi:i %ch=c)(hc:c<ch):mC ch v c (i+ch)=nxt (mC ch v c i) (v.getD i 0):=by
 have h:=Acr ch v c i hi hc (ch-1) (by omega);rw[show i+1+(ch-1)=i+ch by omega]at h;rw[h,mC,Ab3 hi]
theorem wO{l:List UInt32}{k:Nat}(h:k<l.length):Ao l (k:Int)=some (l.getD k 0):=by
 rw[Bn h];simp[List.getD_eq_getElem?_getD,h]
theorem YE(a b:Nat):Io (a:Int) (b:Int)=((a %b:Nat):Int):=by rw[Io,Bef (by omega)];omega
theorem E9(ch:Nat)(v:List UInt32)(hch:1<=ch)(Ba2:ch<=6)(hv:v.length<=4000):∀(j i q:Nat),i %ch=v.length %ch->i<=v.length->v.length-i<=j->j<q->
  Pn (ch:Int) v q (i:Int) ((mC ch v (v.length %ch) i).1:Int) ((mC ch v (v.length %ch) i).2.1:Int) (mC ch v (v.length %ch) i).2.2.1 (mC ch v (v.length %ch) i).2.2.2=
   some (((mC ch v (v.length %ch) v.length).1:Int),((mC ch v (v.length %ch) v.length).2.1:Int),(mC ch v (v.length %ch) v.length).2.2.1,(mC ch v (v.length %ch) v.length).2.2.2)
 |j,i,q+1,hi,hl,hj,hq=>by
  have hc:v.length %ch<ch:=Bde _ (by omega);rw[Pn,LG];by_cases h:i<v.length
  ·have h1:=Aoi (pS ch v (v.length %ch) i) (v.getD i 0);rw[Ab3 (by rw[Ae,Ac];simp;omega),wO h,Aa,h1,Aa];have hle:i+ch<=v.length:=by
    have h2:=Bfd i ch;have h3:=Bfd v.length ch;rw[hi]at h2;have h4:ch*(i/ch)<ch*(v.length/ch):=by omega
    have h5:=Nat.lt_of_mul_lt_mul_left h4;have h6:ch*(i/ch+1)<=ch*(v.length/ch):=Bfu _ h5;rw[Nat.mul_add]at h6;omega
   have ih:=E9 ch v hch Ba2 hv (j-ch) (i+ch) q (by rw[Bfo];exact hi) hle (by omega) (by omega);rw[Aq1 ch v _ i hi hc]at ih;simp only;rw[Ak];exact ih
  ·rw[Aau (by rw[Ae,Ac];simp;omega),show i=v.length by omega];rfl
theorem An3(ch:Nat)(v:List UInt32)(hch:1<=ch)(Ba2:ch<=6)(hv:v.length<=4000):Un (ch:Int) v=some (((mC ch v (v.length %ch) v.length).1:Int),((mC ch v (v.length %ch) v.length).2.1:Int),(mC ch v (v.length %ch) v.length).2.2.1,(mC ch v (v.length %ch) v.length).2.2.2):=by
 have hc:v.length %ch<ch:=Bde _ (by omega);have hle:v.length %ch<=v.length:=Nat.mod_le _ _;have h:=E9 ch v hch Ba2 hv v.length (v.length %ch) Ax (by rw[Nat.mod_mod]) hle (by omega) (by have:=As;omega);rw[Aag ch v _ _ (Am4 _) hc]at h;rw[Un,JU,Qr,Aa];simp only;rw[Bt (by rw[Ag];simp;omega),Aa,Ac,YE];exact h
def now(ch:Nat)(v:List UInt32):DuN:=mC ch v (v.length %ch) v.length
def win(N a:Nat):Nat:=min 81 (N-a)
def Od(ch:Nat)(p:List UInt8)(N a:Nat)(out:List UInt32):UInt32×Int×Int:=eD (Tf p a (win N a)) (win N a) 0 (now ch out).1 (now ch out).2.1
def Xp(ch:Nat)(p:List UInt8)(N:Nat):Nat->Nat->List UInt32->List UInt32×Nat×Int
 |0,a,out=>(out,a,0)
 |j+1,a,out=>if(Od ch p N a out).2.2≠0 then(out,a,(Od ch p N a out).2.2)else Xp ch p N j (a+(Od ch p N a out).2.1.toNat) (out++[(Od ch p N a out).1])
theorem rG{ch:Nat}{p:List UInt8}{N a:Nat}{out:List UInt32}(h:(Od ch p N a out).2.2=0):0<(Od ch p N a out).2.1/\ (Od ch p N a out).2.1<=win N a:=by
 have:=Bac h;exact⟨this.1,this.2⟩
theorem uk{ch:Nat}{p:List UInt8}{N a:Nat}{out:List UInt32}(h:(Od ch p N a out).2.2=0):((a:Int)+(Od ch p N a out).2.1)=((a+(Od ch p N a out).2.1.toNat:Nat):Int):=by
 have:=rG h;omega
def sts(ch:Nat)(v:List UInt32):List DuL:=(List.range 6).map λc=>toI (mC ch v c v.length)
theorem Aas{ch:Nat}{v:List UInt32}{c:Nat}(h:c<6):Ao (sts ch v) (c:Int)=some (toI (mC ch v c v.length)):=by
 rw[Bn (by simp[sts];exact h)];simp[sts]
theorem Ak2{ch:Nat}{v:List UInt32}{c:Nat}(x:UInt32)(h:c<6)(hc:c=v.length %ch):Nk (sts ch v) (c:Int) (toI (nxt (mC ch v c v.length) x))=some (sts ch (v++[x])):=by
 rw[Uq _ (by simp[sts];exact h)];congr 1;apply Bae (by simp[sts]);intro i h1 h2;rw[Bfx];simp only[sts,Bea,Bd8];have e:(v++[x]).getD v.length 0=x:=by simp
 rw[Aci,List.length_singleton,mC,e,Alc ch v [x] i v.length (Am4 _)];by_cases hi:c=i
 ·subst hi;rw[Ab3 rfl,Ab3 hc.symm]
 ·rw[Aau hi,Aau (by omega)]
theorem Aus{ch:Nat}{v:List UInt32}{c:Nat}(hc:c=v.length %ch):mC ch v c v.length=now ch v:=by rw[now,hc]
section
variable {p:List UInt8} {N ch n:Nat}
theorem Adc(hp:okB p N)(h1:1<=ch)(h6:ch<=6)(hn:n*ch<=4000):∀(j a q:Nat) (out:List UInt32),out.length+j=n*ch->j<q->a<=N->
  Qz (ch:Int) (n:Int) p (N:Int) q (a:Int) (out.length:Int) (sts ch out) out=
   some (if(Xp ch p N j a out).2.2≠0 then([],0,(Xp ch p N j a out).2.2)else((Xp ch p N j a out).1,((Xp ch p N j a out).2.1:Int),0))
 |j,a,q+1,out,hj,hq,ha=>by
  have hN:=hp.1;have hnn:n<=n*ch:=Nat.le_mul_of_pos_right n (by omega);have em:Br (n:Int) (ch:Int)=((n*ch:Nat):Int):=by rw[Ii (by rw[<-Ba1];omega) (by rw[<-Ba1];omega),Ba1]
  rw[Qz,Xa,em];cases j with
  |zero=>
   rw[Aau (by rw[Ae];simp;omega)];rfl
  |succ j=>
   have hc:out.length %ch<6:=Ai7 (Bde _ (by omega)) h6;have ew:Fj (Ad (a:Int) 81) (N:Int)=((a+win N a:Nat):Int):=by rw[HL,Ak];unfold win;omega
   have hw:a+win N a<=N:=by unfold win;omega
   have hw2:win N a<=81:=by unfold win;omega
   have hd:=Axq (yM p a (win N a) (by omega)) 0 (pS ch out (out.length %ch) out.length);have Aua:eD (Tf p a (win N a)) (win N a) 0 (mC ch out (out.length %ch) out.length).1 (mC ch out (out.length %ch) out.length).2.1=Od ch p N a out:=rfl;rw[Ab3 (by rw[Ae];simp;omega),ew,Bat hp a _ hw (by omega),Aa];simp only;rw[Aau (by rw[Ag];simp),Bt (by rw[Ag];simp;omega),Aa,YE,Aas hc,Aa,Aa];refine Bcq (congrArg (λo=>Option.bind o _) hd) ?_;rw[Aa,Aua,Xp];by_cases he:(Od ch p N a out).2.2≠0
   ·rw[Ab3 he,Ab3 he];simp only;rw[Wo,Ws,Ab3 (by rw[Ag];simpa using he),Ab3 he]
   ·have he0:(Od ch p N a out).2.2=0:=by simpa using he
    have hok:=rG he0;have hset:=Ak2 (ch:=ch) (v:=out) (Od ch p N a out).1 hc rfl;rw[Aau he,Aau he];simp only;rw[Wo,Ws,Aau (by rw[Ag];simp),Bt (by rw[Ag];simp;omega),Aa,YE,Aas hc,Aa];refine Bcq (congrArg (λo=>Option.bind o _) hset) ?_;rw[Aa,EG,WI,Bw (by simp;omega),Aa,Ak,Ak,uk he0];have ih:=Adc hp h1 h6 hn j (a+(Od ch p N a out).2.1.toNat) q (out++[(Od ch p N a out).1]) (by simp;omega) (by omega) (by omega);rw[Aci,List.length_singleton]at ih;exact ih
theorem Ajp{p:List UInt8}(hN:N=8*p.length)(hN2:N<=330000)(h1:1<=ch)(h6:ch<=6)(hn:n*ch<=4000):∀(j a q:Nat) (out:List UInt32),out.length+j=n*ch->j<q->a<=N->
  Gq (ch:Int) (n:Int) p q (a:Int) (out.length:Int) out=
   if(Xp ch p N j a out).2.2≠0 then some ((Xp ch p N j a out).1,(Xp ch p N j a out).2.2)else Ye ((Xp ch p N j a out).2.1:Int) p (Xp ch p N j a out).1
 |j,a,q+1,out,hj,hq,ha=>by
  have hnn:n<=n*ch:=Nat.le_mul_of_pos_right n (by omega);have em:Br (n:Int) (ch:Int)=((n*ch:Nat):Int):=by rw[Ii (by rw[<-Ba1];omega) (by rw[<-Ba1];omega),Ba1]
  have e8:Br (8:Int) (Ac p)=(N:Int):=by rw[Ac,Ii];omega
  rw[Gq,LY,em];cases j with
  |zero=>
   rw[Aau (by rw[Ae];simp;omega)];rfl
  |succ j=>
   have ew:Fj (Ad (a:Int) 81) (N:Int)=((a+win N a:Nat):Int):=by rw[HL,Ak];unfold win;omega
   have hw:a+win N a<=N:=by unfold win;omega
   have hw2:win N a<=81:=by unfold win;omega
   have hpre:(Option.bind Qr λ(r_4,r_5,r_6,r_7)=>
     if(Nj (out.length:Int) (ch:Int))=true then(
     Option.bind (Un (ch:Int) out) λ(r_8,r_9,r_10,r_11)=>
     Ls (Gq (ch:Int) (n:Int) p q) (ch:Int) (n:Int) p (a:Int) (out.length:Int) out r_8 r_9 r_10 r_11)
     else Ls (Gq (ch:Int) (n:Int) p q) (ch:Int) (n:Int) p (a:Int) (out.length:Int) out r_4 r_5 r_6 r_7)=
     Ls (Gq (ch:Int) (n:Int) p q) (ch:Int) (n:Int) p (a:Int) (out.length:Int) out ((now ch out).1:Int) ((now ch out).2.1:Int) (now ch out).2.2.1 (now ch out).2.2.2:=by
    rw[Qr,Aa];by_cases hc:ch<=out.length
    ·simp only;rw[Ab3 (by rw[Dy];simp;omega),An3 ch out h1 h6 (by omega),Aa];rfl
    ·have e:now ch out=Ace:=by rw[now,Ack (by omega),Aag ch out _ _ (Am4 _) (by omega)]
     simp only;rw[Aau (by rw[Dy];simp;omega),e];rfl
   have hd:=Aqf (yM p a (win N a) (by omega)) 0 (now ch out).1 (now ch out).2.1 (now ch out).2.2.1 (now ch out).2.2.2 (pS ch out _ _).1 (pS ch out _ _).2.1;have Aua:eD (Tf p a (win N a)) (win N a) 0 (now ch out).1 (now ch out).2.1=Od ch p N a out:=rfl;rw[Ab3 (by rw[Ae];simp;omega),hpre,Ls,MQ,e8,ew,Ad3 p (N:Int) a _ (by omega) (by omega) (by omega),Aa];simp only;refine Bcq (congrArg (λo=>Option.bind o _) hd) ?_;rw[Aa,Aua,Xp];by_cases he:(Od ch p N a out).2.2≠0
   ·rw[Ab3 he,Ab3 (by rw[Ag];simpa using he),Ab3 he]
   ·have he0:(Od ch p N a out).2.2=0:=by simpa using he
    have hok:=rG he0;have ih:=Ajp hN hN2 h1 h6 hn j (a+(Od ch p N a out).2.1.toNat) q (out++[(Od ch p N a out).1]) (by simp;omega) (by omega) (by omega);have hx:=uk he0;rw[Aci,List.length_singleton]at ih;rw[Aau he];generalize Od ch p N a out=R at*
    obtain⟨v,nx,e⟩:=R;simp only at*
    rw[Aau (by rw[Ag];simpa using he),Bw (by simp;omega),Aa,Ak,Ak,hx];exact ih
end
theorem M6{ch:Nat}{p:List UInt8}{N:Nat}:∀(j a:Nat) (out:List UInt32),a<=N-> (Xp ch p N j a out).2.1<=N/\ (Xp ch p N j a out).1.length<=out.length+j/\ ((Xp ch p N j a out).2.2=0-> (Xp ch p N j a out).1.length=out.length+j)
 |0,a,out,h=>⟨h,Am4 _,λ_=>rfl⟩
 |j+1,a,out,h=>by
  rw[Xp];split
  ·rename_i he;exact⟨h,by simp,λe=>absurd e he⟩
  ·rename_i he;have hok:=rG (ch:=ch) (p:=p) (N:=N) (a:=a) (out:=out) (by simpa using he);have hw:a+win N a<=N:=by unfold win;omega
   have ih:=M6 (ch:=ch) (p:=p) (N:=N) j (a+(Od ch p N a out).2.1.toNat) (out++[(Od ch p N a out).1]) (by omega);rw[Aci,List.length_singleton]at ih;exact⟨ih.1,by omega,λe=>by have:=ih.2.2 e;omega⟩
theorem Adh(ch n:Int)(b:List UInt8)(N:Int):Xh ch n b N 0 (List.replicate 6 ((0:Int),(0:Int),(0:UInt64),(0:UInt64),()))=EX ch n b N (List.replicate 6 ((10:Int),(10:Int),(16384:UInt64),(16384:UInt64),())):=by
 have e:Ax=(Ax-7)+1+1+1+1+1+1+1:=by have:=As;omega
 rw[Xh,e];rfl
theorem values_eq{p:List UInt8}{N ch n:Nat}(hp:okB p N)(h1:1<=ch)(h6:ch<=6)(hn:n*ch<=4000):IQ (ch:Int) (n:Int) p (N:Int)=
  some (if(Xp ch p N (n*ch) 0 []).2.2≠0 then([],0,(Xp ch p N (n*ch) 0 []).2.2)else((Xp ch p N (n*ch) 0 []).1,((Xp ch p N (n*ch) 0 []).2.1:Int),0)):=by
 have h:=Adc hp h1 h6 hn (n*ch) 0 Ax [] (by simp) (by have:=As;omega) (by omega);rw[IQ,HN,Adh];exact h
theorem qp(p:List UInt8)(x:List UInt32)(N:Nat)(hN:N=8*p.length)(hN2:N<=330000):∀(j a q:Nat),a+j=N->j<q->Ly p x q (a:Int)=some (x,if Cg p a j=0 then 0 else 12)
 |0,a,q+1,ha,_=>by
  have e8:Br (8:Int) (Ac p)=(N:Int):=by rw[Ac,Ii];omega
  rw[Ly,Ym,e8,Aau (by rw[Ae];simp;omega),Cg,Ab3 rfl];rfl
 |j+1,a,q+1,ha,hq=>by
  have e8:Br (8:Int) (Ac p)=(N:Int):=by rw[Ac,Ii];omega
  have hb:=DM p a;rw[Ly,Ym,e8,Ab3 (by rw[Ae];simp;omega),C4 p _ a (by omega) (by omega),Aa,Cg];by_cases h:Hu p a=0
  ·rw[Aau (by rw[Ag];simp[h]),Ak,h];have ih:=qp p x N hN hN2 j (a+1) q (by omega) (by omega);rw[show((a:Int)+1)=((a+1:Nat):Int) by omega,ih];congr 2;by_cases hv:Cg p (a+1) j=0
   ·rw[Ab3 hv,Ab3 (by omega)]
   ·rw[Aau hv,Aau (by omega)]
  ·rw[Ab3 (by rw[Ag];simp;omega),Aau (by omega)]
theorem Aba{p:List UInt8}{N ch n:Nat}(hN:N=8*p.length)(hN2:N<=330000)(h1:1<=ch)(h6:ch<=6)(hn:n*ch<=4000):IU (ch:Int) (n:Int) p=
  some (if(Xp ch p N (n*ch) 0 []).2.2≠0 then((Xp ch p N (n*ch) 0 []).1,(Xp ch p N (n*ch) 0 []).2.2)else
   ((Xp ch p N (n*ch) 0 []).1,if 7<N-(Xp ch p N (n*ch) 0 []).2.1\/Cg p (Xp ch p N (n*ch) 0 []).2.1 (N-(Xp ch p N (n*ch) 0 []).2.1)≠0 then 12 else 0)):=by
 have h:=Ajp hN hN2 h1 h6 hn (n*ch) 0 Ax [] (by simp) (by have:=As;omega) (by omega);have hat:=(M6 (ch:=ch) (p:=p) (N:=N) (n*ch) 0 [] (by omega)).1;have e8:Br (8:Int) (Ac p)=(N:Int):=by rw[Ac,Ii];omega
 rw[IU,RH];refine Bcq h ?_;generalize Xp ch p N (n*ch) 0 []=V at*
 obtain⟨v,a,e⟩:=V;simp only at*
 by_cases he:e≠0
 ·rw[Ab3 he,Ab3 he]
 ·rw[Aau he,Aau he,Ye,LV,e8,Bs];by_cases h7:7<N-a
  ·rw[Ab3 (by rw[Aq];simp;omega),Ab3 (.inl h7)]
  ·rw[Aau (by rw[Aq];simp;omega),LZ,qp p v N hN hN2 (N-a) a Ax (by omega) (by have:=As;omega)];by_cases hv:Cg p a (N-a)=0
   ·rw[Ab3 hv,Aau (by omega)]
   ·rw[Aau hv,Ab3 (.inr hv)]
theorem Ab2(n:Int):(GI.ofZ n:Int32)=Int32.ofInt n:=rfl
theorem cE(a:Int32):GI.toZ a=a.toInt:=rfl
theorem fN(a b:Int32):Ad a b=a+b:=by
 rw[Ad,cE,cE,Ab2,Int32.ofInt_add,Ba8,Ba8]
theorem aF(a b:Int32):Ap a b=a-b:=by
 rw[Ap,cE,cE,Ab2,Int32.ofInt_sub,Ba8,Ba8]
theorem Akf(a b:Int32):geq a b=(a==b):=by
 rw[geq,cE,cE,Ajf];simp[Int32.toInt_inj]
def jK(p:Nat->Bool)(a b:List Int32):List Int32:=(List.range a.length).map λk=>if p k=true then a.getD k 0 else b.getD k 0
section
variable {p q:Nat->Bool} {a b:List Int32}
theorem PA:(jK p a b).length=a.length:=by simp[jK]
theorem Kb{k:Nat}(h:k<a.length):a.getD k 0=a[k]:=by simp[List.getD_eq_getElem?_getD,h]
theorem We{k:Nat}(h:k<(jK p a b).length):(jK p a b)[k]=if p k=true then a.getD k 0 else b.getD k 0:=by simp[jK]
theorem DW{k:Nat}(h:k<a.length):Ao (jK p a b) (k:Int)=some (if p k=true then a.getD k 0 else b.getD k 0):=by
 rw[Bn (by rw[PA];exact h),We]
theorem Xv(h:∀k,k<a.length->p k=q k):jK p a b=jK q a b:=by
 apply Bft;intro k hk;rw[h k (List.mem_range.1 hk)]
theorem gW{k:Nat}(h:k<a.length):Nk (jK p a b) (k:Int) (a.getD k 0)=some (jK (λj=>p j||decide (j=k)) a b):=by
 rw[Uq _ (by rw[PA];exact h)];congr 1;apply Bae (by simp[PA]);intro i h1 h2;rw[Bfx,We,We];by_cases hi:k=i
 ·subst hi;simp
 ·have:¬i=k:=λe=>hi e.symm;simp[hi,this]
theorem qS(h:∀k,k<a.length->p k=true):jK p a b=a:=by
 apply Bae (by simp[PA]);intro i h1 h2;rw[We,Ab3 (h i h2),Kb h2]
theorem nF(hl:b.length=a.length)(h:∀k,k<a.length->p k=false):jK p a b=b:=by
 apply Bae (by simp[PA,hl]);intro i h1 h2;rw[We,h i (by omega)];simp[List.getD_eq_getElem?_getD,h2]
end
theorem X4(a b:Int32):Br a b=a*b:=by
 rw[Br,cE,cE,Ab2,Int32.ofInt_mul,Ba8,Ba8]
theorem CM(a:Int32): -2147483648<=a.toInt/\a.toInt<2147483648:=⟨a.le_toInt,a.toInt_lt⟩
theorem Gg(a:Int32):(Af a:Int)=a.toInt:=by
 have:=CM a
 show wrap64 a.toInt=_;rw[Dd]<;>omega
theorem VZ(n:Int):(Af n:Int32)=Int32.ofInt n:=rfl
theorem Amb(x:Int):Int32.ofInt (x %4294967296)=Int32.ofInt x:=by
 apply Int32.toInt_inj.1;rw[Bes,Bes];exact Int.emod_bmod x 4294967296
theorem M8(x:Int):Dp x=some (Int32.ofInt x):=by
 have e1:(Af x:UInt64).toNat=(x %18446744073709551616).toNat:=by
  rw[Af0,Ag1,Ack (by omega)]
 have e2:(Af (Af x:UInt64):UInt32).toNat=(x %4294967296).toNat:=by
  have e:(Af (Af x:UInt64):UInt32)=UInt32.ofNat (Af x:UInt64).toNat:=by simp only[Af,Ln,Gk]
  rw[e,Ajz,e1];show(x %18446744073709551616).toNat %4294967296=_;omega
 have e3:(Af (Af (Af x:UInt64):UInt32):Int32)=Int32.ofInt ((Af (Af x:UInt64):UInt32).toNat:Int):=rfl;rw[Dp,e3,e2,<-Amb x];congr 2;omega
theorem yU(a b:Int32):Dp (Ad (Af a:Int) (Af b:Int))=some (a+b):=by
 have:=CM a;have:=CM b;rw[Gg,Gg,Ak,M8,Int32.ofInt_add,Ba8,Ba8]
theorem Ar7(a b:Int32):Dp (Br (Af a:Int) (Af b:Int))=some (a*b):=by
 have ha:=CM a;have hb:=CM b;have h1: -9223372036854775808<=a.toInt*b.toInt/\a.toInt*b.toInt<=9223372036854775807:=by
  have h2:(a.toInt*b.toInt).natAbs<=2147483648*2147483648:=by
   rw[Int.natAbs_mul];exact Bce (by omega) (by omega)
  omega
 rw[Gg,Gg,Ii h1.1 h1.2,M8,Int32.ofInt_mul,Ba8,Ba8]
def OkF(s:Int)(t p:List Int32):Prop:=(s=9\/s=10)/\t.length=16/\p.length=16
theorem C9{s:Int}{t p:List Int32}(h:OkF s t p):OE s t p=some 0:=by
 obtain⟨rfl|rfl,_,_⟩:=h<;>rfl
theorem g32{l:List Int32}{k:Nat}(h:k<l.length):Ao l (k:Int)=some (l.getD k 0):=by
 rw[Bn h];simp[List.getD_eq_getElem?_getD,h]
def oA(t p:List Int32):Nat->Int32
 |0=>0
 |i+1=>oA t p i+t.getD i 0*p.getD i 0
def half(s:Int):Int32:=if s=9 then 256 else 512
def gF(s:Int)(t p:List Int32):Int32:=Int32.ofInt ((half s+oA t p 16).toInt.fdiv (if s=9 then 512 else 1024))
theorem zb{s:Int}{t p:List Int32}(h:OkF s t p):∀(j i q:Nat),i+j=16->j<q->Xu t s p q (half s+oA t p i) (i:Int)=some (gF s t p,0)
 |0,i,q+1,hi,_=>by
  obtain rfl:i=16:=by omega
  have hs:=h.1;rw[Xu,PC,Aau (by rw[Ae];simp),dG,sZ,Bt (by rw[Dy];simp;omega),Aa];obtain rfl|rfl:=hs<;>rfl
 |j+1,i,q+1,hi,hq=>by
  obtain⟨hs,ht,hp⟩:=h;rw[Xu,PC,Ab3 (by rw[Ae];simp;omega),g32 (by omega),Aa,g32 (by omega),Aa,Aa,Ak (b:=1) (by omega) (by omega),fN,X4,Int32.add_assoc];exact zb ⟨hs,ht,hp⟩ j (i+1) q (by omega) (by omega)
theorem Ady{s:Int}{t p:List Int32}(h:OkF s t p):WH s t p=some (gF s t p,0):=by
 have hs:=h.1;have h1:=zb h 16 0 Ax (by omega) (by have:=As;omega);have e:Ei (1:Int32) (GI.toZ (Ap s (1:Int))).toNat=half s+oA t p 0:=by
  obtain rfl|rfl:=hs<;>rfl
 rw[WH,dF,C9 h,Aa,Aau (by rw[Ag];simp),Bt (by rw[Dy,Bs];simp;omega),Aa,cU,e];exact h1
theorem O1{s:Int}{t p:List Int32}(ht:t.length=16)(hp:p.length=16){g:Int32}(hg:oA t p 16=g):∀(j i q:Nat),i+j=16->j<q->Ot s t p q (oA t p i).toInt (i:Int)=some g
 |0,i,q+1,hi,_=>by
  obtain rfl:i=16:=by omega
  rw[Ot,CO,Aau (by rw[Ae];simp),UE,UI,VZ,Ba8,hg]
 |j+1,i,q+1,hi,hq=>by
  have ih:=O1 (s:=s) ht hp hg j (i+1) q (by omega) (by omega);rw[oA]at ih;rw[Ot,CO,Ab3 (by rw[Ae];simp;omega),g32 (by omega),g32 (by omega),Aa,Aa,Aa,Aa,Ar7,Aa,<-Gg (oA t p i),yU,Aa,Gg,Ak];exact ih
theorem Atd{s:Int}{t p:List Int32}(h:OkF s t p):fP s t p=some (oA t p 16):=
 O1 h.2.1 h.2.2 rfl 16 0 Ax (by omega) (by have:=As;omega)
theorem Am9(x n:Int)(hn:n=512\/n=1024\/n=16\/n=32):(if x.tmod n<0 then x.tdiv n-1 else x.tdiv n)=x.fdiv n:=by
 have hs:n.sign=1:=by obtain rfl|rfl|rfl|rfl:=hn<;>rfl
 rw[Int.tdiv_eq_ediv,Int.tmod_eq_emod,hs,Aye _ (by omega)];by_cases h:0<=x\/n∣x
 ·rw[Ab3 h,Ab3 h];obtain rfl|rfl|rfl|rfl:=hn<;>(rw[Aau (by omega)];omega)
 ·rw[Aau h,Aau h];obtain rfl|rfl|rfl|rfl:=hn<;>(rw[Ab3 (by omega)];omega)
theorem P5(x n:Int)(hn:n=512\/n=1024\/n=16\/n=32)(h: -1000000000000<=x)(h':x<=1000000000000): -1000000000000<=x.tdiv n/\x.tdiv n<=1000000000000:=by
 have hs:n.sign=1:=by obtain rfl|rfl|rfl|rfl:=hn<;>rfl
 rw[Int.tdiv_eq_ediv,hs];by_cases h:0<=x\/n∣x
 ·rw[Ab3 h];obtain rfl|rfl|rfl|rfl:=hn<;>omega
 ·rw[Aau h];obtain rfl|rfl|rfl|rfl:=hn<;>omega
theorem Bbh(x n:Int)(hn:n=512\/n=1024\/n=16\/n=32)(h: -1000000000000<=x)(h':x<=1000000000000):Db x n=x.tdiv n:=by
 have:=P5 x n hn h h';rw[TX,Dd (by omega) (by omega)]
theorem Aet(x n:Int)(hn:n=512\/n=1024\/n=16\/n=32)(h: -1000000000000<=x)(h':x<=1000000000000):
  (if(Cj (Io x n) (0:Int))=true then some (Af (Ap (Db x n) (1:Int)):Int32)else some (Af (Db x n):Int32))=some (Int32.ofInt (x.fdiv n)):=by
 have hb:=P5 x n hn h h';rw[Ae,Io,Bbh x n hn h h',Bs,VZ,VZ,<-Am9 x n hn];by_cases hx:x.tmod n<0
 ·rw[Ab3 (by simpa using hx),Ab3 hx]
 ·rw[Aau (by simpa using hx),Aau hx]
theorem Aww{s:Int}{t p:List Int32}(h:OkF s t p):JY s t p=some (gF s t p):=by
 obtain⟨hs,ht,hp⟩:=h;have h:OkF s t p:=⟨hs,ht,hp⟩;have hx:=CM (oA t p 16+half s);have key:∀n:Int,(n=512\/n=1024)-> (half s).toInt=n/2->gF s t p=Int32.ofInt ((half s+oA t p 16).toInt.fdiv n)->BA s t p n=some (gF s t p):=by
  intro n hn hh hg;have e2:Db n (2:Int)=(half s).toInt:=by rw[hh];obtain rfl|rfl:=hn<;>rfl
  rw[BA,RA,Atd h,Aa,e2,<-Gg (half s),yU,Aa,Bt (by rw[Ag];simp;omega),Aa,Aa,Gg,Aet _ n (by omega) (by omega) (by omega),hg,Int32.add_comm]
 rw[JY,QG];obtain rfl|rfl:=hs
 ·rw[Ab3 (by rw[Ar];rfl)];exact key 512 (.inl rfl) rfl rfl
 ·rw[Aau (by rw[Ar];decide)];exact key 1024 (.inr rfl) rfl rfl
def stp(i:Nat):Int32:=if i=0 then 4 else if i<4 then 2 else 1
def sg(x:Int32):Int32:=if x.toInt<0 then -1 else if 0<x.toInt then 1 else 0
def Y1(t p:List Int32)(w:Int32):List Int32:=(List.range 16).map λi=>t.getD i 0+stp i*sg (p.getD i 0)*sg w
theorem KX(t p:List Int32)(w:Int32):(Y1 t p w).length=16:=by simp[Y1]
theorem Aab(t p:List Int32)(w:Int32){i:Nat}(h:i<16):(Y1 t p w).getD i 0=t.getD i 0+stp i*sg (p.getD i 0)*sg w:=by
 rw[Kb (by rw[KX];exact h)];simp[Y1]
theorem step_eq(i:Nat):eX (i:Int)=some (stp i):=by
 rw[eX,stp];by_cases h:i=0
 ·rw[Ab3 (by rw[Ar];simp[h]),Ab3 h]
 ·rw[Aau (by rw[Ar];simp;omega),Aau h];by_cases h2:i<4
  ·rw[Ab3 (by rw[Ae];simp;omega),Ab3 h2]
  ·rw[Aau (by rw[Ae];simp;omega),Aau h2]
theorem Anz(i:Nat):LK (i:Int)=some (stp i):=by
 rw[LK,stp];by_cases h:i=0
 ·rw[Ab3 (by rw[Ar];simp[h]),Ab3 h]
 ·rw[Aau (by rw[Ar];simp;omega),Aau h];by_cases h2:i<4
  ·rw[Ab3 (by rw[lS];simp;omega),Ab3 h2]
  ·rw[Aau (by rw[lS];simp;omega),Aau h2]
theorem Abf(a b:Int32):Cj a b=decide (a.toInt<b.toInt):=rfl
theorem Ai8(a b:Int32):Ex a b=decide (b.toInt<a.toInt):=rfl
theorem sign_eq(x:Int32):Yx x=some (sg x):=by
 rw[Yx,sg,Abf,Ai8,show(0:Int32).toInt=0 from rfl];by_cases h:x.toInt<0
 ·rw[Ab3 (by simpa using h),Ab3 h]
 ·rw[Aau (by simpa using h),Aau h];by_cases h2:0<x.toInt
  ·rw[Ab3 (by simpa using h2),Ab3 h2]
  ·rw[Aau (by simpa using h2),Aau h2]
theorem Akg:sg 0=0:=rfl
theorem toInt_ne{x:Int32}(h:x≠0):x.toInt≠0:=λe=>h (Int32.toInt_inj.1 (by rw[e];rfl))
theorem Aa2{x:Int32}(h:x.toInt<0):sg x= -1:=by rw[sg,Ab3 h]
theorem Abp{x:Int32}(h:x≠0)(h2:¬x.toInt<0):sg x=1:=by
 have:=toInt_ne h;rw[sg,Aau h2,Ab3 (by omega)]
theorem qR(i:Nat):stp i=4\/stp i=2\/stp i=1:=by
 unfold stp;by_cases h:i=0
 ·rw[Ab3 h];exact .inl rfl
 ·rw[Aau h];split;exact .inr (.inl rfl);exact .inr (.inr rfl)
theorem Ao7{x w:Int32}(hx:x≠0)(hw:w≠0)(h:(x.toInt<0)=(w.toInt<0))(i:Nat):stp i*sg x*sg w=stp i:=by
 by_cases h1:x.toInt<0
 ·rw[Aa2 h1,Aa2 (by rw[<-h];exact h1)];obtain e|e|e:=qR i<;>rw[e]<;>decide
 ·rw[Abp hx h1,Abp hw (by rw[<-h];exact h1)];obtain e|e|e:=qR i<;>rw[e]<;>decide
theorem Ah5{x w:Int32}(hx:x≠0)(hw:w≠0)(h:¬(x.toInt<0)=(w.toInt<0))(i:Nat)(a:Int32):a+stp i*sg x*sg w=a-stp i:=by
 have key:stp i*sg x*sg w=-stp i:=by
  by_cases h1:x.toInt<0
  ·have h2:¬w.toInt<0:=λh2=>h (propext ⟨λ_=>h2,λ_=>h1⟩);rw[Aa2 h1,Abp hw h2];obtain e|e|e:=qR i<;>rw[e]<;>decide
  ·have h2:w.toInt<0:=Decidable.by_contra λh2=>h (propext ⟨λh3=>absurd h3 h1,λh3=>absurd h3 h2⟩);rw[Abp hx h1,Aa2 h2];obtain e|e|e:=qR i<;>rw[e]<;>decide
 rw[key,Int32.sub_eq_add_neg]
def wT(i:Nat):Nat->Bool:=λj=>decide (j<i)
theorem jq{a b:List Int32}{i:Nat}(h:i<a.length):Nk (jK (wT i) a b) (i:Int) (a.getD i 0)=some (jK (wT (i+1)) a b):=by
 rw[gW h];congr 1;apply Xv;intro k _;rw[Ajf];simp only[wT,Azv,Acj];omega
theorem Ani{a b:List Int32}{i:Nat}(e:a.getD i 0=b.getD i 0):jK (wT i) a b=jK (wT (i+1)) a b:=by
 apply Bft;intro k _;simp only[wT,Acj];by_cases h1:k<i
 ·rw[Ab3 h1,Ab3 (by omega)]
 ·by_cases h2:k=i
  ·subst h2;rw[Aau h1,Ab3 (by omega),e]
  ·rw[Aau h1,Aau (by omega)]
theorem Ac8{a b:List Int32}{i:Nat}(h:i<a.length):Ao (jK (wT i) a b) (i:Int)=some (b.getD i 0):=by
 rw[DW h,Aau (by simp[wT])]
theorem rf{s:Int}{t p:List Int32}{w:Int32}(hw:w≠0)(ht:t.length=16)(hp:p.length=16):∀(j i q:Nat),i+j=16->j<q->Xw w p s q (i:Int) (jK (wT i) (Y1 t p w) t)=some (s,Y1 t p w,p,0)
 |0,i,q+1,hi,_=>by
  obtain rfl:i=16:=by omega
  rw[Xw,PL,Aau (by rw[Ae];simp),qS (λk hk=>by rw[KX]at hk;simpa [wT]using hk)];rfl
 |j+1,i,q+1,hi,hq=>by
  have hl:=KX t p w;have hg:=Aab t p w (i:=i) (by omega);rw[Xw,PL,Ab3 (by rw[Ae];simp;omega),g32 (by omega),Aa,Ak (b:=1) (by omega) (by omega),Ac8 (by omega),step_eq];simp only[Aa];rw[fN,aF,Akf,Abf,Abf,show(0:Int32).toInt=0 from rfl];have ih:=rf (s:=s) hw ht hp j (i+1) q (by omega) (by omega);by_cases hx:p.getD i 0=0
  ·rw[Ab3 (by rw[hx];rfl),Ani (by rw[hg,hx,Akg,Int32.mul_zero,Int32.zero_mul,Int32.add_zero])];exact ih
  ·rw[Aau (by simpa using hx)];by_cases hs:((p.getD i 0).toInt<0)=(w.toInt<0)
   ·rw[Ab3 (by rw[Aug];simp only[hs]),show t.getD i 0+stp i=(Y1 t p w).getD i 0 by rw[hg,Ao7 hx hw hs],jq (by omega),Aa];exact ih
   ·rw[Aau (by rw[Aug,decide_eq_decide];exact λh=>hs (propext h)),show t.getD i 0-stp i=(Y1 t p w).getD i 0 by rw[hg,Ah5 hx hw hs],jq (by omega),Aa];exact ih
theorem Aqr{t:List Int32}(p:List Int32)(ht:t.length=16):Y1 t p 0=t:=by
 apply Bae (by rw[KX,ht]);intro i h1 h2;have:=Aab t p 0 (i:=i) (by omega);rw[Kb h1,Kb h2]at this;rw[this,Akg,Int32.mul_zero,Int32.add_zero]
theorem Afv{s:Int}{t p:List Int32}(h:OkF s t p)(w:Int32):jO s t p w=some (s,Y1 t p w,p,0):=by
 rw[jO,dM,C9 h,Aa,Aau (by rw[Ag];simp),Akf];by_cases hw:w=0
 ·rw[Ab3 (by simpa using hw),hw,Aqr p h.2.1]
 ·have h1:=rf (s:=s) hw h.2.1 h.2.2 16 0 Ax (by omega) (by have:=As;omega);rw[nF (by rw[KX,h.2.1]) (λk _=>by simp[wT])]at h1;rw[Aau (by simpa using hw)];exact h1
theorem xU{s:Int}{t p:List Int32}{w:Int32}(ht:t.length=16)(hp:p.length=16):∀(j i q:Nat),i+j=16->j<q->Jv w s p q (i:Int) (jK (wT i) (Y1 t p w) t)=some (s,Y1 t p w,p)
 |0,i,q+1,hi,_=>by
  obtain rfl:i=16:=by omega
  rw[Jv,Up,Aau (by rw[Ae];simp),qS (λk hk=>by rw[KX]at hk;simpa [wT]using hk)];rfl
 |j+1,i,q+1,hi,hq=>by
  have hl:=KX t p w;have hg:=Aab t p w (i:=i) (by omega);rw[Jv,Up,Ab3 (by rw[Ae];simp;omega),g32 (l:=p) (by omega),Ak (b:=1) (by omega) (by omega),Ac8 (by omega),Anz,sign_eq w,Aa,Aa,Aa,Aa,Aa,sign_eq,Aa,Aa,Aa,fN,X4,X4,<-hg,jq (by omega),Aa];exact xU ht hp j (i+1) q (by omega) (by omega)
theorem Ahe{s:Int}{t p:List Int32}(h:OkF s t p)(w:Int32):QZ s t p w=some (s,Y1 t p w,p):=by
 have h1:=xU (s:=s) (w:=w) h.2.1 h.2.2 16 0 Ax (by omega) (by have:=As;omega);rw[nF (by rw[KX,h.2.1]) (λk _=>by simp[wT])]at h1;exact h1
theorem Av0{p:List Int32}(h:p.length=16):∃a0 a1 a2 a3 a4 a5 a6 a7 a8 a9 b0 b1 b2 b3 b4 b5,p=[a0,a1,a2,a3,a4,a5,a6,a7,a8,a9,b0,b1,b2,b3,b4,b5]:=by
 match p,h with
 |[a0,a1,a2,a3,a4,a5,a6,a7,a8,a9,b0,b1,b2,b3,b4,b5],_=>exact⟨a0,a1,a2,a3,a4,a5,a6,a7,a8,a9,b0,b1,b2,b3,b4,b5,rfl⟩
theorem Alo{s:Int}{t p:List Int32}(h:OkF s t p)(x:Int32):qU s t p x=some (s,t,x::p.take 15,0):=by
 obtain⟨hs,ht,hp⟩:=h;rw[qU,VD,C9 ⟨hs,ht,hp⟩,Aa,Aau (by rw[Ag];simp),show kW (16:Int) 1 16=some ()from rfl,Aa,show kW (16:Int) 0 16=some ()from rfl,Aa,iY,xG];obtain⟨a0,a1,a2,a3,a4,a5,a6,a7,a8,a9,b0,b1,b2,b3,b4,b5,rfl⟩:=Av0 hp;rfl
def shf(p:List Int32)(i:Nat):List Int32:=(List.range 16).map λk=>if k<=i then p.getD k 0 else p.getD (k-1) 0
theorem EC(p:List Int32)(i:Nat):(shf p i).length=16:=by simp[shf]
theorem Av7(p:List Int32)(i k:Nat)(h:k<16):(shf p i).getD k 0=if k<=i then p.getD k 0 else p.getD (k-1) 0:=by
 rw[Kb (by rw[EC];exact h)];simp[shf]
theorem Awh(p:List Int32)(i:Nat)(h:i+1<16):Nk (shf p (i+1)) ((i+1:Nat):Int) (p.getD i 0)=some (shf p i):=by
 rw[Uq _ (by rw[EC];exact h)];congr 1;apply Bae (by simp[EC]);intro k h1 h2;rw[EC]at h2;rw[Bfx];simp only[shf,Bea,Bd8];by_cases hk:i+1=k
 ·subst hk;rw[Ab3 rfl,Aau (by omega)];rfl
 ·rw[Aau hk];by_cases h3:k<=i
  ·rw[Ab3 (by omega),Ab3 h3]
  ·rw[Aau (by omega),Aau h3]
theorem I6(s:Int)(t p:List Int32)(x:Int32)(hp:p.length=16):∀(i q:Nat),i<16->i<q->Kw x s t q (i:Int) (shf p i)=some (s,t,x::p.take 15)
 |0,q+1,_,_=>by
  have hg:Ao (shf p 0) (0:Int)=some ((shf p 0).getD 0 0):=g32 (l:=shf p 0) (k:=0) (by rw[EC];omega);have hset:Nk (shf p 0) (0:Int) x=some ((shf p 0).set 0 x):=Uq (l:=shf p 0) (n:=0) x (by rw[EC];omega);rw[Kw,Xg,Aau (by rw[Aq];simp),JV,KB,hg,Aa,hset,Aa];congr 3;apply Bae (by simp[EC,hp]);intro k h1 h2;rw[Bco,EC]at h1;rw[Bfx];cases k with
  |zero=>rw[Ab3 rfl];rfl
  |succ k=>
   rw[Aau (by omega)];simp only[shf,Bea,Bd8,List.getElem_cons_succ,List.getElem_take];rw[Aau (by omega),Nat.add_sub_cancel,Kb (by omega)]
 |i+1,q+1,hi,hq=>by
  have hg:=g32 (l:=shf p (i+1)) (k:=i) (by rw[EC];omega);rw[Av7 p (i+1) i (by omega),Ab3 (by omega)]at hg;have e1:Ap ((i+1:Nat):Int) (1:Int)=(i:Int):=by rw[Bs];omega
  have hg2:=g32 (l:=shf p (i+1)) (k:=i+1) (by rw[EC];omega);rw[Kw,Xg,Ab3 (by rw[Aq];simp),e1,hg,Aa,Aa,hg2,Aa,Awh p i hi,Aa];exact I6 s t p x hp i q (by omega) (by omega)
theorem Ank{s:Int}{t p:List Int32}(hp:p.length=16)(x:Int32):UX s t p x=some (s,t,x::p.take 15):=by
 have h:=I6 s t p x hp 15 Ax (by omega) (by have:=As;omega);have e:shf p 15=p:=by
  apply Bae (by rw[EC,hp]);intro k h1 h2;rw[EC]at h1;simp only[shf,Bea,Bd8];rw[Ab3 (by omega),Kb h2]
 rw[e]at h;exact h
theorem Atz{s:Int}{t p:List Int32}(h:OkF s t p)(w x:Int32):OkF s (Y1 t p w) (x::p.take 15):=⟨h.1,KX _ _ _,by simp[h.2.2]⟩
theorem Aut{s:Int}{t p:List Int32}(h:OkF s t p)(y:Int32):oM s t p y=some (y+gF s t p,s,Y1 t p y,(y+gF s t p)::p.take 15,0):=by
 rw[oM,Ady h,Aa];simp only;rw[Aau (by rw[Ag];simp),fN,WG,Afv h,Aa];simp only;rw[Alo (s:=s) (t:=Y1 t p y) (p:=p) ⟨h.1,KX _ _ _,h.2.2⟩,Aa];rfl
theorem An8{s:Int}{t p:List Int32}(h:OkF s t p)(y:Int32):AN s t p y=some (y+gF s t p,s,Y1 t p y,(y+gF s t p)::p.take 15):=by
 rw[AN,Aww h,Aa,yU,Aa,Ahe h,Aa];simp only;rw[Ank h.2.2,Aa]
def sB(bits:Int):Int:=if bits=16 then 9 else 10
def shB(bits:Int):Int:=if bits=8 then 4 else 5
def Bu(bits:Int):Prop:=bits=8\/bits=16\/bits=24
def gs(sh:Int)(last:Int32):Int32:=Af (Aap (Ap (Ei (Af last:Int) sh.toNat) (Af last)) sh.toNat)
theorem Bbz(bits:Int):sB bits=9\/sB bits=10:=by unfold sB;split<;>simp
theorem Au2(bits:Int):0<=shB bits:=by unfold shB;split<;>omega
theorem Bd2{bits:Int}(h:Bu bits)(t:List Int32):xI bits t=some (sB bits,t,List.replicate 16 0,0):=by
 obtain rfl|rfl|rfl:=h<;>rfl
theorem Az1{bits:Int}(h:Bu bits):oD bits=some (shB bits,0):=by
 obtain rfl|rfl|rfl:=h<;>rfl
theorem Az2{sh:Int}(h:0<=sh)(last:Int32):aV sh last=some (gs sh last):=by
 rw[aV,Bt (by rw[Dy];simpa using h),Aa,Aa];rfl
theorem Atb{bits:Int}(h:Bu bits)(last:Int32):AD bits last=some (gs (shB bits) last,0):=by
 rw[AD,Az1 h,Aa];simp only;rw[Aau (by rw[Ag];simp),Az2 (Au2 bits),Aa]
theorem R4{bits:Int}(h:Bu bits)(last:Int32)(t p:List Int32):AE bits last (sB bits) t p=some 0:=by
 rw[AE,Bd2 h,Aa];simp only;rw[Aau (by rw[Ag,Ag];simp)]
theorem Anu{bits:Int}(h:Bu bits){t p:List Int32}(hF:OkF (sB bits) t p)(last y:Int32):
  Oc bits last (sB bits) t p y=some (y+gF (sB bits) t p+gs (shB bits) last,bits,y+gF (sB bits) t p+gs (shB bits) last,sB bits,Y1 t p y,(y+gF (sB bits) t p)::p.take 15,0):=by
 rw[Oc,R4 h,Aa,Aau (by rw[Ag];simp),Atb h,Aa];simp only;rw[Aut hF,Aa];simp only;rw[fN]
theorem zW(sh:Int)(hs:sh=4\/sh=5)(last:Int32):Ud sh last=some (gs sh last):=by
 have hl:=CM last;have key:∀n:Int,n=16\/n=32->gs sh last=Int32.ofInt (((n-1)*last.toInt).fdiv n)->Wu last n=some (gs sh last):=by
  intro n hn hg;have e:Br (Ap n (1:Int)) (Af last:Int)=(n-1)*last.toInt:=by
   obtain rfl|rfl:=hn<;>(rw[Gg,Bs,Ii])
  rw[Wu,KF,Bt (by rw[Ag];simp;omega),Aa,Aa,e,Aet _ n (by omega) (by obtain rfl|rfl:=hn<;>omega) (by obtain rfl|rfl:=hn<;>omega),hg]
 rw[Ud,KE];obtain rfl|rfl:=hs
 ·rw[Aau (by rw[Ar];decide)];refine key 16 (.inl rfl) ?_;have e:Ei (Af last:Int) (4:Int).toNat=last.toInt*16:=by
   rw[Gg];show wrap64 (last.toInt*2^4)=_;rw[Dd]<;>omega
  rw[gs,e,Gg,Bs,VZ]
  show Int32.ofInt ((last.toInt*16-last.toInt).fdiv 16)=_;congr 2;omega
 ·rw[Ab3 (by rw[Ar];rfl)];refine key 32 (.inr rfl) ?_;have e:Ei (Af last:Int) (5:Int).toNat=last.toInt*32:=by
   rw[Gg];show wrap64 (last.toInt*2^5)=_;rw[Dd]<;>omega
  rw[gs,e,Gg,Bs,VZ]
  show Int32.ofInt ((last.toInt*32-last.toInt).fdiv 32)=_;congr 2;omega
theorem Aoc{bits:Int}(h:Bu bits){t p:List Int32}(hF:OkF (sB bits) t p)(last y:Int32):
  AI bits last (sB bits) t p y=some (y+gF (sB bits) t p+gs (shB bits) last,bits,y+gF (sB bits) t p+gs (shB bits) last,sB bits,Y1 t p y,(y+gF (sB bits) t p)::p.take 15):=by
 have hb:CI bits last (sB bits) t p=some (Af (gs (shB bits) last):Int):=by
  rw[CI];obtain rfl|rfl|rfl:=h
  ·rw[Ab3 (by rw[Ar];rfl),zW 4 (.inl rfl),Aa];rfl
  ·rw[Aau (by rw[Ar];decide),zW 5 (.inr rfl),Aa];rfl
  ·rw[Aau (by rw[Ar];decide),zW 5 (.inr rfl),Aa];rfl
 rw[AI,An8 hF,Aa];simp only;rw[hb,Aa,yU,Aa]
theorem Bcv{bits:Int}(h:Bu bits)(t:List Int32):eU bits t=some (bits,0,sB bits,t,List.replicate 16 0,0):=by
 obtain rfl|rfl|rfl:=h<;>rfl
def XK(n:UInt32):Int32:=if n.toNat %2=0 then Int32.ofInt ((n.toNat/2:Nat):Int)else Int32.ofInt (-((n.toNat/2:Nat):Int)-1)
theorem Af4(a b:Int32):(Zn a b).toBitVec=a.toBitVec^^^b.toBitVec:=by
 show(Int32.ofInt ((BitVec.ofInt 32 a.toBitVec.toInt^^^BitVec.ofInt 32 b.toBitVec.toInt).toNat:Int)).toBitVec=_;rw[BitVec.ofInt_toInt,BitVec.ofInt_toInt,Int32.toBitVec_ofInt,BitVec.ofInt_natCast,BitVec.ofNat_toNat,BitVec.setWidth_eq]
theorem Bcl(m:Nat)(h:m<2147483648):Zn (Int32.ofInt (m:Int)) (Int32.ofInt (-1))=Int32.ofInt (-(m:Int)-1):=by
 apply Int32.toBitVec_inj.1;have e1:(Int32.ofInt (-1)).toBitVec=BitVec.allOnes 32:=by decide
 rw[Af4,e1,BitVec.xor_allOnes,Int32.toBitVec_ofInt,Int32.toBitVec_ofInt];apply Be6;rw[BitVec.toNat_not,Bdr,Bdr];omega
theorem Apl(n:UInt32):BD n=some (XK n):=by
 have hn:=n.toNat_lt;have e1:(Af (Ct n (GI.toZ (1:UInt64)).toNat):Int32)=Int32.ofInt ((n.toNat/2:Nat):Int):=by
  show Int32.ofInt ((Ct n 1).toNat:Int)=_;rw[PY]
 have e2:(Af (Ey n (1:UInt32)):Int32)=Int32.ofInt ((n.toNat %2:Nat):Int):=by
  show Int32.ofInt ((Ey n (1:UInt32)).toNat:Int)=_;rw[Q5,UInt32.toNat_and]
  show Int32.ofInt ((n.toNat&&&1:Nat):Int)=_;rw[Nat.and_one_is_mod]
 rw[BD,e1,e2,XK];congr 1;by_cases h:n.toNat %2=0
 ·have e3:wL (Int32.ofInt ((n.toNat %2:Nat):Int))=Int32.ofInt 0:=by rw[h];decide
  rw[Ab3 h,e3];apply Int32.toBitVec_inj.1;rw[Af4,show(Int32.ofInt 0).toBitVec=0#32 from rfl,BitVec.xor_zero]
 ·have e3:wL (Int32.ofInt ((n.toNat %2:Nat):Int))=Int32.ofInt (-1):=by rw[show n.toNat %2=1 by omega];decide
  rw[Aau h,e3,Bcl _ (by omega)]
theorem Awq(n:UInt32):JC n=some (XK n):=by
 have hn:=n.toNat_lt;have e1:geq (GR n (2:UInt32)) (0:UInt32)=decide (n.toNat %2=0):=by
  rw[Aat,Adu,Ajf];simp only[Aug,<-UInt32.toNat_inj,UInt32.toNat_mod,Acj];rfl
 rw[JC,e1,XK];by_cases h:n.toNat %2=0
 ·rw[Ab3 (by simpa using h),Ab3 h,Afx];rfl
 ·have e2:(Af n:Int)=(n.toNat:Int):=X5 n;rw[Aau (by simpa using h),Aau h,e2,Ak,zq,Dd (by omega) (by omega),TX,Int.tdiv_eq_ediv,VZ];congr 2;rw[Ab3 (.inr (by omega)),Dd (by omega) (by omega)];omega
theorem tA{c:Prop} [Decidable c](h:c):Md (decide c)=some ():=by rw[Bbc h];rfl
def unV(f:Nat->Int32)(ch:Nat):Nat->Int32
 |0=>if 1<ch then f (ch-1)+Db (f (ch-2)) (2:Int32)else f (ch-1)
 |j+1=>unV f ch j-f (ch-2-j)
def M5(ch:Nat)(m:List Int32):List Int32:=(List.range m.length).map λk=>unV (λi=>m.getD (k-k %ch+i) 0) ch (ch-1-k %ch)
theorem kE(ch:Nat)(m:List Int32):(M5 ch m).length=m.length:=by simp[M5]
theorem yF{ch:Nat}{m:List Int32}{a i:Nat}(ha:a %ch=0)(hi:i<ch)(h:a+i<m.length):(M5 ch m).getD (a+i) 0=unV (λi=>m.getD (a+i) 0) ch (ch-1-i):=by
 have hb:(a+i) %ch=i:=by rw[Nat.add_mod,ha,Azm,Nat.mod_mod,Ack hi]
 rw[Kb (by rw[kE];exact h)];simp only[M5,Bea,Bd8,hb];rw[show a+i-i=a by omega]
section
variable (ch:Nat) (m:List Int32)
theorem Ad9(h1:1<=ch)(h6:ch<=6)(hm:m.length %ch=0)(hl2:m.length<=4000):gQ (ch:Int) m=some 0:=by
 rw[gQ,Aau (by simp[Ae,Aq];omega),Aau (by rw[Aq,Ac];simp;omega),Bt (by rw[Ag];simp;omega),Aa,Aau];rw[Ag,Io,Ac,<-Int.ofNat_tmod,hm];simp
theorem jy(bk:Int->List Int32->Option (List Int32×Int))(at':Nat)(h1:1<=ch)(h6:ch<=6)(hm:at' %ch=0)(hl:at'+ch<=m.length)(hl2:m.length<=4000):∀(i q:Nat),i<=ch-1->i<q->
  BE bk (ch:Int) (at':Int) q ((i:Int)-1) (jK (λk=>decide (k<at'\/ (at'+i<=k/\k<at'+ch))) (M5 ch m) m)=bk ((at'+ch:Nat):Int) (jK (λk=>decide (k<at'+ch)) (M5 ch m) m)
 |0,q+1,hi,_=>by
  have e4:Ad (at':Int) (ch:Int)=((at'+ch:Nat):Int):=by rw[Ak];omega
  rw[BE,VN,Aau (by rw[Dy];simp),iJ,xL,e4];congr 1;apply Xv;intro k _;rw[Ajf];simp;omega
 |i+1,q+1,hi,hq=>by
  have hlen:=kE ch m;have e2:Ad (at':Int) (ch:Int)-(at':Int)=(ch:Int):=by rw[Ak];omega
  have e3:Ad (i:Int) 1=((i+1:Nat):Int):=by rw[Ak];omega
  have hv:((M5 ch m).getD (at'+(i+1)) 0-m.getD (at'+i) 0)=(M5 ch m).getD (at'+i) 0:=by
   rw[yF hm (by omega) (by omega),yF hm (by omega) (by omega),show ch-1-i=(ch-1-(i+1))+1 by omega,unV,show ch-2-(ch-1-(i+1))=i by omega]
  rw[BE,VN,show((i+1:Nat):Int)-1=(i:Int) by omega,Ab3 (by rw[Dy];simp),e2,e3,tA (by omega),Aa,tA (by omega),Aa,
   show(at':Int)+((i+1:Nat):Int)=((at'+(i+1):Nat):Int) by omega,show(at':Int)+(i:Int)=((at'+i:Nat):Int) by omega,
   DW (by omega),Aa,DW (by omega),Aa,Aa,Ab3 (by simp;omega),Aau (by simp;omega),aF,hv,gW (by omega),Aa,Bs]
  have ih:=jy bk at' h1 h6 hm hl hl2 i q (by omega) (by omega);rw[<-ih];congr 1;apply Xv;intro k _;rw[Ajf];simp;omega
theorem yD{at' ch n:Nat}(ha:at' %ch=0)(hm:n %ch=0)(h:at'<n):at'+ch<=n:=by
 have d1:=Bfd at' ch;have d2:=Bfd n ch;rw[ha,Bcz]at d1;rw[hm,Bcz]at d2;have hlt:at'/ch<n/ch:=by
  rcases Be4 (at'/ch) (n/ch)with h'|h'
  ·exact h'
  ·have:=Bfu ch h';omega
 have:=Bfu ch (show at'/ch+1<=n/ch from hlt);rw[Nat.mul_add]at this;omega
theorem ui(h1:1<=ch)(h6:ch<=6)(hm:m.length %ch=0)(hl2:m.length<=4000):∀(j at' q:Nat),at' %ch=0->at'<=m.length->m.length-at'<=j->j<q->
  Wm (ch:Int) q (at':Int) (jK (λk=>decide (k<at')) (M5 ch m) m)=some (M5 ch m,0)
 |j,at',q+1,ha,hle,hj,hq=>by
  have hlen:=kE ch m;have hl:Ac (jK (λk=>decide (k<at')) (M5 ch m) m)=(m.length:Int):=by rw[Ac,PA,hlen]
  rw[Wm,kH,hl];by_cases h:at'<m.length
  ·have hb:=yD ha hm h;obtain⟨j,rfl⟩:∃k,j=k+1:=⟨j-1,by omega⟩;have e1:Ap (Ad (at':Int) (ch:Int)-(at':Int)) 1=((ch-1:Nat):Int):=by rw[Ak,Bs];omega
   have e2:Ad (at':Int) (ch:Int)-(at':Int)=(ch:Int):=by rw[Ak];omega
   have e4:Ad (at':Int) (ch:Int)=((at'+ch:Nat):Int):=by rw[Ak];omega
   have hi:=jy ch m (Wm (ch:Int) q) at' h1 h6 ha hb hl2 (ch-1) Ax (by omega) (by have:=As;omega);have hrest:=ui h1 h6 hm hl2 j (at'+ch) q (by rw[Bfo,ha]) hb (by omega) (by omega);have hstart:VA (Wm (ch:Int) q) (ch:Int) (at':Int) (jK (λk=>decide (k<at'\/ (at'+(ch-1)<=k/\k<at'+ch))) (M5 ch m) m)=some (M5 ch m,0):=by
    have e6:Ap ((ch-1:Nat):Int) 1=((ch-1:Nat):Int)-1:=Bs;rw[VA,iN,iI,e1,e6];exact Bcq hi hrest
   rw[Ab3 (by rw[Ae];simp;omega),show kW (m.length:Int) (at':Int) (Ad (at':Int) (ch:Int))=some () by rw[e4,kW,tA];omega,Aa,e1,e2];have hlast:=yF (m:=m) ha (show ch-1<ch by omega) (by omega);rw[show ch-1-(ch-1)=0 by omega,unV]at hlast;by_cases hc:1<ch
   ·have e5:Ap ((ch-1:Nat):Int) 1=((ch-2:Nat):Int):=by rw[Bs];omega
    rw[Ab3 hc]at hlast;rw[Ab3 (by rw[Aq];simp;omega),tA (by omega),Aa,e5,tA (by omega),Aa,show(at':Int)+((ch-1:Nat):Int)=((at'+(ch-1):Nat):Int) by omega,show(at':Int)+((ch-2:Nat):Int)=((at'+(ch-2):Nat):Int) by omega,
     DW (by omega),Aa,DW (by omega),Aa,Aa,Aau (by simp),Aau (by simp),fN,<-hlast,gW (by omega),Aa]
    rw[<-hstart];congr 1;apply Xv;intro k _;rw[Ajf];simp;omega
   ·have hc1:ch=1:=by omega
    rw[Aau (by rw[Aq];simp;omega),<-hstart];congr 1;rw[Aau hc]at hlast;apply Bft;intro k hk;by_cases hk2:k=at'
    ·subst hk2;rw[Aau (by simp),Ab3 (by simp;omega)];rw[show k+(ch-1)=k by omega]at hlast;exact hlast.symm
    ·by_cases hk3:k<at'
     ·rw[Ab3 (by simp;omega),Ab3 (by simp;omega)]
     ·rw[Aau (by simp;omega),Aau (by simp;omega)]
  ·rw[Aau (by rw[Ae];simp;omega),qS (λk hk=>by simp;omega)];rfl
theorem Avd(h1:1<=ch)(h6:ch<=6)(hm:m.length %ch=0)(hl2:m.length<=4000):wZ (ch:Int) m=some (M5 ch m,0):=by
 have hlen:=kE ch m;have h:=ui ch m h1 h6 hm hl2 m.length 0 Ax (by simp) (by omega) (by omega) (by have:=As;omega);rw[wZ,qM,Ad9 ch m h1 h6 hm hl2,Aa,Aau (by rw[Ag];simp),En,Bw (by simp;omega),Aa,Aa,Auc,iU];rw[nF hlen.symm (λk _=>by simp)]at h;exact h
end
def D9(f:Nat->Int32)(ch:Nat):List Int32:=(List.range ch).map λi=>unV f ch (ch-1-i)
theorem fH(f:Nat->Int32)(ch:Nat):(D9 f ch).length=ch:=by simp[D9]
theorem yQ(f:Nat->Int32){ch i:Nat}(h:i<ch):(D9 f ch).getD i 0=unV f ch (ch-1-i):=by
 rw[Kb (by rw[fH];exact h)];simp[D9]
theorem Asq(a b:Int32):Dp (Ap (Af a:Int) (Af b:Int))=some (a-b):=by
 have:=CM a;have:=CM b;rw[Gg,Gg,Bs,M8,Int32.ofInt_sub,Ba8,Ba8]
theorem Anr(a b:Int32):Dp (Ad (Af a:Int) (Db (Af b:Int) (2:Int)))=some (a+Db b (2:Int32)):=by
 have:=CM a;have hb:=CM b;have hd: -2147483648<=b.toInt.tdiv 2/\b.toInt.tdiv 2<=2147483648:=by
  rw[Int.tdiv_eq_ediv,show Int.sign 2=1 from rfl];by_cases h:0<=b.toInt\/2∣b.toInt
  ·rw[Ab3 h];omega
  ·rw[Aau h];omega
 have e:Db b (2:Int32)=Int32.ofInt (b.toInt.tdiv 2):=rfl;rw[Gg,Gg,TX,Dd (by omega) (by omega),Ak,M8,Int32.ofInt_add,Ba8,e]
theorem yI(mY z:List Int32)(ch:Nat)(h6:ch<=6)(hs:mY.length=ch)(hz:z.length=ch):∀(i q:Nat),i+1<=ch->i<q->
  Js mY q ((i:Int)-1) (jK (λk=>decide (i<=k)) (D9 (λi=>mY.getD i 0) ch) z)=some (D9 (λi=>mY.getD i 0) ch)
 |0,q+1,hi,_=>by
  rw[Js,Vz,Aau (by rw[Dy];simp),qS (λk hk=>by simp)];rfl
 |i+1,q+1,hi,hq=>by
  have hlen:=fH (λi=>mY.getD i 0) ch;have e3:Ad (i:Int) 1=((i+1:Nat):Int):=by rw[Ak];omega
  have hv:(D9 (λi=>mY.getD i 0) ch).getD (i+1) 0-mY.getD i 0=(D9 (λi=>mY.getD i 0) ch).getD i 0:=by
   rw[yQ _ (by omega),yQ _ (by omega),show ch-1-i=(ch-1-(i+1))+1 by omega,unV,show ch-2-(ch-1-(i+1))=i by omega]
  rw[Js,Vz,show((i+1:Nat):Int)-1=(i:Int) by omega,Ab3 (by rw[Dy];simp),e3,DW (by omega),Aa,g32 (by omega),Aa,Aa,Ab3 (by simp),Asq,Aa,DW (by omega),Aa,hv,gW (by omega),Aa,Bs];have ih:=yI mY z ch h6 hs hz i q (by omega) (by omega);rw[<-ih];congr 1;apply Xv;intro k _;rw[Ajf];simp;omega
theorem Acn{l:List Int32}{i:Nat}(v:Int32)(h:i<l.length):(l.set i v).getD i 0=v:=by
 rw[Kb (by rw[Bco];exact h)];simp
theorem Ahl(mY:List Int32)(ch:Nat)(h1:1<=ch)(h6:ch<=6)(hs:mY.length=ch):AF mY=some (D9 (λi=>mY.getD i 0) ch):=by
 have hlen:=fH (λi=>mY.getD i 0) ch;have hzl:(List.replicate ch (0:Int32)).length=ch:=by simp
 have e1:Ap (Ac mY) 1=((ch-1:Nat):Int):=by rw[Ac,hs,Bs];omega
 have e2:Ap (Ac mY) 2=((ch-1:Nat):Int)-1:=by rw[Ac,hs,Bs];omega
 have hlast:=yQ (λi=>mY.getD i 0) (show ch-1<ch by omega);rw[show ch-1-(ch-1)=0 by omega,unV]at hlast;have hend:∀z:List Int32,z.length=ch->z.getD (ch-1) 0=(D9 (λi=>mY.getD i 0) ch).getD (ch-1) 0->Vj mY z=some (D9 (λi=>mY.getD i 0) ch):=by
  intro z hz hzl;have h:=yI mY z ch h6 hs hz (ch-1) Ax (by omega) (by have:=As;omega);have e:jK (λk=>decide (ch-1<=k)) (D9 (λi=>mY.getD i 0) ch) z=z:=by
   apply Bae (by rw[PA,hlen,hz]);intro k k1 k2;rw[We];by_cases hk:ch-1<=k
   ·obtain rfl:k=ch-1:=by omega
    rw[Ab3 (by simp),<-hzl,Kb k2]
   ·rw[Aau (by simpa using hk),Kb k2]
  rw[e]at h;rw[Vj,GP,e2];exact h
 rw[AF,GL,Ac,hs,xE,Aa,Bt (by rw[Ar];simp),Aa];rw[Ac,hs]at e1;rw[Ac,hs]at e2;have hz1:(List.replicate (Int.toNat (ch:Int)) (0:Int32)).length=ch:=by simp
 have hs1:=g32 (l:=mY) (k:=ch-1) (by omega);rw[e1,hs1,Aa,g32 (by omega),Aa,Uq _ (by omega),Aa];by_cases hc:1<ch
 ·rw[Ab3 hc]at hlast;have e3:((ch-1:Nat):Int)-1=((ch-2:Nat):Int):=by omega
  have hs2:=g32 (l:=mY) (k:=ch-2) (by omega);rw[Ab3 (by rw[Aq];simp;omega),Aa,e2,e3,hs2,Aa,Anr,Aa,g32 (by rw[Bco];omega),Aa,Uq _ (by rw[Bco];omega),Aa];refine hend _ (by simp) ?_;rw[hlast,Acn _ (by rw[Bco];omega)]
 ·rw[Aau hc]at hlast;rw[Aau (by rw[Aq];simp;omega)];refine hend _ (by simp) ?_;rw[hlast,Acn _ (by omega)]
theorem Avs(ch:Nat)(m:List Int32)(h1:1<=ch)(h6:ch<=6)(hm:m.length %ch=0)(hl2:m.length<=4000):Xc (ch:Int) m=some 0:=by
 rw[Xc,Aau (by simp[Ae,Aq];omega),Aau (by rw[Aq,Ac];simp;omega),Bt (by rw[Ag];simp;omega),Aa,Aau];rw[Aq,Io,Ac,<-Int.ofNat_tmod,hm];simp
theorem I4(ch:Nat)(m:List Int32)(h1:1<=ch)(h6:ch<=6)(hm:m.length %ch=0)(hl2:m.length<=4000):∀(j at' q:Nat),at' %ch=0->at'<=m.length->m.length-at'<=j->j<q->
  Sn (ch:Int) m q (at':Int) ((M5 ch m).take at')=some (M5 ch m,0)
 |j,at',q+1,ha,hle,hj,hq=>by
  have hlen:=kE ch m;rw[Sn,SI];by_cases h:at'<m.length
  ·have hb:=yD ha hm h;have e4:Ad (at':Int) (ch:Int)=((at'+ch:Nat):Int):=by rw[Ak];omega
   have hrest:=I4 ch m h1 h6 hm hl2 (j-1) (at'+ch) q (by rw[Bfo,ha]) hb (by omega) (by omega);have hseg:((m.take (at'+ch)).drop at').length=ch:=by simp;omega
   have htl:((M5 ch m).take at').length=at':=by simp[hlen];omega
   rw[Ab3 (by rw[Ae,Ac];simp;omega),e4,Oa,Aa,show((at'+ch:Nat):Int).toNat=at'+ch from rfl,show(at':Int).toNat=at' from rfl,Ahl _ ch h1 h6 hseg,Aa,Bw (by rw[htl,fH];omega),Aa];have e:(M5 ch m).take at'++D9 (λi=>((m.take (at'+ch)).drop at').getD i 0) ch=(M5 ch m).take (at'+ch):=by
    apply Bae (by rw[Aci,htl,fH,Afa,hlen];omega);intro k k1 k2;rw[Afa,hlen]at k2;rw[List.getElem_append,List.getElem_take];by_cases hk:k<at'
    ·rw[dif_pos (by rw[htl];exact hk),List.getElem_take]
    ·rw[dif_neg (by rw[htl];exact hk)];have hu:=yF (m:=m) ha (show k-at'<ch by omega) (by omega);rw[show at'+(k-at')=k by omega,Kb (by omega)]at hu;have hx:∀n,n<=ch->unV (λi=>((m.take (at'+ch)).drop at').getD i 0) ch n=unV (λi=>m.getD (at'+i) 0) ch n:=by
      have hf:∀i,i<ch-> ((m.take (at'+ch)).drop at').getD i 0=m.getD (at'+i) 0:=by
       intro i hi;rw[Kb (by omega),Kb (by omega)];simp
      intro n
      induction n with
      |zero=>
       intro _;rw[unV,unV,hf _ (by omega)];split
       ·rw[hf _ (by omega)]
       ·rfl
      |succ n ih=>intro hn;rw[unV,unV,ih (by omega),hf _ (by omega)]
     have hy:=yQ (λi=>((m.take (at'+ch)).drop at').getD i 0) (show k-at'<ch by omega);rw[Kb (by rw[fH];omega)]at hy;rw[hu,<-hx _ (by omega),<-hy];congr 1;rw[htl]
   rw[e];exact hrest
  ·rw[Aau (by rw[Ae,Ac];simp;omega),Aqt (by omega)];rfl
theorem Amd(ch:Nat)(m:List Int32)(h1:1<=ch)(h6:ch<=6)(hm:m.length %ch=0)(hl2:m.length<=4000):IH (ch:Int) m=some (M5 ch m,0):=by
 have h:=I4 ch m h1 h6 hm hl2 m.length 0 Ax (by simp) (by omega) (by omega) (by have:=As;omega);rw[IH,QH,Avs ch m h1 h6 hm hl2,Aa,Aau (by rw[Ag];simp)];exact h
def pre{α:Type}(ch c:Nat)(f:α->Nat->α)(a0:α):Nat->α
 |0=>a0
 |m+1=>if m %ch=c then f (pre ch c f a0 m) m else pre ch c f a0 m
theorem Ajx{α:Type}(ch c:Nat)(f:α->Nat->α)(a0:α):∀m,m<=c->c<ch->pre ch c f a0 m=a0
 |0,_,_=>rfl
 |m+1,h,h2=>by rw[pre,Aau (by rw[Ack (by omega)];omega),Ajx ch c f a0 m (by omega) h2]
theorem Agn{α:Type}(ch c i:Nat)(f:α->Nat->α)(a0:α)(hi:i %ch=c)(hc:c<ch):∀j,j<ch->pre ch c f a0 (i+1+j)=pre ch c f a0 (i+1)
 |0,_=>rfl
 |j+1,h=>by
  have hne:(i+1+j) %ch≠c:=by
   intro e;have h1:(i+(1+j)) %ch=i %ch:=by rw[hi,<-e];congr 1;omega
   have h2:(1+j) %ch=0:=by
    have h3:=Nat.sub_mod_eq_zero_of_mod_eq h1;rwa [Bba]at h3
   rw[Ack (by omega)]at h2;omega
  rw[show i+1+(j+1)=(i+1+j)+1 by omega,pre,Aau hne,Agn ch c i f a0 hi hc j (by omega)]
theorem Aq0{α:Type}(ch c i:Nat)(f:α->Nat->α)(a0:α)(hi:i %ch=c)(hc:c<ch):pre ch c f a0 (i+ch)=f (pre ch c f a0 i) i:=by
 have h:=Agn ch c i f a0 hi hc (ch-1) (by omega);rw[show i+1+(ch-1)=i+ch by omega]at h;rw[h,pre,Ab3 hi]
abbrev CS:=Int32×List Int32×List Int32
def Ac4(bits:Int)(s:CS)(y:Int32):Int32:=y+gF (sB bits) s.2.1 s.2.2+gs (shB bits) s.1
def qo(bits:Int)(s:CS)(y:Int32):CS:=(Ac4 bits s y,Y1 s.2.1 s.2.2 y,(y+gF (sB bits) s.2.1 s.2.2)::s.2.2.take 15)
def cst(bits:Int)(ch:Nat)(t:List Int32)(v:List UInt32)(c:Nat):Nat->CS:=pre ch c (λs i=>qo bits s (XK (v.getD i 0))) (0,t,List.replicate 16 0)
def OkC(bits:Int)(s:CS):Prop:=OkF (sB bits) s.2.1 s.2.2
theorem Ab6(bits:Int)(ch:Nat){t:List Int32}(ht:t.length=16)(v:List UInt32)(c:Nat):∀m,OkC bits (cst bits ch t v c m)
 |0=>⟨Bbz bits,ht,by simp[cst,pre]⟩
 |m+1=>by
  have ih:=Ab6 bits ch ht v c m;rw[cst,pre];split
  ·exact Atz ih _ _
  ·exact ih
def xW(bits:Int)(ch:Nat)(t:List Int32)(v:List UInt32):List Int32:=(List.range v.length).map λi=>Ac4 bits (cst bits ch t v (i %ch) i) (XK (v.getD i 0))
theorem iV(bits:Int)(ch:Nat)(t:List Int32)(v:List UInt32):(xW bits ch t v).length=v.length:=by simp[xW]
theorem Aay(bits:Int)(ch:Nat)(t:List Int32)(v:List UInt32){i:Nat}(h:i<v.length):(xW bits ch t v).getD i 0=Ac4 bits (cst bits ch t v (i %ch) i) (XK (v.getD i 0)):=by
 rw[Kb (by rw[iV];exact h)];simp[xW]
abbrev CL:=Int×Int32×(Int×(List Int32)×(List Int32)×Unit)×Unit
def toC(bits:Int)(s:CS):CL:=(bits,s.1,(sB bits,s.2.1,s.2.2,()),())
def cts(bits:Int)(ch:Nat)(t:List Int32)(v:List UInt32)(i:Nat):List CL:=(List.range 6).map λc=>toC bits (cst bits ch t v c i)
theorem Akd{bits:Int}{ch:Nat}{t:List Int32}{v:List UInt32}{i c:Nat}(h:c<6):Ao (cts bits ch t v i) (c:Int)=some (toC bits (cst bits ch t v c i)):=by
 rw[Bn (by simp[cts];exact h)];simp[cts]
theorem Aey(bits:Int)(ch:Nat)(t:List Int32)(v:List UInt32)(c m:Nat):cst bits ch t v c (m+1)=if m %ch=c then qo bits (cst bits ch t v c m) (XK (v.getD m 0))else cst bits ch t v c m:=rfl
theorem Ajr{bits:Int}{ch:Nat}{t:List Int32}{v:List UInt32}{i c:Nat}(h:c<6)(hc:i %ch=c):Nk (cts bits ch t v i) (c:Int) (toC bits (qo bits (cst bits ch t v c i) (XK (v.getD i 0))))=some (cts bits ch t v (i+1)):=by
 rw[Uq _ (by simp[cts];exact h)];congr 1;apply Bae (by simp[cts]);intro k h1 h2;rw[Bfx];simp only[cts,Bea,Bd8];by_cases hk:c=k
 ·subst hk;rw[Ab3 rfl,Aey,Ab3 hc]
 ·rw[Aau hk,Aey,Aau (by omega)]
section
variable {bits:Int} {ch:Nat} {t:List Int32} {v:List UInt32}
theorem Adp(hb:Bu bits)(ht:t.length=16)(h1:1<=ch)(h6:ch<=6)(hv:v.length<=4000):∀(j i q:Nat),i+j=v.length->j<q->
  Lc v (ch:Int) bits q (i:Int) (cts bits ch t v i) ((xW bits ch t v).take i)=Oq (ch:Int) bits (xW bits ch t v)
 |0,i,q+1,hi,_=>by
  rw[Lc,Oj,Aau (by rw[Ae,Ac];simp;omega),Aqt (by rw[iV];omega)]
 |j+1,i,q+1,hi,hq=>by
  have hlen:=iV bits ch t v;have hc:i %ch<6:=Ai7 (Bde _ (by omega)) h6;have hok:=Ab6 bits ch ht v (i %ch) i;have hs:=Ajr (bits:=bits) (ch:=ch) (t:=t) (v:=v) (i:=i) hc rfl;have hx:=Aay bits ch t v (i:=i) (by omega);have hcb:=Anu hb hok (cst bits ch t v (i %ch) i).1 (XK (v.getD i 0));have ih:=Adp hb ht h1 h6 hv j (i+1) q (by omega) (by omega);rw[Lg (by omega),<-Kb (by omega),hx]at ih;rw[Lc,Oj,Ab3 (by rw[Ae,Ac];simp;omega),wO (by omega),Aa,Bt (by rw[Ag];simp;omega),Aa,YE,Akd hc,Aa,Aa,Apl,Aa];refine Bcq (congrArg (λo=>Option.bind o _) hcb) ?_;rw[Aa];simp only;rw[CY,UR,Aau (by rw[Ag];simp),YE];refine Bcq (congrArg (λo=>Option.bind o _) hs) ?_;rw[Aa,Bw (by simp;omega),Aa,Ak];exact ih
theorem Anq(hb:Bu bits)(ht:t.length=16)(h1:1<=ch)(h6:ch<=6)(hv:v.length<=4000):Xn (ch:Int) bits t v=Oq (ch:Int) bits (xW bits ch t v):=by
 have h:=Adp hb ht h1 h6 hv v.length 0 Ax (by omega) (by have:=As;omega);have e:Ax=(Ax-7)+1+1+1+1+1+1+1:=by have:=As;omega
 have hs:Uk v (ch:Int) bits t 0 (List.replicate 6 ((0:Int),(0:Int32),((0:Int),(List.replicate 16 (0:Int32)),(List.replicate 16 (0:Int32)),()),()))=CG v (ch:Int) bits (cts bits ch t v 0):=by
  rw[Uk,e];obtain rfl|rfl|rfl:=hb<;>rfl
 rw[Xn,EU,hs];exact h
theorem ze(bk:Int->List Int32->Option (List Int32))(hb:Bu bits)(ht:t.length=16)(h1:1<=ch)(h6:ch<=6)(hv:v.length<=4000)(z:List Int32)(c:Nat)(hc:c<ch):∀(j i q:Nat),i %ch=c->v.length-i<=j->i<=5000->j<q->
  Np bk v (ch:Int) bits t (c:Int) q (i:Int) (jK (λk=>decide (k %ch<c\/ (k %ch=c/\k<i))) (xW bits ch t v) z) bits (cst bits ch t v c i).1 (sB bits) (cst bits ch t v c i).2.1 (cst bits ch t v c i).2.2=
   bk ((c+1:Nat):Int) (jK (λk=>decide (k %ch<c+1)) (xW bits ch t v) z)
 |j,i,q+1,hi,hj,hi5,hq=>by
  have hlen:=iV bits ch t v;rw[Np,FT];by_cases h:i<v.length
  ·have hok:=Ab6 bits ch ht v c i;have hst:=Aoc hb hok (cst bits ch t v c i).1 (XK (v.getD i 0));have hx:=Aay bits ch t v (i:=i) h;rw[hi]at hx;have ih:=ze bk hb ht h1 h6 hv z c hc (j-1) (i+ch) q (by rw[Bfo];exact hi) (by omega) (by omega) (by omega);have jm:cst bits ch t v c (i+ch)=qo bits (cst bits ch t v c i) (XK (v.getD i 0)):=Aq0 ch c i _ _ hi hc;rw[jm]at ih;have hset:=gW (p:=λk=>decide (k %ch<c\/ (k %ch=c/\k<i))) (a:=xW bits ch t v) (b:=z) (k:=i) (by omega);rw[hx]at hset;have Agv:jK (λj=>decide (j %ch<c\/ (j %ch=c/\j<i))||decide (j=i)) (xW bits ch t v) z=jK (λk=>decide (k %ch<c\/ (k %ch=c/\k<i+ch))) (xW bits ch t v) z:=by
    apply Xv;intro k _;rw[Ajf];simp only[Azv,Acj];constructor
    ·rintro((h1|h1)|h1)
     ·exact .inl h1
     ·exact .inr ⟨h1.1,by omega⟩
     ·subst h1;exact .inr ⟨hi,by omega⟩
    ·rintro(h1|⟨h1,h2⟩)
     ·exact .inl (.inl h1)
     ·by_cases h3:k<i
      ·exact .inl (.inr ⟨h1,h3⟩)
      ·refine .inr ?_;have h4:(i+(k-i)) %ch=i %ch:=by rw[show i+(k-i)=k by omega,h1,hi]
       have h5:=Nat.sub_mod_eq_zero_of_mod_eq h4;rw[Bba,Ack (by omega)]at h5;omega
   rw[Agv]at hset;rw[Ab3 (by rw[Ae,Ac];simp;omega),wO h,Aa,Awq,Aa];refine Bcq (congrArg (λo=>Option.bind o _) hst) ?_;rw[Aa];simp only;rw[GO,GQ,DW (by omega),Aa];refine Bcq (congrArg (λo=>Option.bind o _) hset) ?_;rw[Aa,GM,GH,Ak];exact ih
  ·rw[Aau (by rw[Ae,Ac];simp;omega),GF,FN,Ak];have Agv:jK (λk=>decide (k %ch<c\/ (k %ch=c/\k<i))) (xW bits ch t v) z=jK (λk=>decide (k %ch<c+1)) (xW bits ch t v) z:=by
    apply Xv;intro k hk;rw[Ajf];simp only[Acj];omega
   rw[Agv];rfl
theorem yo(hb:Bu bits)(ht:t.length=16)(h1:1<=ch)(h6:ch<=6)(hv:v.length<=4000)(z:List Int32):∀(j c q:Nat),c+j=ch->j<q->
  Gz v (ch:Int) bits t q (c:Int) (jK (λk=>decide (k %ch<c)) (xW bits ch t v) z)=Vl (ch:Int) bits (xW bits ch t v)
 |0,c,q+1,hc,_=>by
  rw[Gz,Vi,Aau (by rw[Ae];simp;omega),qS (λk hk=>by have:=Bde k (show 0<ch by omega);simp;omega)]
 |j+1,c,q+1,hc,hq=>by
  have ih:=yo hb ht h1 h6 hv z j (c+1) q (by omega) (by omega);have hin:=ze (Gz v (ch:Int) bits t q) hb ht h1 h6 hv z c (by omega) v.length c Ax (Ack (by omega)) (by omega) (by omega) (by have:=As;omega);have h0:cst bits ch t v c c=(0,t,List.replicate 16 0):=Ajx ch c _ _ c (Am4 _) (by omega);rw[h0]at hin;have Agv:jK (λk=>decide (k %ch<c\/ (k %ch=c/\k<c))) (xW bits ch t v) z=jK (λk=>decide (k %ch<c)) (xW bits ch t v) z:=by
   apply Xv;intro k hk;have:=Nat.mod_le k ch;rw[Ajf];simp only[Acj];omega
  rw[Agv]at hin;rw[Gz,Vi,Ab3 (by rw[Ae];simp;omega),Bcv hb,Aa];simp only;rw[FK];exact Bcq hin ih
theorem xe(hb:Bu bits)(ht:t.length=16)(h1:1<=ch)(h6:ch<=6)(hv:v.length<=4000)(hm:v.length %ch=0):Uj (ch:Int) bits t v=some (M5 ch (xW bits ch t v)):=by
 have hlen:=iV bits ch t v;have h:=yo hb ht h1 h6 hv (List.replicate v.length 0) ch 0 Ax (by omega) (by have:=As;omega);rw[nF (by rw[hlen];simp) (λk _=>by simp)]at h;rw[Uj,JN,Ac,xE,Aa,Bt (by rw[Ar];simp),Aa,GA];refine Bcq h ?_;rw[Vl,FQ,Amd ch _ h1 h6 (by rw[hlen];exact hm) (by omega),Aa]
end
def hB(bits:Int):Int:=if bits=8 then 128 else if bits=16 then 32768 else 8388608
theorem Aca{bits:Int}(h:Bu bits):Wf bits=some (Int32.ofInt (-(hB bits)),Int32.ofInt (hB bits-1),0):=by
 obtain rfl|rfl|rfl:=h<;>decide
theorem UO{bits:Int}(h:Bu bits):Kf bits=some (hB bits):=by
 obtain rfl|rfl|rfl:=h<;>rfl
theorem NX(bits:Int):0<hB bits/\hB bits<=8388608:=by
 unfold hB;split; · omega
 ·split<;>omega
theorem Q2{bits:Int}(h:Bu bits)(l:List Int32)(hl:l.length<=4000):∀(j i q:Nat),i+j=l.length->j<q->
  Vh (Int32.ofInt (-(hB bits))) (Int32.ofInt (hB bits-1)) l q (i:Int)=Az l (hB bits) q (i:Int)
 |0,i,q+1,hi,_=>by
  rw[Vh,JD,Az,Cu,Aau (by rw[Ae,Ac];simp;omega),Aau (by rw[Ae,Ac];simp;omega)];rfl
 |j+1,i,q+1,hi,hq=>by
  have hh:=NX bits;have ih:=Q2 h l hl j (i+1) q (by omega) (by omega);have e1:(Int32.ofInt (-(hB bits))).toInt= -(hB bits):=by rw[Bes,Bf5 (by show -(4294967296/2:Int)<= _;omega) (by show _<(4294967296+1)/2;omega)]
  have e2:(Int32.ofInt (hB bits-1)).toInt=hB bits-1:=by rw[Bes,Bf5 (by show -(4294967296/2:Int)<= _;omega) (by show _<(4294967296+1)/2;omega)]
  rw[Vh,JD,Az,Cu,Ab3 (by rw[Ae,Ac];simp;omega),Ab3 (by rw[Ae,Ac];simp;omega),g32 (by omega),Aa,Aa,Aa,Gg,zq,Dd (by omega) (by omega),Ak,Abf,Ai8,e1,e2,Ae,Dy];generalize(l.getD i 0).toInt=X;by_cases h1:X< -(hB bits)
  ·rw[Ab3 (by simp;omega),Ab3 (by simp;omega)]
  ·rw[Aau (c:=decide (X<0-hB bits)=true) (by simp;omega)];by_cases h2:hB bits<=X
   ·rw[Ab3 (by simp;omega),Ab3 (by simp;omega)]
   ·rw[Aau (by simp;omega),Aau (by simp;omega)];exact ih
theorem jR{bits:Int}(h:Bu bits)(l:List Int32)(hl:l.length<=4000):Zt bits l=Ay bits l:=by
 have hh:=NX bits;rw[Zt,ZM,Aca h,Aa,Ay,Dq,UO h,Aa];simp only;rw[Aau (by rw[Ag];simp),Aau (by rw[Aq,Ac];simp;omega),Aau (by rw[Ar];simp;omega),Aau (by rw[Aq,Ac];simp;omega)];exact Q2 h l hl l.length 0 Ax (by omega) (by have:=As;omega)
theorem Ahb{bits:Int}(h:Bu bits)(l:List Int32)(hl:l.length<=4000):∃e,Ay bits l=some e:=by
 have hh:=NX bits;have key:∀(j i q:Nat),i+j=l.length->j<q->∃e,Az l (hB bits) q (i:Int)=some e:=by
  intro j
  induction j with
  |zero=>
   intro i q hi hq;obtain⟨q,rfl⟩:∃k,q=k+1:=⟨q-1,by omega⟩;rw[Az,Cu,Aau (by rw[Ae,Ac];simp;omega)];exact⟨_,rfl⟩
  |succ j ih=>
   intro i q hi hq;obtain⟨q,rfl⟩:∃k,q=k+1:=⟨q-1,by omega⟩;rw[Az,Cu,Ab3 (by rw[Ae,Ac];simp;omega),g32 (by omega),Aa,Aa,Ak];split
   ·exact⟨_,rfl⟩
   ·split
    ·exact⟨_,rfl⟩
    ·exact ih (i+1) q (by omega) (by omega)
 obtain⟨e,he⟩:=key l.length 0 Ax (by omega) (by have:=As;omega);rw[Ay,Dq,UO h,Aa,Aau (by rw[Ar];simp;omega),Aau (by rw[Aq,Ac];simp;omega)];exact⟨e,he⟩
theorem xS{bits:Int}{ch:Nat}{t:List Int32}{v:List UInt32}(hb:Bu bits)(ht:t.length=16)(h1:1<=ch)(h6:ch<=6)(hv:v.length<=4000)(hm:v.length %ch=0):
  ∃l e,Uj (ch:Int) bits t v=some l/\Ue (ch:Int) bits l=some (if e≠0 then([],e)else(l,0))/\Xn (ch:Int) bits t v=some (if e≠0 then([],e)else(l,0))/\Ay bits l=some e/\l.length=v.length:=by
 have hlen:=iV bits ch t v;have hul:=kE ch (xW bits ch t v);obtain⟨e,he⟩:=Ahb hb (M5 ch (xW bits ch t v)) (by omega);refine⟨M5 ch (xW bits ch t v),e,xe hb ht h1 h6 hv hm,?_,?_,he,by omega⟩
 ·rw[Ue,he,Aa];by_cases h:e=0
  ·rw[Aau (by rw[Ag];simpa using h),Aau (by simpa using h)]
  ·rw[Ab3 (by rw[Ag];simpa using h),Ab3 h]
 ·rw[Anq hb ht h1 h6 hv,Oq,UF,Avd ch _ h1 h6 (by rw[hlen];exact hm) (by omega),Aa];simp only;rw[Aau (by rw[Ag];simp),jR hb _ (by omega),he,Aa];by_cases h:e=0
  ·rw[Aau (by rw[Ag];simpa using h),Aau (by simpa using h)]
  ·rw[Ab3 (by rw[Ag];simpa using h),Ab3 h]
def GD(s:Nat):Nat:=(s/2)^^^ (if s %2=1 then 3988292384 else 0)
theorem O8{s:Nat}(h:s<4294967296):GD s<4294967296:=by
 unfold GD;exact Bag (n:=32) (by simp;omega) (by split<;>decide)
theorem Afw(x y:Nat):(x^^^y)/2=(x/2)^^^ (y/2):=by
 have:=Nat.shiftRight_xor_distrib (a:=x) (b:=y) (i:=1);simpa [Nat.shiftRight_eq_div_pow]using this
theorem Am1(x y:Nat):GD (x^^^y)=GD x^^^GD y:=by
 have h:(x^^^y) %2=(x %2+y %2) %2:=by
  have:=Nat.xor_mod_two_eq_one (a:=x) (b:=y);have h1:(x^^^y) %2<2:=Bde _ (by omega);omega
 simp only[GD,Afw,h];have hx:x %2=0\/x %2=1:=by omega
 have hy:y %2=0\/y %2=1:=by omega
 rcases hx with hx|hx<;>rcases hy with hy|hy<;>simp only[hx,hy]<;>simp
 ·rw[Az4]
 ·rw[Az4,Bd0 (y/2),Az4,Bd0 3988292384 (y/2)]
 ·rw[Az4,Bd0 3988292384,Az4,Bf4];simp
def Mv:Nat->Nat->Nat
 |0,s=>s
 |k+1,s=>Mv k (GD s)
theorem rR:∀(k x y:Nat),Mv k (x^^^y)=Mv k x^^^Mv k y
 |0,_,_=>rfl
 |k+1,x,y=>by rw[Mv,Am1,rR k];rfl
theorem qT:∀(k h:Nat),Mv k (2^k*h)=h
 |0,h=>by simp[Mv]
 |k+1,h=>by
  have:GD (2^(k+1)*h)=2^k*h:=by
   rw[Ayo,Ape (2^k) 2,Bb7,GD,Aau (by omega),Nat.mul_div_cancel_left _ (by omega)];simp
  rw[Mv,this,qT k]
theorem O5:∀(k:Nat) {s:Nat},s<4294967296->Mv k s<4294967296
 |0,_,h=>h
 |k+1,_,h=>O5 k (O8 h)
def oH(s c:Nat):Nat:=Mv 8 (s^^^c)
theorem ja{s c:Nat}(h:s<4294967296)(hc:c<256):oH s c<4294967296:=O5 8 (Bag (n:=32) (by simpa using h) (by simp;omega))
theorem Afc{s c:Nat}(hc:c<256):oH s c=(s/256)^^^Mv 8 ((s %256)^^^c):=by
 have h:s=(2^8*(s/256))^^^ (s %256):=by
  have h1:s %256<2^8:=by simpa using Bde s (by omega:256>0)
  have:=Bbb h1 (s/256);have h2:2^8*(s/256)|||s %256=(2^8*(s/256))^^^ (s %256):=by
   apply Bdl;intro i;rw[Nat.testBit_or,Be7];by_cases hi:i<8
   ·have:(2^8*(s/256)).testBit i=false:=by rw[Bfa];simp;omega
    rw[this];simp
   ·have:(s %256).testBit i=false:=Bci (Ai7 h1 (Afq (by omega) (by omega)));rw[this];simp
  omega
 rw[oH]
 conv=>lhs;rw[h]
 rw[Az4,rR,qT]
def TL(s:Nat)(l:List UInt8):Nat:=l.foldl (λs c=>oH s c.toNat) s
def Dn(b:List UInt8):UInt32:=4294967295-UInt32.ofNat (TL 4294967295 b)
theorem Axy(s:UInt32)(c:Nat)(hc:c<256):IM s (Af (GR (UInt8.ofNat c) (2:UInt8)):Int)=some (UInt32.ofNat (s.toNat/2^^^ (if(s.toNat^^^c) %2=1 then 3988292384 else 0))):=by
 have h1:(Af (GR (UInt8.ofNat c) (2:UInt8)):Int)=((c %2:Nat):Int):=by
  rw[VW,Av1,UInt8.toNat_mod,Apd];show((c %256 %2:Nat):Int)=_;omega
 have h2:geq (GR s (2:UInt32)) (1:UInt32)=decide (s.toNat %2=1):=by
  rw[Aat,Adu,Ajf];simp only[Aug,Acj];rw[<-UInt32.toNat_inj,UInt32.toNat_mod];rfl
 have h3:Db s (2:UInt32)=UInt32.ofNat (s.toNat/2):=by
  apply UInt32.toNat_inj.1;rw[Afx,UInt32.toNat_div,Ajz]
  show s.toNat/2=_;have:=s.toNat_lt;omega
 have h4:Zn (Db s (2:UInt32)) (3988292384:UInt32)=UInt32.ofNat (s.toNat/2^^^3988292384):=by
  apply UInt32.toNat_inj.1;rw[h3,gE,Bfv,Ajz,Ajz];have:=s.toNat_lt;rw[Ack (a:=s.toNat/2) (by omega),Ack]
  ·rfl
  ·exact Bag (n:=32) (by omega) (by decide)
 have hx:(s.toNat^^^c) %2=(s.toNat %2+c %2) %2:=by
  have:=Nat.xor_mod_two_eq_one (a:=s.toNat) (b:=c);have h1:(s.toNat^^^c) %2<2:=Bde _ (by omega);omega
 have hs:s.toNat %2=0\/s.toNat %2=1:=by omega
 have hc2:c %2=0\/c %2=1:=by omega
 rw[IM,RQ,h1,h2,hx];rcases hs with hs|hs<;>rcases hc2 with hc2|hc2<;>simp[hs,hc2,Ar,QS,RZ,gE,h3]
theorem H5:∀(j i q:Nat) (s:UInt32) (c:Nat),i+j=8->j<q->c<2^j->Nh q s (UInt8.ofNat c) (i:Int)=some (UInt32.ofNat (Mv j (s.toNat^^^c)))
 |0,i,q+1,s,c,hi,_,hc=>by
  obtain rfl:i=8:=by omega
  obtain rfl:c=0:=by simpa using hc
  rw[Nh,AO,Aau (by rw[Ae];simp),RY,RV,Mv];simp
 |j+1,i,q+1,s,c,hi,hq,hc=>by
  have hc8:c<256:=Ai7 hc (show 2^(j+1)<=2^8 from Afq (by omega) (by omega));rw[Nh,AO,Ab3 (by rw[Ae];simp;omega),Axy s c hc8,Aa,Ak];have e:Db (UInt8.ofNat c) (2:UInt8)=UInt8.ofNat (c/2):=by
   apply UInt8.toNat_inj.1;rw[Au0,UInt8.toNat_div,Apd,Apd]
   show c %256/2=_;omega
  rw[e];have h:=H5 j (i+1) q (UInt32.ofNat (s.toNat/2^^^ (if(s.toNat^^^c) %2=1 then 3988292384 else 0))) (c/2) (by omega) (by omega) (by rw[Ayo]at hc;omega);rw[show((i:Int)+1)=((i+1:Nat):Int) by omega,h,Ajz,Mv];congr 3;have:=s.toNat_lt;rw[Ack,GD,Afw,Az4,Az4,Bd0 (c/2)];exact Bag (n:=32) (by omega) (by split<;>decide)
theorem Axg(s:UInt32)(c:UInt8):bQ s c=some (UInt32.ofNat (oH s.toNat c.toNat)):=by
 have h:=H5 8 0 Ax s c.toNat (by omega) (by have:=As;omega) (by simpa using c.toNat_lt);rw[UInt8.ofNat_toNat]at h;exact h
theorem tI(b:List UInt8)(hb:b.length<4611686018427387904):∀(j i q:Nat) (s:UInt32),i+j=b.length->j<q->La b q s (i:Int)=some (UInt32.ofNat (TL s.toNat (b.drop i)))
 |0,i,q+1,s,hi,_=>by
  rw[La,Xf,Aau (by rw[Ae,Ac];simp;omega),show i=b.length by omega,Bdz];simp[KD,KU,TL]
 |j+1,i,q+1,s,hi,hq=>by
  have hlt:i<b.length:=by omega
  rw[La,Xf,Ab3 (by rw[Ae,Ac];simp;omega),Bn hlt,Aa,Axg,Aa,Ak];have h:=tI b hb j (i+1) q (UInt32.ofNat (oH s.toNat b[i].toNat)) (by omega) (by omega);rw[show((i:Int)+1)=((i+1:Nat):Int) by omega,h,drop_cons hlt,Ajz,Ack (ja s.toNat_lt b[i].toNat_lt)];rfl
theorem As1(b:List UInt8)(hb:b.length<4611686018427387904):Xo b=some (Dn b):=by
 have h:=tI b hb b.length 0 Ax 4294967295 (by omega) (by have:=As;omega);rw[Xo,UM,JL,KA,show((0:Int))=((0:Nat):Int)from rfl,h,Aa,X8];rfl
theorem Axz(c:UInt32):Zn (Ct c (GI.toZ (1:UInt64)).toNat) (Br (3988292384:UInt32) (Ey c (1:UInt32)))=UInt32.ofNat (GD c.toNat):=by
 apply UInt32.toNat_inj.1;have e:(GI.toZ (1:UInt64)).toNat=1:=rfl;have h1:(Ct c 1).toNat=c.toNat/2:=by rw[PY]
 have h2:(Br (3988292384:UInt32) (Ey c (1:UInt32))).toNat=if c.toNat %2=1 then 3988292384 else 0:=by
  rw[Aqx,Q5,UInt32.toNat_mul,UInt32.toNat_and]
  show 3988292384*(c.toNat&&&1) %4294967296=_;rw[Nat.and_one_is_mod];have:c.toNat %2=0\/c.toNat %2=1:=by omega
  rcases this with h|h<;>simp[h]
 rw[e,gE,Bfv,h1,h2,Ajz,Ack (O8 c.toNat_lt)];rfl
theorem Ac2(Qg:Int->List UInt32->Option (UInt32×Int))(s:UInt32)(b:List UInt8)(x:Int)(t:List UInt32):∀(j i q:Nat) (c:UInt32),i+j=8->j<q->
  Uv Qg s b x t q c (i:Int)=KZ Qg s b x (UInt32.ofNat (Mv j c.toNat)) t
 |0,i,q+1,c,hi,_=>by
  obtain rfl:i=8:=by omega
  rw[Uv,KL,Aau (by rw[Ae];simp),Mv,UInt32.ofNat_toNat]
 |j+1,i,q+1,c,hi,hq=>by
  rw[Uv,KL,Ab3 (by rw[Ae];simp;omega),Axz,Ak,show((i:Int)+1)=((i+1:Nat):Int) by omega,Ac2 Qg s b x t j (i+1) q _ (by omega) (by omega),Ajz,Ack (O8 c.toNat_lt)];rfl
def tbl(n:Nat):List UInt32:=(List.range n).map λi=>UInt32.ofNat (Mv 8 i)
theorem Ajk(s:UInt32)(b:List UInt8):∀(j i q:Nat),i+j=256->j<q->Ql s b q (i:Int) (tbl i++List.replicate j 0)=IP s b (tbl 256)
 |0,i,q+1,hi,_=>by
  obtain rfl:i=256:=by omega
  rw[Ql,JG,Aau (by rw[Ae];simp)];simp
 |j+1,i,q+1,hi,hq=>by
  have hlen:(tbl i++List.replicate (j+1) 0).length=i+(j+1):=by simp[tbl]
  rw[Ql,JG,Ab3 (by rw[Ae];simp;omega),YN];have h:=Ac2 (Ql s b q) s b (i:Int) (tbl i++List.replicate (j+1) 0) 8 0 Ax (Af (i:Int)) (by omega) (by have:=As;omega);rw[show((0:Int))=((0:Nat):Int)from rfl,h,KZ,ZV,Bn (by rw[hlen];omega),Aa,Uq _ (by rw[hlen];omega),Aa,XT,nU,Ak];have e:(Af (i:Int):UInt32).toNat=i:=by rw[yu,Ajz,Ack (by omega)]
  rw[e,Bbk,jF (by simp[tbl])];have h2:=Ajk s b j (i+1) q (by omega) (by omega);have h3:tbl (i+1)=tbl i++[UInt32.ofNat (Mv 8 i)]:=by simp[tbl,List.range_succ]
  rw[h3]at h2;rw[show((i:Int)+1)=((i+1:Nat):Int) by omega,<-h2];simp
theorem Aws{i:Nat}(h:i<256):Ao (tbl 256) (i:Int)=some (UInt32.ofNat (Mv 8 i)):=by
 rw[Bn (by simpa [tbl]using h)];simp[tbl]
theorem As5(s:UInt32)(c:UInt8):Ao (tbl 256) (GI.toZ (Zn (Af s:UInt8) c))=some (UInt32.ofNat (Mv 8 ((s.toNat %256)^^^c.toNat))):=by
 have e:GI.toZ (Zn (Af s:UInt8) c)=(((s.toNat %256)^^^c.toNat:Nat):Int):=by
  rw[EJ,Aa7,UInt8.toNat_xor,uR,Apd]
 rw[e,Aws];exact Bag (n:=8) (by simp;omega) (by simpa using c.toNat_lt)
theorem Ao5(s:UInt32)(c:UInt8):Zn (Ct s (GI.toZ (8:UInt64)).toNat) (UInt32.ofNat (Mv 8 ((s.toNat %256)^^^c.toNat)))=UInt32.ofNat (oH s.toNat c.toNat):=by
 apply UInt32.toNat_inj.1;have hlt:Mv 8 ((s.toNat %256)^^^c.toNat)<4294967296:=O5 8 (Bag (n:=32) (by simp;omega) (by have:=c.toNat_lt;simp;omega));have e:(GI.toZ (8:UInt64)).toNat=8:=rfl;rw[e,gE,Bfv,PY,Ajz,Ajz,Ack hlt,Ack (ja s.toNat_lt c.toNat_lt),Afc c.toNat_lt]
theorem Afe(b:List UInt8)(hb:b.length<4611686018427387904):∀(j i q:Nat) (s:UInt32),i+j=b.length->j<q->Vp b (tbl 256) q s (i:Int)=some (UInt32.ofNat (TL s.toNat (b.drop i)),0)
 |0,i,q+1,s,hi,_=>by
  rw[Vp,JO,Aau (by rw[Ae,Ac];simp;omega),show i=b.length by omega,Bdz];simp[ZE,nK,TL]
 |j+1,i,q+1,s,hi,hq=>by
  have hlt:i<b.length:=by omega
  rw[Vp,JO,Ab3 (by rw[Ae,Ac];simp;omega),Bn hlt,Aa,As5,Aa,Aa,Ao5,Ak];have h:=Afe b hb j (i+1) q (UInt32.ofNat (oH s.toNat b[i].toNat)) (by omega) (by omega);rw[show((i:Int)+1)=((i+1:Nat):Int) by omega,h,drop_cons hlt,Ajz,Ack (ja s.toNat_lt b[i].toNat_lt)];rfl
theorem Aw9(s:UInt32)(b:List UInt8)(hb:b.length<=100000):jD s b=some (UInt32.ofNat (TL s.toNat b),0):=by
 have h:=Ajk s b 256 0 Ax (by omega) (by have:=As;omega);have h2:=Afe b (by omega) b.length 0 Ax s (by omega) (by have:=As;omega);rw[jD,dS,Aau (by rw[Aq,Ac];simp;omega),ZC];refine Bcq h ?_;rw[IP,ZT,XX,YM,YB];exact h2
theorem Asd(a:UInt32):jh a=4294967295-a:=by
 have h:=a.toNat_lt;have e:jh a=UInt32.ofNat (BitVec.ofInt 32 4294967295^^^BitVec.ofInt 32 (a.toNat:Int)).toNat:=Gk _;apply UInt32.toNat_inj.1;rw[e,Ajz,Bfy _ _ (by rw[Bfz];show a.toNat<=4294967295;omega)];have h1:BitVec.ofInt 32 (a.toNat:Int)=a.toBitVec:=Abz a;have h2:(BitVec.ofInt 32 4294967295:BitVec 32)=BitVec.allOnes 32:=by decide
 rw[h1,h2,BitVec.allOnes_xor,BitVec.toNat_not];show(4294967296-1-a.toNat) %4294967296=4294967295-a.toNat;omega
theorem C0(b:List UInt8)(hb:b.length<=100000):BR b=some (Dn b,0):=by
 rw[BR,Aw9 _ _ hb,Aa];simp only[Ag,Asd];rfl
theorem M1:∀{l m:List UInt8},l.length=m.length->Df l=Df m->l=m
 |[],[],_,_=>rfl
 |x::l,y::m,h,e=>by
  simp only[Df]at e;have hx:=x.toNat_lt;have hy:=y.toNat_lt;have h1:x=y:=UInt8.toNat_inj.1 (by omega);rw[h1,M1 (l:=l) (m:=m) (by simpa using h) (by omega)]
theorem Yz:∀(w n:Nat),Df (Rc n w)=n %256^w
 |0,n=>by simp[Rc,Df,Nat.mod_one]
 |w+1,n=>by
  rw[Rc,Df,Yz w (n/256),Apd,show(256:Nat)^(w+1)=256*256^w by rw[Ayo,Ape],Nat.mod_mul]
def Nt(b:List UInt8):Int:=
 if b.length<5 then 24 else if 41254<b.length then 4 else if(Dn (b.take (b.length-4))).toNat≠Df (b.drop (b.length-4))then 22 else 0
theorem Ac7(b:List UInt8):KT b=some (if Nt b≠0 then([],Nt b)else(b.take (b.length-4),0)):=by
 rw[KT];by_cases h1:b.length<5
 ·have hS:Nt b=24:=by rw[Nt,Ab3 h1]
  rw[Ab3 (by rw[Ae,Ac];simp;omega),hS];rfl
 rw[Aau (by rw[Ae,Ac];simp;omega)];by_cases h2:41254<b.length
 ·have hS:Nt b=4:=by rw[Nt,Aau h1,Ab3 h2]
  rw[Ab3 (by rw[Aq,Ac];simp;omega),hS];rfl
 have e4:Ap (Ac b) 4=((b.length-4:Nat):Int):=by rw[Ac,Bs];omega
 have hd:(b.drop (b.length-4)).length=4:=by simp;omega
 rw[Aau (by rw[Aq,Ac];simp;omega),e4,Dg,Aa,show((b.length-4:Nat):Int).toNat=b.length-4 from rfl,C0 _ (by simp;omega),Aa];simp only;rw[Aau (by rw[Ag];simp),Bl,Aa,show((b.length-4:Nat):Int).toNat=b.length-4 from rfl,Agd _ (by omega) (by omega),Aa];have hne:Be (sV (b.drop (b.length-4))) (Af (Dn (b.take (b.length-4))):UInt64)=decide ((Dn (b.take (b.length-4))).toNat≠Df (b.drop (b.length-4))):=by
  have hlt:=(Dn (b.take (b.length-4))).toNat_lt;rw[VQ,Ajf];simp only[Bfp,ne_eq,<-Be9,Acj];rw[cJ (by omega),Dw,Ag1,Ack (by omega)];exact⟨λh e=>h e.symm,λh e=>h e.symm⟩
 simp only;rw[hne,Aa];by_cases h3:(Dn (b.take (b.length-4))).toNat≠Df (b.drop (b.length-4))
 ·have hS:Nt b=22:=by rw[Nt,Aau h1,Aau h2,Ab3 h3]
  rw[Ab3 (by simp[h3]),hS];rfl
 ·have hS:Nt b=0:=by rw[Nt,Aau h1,Aau h2,Aau h3]
  rw[Aau (by rw[Ayn h3];decide),hS];rfl
theorem Aog(b:List UInt8)(hb:b.length<=1000000):CP b=some (b++Rc (Dn b).toNat 4):=by
 have h:∀k:Nat,(Af (Ct (Dn b) k):UInt8)=UInt8.ofNat ((Dn b).toNat/2^k):=by
  intro k;rw[uR,PY]
 have h0:(Af (Dn b):UInt8)=UInt8.ofNat (Dn b).toNat:=uR _;have h1:=h 8;have h2:=h 16;have h3:=h 24;rw[CP,As1 b (by omega),Aa,Bw (by simp;omega),Aa,Bw (by simp;omega),Aa,h0,show(GI.toZ (8:UInt64)).toNat=8 from rfl,show(GI.toZ (16:UInt64)).toNat=16 from rfl,show(GI.toZ (24:UInt64)).toNat=24 from rfl,h1,h2,h3];simp only[Rc,Bdt,Auc]
theorem jJ(b:List UInt8):Um b=some (Nt b):=by
 rw[Um];by_cases h1:b.length<5
 ·rw[Ab3 (by rw[Ae,Ac];simp;omega),Nt,Ab3 h1]
 rw[Aau (by rw[Ae,Ac];simp;omega)];by_cases h2:41254<b.length
 ·rw[Ab3 (by rw[Aq,Ac];simp;omega),Nt,Aau h1,Ab3 h2]
 have e4:Ap (Ac b) 4=((b.length-4:Nat):Int):=by rw[Ac,Bs];omega
 have hd:(b.drop (b.length-4)).length=4:=by simp;omega
 rw[Aau (by rw[Aq,Ac];simp;omega),e4,Dg,Aa,show((b.length-4:Nat):Int).toNat=b.length-4 from rfl,Aog _ (by simp;omega),Aa];have hlt:=(Dn (b.take (b.length-4))).toNat_lt;have hiff:(b.take (b.length-4)++Rc (Dn (b.take (b.length-4))).toNat 4 !=b)=decide ((Dn (b.take (b.length-4))).toNat≠Df (b.drop (b.length-4))):=by
  rw[Ajf];simp only[Bfp,ne_eq,Acj];constructor
  ·intro h e;apply h;have:Rc (Dn (b.take (b.length-4))).toNat 4=b.drop (b.length-4):=M1 (by rw[Ca,hd]) (by rw[Yz,Ack (by omega),e]);rw[this,Aph]
  ·intro h e;apply h;have hx:Rc (Dn (b.take (b.length-4))).toNat 4=b.drop (b.length-4):=by
    have e2:b.take (b.length-4)++Rc (Dn (b.take (b.length-4))).toNat 4=b.take (b.length-4)++b.drop (b.length-4):=by rw[e,Aph]
    exact List.append_cancel_left e2
   rw[<-hx,Yz,Ack (by omega)]
 rw[hiff];by_cases h3:(Dn (b.take (b.length-4))).toNat≠Df (b.drop (b.length-4))
 ·rw[Ab3 (by simp[h3]),Nt,Aau h1,Aau h2,Ab3 h3]
 ·rw[Aau (by rw[Ayn h3];decide),Nt,Aau h1,Aau h2,Aau h3]
theorem S2{b:List UInt8}(h:Nt b=0):5<=b.length/\b.length<=41254:=by
 unfold Nt at h;split at h
 ·simp at h
 ·split at h
  ·simp at h
  ·omega
theorem yR{c:Nat}(h1:1<=c)(h6:c<=6):Db (4000:Int) (c:Int)=((4000/c:Nat):Int):=by
 have:c=1\/c=2\/c=3\/c=4\/c=5\/c=6:=by omega
 rcases this with rfl|rfl|rfl|rfl|rfl|rfl<;>rfl
theorem Avh(p:List UInt8)(h:p.length<=41250):okB p (8*p.length):=⟨by omega,by omega,λk h1 h2=>by omega⟩
theorem Wd{bits:Int}{ch n:Nat}{t:List Int32}(b:List UInt8)(hb:Bu bits)(ht:t.length=16)(h1:1<=ch)(h6:ch<=6)(n1:1<=n)(n2:n<=4000/ch):
  ∃l e,Hi (ch:Int) bits t (n:Int) b=some (l,e)/\Cm (ch:Int) bits t (n:Int) b=some (l,e)/\ (e=0->Ay bits l=some 0/\l.length<=4000/\l.length=n*ch)/\ (e≠0->l=[]):=by
 have hn:n*ch<=4000:=by
  have:=Agu ch n2;have h2:=Bbl 4000 ch;omega
 have hq4:=yR h1 h6;generalize 4000/ch=mm at*
 have hck:Ht (ch:Int) bits=some 0:=by
  have hr:∃x y,Wf bits=some (x,y,0):=⟨_,_,Aca hb⟩;obtain⟨x,y,hr⟩:=hr;rw[Ht,hr,Aa];simp only;rw[Aau (by simp[Ag,Ae,Aq];omega)]
 have hh:=NX bits;have vX:Dh (ch:Int) bits (n:Int)=some 0:=by
  rw[Dh,Di,Aau (by simp[Ae,Aq];omega),UO hb,Aa,Aau (by rw[Ar];simp;omega),Aa,Aau (by simp[Ag,Ae];omega),Bt (by rw[Ag];simp;omega),Aa,hq4,Aau (by rw[Aq];simp;omega)]
 rw[Hi,Cm,Kg,hck,vX,Aa,Aa,Aau (by rw[Ag];simp),Aau (by rw[Ae];simp;omega),Bt (by rw[Ag];simp;omega),Aa,hq4,Aau (by rw[Aq];simp;omega),Aau (by rw[Ag];simp),Ac7,jJ];by_cases hs:Nt b≠0
 ·rw[Ab3 hs];simp only[Aa];rw[Ab3 (by rw[Ag];simpa using hs),Ab3 (by rw[Ag];simpa using hs)];exact⟨[],Nt b,rfl,rfl,λe=>absurd e hs,λ_=>rfl⟩
 have hs0:Nt b=0:=by simpa using hs
 have hlen:=S2 hs0;have e4:Ap (Ac b) 4=((b.length-4:Nat):Int):=by rw[Ac,Bs];omega
 rw[Aau hs,hs0];simp only[Aa];rw[Aau (by rw[Ag];simp),Aau (by rw[Ag];simp),e4,Dg,Aa,show((b.length-4:Nat):Int).toNat=b.length-4 from rfl];have hpl:(b.take (b.length-4)).length=b.length-4:=by simp
 generalize b.take (b.length-4)=p at*
 have e8:Br (8:Int) (Ac p)=((8*p.length:Nat):Int):=by rw[Ac,Ii];omega
 have hp:=Avh p (by omega);have hv:=values_eq hp h1 h6 hn;have hr:=Aba (N:=8*p.length) (p:=p) rfl (by omega) h1 h6 hn;have hat:=M6 (ch:=ch) (p:=p) (N:=8*p.length) (n*ch) 0 [] (by omega);rw[Abi,Aau (by rw[Aq,Ac];simp;omega),Fv,Bw (by simp;omega),Aa,Aa,Aa,Auc,e8];simp only;rw[Aau (by rw[Ag];simp),hv,hr,Aa,Aa];generalize Xp ch p (8*p.length) (n*ch) 0 []=V at*
 obtain⟨v,at',e⟩:=V;simp only at*
 by_cases he:e≠0
 ·rw[Ab3 he,Ab3 he];simp only;rw[Ab3 (by rw[Ag];simpa using he),Hx,Hw,Ab3 (by rw[Ag];simpa using he)];exact⟨[],e,rfl,rfl,λh=>absurd h he,λ_=>rfl⟩
 have he0:e=0:=by simpa using he
 have hvl:=hat.2.2 he0;simp only[List.length_nil,Azm]at hvl;rw[Aau he,Aau he];simp only;rw[Aau (by rw[Ag];simp),Bs,show((8*p.length:Nat):Int)-(at':Int)=((8*p.length-at':Nat):Int) by omega,Hx,Hw];by_cases h7:7<8*p.length-at'
 ·have hE:(if 7<8*p.length-at'\/Cg p at' (8*p.length-at')≠0 then(12:Int)else 0)=12:=Ab3 (.inl h7);rw[Ab3 (by rw[Dy];simp;omega),hE,Ab3 (by decide)];exact⟨[],12,rfl,rfl,λh=>absurd h (by decide),λ_=>rfl⟩
 rw[Aau (by rw[Dy];simp;omega),B4 hp at' _ (by omega),Aau (by omega),Aa];have hz:Be (Ro p at' (8*p.length-at')) (0:UInt64)=decide (Cg p at' (8*p.length-at')≠0):=by
  rw[VQ,Ajf];simp only[Bfp,ne_eq,<-Be9,Acj];rw[Zx p _ _ (by omega)];rfl
 simp only;rw[hz];by_cases hv0:Cg p at' (8*p.length-at')≠0
 ·have hE:(if 7<8*p.length-at'\/Cg p at' (8*p.length-at')≠0 then(12:Int)else 0)=12:=Ab3 (.inr hv0);rw[Ab3 (by simp[hv0]),hE,Ab3 (by decide)];exact⟨[],12,rfl,rfl,λh=>absurd h (by decide),λ_=>rfl⟩
 have hm:v.length %ch=0:=by rw[hvl];exact Bdi n ch
 obtain⟨l,e,g1,g2,g3,g4,g5⟩:=xS (v:=v) hb ht h1 h6 (by omega) hm;have hE:(if 7<8*p.length-at'\/Cg p at' (8*p.length-at')≠0 then(12:Int)else 0)=0:=Aau (by omega);rw[Aau (by rw[Ayn hv0];decide),hE,Aau (by decide),g1,g3,Aa,Aa,g2];by_cases hl:e≠0
 ·rw[Ab3 hl];exact⟨[],e,rfl,rfl,λh=>absurd h hl,λ_=>rfl⟩
 ·rw[Aau hl];have hl0:e=0:=by simpa using hl
  exact⟨l,0,rfl,rfl,λ_=>⟨by rw[g4,hl0],by omega,by omega⟩,λe=>absurd rfl e⟩
theorem Aqu(a b:Int32):a-(a-b)=b:=by
 apply Int32.toBitVec_inj.1;simp only[Int32.toBitVec_sub];apply Be6;simp only[BitVec.toNat_sub];have:=a.toBitVec.isLt;have:=b.toBitVec.isLt;omega
theorem bU(a b:Int32):a-b+b=a:=by
 apply Int32.toBitVec_inj.1;simp only[Int32.toBitVec_sub,Int32.toBitVec_add];apply Be6;simp only[BitVec.toNat_sub,BitVec.toNat_add];have:=a.toBitVec.isLt;have:=b.toBitVec.isLt;omega
def mxV(f:Nat->Int32)(ch i:Nat):Int32:=if i+1<ch then f (i+1)-f i else if 1<ch then f (ch-1)-Db (f (ch-1)-f (ch-2)) (2:Int32)else f (ch-1)
theorem Aqk{f g:Nat->Int32}{ch:Nat}(h1:1<=ch)(h:∀i,i<ch->f i=mxV g ch i):∀j,j<ch->unV f ch j=g (ch-1-j)
 |0,_=>by
  rw[unV];by_cases h2:1<ch
  ·rw[Ab3 h2,h (ch-1) (by omega),h (ch-2) (by omega),mxV,mxV,Aau (by omega),Ab3 h2,Ab3 (by omega),show ch-2+1=ch-1 by omega,bU,Nat.sub_zero]
  ·rw[Aau h2,h (ch-1) (by omega),mxV,Aau (by omega),Aau h2,Nat.sub_zero]
 |j+1,hj=>by
  rw[unV,Aqk h1 h j (by omega),h (ch-2-j) (by omega),mxV,Ab3 (by omega),show ch-2-j+1=ch-1-j by omega,Aqu];congr 1;omega
def mx(ch:Nat)(x:List Int32):List Int32:=(List.range x.length).map λk=>mxV (λi=>x.getD (k-k %ch+i) 0) ch (k %ch)
theorem XR(ch:Nat)(x:List Int32):(mx ch x).length=x.length:=by simp[mx]
theorem Ast{ch:Nat}{x:List Int32}{k:Nat}(h:k<x.length):(mx ch x).getD k 0=mxV (λi=>x.getD (k-k %ch+i) 0) ch (k %ch):=by
 rw[Kb (by rw[XR];exact h)];simp[mx]
theorem Baq{ch:Nat}{x:List Int32}(h1:1<=ch)(hm:x.length %ch=0):M5 ch (mx ch x)=x:=by
 apply Bae (by rw[kE,XR]);intro k hk1 hk2;have hr:=Bde k (show 0<ch by omega);have hle:=Nat.mod_le k ch;have ha:(k-k %ch) %ch=0:=Nat.mod_eq_zero_of_dvd (Nat.dvd_sub_mod k);have hb:=yD ha hm (by omega);have e:=yF (m:=mx ch x) ha hr (by rw[XR];omega);rw[show k-k %ch+k %ch=k by omega]at e;rw[<-Kb hk1,<-Kb hk2,e];rw[Aqk (g:=λi=>x.getD (k-k %ch+i) 0) h1 (λi hi=>?_) (ch-1-k %ch) (by omega)]
 ·congr 1;omega
 ·rw[Ast (by omega)];have h2:(k-k %ch+i) %ch=i:=by rw[Nat.add_mod,ha,Azm,Nat.mod_mod,Ack hi]
  rw[h2,show k-k %ch+i-i=k-k %ch by omega]
def qD(x:Int32):UInt32:=UInt32.ofNat (if 0<=x.toInt then 2*x.toInt.toNat else 2*(-x.toInt-1).toNat+1)
theorem Ar3(x:Int32):XK (qD x)=x:=by
 have h:=CM x;have e:(qD x).toNat=if 0<=x.toInt then 2*x.toInt.toNat else 2*(-x.toInt-1).toNat+1:=by
  rw[qD,Ajz];split<;>exact Ack (by omega)
 rw[XK,e];by_cases h0:0<=x.toInt
 ·rw[Ab3 h0,Ab3 (by omega),show((2*x.toInt.toNat/2:Nat):Int)=x.toInt by omega,Ba8]
 ·rw[Aau h0,Aau (by omega),show -(((2*(-x.toInt-1).toNat+1)/2:Nat):Int)-1=x.toInt by omega,Ba8]
theorem xy{α:Type}(ch c:Nat)(f g:α->Nat->α)(a0:α):∀m:Nat,(∀i,i<m->∀a,f a i=g a i)->pre ch c f a0 m=pre ch c g a0 m
 |0,_=>rfl
 |m+1,h=>by
  rw[pre,pre,xy ch c f g a0 m λi hi=>h i (by omega),h m (by omega)]
theorem All(bits:Int)(ch:Nat)(t:List Int32)(v w:List UInt32)(c i:Nat)(h:i<=v.length):cst bits ch t (v++w) c i=cst bits ch t v c i:=by
 unfold cst;apply xy;intro j hj a;have:(v++w).getD j 0=v.getD j 0:=by
  rw[List.getD_eq_getElem?_getD,List.getD_eq_getElem?_getD,List.getElem?_append_left (by omega)]
 rw[this]
def K4(bits:Int)(s:CS)(x:Int32):Int32:=x-gs (shB bits) s.1-gF (sB bits) s.2.1 s.2.2
theorem xc(bits:Int)(s:CS)(x:Int32):Ac4 bits s (K4 bits s x)=x:=by
 rw[Ac4,K4,bU,bU]
def evl(bits:Int)(ch:Nat)(t m:List Int32):Nat->List UInt32
 |0=>[]
 |i+1=>evl bits ch t m i++[qD (K4 bits (cst bits ch t (evl bits ch t m i) (i %ch) i) (m.getD i 0))]
theorem qW(bits:Int)(ch:Nat)(t m:List Int32):∀i,(evl bits ch t m i).length=i
 |0=>rfl
 |i+1=>by rw[evl,Aci,qW bits ch t m i];rfl
theorem Abj(bits:Int)(ch:Nat)(t m:List Int32):∀(j i:Nat),∃w,evl bits ch t m (i+j)=evl bits ch t m i++w
 |0,i=>⟨[],by simp⟩
 |j+1,i=>by
  obtain⟨w,hw⟩:=Abj bits ch t m j i;rw[<-Azx,evl,hw];exact⟨_,Aej _ _ _⟩
theorem Avl(bits:Int)(ch:Nat)(t m:List Int32):xW bits ch t (evl bits ch t m m.length)=m:=by
 have hl:=qW bits ch t m m.length;apply Bae (by rw[iV,hl]);intro i h1 h2;rw[<-Kb h1,<-Kb h2,Aay _ _ _ _ (by omega)];obtain⟨w,hw⟩:=Abj bits ch t m (m.length-(i+1)) (i+1);rw[show i+1+(m.length-(i+1))=m.length by omega,evl,Aej]at hw;have hli:=qW bits ch t m i;rw[hw,All _ _ _ _ _ _ _ (by omega)];have hg:(evl bits ch t m i++([qD (K4 bits (cst bits ch t (evl bits ch t m i) (i %ch) i) (m.getD i 0))]++w)).getD i 0=qD (K4 bits (cst bits ch t (evl bits ch t m i) (i %ch) i) (m.getD i 0)):=by
  rw[List.getD_eq_getElem?_getD,List.getElem?_append_right (by omega),hli,Nat.sub_self];rfl
 rw[hg,Ar3,xc]
def tb(l:List Bool)(k:Nat):Nat:=if l.getD k false=true then 1 else 0
theorem Alw(b:Bool)(l:List Bool):tb (b::l) 0=if b=true then 1 else 0:=rfl
theorem Alq(b:Bool)(l:List Bool)(k:Nat):tb (b::l) (k+1)=tb l k:=by simp[tb]
theorem Al0{a b:List Bool}{k:Nat}(h:k<a.length):tb (a++b) k=tb a k:=by
 rw[tb,tb,List.getD_eq_getElem?_getD,List.getD_eq_getElem?_getD,List.getElem?_append_left h]
theorem Aaj(a b:List Bool)(k:Nat):tb (a++b) (a.length+k)=tb b k:=by
 rw[tb,tb,List.getD_eq_getElem?_getD,List.getD_eq_getElem?_getD,List.getElem?_append_right (by omega),Bba]
theorem Ab5{l:List Bool}{k:Nat}(h:l.length<=k):tb l k=0:=by
 rw[tb,List.getD_eq_getElem?_getD,List.getElem?_eq_none h];rfl
def At(p:List UInt8)(a:Nat)(c:List Bool):Prop:=∀i,i<c.length->Hu p (a+i)=tb c i
theorem At.left{p:List UInt8}{a:Nat}{c d:List Bool}(h:At p a (c++d)):At p a c:=λi hi=>by
 rw[h i (by rw[Aci];omega),Al0 hi]
theorem At.right{p:List UInt8}{a:Nat}{c d:List Bool}(h:At p a (c++d)):At p (a+c.length) d:=λi hi=>by
 rw[Azx,h (c.length+i) (by rw[Aci];omega),Aaj]
theorem At.cons{p:List UInt8}{a:Nat}{b:Bool}{c:List Bool}(h:At p a (b::c)):Hu p a=(if b=true then 1 else 0)/\At p (a+1) c:=by
 have h0:=h 0 (by simp);rw[Bcz,Alw]at h0;refine⟨h0,λi hi=>?_⟩;have:=h (i+1) (by simp;omega);rw[Alq]at this;rw[show a+1+i=a+(i+1) by omega,this]
def lA:Nat->Nat->List Bool
 |_,0=>[]
 |v,n+1=>decide (v %2=1)::lA (v/2) n
theorem Va:∀(v n:Nat),(lA v n).length=n
 |_,0=>rfl
 |v,n+1=>by rw[lA,Akt,Va (v/2) n]
theorem OU(p:List UInt8):∀(n a v:Nat),At p a (lA v n)->Cg p a n=v %2^n
 |0,a,v,_=>by rw[Cg,Nat.pow_zero,Nat.mod_one]
 |n+1,a,v,h=>by
  rw[lA]at h;obtain⟨h0,h1⟩:=h.cons;rw[Cg,h0,OU p n (a+1) (v/2) h1,Ayo,Ape (2^n) 2,Nat.mod_mul];have:=Bff v;rcases this with e|e<;>simp[e]
theorem Z4(p:List UInt8):∀(q m a:Nat) (c:List Bool),At p a (List.replicate q true++c)->q<=m->Ha p a m=q+Ha p (a+q) (m-q)
 |0,m,a,c,h,hm=>by simp
 |q+1,m,a,c,h,hm=>by
  rw[Bbk,Bdv]at h;obtain⟨h0,h1⟩:=h.cons;obtain⟨m,rfl⟩:∃k,m=k+1:=⟨m-1,by omega⟩;rw[Ha,Ab3 (by rw[h0];rfl),Z4 p q m (a+1) c h1 (by omega),show a+1+q=a+(q+1) by omega,show m+1-(q+1)=m-q by omega];omega
theorem Aw3{p:List UInt8}{a m:Nat}(h:Hu p a=0):Ha p a m=0:=by
 cases m with
 |zero=>rfl
 |succ m=>rw[Ha,Aau (by omega)]
def YX(l v:Nat):List Bool:=if 48<=v/2^l then List.replicate 48 true++lA v 32 else List.replicate (v/2^l) true++(false::lA (v %2^l) l)
theorem Aod{l v:Nat}(hl:l<=24):1<= (YX l v).length/\ (YX l v).length<=80:=by
 rw[YX];generalize v/2^l=q;split
 ·rw[Aci,Au9,Va];omega
 ·rw[Aci,Au9,Akt,Va];omega
theorem Aoe{p:List UInt8}{N a l v:Nat}(hl:l<=24)(hv:v<2^32)(h:At p a (YX l v))(hN:a+(YX l v).length<=N):aD p N a l=(UInt32.ofNat v,((a+(YX l v).length:Nat):Int),0):=by
 rw[YX]at h hN⊢;by_cases h48:48<=v/2^l
 ·rw[Ab3 h48]at h hN⊢;rw[Aci,Au9,Va]at hN⊢;have hm:min 48 (N-a)=48:=by omega
  have ho:=Z4 p 48 48 a (lA v 32) h (Am4 _);rw[Nat.sub_self,Ha,Bcz]at ho;have hr:=h.right;rw[Au9]at hr;have hval:=OU p 32 (a+48) v hr;rw[Ack hv]at hval;rw[aD,Aau (by omega),hm,ho,Aau (by omega),Ab3 rfl,Aau (by omega),hval,Aau (by omega)]
 ·rw[Aau h48]at h hN⊢;rw[Aci,Au9,Akt,Va]at hN⊢;generalize hq:v/2^l=q at*
  have hr:=h.right;rw[Au9]at hr;obtain⟨h0,h1⟩:=hr.cons;have hm:q<min 48 (N-a):=by omega
  have ho:=Z4 p q (min 48 (N-a)) a _ h (by omega);rw[Aw3 (a:=a+q) (m:=min 48 (N-a)-q) (by rw[h0];rfl),Bcz]at ho;have hval:=OU p l (a+q+1) (v %2^l) h1;rw[Nat.mod_mod]at hval;have hdm:=Bfd v (2^l);rw[hq,Ape]at hdm;rw[aD,Aau (by omega),ho,Ab3 hm,Aau (by omega),hval,hdm,show a+q+1+l=a+(q+(l+1)) by omega]
def Ua(k l:Nat)(v:UInt32):List Bool:=if v.toNat<2^k then false::lA v.toNat k else true::YX l (v.toNat-2^k)
theorem fT{k l:Nat}(v:UInt32)(hk:k<=24)(hl:l<=24):1<= (Ua k l v).length/\ (Ua k l v).length<=81:=by
 have:=Aod (v:=v.toNat-2^k) hl;rw[Ua];split
 ·rw[Akt,Va];omega
 ·rw[Akt];omega
theorem Aox{p:List UInt8}{N a k l:Nat}{v:UInt32}(hk:k<=24)(hl:l<=24)(h:At p a (Ua k l v))(hN:a+(Ua k l v).length<=N):eD p N a k l=(v,((a+(Ua k l v).length:Nat):Int),0):=by
 have Bg9:=v.toNat_lt;have hof:UInt32.ofNat v.toNat=v:=by simp
 rw[Ua]at h hN⊢;by_cases hs:v.toNat<2^k
 ·rw[Ab3 hs]at h hN⊢;rw[Akt,Va]at hN⊢;obtain⟨h0,h1⟩:=h.cons;have hval:=OU p k (a+1) v.toNat h1;rw[Ack hs]at hval;rw[eD,Aau (by omega),Ab3 (by rw[h0];rfl),Aau (by omega),hval,hof,show a+1+k=a+(k+1) by omega]
 ·rw[Aau hs]at h hN⊢;rw[Akt]at hN⊢;obtain⟨h0,h1⟩:=h.cons;have hsub:=Nat.sub_le v.toNat (2^k);have hr:=Aoe hl (by omega:v.toNat-2^k<2^32) h1 (by omega:a+1+_<=N);have ht:(UInt32.ofNat (v.toNat-2^k)).toNat=v.toNat-2^k:=by rw[Ajz];exact Ack (by omega)
  rw[eD,Aau (by omega),Aau (by rw[h0];decide),hr];simp only;rw[Aau (by decide),ht,Aau (by omega),show v.toNat-2^k+2^k=v.toNat by omega,hof,show a+1+(YX l (v.toNat-2^k)).length=a+((YX l (v.toNat-2^k)).length+1) by omega]
def bv:List Bool->Nat
 |[]=>0
 |b::r=>(if b=true then 1 else 0)+2*bv r
theorem Ayc:∀l:List Bool,bv l<2^l.length
 |[]=>by decide
 |b::r=>by
  have:=Ayc r;rw[bv,Akt,Ayo];split<;>omega
theorem Arj:∀(l:List Bool) (k:Nat),bv l/2^k %2=tb l k
 |[],k=>by simp[bv,tb]
 |b::r,0=>by
  rw[bv,Alw,Nat.pow_zero,Nat.div_one];split<;>omega
 |b::r,k+1=>by
  have:((if b=true then 1 else 0)+2*bv r)/2=bv r:=by split<;>omega
  rw[bv,Alq,Ayo,Ape (2^k) 2,<-Bdt,this,Arj r k]
def Mu(c:List Bool):List UInt8:=(List.range ((c.length+7)/8)).map λj=>UInt8.ofNat (bv ((c.drop (8*j)).take 8))
theorem BF(c:List Bool):(Mu c).length=(c.length+7)/8:=by simp[Mu]
theorem GJ(c:List Bool)(i:Nat):Hu (Mu c) i=tb c i:=by
 rw[Hu];by_cases h:i/8<(c.length+7)/8
 ·have hg:(Mu c).getD (i/8) 0=UInt8.ofNat (bv ((c.drop (8*(i/8))).take 8)):=by
   rw[List.getD_eq_getElem?_getD,List.getElem?_eq_getElem (by rw[BF];exact h)];simp[Mu]
  have hlt:=Ayc ((c.drop (8*(i/8))).take 8);have hl8:((c.drop (8*(i/8))).take 8).length<=8:=by rw[Afa];omega
  have hp:=Afq (show 0<2 by omega) hl8;have hn:(UInt8.ofNat (bv ((c.drop (8*(i/8))).take 8))).toNat=bv ((c.drop (8*(i/8))).take 8):=by
   rw[Apd];exact Ack (by omega)
  rw[hg,hn,Arj,tb,tb];have:((c.drop (8*(i/8))).take 8).getD (i %8) false=c.getD i false:=by
   rw[List.getD_eq_getElem?_getD,List.getD_eq_getElem?_getD,List.getElem?_take,Ab3 (by omega),List.getElem?_drop,show 8*(i/8)+i %8=i by omega]
  rw[this]
 ·have hg:(Mu c).getD (i/8) 0=0:=by
   rw[List.getD_eq_getElem?_getD,List.getElem?_eq_none (by rw[BF];omega)];rfl
  rw[hg,Ab5 (by omega)];simp
def Tz(ch:Nat)(V:List UInt32):Nat->List Bool
 |0=>[]
 |i+1=>Tz ch V i++Ua (now ch (V.take i)).1 (now ch (V.take i)).2.1 (V.getD i 0)
theorem Aa3(ch:Nat)(v:List UInt32):(now ch v).1<=24/\ (now ch v).2.1<=24:=by
 have:=pS ch v (v.length %ch) v.length;exact⟨this.1,this.2.1⟩
theorem Acz(ch:Nat)(V:List UInt32):∀(j i:Nat),∃w,Tz ch V (i+j)=Tz ch V i++w
 |0,i=>⟨[],by simp⟩
 |j+1,i=>by
  obtain⟨w,hw⟩:=Acz ch V j i;rw[<-Azx,Tz,hw];exact⟨_,Aej _ _ _⟩
theorem oJ(ch:Nat)(V:List UInt32):∀i,(Tz ch V i).length<=81*i
 |0=>by simp[Tz]
 |i+1=>by
  have h:=Aa3 ch (V.take i);have:=fT (V.getD i 0) h.1 h.2;rw[Tz,Aci];have:=oJ ch V i;omega
theorem yt(ch:Nat)(V:List UInt32)(N:Nat)(hN:(Tz ch V V.length).length<=N):∀(j i:Nat),i+j=V.length->Xp ch (Mu (Tz ch V V.length)) N j (Tz ch V i).length (V.take i)=(V,(Tz ch V V.length).length,0)
 |0,i,h=>by
  obtain rfl:i=V.length:=by omega
  rw[Xp,Ba9]
 |j+1,i,h=>by
  obtain⟨w,hw⟩:=Acz ch V j (i+1);rw[show i+1+j=V.length by omega]at hw;have hk:=Aa3 ch (V.take i);have hcl:=fT (V.getD i 0) hk.1 hk.2;have hAt:At (Mu (Tz ch V V.length)) (Tz ch V i).length (Ua (now ch (V.take i)).1 (now ch (V.take i)).2.1 (V.getD i 0)):=by
   intro m hm;rw[GJ,hw,Tz,Aej,Aaj,Al0 hm]
  have hlen:(Tz ch V i).length+(Ua (now ch (V.take i)).1 (now ch (V.take i)).2.1 (V.getD i 0)).length<= (Tz ch V V.length).length:=by
   rw[hw,Tz,Aci,Aci];omega
  have ih:=yt ch V N hN j (i+1) (by omega);rw[Tz,Aci]at ih;generalize Mu (Tz ch V V.length)=p at*
  generalize(Tz ch V i).length=a at*
  have hw2:(Ua (now ch (V.take i)).1 (now ch (V.take i)).2.1 (V.getD i 0)).length<=win N a:=by unfold win;omega
  have hAt2:At (Tf p a (win N a)) 0 (Ua (now ch (V.take i)).1 (now ch (V.take i)).2.1 (V.getD i 0)):=by
   intro m hm;rw[Azm,wG,Ab3 (by omega),hAt m hm]
  have hb:=Aox hk.1 hk.2 hAt2 (by omega:0+_<=win N a);have hcode:Od ch p N a (V.take i)=(V.getD i 0,((0+(Ua (now ch (V.take i)).1 (now ch (V.take i)).2.1 (V.getD i 0)).length:Nat):Int),0):=hb;rw[Xp,hcode];simp only;rw[Aau (by decide),Azm,Ae3];have ht:V.take i++[V.getD i 0]=V.take (i+1):=by
   have hg:V.getD i 0=V[i]:=by rw[List.getD_eq_getElem?_getD,List.getElem?_eq_getElem (by omega)];rfl
   rw[hg,Lg (by omega)]
  rw[ht];exact ih
def P64:Nat:=4823603603198064275
def SV(s:Nat):Nat:=(2*s %18446744073709551616)^^^ (s/9223372036854775808*P64)
theorem eN{s:Nat}(h:s<18446744073709551616):SV s<18446744073709551616:=by
 have h1:s/9223372036854775808=0\/s/9223372036854775808=1:=by omega
 exact Bag (n:=64) (Bde _ (by decide)) (by rcases h1 with e|e<;>rw[e]<;>decide)
theorem Ak4(x y:Nat):(x^^^y)/9223372036854775808=(x/9223372036854775808)^^^ (y/9223372036854775808):=by
 have:=Nat.shiftRight_xor_distrib (a:=x) (b:=y) (i:=63);simpa [Nat.shiftRight_eq_div_pow]using this
theorem Akp(x y:Nat):2*(x^^^y) %18446744073709551616=(2*x %18446744073709551616)^^^ (2*y %18446744073709551616):=by
 have h1:=Nat.shiftLeft_xor_distrib (a:=x) (b:=y) (i:=1);have h2:=Nat.xor_mod_two_pow (a:=2*x) (b:=2*y) (n:=64);have e:2*(x^^^y)=(2*x)^^^ (2*y):=by simpa [Bf8,Ape]using h1
 rw[e];exact h2
theorem Au7{a b:Nat}(ha:a=0\/a=1)(hb:b=0\/b=1)(p:Nat):(a^^^b)*p=(a*p)^^^ (b*p):=by
 rcases ha with rfl|rfl<;>rcases hb with rfl|rfl<;>simp
theorem Bdo(a b c d:Nat):(a^^^b)^^^ (c^^^d)=(a^^^c)^^^ (b^^^d):=by
 rw[Az4,Az4,<-Az4 b c d,Bd0 b c,Az4 c b d]
theorem Ahs{x y:Nat}(hx:x<18446744073709551616)(hy:y<18446744073709551616):SV (x^^^y)=SV x^^^SV y:=by
 rw[SV,SV,SV,Akp,Ak4,Au7 (by omega) (by omega),Bdo]
def Rr:Nat->Nat->Nat
 |0,s=>s
 |k+1,s=>Rr k (SV s)
theorem zX:∀(k:Nat) {s:Nat},s<18446744073709551616->Rr k s<18446744073709551616
 |0,_,h=>h
 |k+1,_,h=>zX k (eN h)
theorem O9:∀(k:Nat) {x y:Nat},x<18446744073709551616->y<18446744073709551616->Rr k (x^^^y)=Rr k x^^^Rr k y
 |0,_,_,_,_=>rfl
 |k+1,x,y,hx,hy=>by rw[Rr,Ahs hx hy,O9 k (eN hx) (eN hy)];rfl
theorem W4:∀(k h:Nat),2^k*h<18446744073709551616->Rr k h=2^k*h
 |0,h,_=>by simp[Rr]
 |k+1,h,hl=>by
  have hpos:0<2^k:=Bdk (by omega);rw[Ayo,Bb7]at hl;have h2:2*h<18446744073709551616:=Bdg (Nat.le_mul_of_pos_left _ hpos) hl;have:SV h=2*h:=by rw[SV,Ack h2,show h/9223372036854775808=0 by omega];simp
  rw[Rr,this,W4 k _ hl,Ayo,Bb7]
def nH(s c:Nat):Nat:=Rr 8 (s^^^ (c*72057594037927936))
theorem c56{c:Nat}(hc:c<256):c*72057594037927936<18446744073709551616:=by omega
theorem zR{s c:Nat}(h:s<18446744073709551616)(hc:c<256):nH s c<18446744073709551616:=zX 8 (Bag (n:=64) h (c56 hc))
theorem Awe(s:Nat):s=(s/72057594037927936*72057594037927936)^^^ (s %72057594037927936):=by
 have h1:s %72057594037927936<2^56:=Bde _ (by decide);have:=Bbb h1 (s/72057594037927936);have h2:2^56*(s/72057594037927936)|||s %72057594037927936=(2^56*(s/72057594037927936))^^^ (s %72057594037927936):=by
  apply Bdl;intro i;rw[Nat.testBit_or,Be7];by_cases hi:i<56
  ·have:(2^56*(s/72057594037927936)).testBit i=false:=by rw[Bfa];simp;omega
   rw[this];simp
  ·have:(s %72057594037927936).testBit i=false:=Bci (Ai7 h1 (Afq (by omega) (by omega)));rw[this];simp
 rw[Ape (s/72057594037927936)]
 show s=(2^56*(s/72057594037927936))^^^ _;rw[<-h2,<-this];have:=Bfd s 72057594037927936
 show s=72057594037927936*_+_;omega
theorem Ann(a c:Nat):(a^^^c)*72057594037927936=(a*72057594037927936)^^^ (c*72057594037927936):=by
 have h1:=Nat.shiftLeft_xor_distrib (a:=a) (b:=c) (i:=56);simpa [Bf8]using h1
theorem Aae{s c:Nat}(h:s<18446744073709551616)(hc:c<256):nH s c=(256*s %18446744073709551616)^^^Rr 8 (((s/72057594037927936)^^^c)*72057594037927936):=by
 have hs:s/72057594037927936<2^8:=by show _<256;omega
 have hx:(s/72057594037927936)^^^c<256:=Bag (n:=8) hs (by simpa using hc);have hl:s %72057594037927936<72057594037927936:=Bde _ (by decide);rw[nH]
 conv=>lhs;rw[Awe s]
 rw[Bd0 (s/72057594037927936*72057594037927936),Az4,<-Ann,O9 8 (by omega) (c56 hx),W4 8 _ (by show 256*_<_;omega)];congr 1
 show 256*(s %72057594037927936)=_;omega
def lh(s:Nat)(l:List UInt8):Nat:=l.foldl (λs c=>nH s c.toNat) s
theorem pq{n:Nat}(h:n<18446744073709551616):(UInt64.ofNat n).toNat=n:=by rw[Ag1];exact Ack h
theorem Az3(s:UInt64)(bit:Nat)(hb:bit=0\/bit=1):KC s (bit:Int)=some (UInt64.ofNat ((2*s.toNat %18446744073709551616)^^^ (((s.toNat/9223372036854775808)^^^bit)*P64))):=by
 have hs:=s.toNat_lt;have ht:s.toNat/9223372036854775808=0\/s.toNat/9223372036854775808=1:=by omega
 have e1:(Br s (2:UInt64)).toNat=2*s.toNat %18446744073709551616:=by
  rw[RI,UInt64.toNat_mul];show s.toNat*2 %_=_;rw[Ape]
 have hlt:2*s.toNat %18446744073709551616<18446744073709551616:=Bde _ (by decide);have ey:Zn (Br s (2:UInt64)) (4823603603198064275:UInt64)=UInt64.ofNat ((2*s.toNat %18446744073709551616)^^^P64):=by
  apply UInt64.toNat_inj.1;rw[S6,UInt64.toNat_xor,e1,pq (Bag (n:=64) hlt (by decide))];rfl
 have en:Br s (2:UInt64)=UInt64.ofNat (2*s.toNat %18446744073709551616):=by
  apply UInt64.toNat_inj.1;rw[e1,pq hlt]
 have eg:Nj s (9223372036854775808:UInt64)=decide (s.toNat/9223372036854775808=1):=by
  rw[Ax0,decide_eq_decide]
  show 9223372036854775808<=s.toNat↔_;omega
 have hp:∀b:Bool,AY s b=some (if b=true then UInt64.ofNat ((2*s.toNat %18446744073709551616)^^^P64)else UInt64.ofNat (2*s.toNat %18446744073709551616)):=by
  intro b;rw[AY,SH,ey,en];cases b<;>rfl
 rw[KC,SF,hp,hp,eg];rcases hb with rfl|rfl<;>rcases ht with h|h<;>rw[h]<;>simp[Ar]
theorem I3(c:UInt8):∀(j q:Nat) (s:UInt64),j<=8->j<q->Nc c q s ((2^j/2:Nat):Int)=some (UInt64.ofNat (Rr j (s.toNat^^^ (c.toNat %2^j*2^(64-j)))))
 |0,q+1,s,_,_=>by
  rw[Nc,Zr,Aau (by rw[Aq];simp),QV,RC];simp[Rr,Nat.mod_one]
 |j+1,q+1,s,hj,hq=>by
  have hc:=c.toNat_lt;have hs:=s.toNat_lt;have hj2:2^j<=2^7:=Afq (by omega) (by omega);have hpos:0<2^j:=Bdk (by omega);have e1:2^(j+1)/2=2^j:=by rw[Ayo];omega
  have e2:Db ((2^j:Nat):Int) 2=((2^j/2:Nat):Int):=by
   generalize 2^j=K at*
   rw[TX,Bbn (by omega),Dd (by omega) (by omega)];omega
  have e3:Io (Db (Af c:Int) ((2^j:Nat):Int)) (2:Int)=((c.toNat/2^j %2:Nat):Int):=by
   have hX:=Auf c.toNat (2^j);rw[VW,TX,<-Int.ofNat_tdiv];generalize c.toNat/2^j=X at*
   rw[Dd (by omega) (by omega),Io,Bef (by omega)];omega
  have hbit:c.toNat/2^j %2=0\/c.toNat/2^j %2=1:=by omega
  rw[Nc,Zr,e1,Ab3 (by rw[Aq,Acj];omega),Bt (by rw[Ag,Bfp];omega),Aa,e3,Az3 s _ hbit,Aa,e2,I3 c j q _ (by omega) (by omega)];congr 2;rw[Rr];congr 1;have hx:c.toNat %2^(j+1)*2^(64-(j+1))=(c.toNat/2^j %2)*9223372036854775808+c.toNat %2^j*2^(63-j):=by
   have h63:(9223372036854775808:Nat)=2^j*2^(63-j):=by rw[<-Bfc,show j+(63-j)=63 by omega]
   rw[Nat.mod_pow_succ,h63,show 64-(j+1)=63-j by omega,Ayj,Be5,Bb7,Nat.mul_left_comm]
  have hr:c.toNat %2^j<2^j:=Bde _ hpos;have Bhb:c.toNat %2^j*2^(63-j)<9223372036854775808:=by
   have h63:(9223372036854775808:Nat)=2^j*2^(63-j):=by rw[<-Bfc,show j+(63-j)=63 by omega]
   rw[h63];exact Nat.mul_lt_mul_of_pos_right hr (Bdk (by omega))
  have h64:c.toNat %2^j*2^(64-j)=2*(c.toNat %2^j*2^(63-j)):=by
   rw[show 64-j=(63-j)+1 by omega,Ayo,<-Bb7,Ape]
  rw[hx,h64];generalize c.toNat %2^j*2^(63-j)=R at*
  generalize c.toNat/2^j %2=b at*
  have ht:s.toNat/9223372036854775808=0\/s.toNat/9223372036854775808=1:=by omega
  have hp:((s.toNat/9223372036854775808^^^b)*P64)<18446744073709551616:=by
   rcases ht with h|h<;>rcases hbit with h2|h2<;>rw[h,h2]<;>decide
  rw[pq (Bag (n:=64) (Bde _ (by decide)) hp),SV,Akp,Ak4,show(b*9223372036854775808+R)/9223372036854775808=b by omega,show 2*(b*9223372036854775808+R) %18446744073709551616=2*R by omega,Az4,Az4,Bd0 (2*R)]
theorem Baf(c:UInt8)(s:UInt64):cC s c=some (UInt64.ofNat (nH s.toNat c.toNat)):=by
 have h:=I3 c 8 Ax s (Am4 _) (by have:=As;omega);have hc:=c.toNat_lt;rw[Ack (show c.toNat<2^8 by simpa using hc)]at h;exact h
theorem tM(b:List UInt8)(hb:b.length<4611686018427387904):∀(j i q:Nat) (s:UInt64),i+j=b.length->j<q->Ko b q s (i:Int)=some (UInt64.ofNat (lh s.toNat (b.drop i)))
 |0,i,q+1,s,hi,_=>by
  rw[Ko,Wj,Aau (by rw[Ae,Ac];simp;omega),show i=b.length by omega,Bdz];simp[JH,HX,lh]
 |j+1,i,q+1,s,hi,hq=>by
  have hlt:i<b.length:=by omega
  have hc:=b[i].toNat_lt;rw[Ko,Wj,Ab3 (by rw[Ae,Ac];simp;omega),Bn hlt,Aa,Baf,Aa,Ak];have h:=tM b hb j (i+1) q (UInt64.ofNat (nH s.toNat b[i].toNat)) (by omega) (by omega);rw[show((i:Int)+1)=((i+1:Nat):Int) by omega,h,drop_cons hlt,pq (zR s.toNat_lt (by simpa using hc))];rfl
def Rp(b:List UInt8):UInt64:=UInt64.ofNat (lh 0 b)
theorem Acu(b:List UInt8)(hb:b.length<=100000):DA 0 b=some (Rp b):=
 tM b (by omega) b.length 0 Ax 0 (by omega) (by have:=As;omega)
theorem Ahy(c:UInt64):Zn (Ei c (GI.toZ (1:UInt64)).toNat) (Br (4823603603198064275:UInt64) (Ct c (GI.toZ (63:UInt64)).toNat))=UInt64.ofNat (SV c.toNat):=by
 have hc:=c.toNat_lt;apply UInt64.toNat_inj.1;have h1:(Ei c (GI.toZ (1:UInt64)).toNat).toNat=2*c.toNat %18446744073709551616:=by
  rw[show(GI.toZ (1:UInt64)).toNat=1 from rfl,XB,Ape]
 have h2:(Br (4823603603198064275:UInt64) (Ct c (GI.toZ (63:UInt64)).toNat)).toNat=c.toNat/9223372036854775808*P64:=by
  rw[show(GI.toZ (63:UInt64)).toNat=63 from rfl,RI,UInt64.toNat_mul,LC]
  show 4823603603198064275*(c.toNat/9223372036854775808) %18446744073709551616=_;have h1:c.toNat/9223372036854775808=0\/c.toNat/9223372036854775808=1:=by omega
  rcases h1 with e|e<;>rw[e]<;>decide
 rw[S6,UInt64.toNat_xor,h1,h2,pq (eN hc)];rfl
theorem I1(Qg:Int->List UInt64->Option (UInt64×Int))(s:UInt64)(b:List UInt8)(x:Int)(t:List UInt64):∀(j i q:Nat) (c:UInt64),i+j=8->j<q->
  Uy Qg s b x t q c (i:Int)=JM Qg s b x (UInt64.ofNat (Rr j c.toNat)) t
 |0,i,q+1,c,hi,_=>by
  obtain rfl:i=8:=by omega
  rw[Uy,LA,Aau (by rw[Ae];simp),Rr,UInt64.ofNat_toNat]
 |j+1,i,q+1,c,hi,hq=>by
  rw[Uy,LA,Ab3 (by rw[Ae];simp;omega),Ahy,Ak,show((i:Int)+1)=((i+1:Nat):Int) by omega,I1 Qg s b x t j (i+1) q _ (by omega) (by omega),pq (eN c.toNat_lt)];rfl
def bI(n:Nat):List UInt64:=(List.range n).map λi=>UInt64.ofNat (Rr 8 (i*72057594037927936))
theorem iq(s:UInt64)(b:List UInt8):∀(j i q:Nat),i+j=256->j<q->Qq s b q (i:Int) (bI i++List.replicate j 0)=KO s b (bI 256)
 |0,i,q+1,hi,_=>by
  obtain rfl:i=256:=by omega
  rw[Qq,HE,Aau (by rw[Ae];simp)];simp
 |j+1,i,q+1,hi,hq=>by
  have hlen:(bI i++List.replicate (j+1) 0).length=i+(j+1):=by simp[bI]
  rw[Qq,HE,Ab3 (by rw[Ae];simp;omega),XI];have h:=I1 (Qq s b q) s b (i:Int) (bI i++List.replicate (j+1) 0) 8 0 Ax (Ei (Af (i:Int):UInt64) (GI.toZ (56:UInt64)).toNat) (by omega) (by have:=As;omega);rw[show((0:Int))=((0:Nat):Int)from rfl,h,JM,YJ,Bn (by rw[hlen];omega),Aa,Uq _ (by rw[hlen];omega),Aa,WV,qN,Ak];have e:(Ei (Af (i:Int):UInt64) (GI.toZ (56:UInt64)).toNat).toNat=i*72057594037927936:=by
   rw[XB,Yb,pq (by omega)]
   show i*72057594037927936 %18446744073709551616=_;omega
  rw[e,Bbk,jF (by simp[bI])];have h2:=iq s b j (i+1) q (by omega) (by omega);have h3:bI (i+1)=bI i++[UInt64.ofNat (Rr 8 (i*72057594037927936))]:=by simp[bI,List.range_succ]
  rw[h3]at h2;rw[show((i:Int)+1)=((i+1:Nat):Int) by omega,<-h2];simp
theorem Aof{i:Nat}(h:i<256):Ao (bI 256) (i:Int)=some (UInt64.ofNat (Rr 8 (i*72057594037927936))):=by
 rw[Bn (by simpa [bI]using h)];simp[bI]
theorem Aco(s:UInt64)(c:UInt8):Ao (bI 256) (GI.toZ (Zn (Af (Ct s (GI.toZ (56:UInt64)).toNat):UInt8) c))=some (UInt64.ofNat (Rr 8 (((s.toNat/72057594037927936)^^^c.toNat)*72057594037927936))):=by
 have hs:=s.toNat_lt;have e:GI.toZ (Zn (Af (Ct s (GI.toZ (56:UInt64)).toNat):UInt8) c)=(((s.toNat/72057594037927936)^^^c.toNat:Nat):Int):=by
  have e2:((Af (Ct s (GI.toZ (56:UInt64)).toNat):UInt8)).toNat=s.toNat/72057594037927936:=by
   rw[aH,Apd,LC]
   show s.toNat/72057594037927936 %256=_;omega
  rw[EJ,Aa7,UInt8.toNat_xor,e2]
 rw[e,Aof];exact Bag (n:=8) (by show _<256;omega) (by simpa using c.toNat_lt)
theorem Aaz(s:UInt64)(c:UInt8):Zn (Ei s (GI.toZ (8:UInt64)).toNat) (UInt64.ofNat (Rr 8 (((s.toNat/72057594037927936)^^^c.toNat)*72057594037927936)))=UInt64.ofNat (nH s.toNat c.toNat):=by
 have hs:=s.toNat_lt;have hc:c.toNat<256:=by simpa using c.toNat_lt
 apply UInt64.toNat_inj.1;have hlt:Rr 8 (((s.toNat/72057594037927936)^^^c.toNat)*72057594037927936)<18446744073709551616:=zX 8 (c56 (Bag (n:=8) (by show _<256;omega) (by simpa using c.toNat_lt)));have e:(GI.toZ (8:UInt64)).toNat=8:=rfl;rw[e,S6,UInt64.toNat_xor,XB,pq hlt,pq (zR hs hc),Aae hs hc,Ape s.toNat]
theorem H4(b:List UInt8)(s0:UInt64)(hb:b.length<4611686018427387904):∀(j i q:Nat) (s:UInt64),i+j=b.length->j<q->Vf b s0 (bI 256) q s (i:Int)=some (UInt64.ofNat (lh s.toNat (b.drop i)),0)
 |0,i,q+1,s,hi,_=>by
  rw[Vf,GX,Aau (by rw[Ae,Ac];simp;omega),show i=b.length by omega,Bdz];simp[WK,YS,YZ,oS,lh]
 |j+1,i,q+1,s,hi,hq=>by
  have hlt:i<b.length:=by omega
  have hc:=b[i].toNat_lt;rw[Vf,GX,Ab3 (by rw[Ae,Ac];simp;omega),Bn hlt,Aa,Aco,Aa,Aa,Aaz,Ak];have h:=H4 b s0 hb j (i+1) q (UInt64.ofNat (nH s.toNat b[i].toNat)) (by omega) (by omega);rw[show((i:Int)+1)=((i+1:Nat):Int) by omega,h,drop_cons hlt,pq (zR s.toNat_lt (by simpa using hc))];rfl
theorem Aem(b:List UInt8)(hb:b.length<=100000):fY b=some (Rp b,0):=by
 have h:=iq 0 b 256 0 Ax (by omega) (by have:=As;omega);have h2:=H4 b 0 (by omega) b.length 0 Ax 0 (by omega) (by have:=As;omega);have hn:iE 0 b=some (Rp b,0):=by
  rw[iE,dE,Aau (by rw[Aq,Ac];simp;omega),ZJ];refine Bcq h ?_;rw[KO,XM,aG];exact h2
 rw[fY,hn,Aa]
theorem rQ(p:List UInt8)(hp:p.length<=64):JP p=some (Rc (Rp p).toNat 8,0):=by
 rw[JP,zG,Aau (by rw[Aq,Ac];simp;omega),Aem p (by omega),Aa,Aa];simp only;have h:=YH (Rp p) 8 (by omega) (by omega) (by simpa using(Rp p).toNat_lt);rw[Aau (by rw[Ag];simp)];exact congrArg (λo=>Option.bind o λx:List UInt8×Int=>some (x.1,x.2)) h
theorem VU(p:List UInt8)(hp:p.length<=64):Nf p=some (Rc (Rp p).toNat 8):=by
 have h:=Z7 (Rp p) 8 (by omega);rw[Nf,bN,Acu p (by omega),Aa,Aa];exact congrArg (λo=>Option.bind o λl=>some l) h
def s8(n:Nat):Int32:=Int32.ofInt (if n<128 then(n:Int)else(n:Int)-256)
def bK(d:UInt64)(n:Nat):List Int32:=(List.range n).map λi=>s8 (d.toNat/256^i %256)
theorem eE(d:UInt64)(n:Nat):(bK d n).length=n:=by simp[bK]
theorem O0(d:UInt64)(n:Nat):bK d (n+1)=bK d n++[s8 (d.toNat/256^n %256)]:=by simp[bK,List.range_succ]
theorem bm8(z:Nat):(z:Int).bmod Int8.size=if z %256<128 then((z %256:Nat):Int)else((z %256:Nat):Int)-256:=by
 rw[show Int8.size=256 from rfl,Int.bmod_def];split<;>split<;>omega
theorem Alf(d:UInt64):∀(j i q:Nat),i+j=8->j<q->OA d q (i:Int) (bK d i++List.replicate (16-i) 0)=some (bK d 8++List.replicate 8 0)
 |0,i,q+1,hi,_=>by
  obtain rfl:i=8:=by omega
  rw[OA,kJ,Aau (by rw[Ae];simp)];rfl
 |j+1,i,q+1,hi,hq=>by
  have hlen:(bK d i++List.replicate (16-i) 0).length=16:=by simp[eE];omega
  have ih:=Alf d j (i+1) q (by omega) (by omega);have e8:Br (8:Int) (i:Int)=((8*i:Nat):Int):=by rw[Ii];omega
  have ev:(Af (Af (Ct d (GI.toZ (((8*i:Nat):Int))).toNat):Int8):Int32)=s8 (d.toNat/256^i %256):=by
   have e1:(Ct d (GI.toZ (((8*i:Nat):Int))).toNat).toNat=d.toNat/256^i:=by
    rw[show(GI.toZ (((8*i:Nat):Int))).toNat=8*i from rfl,LC,Nat.pow_mul]
   show Int32.ofInt (Int8.ofInt ((Ct d (GI.toZ (((8*i:Nat):Int))).toNat).toNat:Int)).toInt=_;rw[e1,s8,Int8.toInt_ofInt,bm8]
  rw[OA,kJ,Ab3 (by rw[Ae];simp;omega),e8,Bt (by rw[Dy];simp;omega),Aa,ev,Bn,Aa,Uq _ (by omega),Aa,Ak,show 16-i=(15-i)+1 by omega,Bbk,jF (eE d i)];rw[O0,show 16-(i+1)=15-i by omega,Aej]at ih;exact ih
theorem Ap4(d:UInt64):∀(j i q:Nat) (e:UInt64),i+j=8->j<q->e.toNat=d.toNat/256^i->Mq q e (i:Int) (bK d i++List.replicate (16-i) 0)=some (bK d 8++List.replicate 8 0)
 |0,i,q+1,e,hi,_,he=>by
  obtain rfl:i=8:=by omega
  rw[Mq,EP,Aau (by rw[Ae];simp)];rfl
 |j+1,i,q+1,e,hi,hq,he=>by
  have hlen:(bK d i++List.replicate (16-i) 0).length=16:=by simp[eE];omega
  have hq2:(Db e (256:UInt64)).toNat=d.toNat/256^(i+1):=by
   rw[wP,Bfw,he,Ayo,<-Bdt];rfl
  have ih:=Ap4 d j (i+1) q (Db e (256:UInt64)) (by omega) (by omega) hq2;have ev:(Af (GR e (256:UInt64)):Int32)=Int32.ofInt ((d.toNat/256^i %256:Nat):Int):=by
   show Int32.ofInt ((GR e (256:UInt64)).toNat:Int)=_;rw[Acv,UInt64.toNat_mod,he];rfl
  have hz:d.toNat/256^i %256<256:=Bde _ (by omega);have et:(Int32.ofInt ((d.toNat/256^i %256:Nat):Int)).toInt=((d.toNat/256^i %256:Nat):Int):=by
   rw[Bes,Bf5 (by show -(4294967296/2:Int)<= _;omega) (by show _<(4294967296+1)/2;omega)]
  have hp8:∀x:Int32,x=s8 (d.toNat/256^i %256)->EZ (Mq q) e (i:Int) (bK d i++List.replicate (16-i) 0) x=some (bK d 8++List.replicate 8 0):=by
   intro x hx;rw[EZ,ZH,hx,Bn,Aa,Uq _ (by omega),Aa,Ak,show 16-i=(15-i)+1 by omega,Bbk,jF (eE d i)];rw[O0,show 16-(i+1)=15-i by omega,Aej]at ih;exact ih
  rw[Mq,EP,Ab3 (by rw[Ae];simp;omega),ev,Ai8,et,show(127:Int32).toInt=127 from rfl];by_cases h:d.toNat/256^i %256<128
  ·rw[Aau (by simp only[Acj];omega)];exact hp8 _ (by rw[s8,Ab3 h])
  ·rw[Ab3 (by simp only[Acj];omega)];refine hp8 _ ?_;rw[s8,Aau h,aF,Int32.ofInt_sub];rfl
def Pk(p:List UInt8):List Int32:=bK (Rp p) 8++List.replicate 8 0
theorem Kj(p:List UInt8):(Pk p).length=16:=by simp[Pk,eE]
theorem gD(p:List UInt8)(hp:p.length<=64):Qe p=some (Pk p,0):=by
 have h:=Alf (Rp p) 8 0 Ax (by omega) (by have:=As;omega);have h2:Abg (Rp p)=some (Pk p):=h;rw[Qe,Aau (by rw[Aq,Ac];simp;omega),Aem p (by omega),Aa];simp only;rw[Aau (by rw[Ag];simp),h2,Aa]
theorem JS(p:List UInt8)(hp:p.length<=64):Nr p=some (Pk p,0):=by
 have h:=Ap4 (Rp p) 8 0 Ax (Rp p) (by omega) (by have:=As;omega) (by simp);have h2:lN (Rp p)=some (Pk p):=h;rw[Nr,Aau (by rw[Aq,Ac];simp;omega),gJ,bX,Aau (by rw[Aq,Ac];simp;omega),Acu p (by omega),Aa,Aa,Aa];simp only;rw[h2,Aa]
def u8(z:Int):UInt8:=UInt8.ofNat (z %256).toNat
theorem Ab9(z:Int):u8 (z %256)=u8 z:=by rw[u8,u8];congr 2;omega
def wB(bits:Int):Nat:=if bits=8 then 1 else if bits=16 then 2 else 3
theorem Aq8{bits:Int}(h:Bu bits):Db bits 8=(wB bits:Int):=by obtain rfl|rfl|rfl:=h<;>rfl
theorem P1(bits:Int):1<=wB bits/\wB bits<=3:=by
 unfold wB;split; · omega
 ·split<;>omega
def NF(bits:Int)(x:Int):List UInt8:=if bits=8 then [u8 (x+128)]else if bits=16 then [u8 x,u8 (x/256)]else [u8 x,u8 (x/256),u8 (x/65536)]
theorem Ad6(bits x:Int):(NF bits x).length<=3:=by
 unfold NF;split; · simp
 ·split<;>simp
theorem Aqs(x:Int32)(k:Nat)(hk:k<=32):(Af (Ct x k):UInt8)=u8 (x.toInt.fdiv (2^k)):=by
 have h:=CM x;have e:Ct x k=Int32.ofInt (x.toInt.fdiv (2^k)):=by
  show Int32.ofInt (x.toInt.fdiv (2^min k 32))=_;rw[Apg hk]
 have hb: -2147483648<=x.toInt.fdiv (2^k)/\x.toInt.fdiv (2^k)<2147483648:=by
  have hpos:(0:Int)<2^k:=Int.pow_pos (by omega);rw[Aye _ (by omega)];constructor
  ·refine(Int.le_ediv_iff_mul_le hpos).2 ?_;have:(1:Int)<=2^k:=by omega
   have h2: -2147483648*(2^k:Int)<= -2147483648*1:=Int.mul_le_mul_of_nonpos_left (by omega) this;omega
  ·refine Int.ediv_lt_of_lt_mul hpos ?_;have:(1:Int)<=2^k:=by omega
   have h2:(2147483648:Int)*1<=2147483648*2^k:=Int.mul_le_mul_of_nonneg_left this (by omega);omega
 show UInt8.ofNat ((Ct x k).toInt %256).toNat=_;rw[e,Bes,Bf5 (by show -(4294967296/2:Int)<= _;omega) (by show _<(4294967296+1)/2;omega)];rfl
section
variable (bk:Int->List UInt8->Option (List UInt8×Int)) (l:List Int32)
theorem N7{bits:Int}(h:Bu bits)(c:Int32)(x:Int)(i q:Nat)(acc:List UInt8)(hi:i<wB bits)(ha:acc.length<=100000):
  Li bk bits l c x (q+1) (i:Int) acc=Li bk bits l c x q ((i+1:Nat):Int) (acc++[u8 (c.toInt.fdiv (2^(8*i)))]):=by
 have hw:=P1 bits;have e8:Br (8:Int) (i:Int)=((8*i:Nat):Int):=by rw[Ii];omega
 rw[Li,DU,Aq8 h,Ab3 (by rw[Ae];simp;omega),e8,Bt (by rw[Dy];simp;omega),Aa,show(GI.toZ (((8*i:Nat):Int))).toNat=8*i from rfl,Aqs _ _ (by omega),Bw (by simp;omega),Aa,Ak];rfl
theorem Ah9{bits:Int}(h:Bu bits)(c:Int32)(x:Int)(q:Nat)(acc:List UInt8):Li bk bits l c x (q+1) ((wB bits:Nat):Int) acc=bk (Ad x 1) acc:=by
 rw[Li,DU,Aq8 h,Aau (by rw[Ae];simp),TU,lP]
theorem Azb{bits:Int}(h:Bu bits)(c:Int32)(x:Int)(acc:List UInt8)(ha:acc.length<=90000)(hr: -(hB bits)<=c.toInt/\c.toInt<hB bits):
  Nw bk bits l x acc (if bits=8 then Ad c (128:Int32)else c)=bk (Ad x 1) (acc++NF bits c.toInt):=by
 have e:Ax=(Ax-4)+1+1+1+1:=by have:=As;omega
 have hc:=CM c;rw[Nw,TJ,TC,e];have g0:=λ(c:Int32) q acc ha=>N7 bk l h c x 0 q acc (by have:=P1 bits;omega) ha;obtain rfl|rfl|rfl:=h
 ·have hh:hB 8=128:=rfl;rw[hh]at hr;have e1:(Ad c (128:Int32)).toInt=c.toInt+128:=by
   show(Int32.ofInt (c.toInt+(128:Int32).toInt)).toInt=_;rw[show(128:Int32).toInt=128 from rfl,Bes,Bf5 (by show -(4294967296/2:Int)<= _;omega) (by show _<(4294967296+1)/2;omega)]
  have g1:=Ah9 bk l (bits:=8) (.inl rfl) (Ad c (128:Int32)) x (Ax-4+1+1);rw[Ab3 rfl,show(0:Int)=((0:Nat):Int)from rfl,g0 _ _ _ (by omega)];refine Bcq (g1 _) ?_;rw[e1,NF,Ab3 rfl]
  show bk _ (acc++[u8 ((c.toInt+128).fdiv 1)])=_;rw[Int.fdiv_one]
 ·have g1:=λq acc ha=>N7 bk l (bits:=16) (.inr (.inl rfl)) c x 1 q acc (by decide) ha;have g2:=Ah9 bk l (bits:=16) (.inr (.inl rfl)) c x (Ax-4+1);rw[Aau (by decide),show(0:Int)=((0:Nat):Int)from rfl,g0 _ _ _ (by omega),g1 _ _ (by simp;omega)];refine Bcq (g2 _) ?_;rw[NF,Aau (by decide),Ab3 rfl,Aej]
  show bk _ (acc++[u8 (c.toInt.fdiv 1),u8 (c.toInt.fdiv 256)])=_;rw[Int.fdiv_one,Aye _ (by omega)]
 ·have g1:=λq acc ha=>N7 bk l (bits:=24) (.inr (.inr rfl)) c x 1 q acc (by decide) ha;have g2:=λq acc ha=>N7 bk l (bits:=24) (.inr (.inr rfl)) c x 2 q acc (by decide) ha;have g3:=Ah9 bk l (bits:=24) (.inr (.inr rfl)) c x (Ax-4);rw[Aau (by decide),show(0:Int)=((0:Nat):Int)from rfl,g0 _ _ _ (by omega),g1 _ _ (by simp;omega),g2 _ _ (by simp;omega)];refine Bcq (g3 _) ?_;rw[NF,Aau (by decide),Aau (by decide),Aej,Aej]
  show bk _ (acc++[u8 (c.toInt.fdiv 1),u8 (c.toInt.fdiv 256),u8 (c.toInt.fdiv 65536)])=_;rw[Int.fdiv_one,Aye _ (by omega),Aye _ (by omega)]
end
def Cy(bits:Int)(l:List Int32):List UInt8:=l.flatMap λx=>NF bits x.toInt
theorem OC(bits:Int):∀l:List Int32,(Cy bits l).length<=3*l.length
 |[]=>by simp[Cy]
 |x::l=>by
  have h1:=OC bits l;have h2:=Ad6 bits x.toInt;simp only[Cy,List.flatMap_cons,Aci,Akt]at*
  omega
def inR(bits:Int)(l:List Int32):Prop:=∀x∈l, -(hB bits)<=x.toInt/\x.toInt<hB bits
theorem Alr{bits:Int}(h:Bu bits)(l:List Int32)(hl:l.length<=4000)(hr:inR bits l):∀(j i q:Nat),i+j=l.length->j<q->Hr bits l q (i:Int) (Cy bits (l.take i))=some (Cy bits l,0)
 |0,i,q+1,hi,_=>by
  rw[Hr,DY,Aau (by rw[Ae,Ac];simp;omega),Aqt (by omega)];rfl
 |j+1,i,q+1,hi,hq=>by
  have hlt:i<l.length:=by omega
  have ih:=Alr h l hl hr j (i+1) q (by omega) (by omega);have hlen:=OC bits (l.take i);have hx:=hr l[i] (Ams _);have h1:=Azb (Hr bits l q) l h l[i] (i:Int) (Cy bits (l.take i)) (by rw[Afa]at hlen;omega) hx;rw[Hr,DY,Ab3 (by rw[Ae,Ac];simp;omega),Bn hlt,Aa];have e:(if(geq bits (8:Int))=true then Nw (Hr bits l q) bits l (i:Int) (Cy bits (l.take i)) (Ad l[i] (128:Int32))else Nw (Hr bits l q) bits l (i:Int) (Cy bits (l.take i)) l[i])=Nw (Hr bits l q) bits l (i:Int) (Cy bits (l.take i)) (if bits=8 then Ad l[i] (128:Int32)else l[i]):=by
   by_cases h8:bits=8
   ·rw[Ab3 (by rw[Ar];simpa using h8),Ab3 h8]
   ·rw[Aau (by rw[Ar];simpa using h8),Aau h8]
  rw[e,h1,Ak];rw[Lg hlt]at ih;have e2:Cy bits (l.take i++[l[i]])=Cy bits (l.take i)++NF bits l[i].toInt:=by unfold Cy;rw[List.flatMap_append,List.flatMap_singleton]
  rw[e2]at ih;exact ih
theorem gK{bits:Int}(h:Bu bits){l:List Int32}(hl:l.length<=4000)(hc:Ay bits l=some 0):inR bits l:=by
 have hh:=NX bits;have key:∀(j i q:Nat),i+j=l.length->j<q->Az l (hB bits) q (i:Int)=some 0->∀k,i<=k-> (hk:k<l.length)-> -(hB bits)<=l[k].toInt/\l[k].toInt<hB bits:=by
  intro j
  induction j with
  |zero=>intro i q hi hq _ k h1 h2;omega
  |succ j ih=>
   intro i q hi hq hs k h1 h2;obtain⟨q,rfl⟩:∃k,q=k+1:=⟨q-1,by omega⟩;rw[Az,Cu,Ab3 (by rw[Ae,Ac];simp;omega),Bn,Aa,Aa,Gg,zq,Dd (by omega) (by omega),Ak,Ae,Dy]at hs;by_cases g1:l[i].toInt<0-hB bits
   ·rw[Ab3 (by simpa using g1)]at hs;simp at hs
   ·rw[Aau (by simpa using g1)]at hs;by_cases g2:hB bits<=l[i].toInt
    ·rw[Ab3 (by simpa using g2)]at hs;simp at hs
    ·rw[Aau (by simpa using g2)]at hs;by_cases hk:k=i
     ·subst hk;omega
     ·exact ih (i+1) q (by omega) (by omega) hs k (by omega) h2
 rw[Ay,Dq,UO h,Aa,Aau (by rw[Ar];simp;omega),Aau (by rw[Aq,Ac];simp;omega)]at hc;have:=key l.length 0 Ax (by omega) (by have:=As;omega) hc;intro x hx;obtain⟨k,hk,rfl⟩:=List.getElem_of_mem hx;exact this k (by omega) hk
theorem ND{bits:Int}(h:Bu bits){l:List Int32}(hl:l.length<=4000)(hc:Ay bits l=some 0):Jq bits l=some (Cy bits l,0):=by
 have h1:=Alr h l hl (gK h hl hc) l.length 0 Ax (by omega) (by have:=As;omega);rw[Jq,ZA,jR h l hl,hc,Aa,Aau (by rw[Ag];simp)];exact h1
theorem Awa{bits:Int}(h:Bu bits)(x:Int32)(hr: -(hB bits)<=x.toInt/\x.toInt<hB bits):NQ bits x=some (NF bits x.toInt):=by
 have hx:=CM x;have gu:∀z:Int,(Af z:UInt8)=u8 z:=λz=>rfl;have hq:∀n:Int,0<=n->n<=20000000->Db n (256:Int)=n/256/\Db n (65536:Int)=n/65536:=by
  intro n h1 h2;constructor<;>(rw[TX,Bbn h1,Dd (by omega) (by omega)])
 have hm:∀n:Int,0<=n->Io n (256:Int)=n %256:=λn h1=>by rw[Io,Bef h1]
 rw[NQ,UD,Gg];obtain rfl|rfl|rfl:=h
 ·rw[Ab3 (by rw[Ar];rfl),Ak,gu,NF,Ab3 rfl]
 ·have hh:hB 16=32768:=rfl;rw[hh]at hr;have hp:∀n:Int,0<=n->n<=70000->u8 n=u8 x.toInt->u8 (n/256)=u8 (x.toInt/256)->Of 16 n=some (NF 16 x.toInt):=by
   intro n h1 h2 h3 h4;rw[Of,CE,Aau (by rw[Ar];decide),hm n h1,(hq n h1 (by omega)).1,hm _ (by omega),gu,gu,Ab9,Ab9,h3,h4,NF,Aau (by decide),Ab3 rfl]
  rw[Aau (by rw[Ar];decide)];by_cases hn:x.toInt<0
  ·rw[Ab3 (by rw[Ae];simpa using hn),UO (.inr (.inl rfl)),Aa,hh,Ii,Ak];refine hp _ (by omega) (by omega) ?_ ?_
   ·rw[u8,u8];congr 2;omega
   ·rw[u8,u8];congr 2;omega
  ·rw[Aau (by rw[Ae];simpa using hn)];exact hp _ (by omega) (by omega) rfl rfl
 ·have hh:hB 24=8388608:=rfl;rw[hh]at hr;have hp:∀n:Int,0<=n->n<=16777215->u8 n=u8 x.toInt->u8 (n/256)=u8 (x.toInt/256)->u8 (n/65536)=u8 (x.toInt/65536)->Of 24 n=some (NF 24 x.toInt):=by
   intro n h1 h2 h3 h4 h5;rw[Of,CE,Ab3 (by rw[Ar];rfl),hm n h1,(hq n h1 (by omega)).1,(hq n h1 (by omega)).2,hm _ (by omega),gu,gu,gu,Ab9,Ab9,h3,h4,h5,Bw (by simp),Aa,NF,Aau (by decide),Aau (by decide)];rfl
  rw[Aau (by rw[Ar];decide)];by_cases hn:x.toInt<0
  ·rw[Ab3 (by rw[Ae];simpa using hn),UO (.inr (.inr rfl)),Aa,hh,Ii,Ak];refine hp _ (by omega) (by omega) ?_ ?_ ?_
   ·rw[u8,u8];congr 2;omega
   ·rw[u8,u8];congr 2;omega
   ·rw[u8,u8];congr 2;omega
  ·rw[Aau (by rw[Ae];simpa using hn)];exact hp _ (by omega) (by omega) rfl rfl rfl
theorem Aj8{bits:Int}(h:Bu bits)(l:List Int32)(hl:l.length<=4000)(hr:inR bits l):∀(j i q:Nat),i+j=l.length->j<q->Mb bits l q (i:Int) (Cy bits (l.take i))=some (Cy bits l,0)
 |0,i,q+1,hi,_=>by
  rw[Mb,Ys,Aau (by rw[Ae,Ac];simp;omega),Aqt (by omega)];rfl
 |j+1,i,q+1,hi,hq=>by
  have hlt:i<l.length:=by omega
  have ih:=Aj8 h l hl hr j (i+1) q (by omega) (by omega);have hlen:=OC bits (l.take i);have hol:=Ad6 bits l[i].toInt;rw[Afa]at hlen;have e2:Cy bits (l.take i++[l[i]])=Cy bits (l.take i)++NF bits l[i].toInt:=by unfold Cy;rw[List.flatMap_append,List.flatMap_singleton]
  rw[Lg hlt,e2]at ih;rw[Mb,Ys,Ab3 (by rw[Ae,Ac];simp;omega),Bn hlt,Aa,Awa h _ (hr l[i] (Ams _)),Aa,Bw,Aa,Ak];exact ih
theorem FU{bits:Int}(h:Bu bits){l:List Int32}(hl:l.length<=4000)(hc:Ay bits l=some 0):Wl bits l=some (Cy bits l,0):=by
 have h1:=Aj8 h l hl (gK h hl hc) l.length 0 Ax (by omega) (by have:=As;omega);rw[Wl,MU,hc,Aa,Aau (by rw[Ag];simp)];exact h1
def aK:List UInt8->Nat->Int×Int
 |[],n=>((n:Int),0)
 |c::r,n=>if 128<=c.toNat then(0,12)else aK r (128*n+c.toNat)
theorem Alg:∀(l:List UInt8) (n k:Nat),n<128^k->0<= (aK l n).1/\ (aK l n).1<((128^(k+l.length):Nat):Int)
 |[],n,k,h=>by simp[aK];exact_mod_cast h
 |c::r,n,k,h=>by
  rw[aK];split
  ·have:0<128^(k+(c::r).length):=Bdk (by omega);exact⟨Int.le_refl _,by simp only;exact_mod_cast this⟩
  ·have:=Alg r (128*n+c.toNat) (k+1) (by rw[Ayo];omega);rw[Akt,show k+(r.length+1)=k+1+r.length by omega];exact this
theorem or7(n c:Nat)(hn:n<268435456)(hc:c<128):D0 (Ei (n:Int) (GI.toZ (7:UInt64)).toNat) (c:Int)=((128*n+c:Nat):Int):=by
 have e:(GI.toZ (7:UInt64)).toNat=7:=rfl;have h1:Ei (n:Int) 7=((2^7*n:Nat):Int):=by
  have:Ei (n:Int) 7=wrap64 ((n:Int)*2^7):=rfl;rw[this,Dd (by omega) (by omega)];omega
 rw[e,h1];have h2:D0 ((2^7*n:Nat):Int) (c:Int)=wrap64 ((BitVec.ofInt 64 ((2^7*n:Nat):Int)|||BitVec.ofInt 64 (c:Int)).toNat:Int):=rfl;rw[h2,BitVec.toNat_or,Bdr,Bdr];have h3:(((2^7*n:Nat):Int) %((2^64:Nat):Int)).toNat=2^7*n:=by omega
 have h4:((c:Int) %((2^64:Nat):Int)).toNat=c:=by omega
 rw[h3,h4,<-Bbb (by simpa using hc),Dd (by omega) (by omega)]
theorem Alb(b:List UInt8)(hb:b.length=4):∀(j i q n:Nat),i+j=4->j<q->n<128^i->Py b q (n:Int) (i:Int)=some (aK (b.drop i) n)
 |0,i,q+1,n,hi,_,_=>by
  rw[Py,BJ,Aau (by rw[Ae,Ac];simp;omega),show b.drop i=[] by simp;omega];rfl
 |j+1,i,q+1,n,hi,hq,hn=>by
  have hlt:i<b.length:=by omega
  have hn2:n<268435456:=Ai7 hn (show 128^i<=128^4 from Afq (by omega) (by omega));rw[Py,BJ,Ab3 (by rw[Ae,Ac];simp;omega),Bn hlt,Aa,drop_cons hlt,aK,Aqv];by_cases hc:128<=b[i].toNat
  ·rw[Ab3 (by simp;omega),Ab3 hc]
  ·rw[Aau (by simp;omega),Aau hc,VW,or7 n _ hn2 (by omega),Ak];exact Alb b hb j (i+1) q _ (by omega) (by omega) (by rw[Ayo];omega)
theorem Arq(b:List UInt8)(hb:b.length=4):∀(j i q n:Nat),i+j=4->j<q->n<128^i->Lu b q (n:Int) (i:Int)=some (aK (b.drop i) n)
 |0,i,q+1,n,hi,_,_=>by
  rw[Lu,Yr,Aau (by rw[Ae];simp;omega),show b.drop i=[] by simp;omega];rfl
 |j+1,i,q+1,n,hi,hq,hn=>by
  have hlt:i<b.length:=by omega
  have hn2:n<268435456:=Ai7 hn (show 128^i<=128^4 from Afq (by omega) (by omega));rw[Lu,Yr,Ab3 (by rw[Ae];simp;omega),Bn hlt,Aa,drop_cons hlt,aK,Aqi];have h128:(128:UInt8).toNat=128:=rfl;by_cases hc:128<=b[i].toNat
  ·rw[Ab3 (by simpa using hc),Ab3 hc]
  ·have h3:=b[i].toNat_lt;rw[Aau (by simpa using hc),Aau hc,Aa,VW,Ii,Ak,Ak];have:=Arq b hb j (i+1) q (128*n+b[i].toNat) (by omega) (by omega) (by rw[Ayo];omega);rw[<-this];rfl
theorem Ahx(b:List UInt8)(hb:b.length=4):PM b=some (aK b 0):=by
 have h:=Alb b hb 4 0 Ax 0 (by omega) (by have:=As;omega) (by simp);rw[PM,OP,Aau (by rw[Ag,Ac];simp;omega),NZ];exact h
theorem Amo(b:List UInt8)(hb:b.length=4):FF b=some (aK b 0):=by
 have h:=Arq b hb 4 0 Ax 0 (by omega) (by have:=As;omega) (by simp);rw[FF,MC,Aau (by rw[Ag,Ac];simp;omega),LW];exact h
theorem Aht{b:List UInt8}(hb:b.length=4):0<= (aK b 0).1/\ (aK b 0).1<268435456:=by
 have:=Alg b 0 0 (by simp);rw[hb]at this;simpa using this
theorem jC(s p:List UInt8):Nv s p=some (decide (p.length<=s.length/\s.take p.length=p)):=by
 rw[Nv];by_cases h:p.length<=s.length
 ·rw[Ab3 (by rw[Dy,Ac,Ac];simp;omega),show Ac p=(p.length:Int)from rfl,Dg,Aa,Iq,Aa,Ae3];congr 1;rw[Ajf];simp[h]
 ·rw[Aau (by rw[Dy,Ac,Ac];simp;omega)];simp[h]
def US(b:List UInt8)(n:Int):Int×Int:=
 if 4000<n then(0,4)else if(b.length:Int)<n then(0,24)else
 if b.getD 5 0=16/\ (b.take n.toNat).drop (n-10).toNat≠ [51,68,73]++part b 3 7 then(0,12)else(n,0)
def xY(b:List UInt8)(r:Int):Int×Int:=US b (r+10+(if b.getD 5 0=16 then 10 else 0))
def Na(b:List UInt8):Int×Int:=
 if ¬(3<=b.length/\b.take 3=[73,68,51])then(0,6)else if b.length<10 then(0,24)else
 if(aK (part b 6 4) 0).2≠0\/b.getD 4 0≠0\/ ¬((b.getD 5 0=0/\2<= (b.getD 3 0).toNat/\ (b.getD 3 0).toNat<=4)\/ (b.getD 5 0=16/\b.getD 3 0=4))then(0,12)else
 xY b (aK (part b 6 4) 0).1
theorem vF{b:List UInt8}{i:Nat}(h:i<b.length):Ao b (i:Int)=some (b.getD i 0):=by
 rw[Bn h];simp[List.getD_eq_getElem?_getD,h]
theorem Sp{b:List UInt8}(a w:Nat)(h:a+w<=b.length:=by omega):Bm b (a:Int) ((a+w:Nat):Int)=some (part b a w):=by
 rw[Oa];rfl
theorem Axi(b:List UInt8)(r:Int)(h10:10<=b.length)(h0:0<=r)(h1:r<268435456):Zy b r=some (xY b r):=by
 have g5:Ao b (5:Int)=some (b.getD 5 0):=vF (i:=5) (by omega);have key:∀n:Int,10<=n->n<268435500->Zu b n=some (US b n):=by
  intro n hn hn2;rw[Zu,QM,US];by_cases c1:4000<n
  ·rw[Ab3 (by rw[Aq];simpa using c1),Ab3 c1]
  ·rw[Aau (by rw[Aq];simpa using c1),Aau c1];by_cases c2:(b.length:Int)<n
   ·rw[Ab3 (by rw[Ae,Ac];simpa using c2),Ab3 c2]
   ·have e3:Bm b (3:Int) (10:Int)=some (part b 3 7):=Sp 3 7;rw[Aau (by rw[Ae,Ac];simpa using c2),Aau c2,g5,Aa];by_cases c3:b.getD 5 0=16
    ·rw[Ab3 (by rw[WO];simpa using c3),Bs,Oa,Aa,e3,Aa,Bw (by rw[Ew];simp),Aa];by_cases c4:(b.take n.toNat).drop (n-10).toNat=[51,68,73]++part b 3 7
     ·rw[Aau (by simpa using c4),Aau (by intro h;exact h.2 c4)]
     ·rw[Ab3 (by simpa using c4),Ab3 ⟨c3,c4⟩]
    ·rw[Aau (by rw[WO];simpa using c3),Aau (λh=>c3 h.1)]
 rw[Zy,QI,g5,Aa,xY];by_cases c3:b.getD 5 0=16
 ·rw[Ab3 (by rw[WO];simpa using c3),Ak (by rw[Ak]<;>omega) (by rw[Ak]<;>omega),Ak,key _ (by omega) (by omega),Ab3 c3,show 10+r+10=r+10+10 by omega]
 ·rw[Aau (by rw[WO];simpa using c3),Ak,key _ (by omega) (by omega),Aau c3,show 10+r=r+10+0 by omega]
theorem Asu(b:List UInt8)(hb:b.length<4611686018427387904):KW b=some (Na b):=by
 rw[KW,RO,Na];by_cases h3:3<=b.length
 ·rw[Aau (by rw[Ae,Ac];simp;omega),Dg,Aa];by_cases hp:b.take 3=[73,68,51]
  ·rw[Aau (by simpa using hp),Aau (by simp[h3,hp]),RS,QJ];by_cases h10:b.length<10
   ·rw[Ab3 (by rw[Ae,Ac];simp;omega),Ab3 h10]
   ·have e6:Bm b (6:Int) (10:Int)=some (part b 6 4):=Sp 6 4;have g3:Ao b (3:Int)=some (b.getD 3 0):=vF (i:=3) (by omega);have g4:Ao b (4:Int)=some (b.getD 4 0):=vF (i:=4) (by omega);have g5:Ao b (5:Int)=some (b.getD 5 0):=vF (i:=5) (by omega);obtain⟨v1,v2⟩:=Aht (b:=part b 6 4) (Ew);rw[Aau (by rw[Ae,Ac];simp;omega),Aau h10,e6,Aa,Amo _ (Ew),Aa];have ht:=Axi b (aK (part b 6 4) 0).1 (by omega) v1 v2;generalize aK (part b 6 4) 0=v at*
    obtain⟨v,e⟩:=v;simp only at ht v1 v2⊢;simp only[Aa,g3,g4,g5,ht];generalize b.getD 3 0=x at*
    generalize b.getD 4 0=y at*
    generalize b.getD 5 0=z at*
    simp only[Ah1,Azy,Aqv,Ag];by_cases he:e=0<;>by_cases hy:y=0<;>by_cases hz:z=0<;>by_cases hz2:z=16<;>by_cases hx:x=4<;>by_cases hx2:x.toNat<2<;>by_cases hx4:4<x.toNat<;>simp_all<;>(rw[Aau (by omega),Aau (by omega)])
  ·rw[Ab3 (by simpa using hp),Ab3 (by simp[hp])]
 ·rw[Ab3 (by rw[Ae,Ac];simp;omega),Ab3 (by simp[h3])]
theorem za(b:List UInt8)(n:Int)(h10:10<=b.length)(hn:10<=n)(hn2:n<268435500):DV b (b.getD 5 0) n=some (US b n):=by
 rw[DV,kY];by_cases c1:4000<n
 ·rw[Ab3 (by rw[Aq];simpa using c1),US,Ab3 c1]
 ·rw[Aau (by rw[Aq];simpa using c1)];by_cases c2:(b.length:Int)<n
  ·rw[Ab3 (by rw[Ae,Ac];simpa using c2),US,Aau c1,Ab3 c2]
  ·have e3:Bm b (3:Int) (10:Int)=some (part b 3 7):=Sp 3 7;rw[Aau (by rw[Ae,Ac];simpa using c2)];by_cases c3:b.getD 5 0=16
   ·have hl:((b.take n.toNat).drop (n-10).toNat).length=10:=by simp;omega
    have ht:US b n=if(b.take n.toNat).drop (n-10).toNat≠ [51,68,73]++part b 3 7 then(0,12)else(n,0):=by rw[US,Aau c1,Aau c2];simp only[c3,true_and]
    rw[Ab3 (by rw[WO];simpa using c3),Bs,Oa,Aa,ht];generalize(b.take n.toNat).drop (n-10).toNat=f at*
    rw[Dg,Aa,Bl,Aa,e3,Aa,Iq,Aa];have hf:f=f.take 3++f.drop 3:=(Aph 3 f).symm;by_cases c4:f=[51,68,73]++part b 3 7
    ·subst c4;simp
    ·by_cases c5:f.take 3=[51,68,73]
     ·have:f.drop 3≠part b 3 7:=λh=>c4 (by rw[hf,c5,h]);simp only[Bdv,Auc]at c4;simp[c4,c5,this]
     ·simp only[Bdv,Auc]at c4;simp[c4,c5]
   ·rw[Aau (by rw[WO];simpa using c3),US,Aau c1,Aau c2,Aau (λh=>c3 h.1)]
theorem Asl(b:List UInt8)(r:Int)(h10:10<=b.length)(h0:0<=r)(h1:r<268435456):DZ b r (b.getD 5 0)=some (xY b r):=by
 rw[DZ,SO,xY];by_cases c3:b.getD 5 0=16
 ·rw[Ab3 (by rw[WO];simpa using c3),Ak (by rw[Ak]<;>omega) (by rw[Ak]<;>omega),Ak,za b _ h10 (by omega) (by omega),Ab3 c3]
 ·rw[Aau (by rw[WO];simpa using c3),Ak,za b _ h10 (by omega) (by omega),Aau c3];simp
theorem Amg(b:List UInt8)(hb:b.length<4611686018427387904):VF b=some (Na b):=by
 rw[VF,EA,jC,Aa];by_cases hp:3<=b.length/\b.take 3=[73,68,51]
 ·rw[Aau (by simpa using hp)];by_cases h10:b.length<10
  ·rw[Ab3 (by rw[Ae,Ac];simp;omega),Na,Aau (λh=>h hp),Ab3 h10]
  ·have e6:Bm b (6:Int) (10:Int)=some (part b 6 4):=Sp 6 4;have g3:Ao b (3:Int)=some (b.getD 3 0):=vF (i:=3) (by omega);have g4:Ao b (4:Int)=some (b.getD 4 0):=vF (i:=4) (by omega);have g5:Ao b (5:Int)=some (b.getD 5 0):=vF (i:=5) (by omega);obtain⟨v1,v2⟩:=Aht (b:=part b 6 4) (Ew);have ht:=Asl b (aK (part b 6 4) 0).1 (by omega) v1 v2;rw[Aau (by rw[Ae,Ac];simp;omega),g3,Aa,g5,Aa,SQ,TF,e6,Aa,Ahx _ (Ew),Aa,Na,Aau (λh=>h hp),Aau h10];generalize aK (part b 6 4) 0=v at*
   obtain⟨v,e⟩:=v;simp only at ht v1 v2⊢;simp only[Aa,g4,SZ,SP];generalize b.getD 3 0=x at*
   generalize b.getD 4 0=y at*
   generalize b.getD 5 0=z at*
   simp only[Ah1,Ayz,WO,Aqi,Ag];have e2:(2:UInt8).toNat=2:=rfl;have e4:(4:UInt8).toNat=4:=rfl;by_cases he:e=0<;>by_cases hy:y=0<;>by_cases hz:z=0<;>by_cases hz2:z=16<;>by_cases hx:x=4<;>by_cases hx2:2<=x.toNat<;>by_cases hx4:x.toNat<=4<;>simp_all
 ·rw[Ab3 (by rw[Azo,Bbe];exact hp),Na,Ab3 hp]
theorem Ae7{b:List UInt8}{n:Int}(h:Na b=(n,0)):10<=n/\n<=b.length/\n<=4000:=by
 unfold Na at h;split at h; · simp at h
 split at h; · simp at h
 split at h; · simp at h
 rename_i h10 _;obtain⟨v1,v2⟩:=Aht (b:=part b 6 4) (Ew);unfold xY at h;generalize hm:(aK (part b 6 4) 0).1+10+(if b.getD 5 0=16 then 10 else 0)=m at h;unfold US at h;split at h; · simp at h
 split at h; · simp at h
 split at h; · simp at h
 simp only[Agt,Bf0]at h;subst h;refine⟨?_,by omega,by omega⟩;rw[<-hm];split<;>omega
def zA:List UInt8:=[65,80,69,84,65,71,69,88]
def Rv(n m fl:Nat):List UInt8:=zA++Rc 2000 4++Rc (n+32) 4++Rc m 4++Rc fl 4++List.replicate 8 0
theorem aO{n:Nat}(h:n<18446744073709551616):(UInt64.ofNat n).toNat=n:=by rw[Ag1,Ack h]
theorem rP(n m:Int)(fl:UInt64)(c:UInt64)(i q:Nat)(acc:List UInt8)(hi:i<6)(hc:Ao ([(2000:UInt64),(Af (Ad n (32:Int)):UInt64),(Af m:UInt64),fl,(0:UInt64),(0:UInt64)]:List UInt64) (i:Int)=some c)(h:c.toNat<4294967296)(ha:acc.length<=1000000):
  FE n m fl (q+1) (i:Int) acc=FE n m fl q ((i+1:Nat):Int) (acc++Rc c.toNat 4):=by
 have hb:=YH c 4 (by omega) (by omega) (by simpa using h);rw[FE,iB,Ab3 (by rw[Ae,Ac];simp;omega),hc,Aa,Aa,show((4:Int))=((4:Nat):Int)from rfl,hb,Aa];simp only;rw[Bw (by rw[Ca];omega),Aa,Ak];rfl
theorem mf(n m:Nat)(fl:UInt64)(hn:n<=3000)(hm:m<=1000)(hf:fl.toNat<4294967296):qZ (n:Int) (m:Int) fl=some (Rv n m fl.toNat):=by
 have e1:(Af (Ad (n:Int) (32:Int)):UInt64).toNat=n+32:=by rw[Ak,show(n:Int)+32=((n+32:Nat):Int) by omega,Yb,aO (by omega)]
 have e2:(Af (m:Int):UInt64).toNat=m:=by rw[Yb,aO (by omega)]
 have hF:Ax=(Ax-7)+1+1+1+1+1+1+1:=by have:=As;omega
 rw[qZ,uT,uF,hF];rw[show((0:Int))=((0:Nat):Int)from rfl,rP n m fl 2000 0 _ _ (by omega) rfl (by decide) (by simp),rP n m fl _ 1 _ _ (by omega) rfl (by rw[e1];omega) (by simp[Ca]),rP n m fl _ 2 _ _ (by omega) rfl (by rw[e2];omega) (by simp[Ca]),
  rP n m fl fl 3 _ _ (by omega) rfl hf (by simp[Ca]),rP n m fl 0 4 _ _ (by omega) rfl (by decide) (by simp[Ca]),rP n m fl 0 5 _ _ (by omega) rfl (by decide) (by simp[Ca]),e1,e2]
 rw[FE,iB,Aau (by rw[Ae,Ac];simp),tU,X1,Rv];have z:Rc (0:UInt64).toNat 4++Rc (0:UInt64).toNat 4=List.replicate 8 0:=by decide
 have z2:Rc (2000:UInt64).toNat 4=Rc 2000 4:=rfl;rw[Aej _ (Rc (0:UInt64).toNat 4),z,z2];rfl
theorem yE(n m:Nat)(fl:UInt64)(hn:n<=3000)(hm:m<=1000)(hf:fl.toNat<4294967296):Vv (n:Int) (m:Int) fl=some (Rv n m fl.toNat):=by
 have e1:(Af (Ad (n:Int) (32:Int)):UInt64).toNat=n+32:=by rw[Ak,show(n:Int)+32=((n+32:Nat):Int) by omega,Yb,aO (by omega)]
 have e2:(Af (m:Int):UInt64).toNat=m:=by rw[Yb,aO (by omega)]
 have w:∀c:UInt64,Fq c 4=some (Rc c.toNat 4):=λc=>Z7 c 4 (by omega);have z2:Rc (2000:UInt64).toNat 4=Rc 2000 4:=rfl;rw[Vv];simp only[w,e1,e2,Aa];rw[Bw (by simp[Ca]),Aa,Bw (by simp[Ca]),Aa,Bw (by simp[Ca]),Aa,Bw (by simp[Ca]),Aa,xE,Aa,Bw (by simp[Ca]),Aa,z2];rfl
theorem Uz{b:List UInt8}{a w k:Nat}(h:a+w<=k):part (b.take k) a w=part b a w:=by rw[part,part,Ayu,Apg h]
def BC(b:List UInt8):Bool:=decide (Df (part b 12 4)<32\/3032<Df (part b 12 4)\/1000<Df (part b 16 4))
theorem Ar9(b:List UInt8)(h:20<=b.length):(((Cj (sV (part b 12 4)) (32:UInt64))||(Ex (sV (part b 12 4)) (3032:UInt64)))||(Ex (sV (part b 16 4)) (1000:UInt64)))=BC b:=by
 rw[N4,cF,cF,cJ (by rw[Ew];omega),cJ (by rw[Ew];omega),BC];show((decide (Df (part b 12 4)<32)||decide (3032<Df (part b 12 4)))||decide (1000<Df (part b 16 4)))=_;simp[Bool.or_assoc]
theorem zV(b:List UInt8)(h:20<=b.length)(hb:BC b=false):Ap (Af (sV (part b 12 4)):Int) (32:Int)=((Df (part b 12 4)-32:Nat):Int)/\ (Af (sV (part b 16 4)):Int)=((Df (part b 16 4):Nat):Int)/\Df (part b 12 4)-32<=3000/\Df (part b 16 4)<=1000:=by
 simp only[BC,Bbe]at hb;refine⟨?_,PB (by rw[Ew];omega),by omega,by omega⟩;rw[PB (by rw[Ew];omega),Bs];omega
theorem kK(b:List UInt8)(fl:UInt64)(h:20<=b.length)(hl:b.length<4611686018427387904)(hf:fl.toNat<4294967296):
  VV b fl=some (if BC b=true then(0,0,false)else(((Df (part b 12 4)-32:Nat):Int),((Df (part b 16 4):Nat):Int),b==Rv (Df (part b 12 4)-32) (Df (part b 16 4)) fl.toNat)):=by
 have a1:eJ b 12 4=some (sV (part b 12 4),0):=wz b 12 4 (by omega) (by omega) (by omega) hl;have a2:eJ b 16 4=some (sV (part b 16 4),0):=wz b 16 4 (by omega) (by omega) (by omega) hl;rw[VV,a1,Aa];simp only;rw[a2,Aa];simp only;rw[Ar9 b h];cases hb:BC b with
 |true=>rfl
 |false=>
  obtain⟨i1,i2,i3,i4⟩:=zV b h hb;rw[i1,i2,mf _ _ _ i3 i4 hf];rfl
theorem Adv(b:List UInt8)(h:20<=b.length)(hl:b.length<4611686018427387904):
  Yv b=some (if BC b=true then(0,0,false)else(((Df (part b 12 4)-32:Nat):Int),((Df (part b 16 4):Nat):Int),true)):=by
 have a1:Bm b 12 16=some (part b 12 4):=Sp 12 4;have a2:Bm b 16 20=some (part b 16 4):=Sp 16 4;rw[Yv,a1,Aa,Agh _ (by rw[Ew];omega),Aa,a2,Aa,Agh _ (by rw[Ew];omega),Aa,Ar9 b h];cases hb:BC b with
 |true=>rfl
 |false=>
  obtain⟨i1,i2,i3,i4⟩:=zV b h hb;rw[i1,i2];rfl
def Ik(b:List UInt8):Int×Int:=
 if ¬(8<=b.length/\b.take 8=zA)then(0,6)else if b.length<32 then(0,24)else
 if BC b=true\/b.take 32≠Rv (Df (part b 12 4)-32) (Df (part b 16 4)) 2684354560 then(0,12)else
 if b.length<Df (part b 12 4)+32 then(0,24)else
 if(b.take (Df (part b 12 4)+32)).drop (Df (part b 12 4))≠Rv (Df (part b 12 4)-32) (Df (part b 16 4)) 2147483648 then(0,12)else(((Df (part b 12 4)+32:Nat):Int),0)
theorem Ae6(b:List UInt8):BC (b.take 32)=BC b:=by rw[BC,BC,Uz (by omega),Uz (by omega)]
section
variable {b:List UInt8}
theorem fa1(h:¬(8<=b.length/\b.take 8=zA)):Ik b=(0,6):=by rw[Ik,Ab3 h]
theorem fa2(h:8<=b.length/\b.take 8=zA)(h2:b.length<32):Ik b=(0,24):=by rw[Ik,Aau (λh'=>h' h),Ab3 h2]
variable (h:8<=b.length/\b.take 8=zA) (h2:¬b.length<32)
include h h2
theorem fa3(h3:BC b=true):Ik b=(0,12):=by rw[Ik,Aau (λh'=>h' h),Aau h2,Ab3 (.inl h3)]
theorem fa4(h4:b.take 32≠Rv (Df (part b 12 4)-32) (Df (part b 16 4)) 2684354560):Ik b=(0,12):=by rw[Ik,Aau (λh'=>h' h),Aau h2,Ab3 (.inr h4)]
variable (h3:BC b=false) (h4:b.take 32=Rv (Df (part b 12 4)-32) (Df (part b 16 4)) 2684354560)
include h3 h4
theorem fa5(h5:b.length<Df (part b 12 4)+32):Ik b=(0,24):=by
 rw[Ik,Aau (λh'=>h' h),Aau h2,Aau (λh'=>h'.elim (λe=>by rw[h3]at e;cases e) λe=>e h4),Ab3 h5]
theorem fa6(h5:¬b.length<Df (part b 12 4)+32)(h6:(b.take (Df (part b 12 4)+32)).drop (Df (part b 12 4))≠Rv (Df (part b 12 4)-32) (Df (part b 16 4)) 2147483648):Ik b=(0,12):=by
 rw[Ik,Aau (λh'=>h' h),Aau h2,Aau (λh'=>h'.elim (λe=>by rw[h3]at e;cases e) λe=>e h4),Aau h5,Ab3 h6]
theorem fa7(h5:¬b.length<Df (part b 12 4)+32)(h6:(b.take (Df (part b 12 4)+32)).drop (Df (part b 12 4))=Rv (Df (part b 12 4)-32) (Df (part b 16 4)) 2147483648):Ik b=(((Df (part b 12 4)+32:Nat):Int),0):=by
 rw[Ik,Aau (λh'=>h' h),Aau h2,Aau (λh'=>h'.elim (λe=>by rw[h3]at e;cases e) λe=>e h4),Aau h5,Aau (λh'=>h' h6)]
end
theorem Ai1(b:List UInt8)(hl:b.length<4611686018427387904):rY b=some (Ik b):=by
 rw[rY,jC,Aa];by_cases hp:8<=b.length/\b.take 8=zA
 ·rw[Aau (by simpa [zA]using hp)];by_cases h32:b.length<32
  ·rw[Ab3 (by rw[Ae,Ac];simp;omega),fa2 hp h32]
  ·have t:=kK (b.take 32) 2684354560 (by simp;omega) (by simp;omega) (by decide);rw[Ae6,Uz (by omega),Uz (by omega)]at t;rw[Aau (by rw[Ae,Ac];simp;omega),Dg,Aa,show(32:Int).toNat=32 from rfl,t,Aa];cases hb:BC b with
   |true=>rw[fa3 hp h32 hb];simp
   |false=>
    obtain⟨i1,i2,i3,i4⟩:=zV b (by omega) hb;have i5:32<=Df (part b 12 4):=by simp only[BC,Bbe]at hb;omega
    simp only[Avr,Bd4,false_or];by_cases c1:b.take 32=Rv (Df (part b 12 4)-32) (Df (part b 16 4)) 2684354560
    ·have c1':b.take 32=Rv (Df (part b 12 4)-32) (Df (part b 16 4)) (2684354560:UInt64).toNat:=c1;rw[Aau (by simpa using c1'),Ak];have e1:((Df (part b 12 4)-32:Nat):Int)+64=((Df (part b 12 4)+32:Nat):Int):=by omega
     rw[e1];by_cases c2:b.length<Df (part b 12 4)+32
     ·rw[Ab3 (by rw[Ae,Ac];simp;omega),fa5 hp h32 hb c1 c2]
     ·rw[Aau (by rw[Ae,Ac];simp;omega),Bs,Oa,Aa,mf _ _ _ i3 i4 (by decide),Aa,Iq,Aa];rw[show(((Df (part b 12 4)+32:Nat):Int)).toNat=Df (part b 12 4)+32 by omega,show(((Df (part b 12 4)+32:Nat):Int)-32).toNat=Df (part b 12 4) by omega];by_cases c3:(b.take (Df (part b 12 4)+32)).drop (Df (part b 12 4))=Rv (Df (part b 12 4)-32) (Df (part b 16 4)) 2147483648
      ·have c3':(b.take (Df (part b 12 4)+32)).drop (Df (part b 12 4))=Rv (Df (part b 12 4)-32) (Df (part b 16 4)) (2147483648:UInt64).toNat:=c3;rw[Aau (by simpa using c3'),fa7 hp h32 hb c1 c2 c3]
      ·have c3':¬(b.take (Df (part b 12 4)+32)).drop (Df (part b 12 4))=Rv (Df (part b 12 4)-32) (Df (part b 16 4)) (2147483648:UInt64).toNat:=c3;rw[Ab3 (by simpa using c3'),fa6 hp h32 hb c1 c2 c3]
    ·have c1':¬b.take 32=Rv (Df (part b 12 4)-32) (Df (part b 16 4)) (2684354560:UInt64).toNat:=c1;rw[Ab3 (by simpa using c1'),fa4 hp h32 c1]
 ·rw[Ab3 (by rw[Azo,Bbe];exact hp),fa1 hp]
theorem Anp(b:List UInt8)(hl:b.length<4611686018427387904):EL b=some (Ik b):=by
 rw[EL,MH];by_cases h8:8<=b.length
 ·rw[Aau (by rw[Ae,Ac];simp;omega),Dg,Aa,show(8:Int).toNat=8 from rfl];by_cases ha:b.take 8=zA
  ·have hp:=And.intro h8 ha;rw[Aau (by simpa [zA]using ha),MT,MX];by_cases h32:b.length<32
   ·rw[Ab3 (by rw[Ae,Ac];simp;omega),fa2 hp h32]
   ·have t:=Adv (b.take 32) (by simp;omega) (by simp;omega);rw[Ae6,Uz (by omega),Uz (by omega)]at t;rw[Aau (by rw[Ae,Ac];simp;omega),Dg,Aa,show(32:Int).toNat=32 from rfl,t,Aa];cases hb:BC b with
    |true=>rw[fa3 hp h32 hb];simp
    |false=>
     obtain⟨i1,i2,i3,i4⟩:=zV b (by omega) hb;have i5:32<=Df (part b 12 4):=by simp only[BC,Bbe]at hb;omega
     simp only[Avr,Bd4,false_or,Aa,Bfh];rw[Zl,yE _ _ _ i3 i4 (by decide),Aa,Aa];by_cases c1:b.take 32=Rv (Df (part b 12 4)-32) (Df (part b 16 4)) 2684354560
     ·have c1':b.take 32=Rv (Df (part b 12 4)-32) (Df (part b 16 4)) (2684354560:UInt64).toNat:=c1;rw[Aau (by simpa using c1'),NA,ML,Ak];have e1:64+((Df (part b 12 4)-32:Nat):Int)=((Df (part b 12 4)+32:Nat):Int):=by omega
      rw[e1];by_cases c2:b.length<Df (part b 12 4)+32
      ·rw[Ab3 (by rw[Ae,Ac];simp;omega),fa5 hp h32 hb c1 c2]
      ·rw[Aau (by rw[Ae,Ac];simp;omega),Bs,Oa,Aa,Ns,Ab3 rfl,yE _ _ _ i3 i4 (by decide),Aa,Aa];rw[show(((Df (part b 12 4)+32:Nat):Int)).toNat=Df (part b 12 4)+32 by omega,show(((Df (part b 12 4)+32:Nat):Int)-32).toNat=Df (part b 12 4) by omega];by_cases c3:(b.take (Df (part b 12 4)+32)).drop (Df (part b 12 4))=Rv (Df (part b 12 4)-32) (Df (part b 16 4)) 2147483648
       ·have c3':(b.take (Df (part b 12 4)+32)).drop (Df (part b 12 4))=Rv (Df (part b 12 4)-32) (Df (part b 16 4)) (2147483648:UInt64).toNat:=c3;rw[Aau (by simpa using c3'),fa7 hp h32 hb c1 c2 c3]
       ·have c3':¬(b.take (Df (part b 12 4)+32)).drop (Df (part b 12 4))=Rv (Df (part b 12 4)-32) (Df (part b 16 4)) (2147483648:UInt64).toNat:=c3;rw[Ab3 (by simpa using c3'),fa6 hp h32 hb c1 c2 c3]
     ·have c1':¬b.take 32=Rv (Df (part b 12 4)-32) (Df (part b 16 4)) (2684354560:UInt64).toNat:=c1;rw[Ab3 (by simpa using c1'),fa4 hp h32 c1]
  ·rw[Ab3 (by simpa [zA]using ha),fa1 (λh=>ha h.2)]
 ·rw[Ab3 (by rw[Ae,Ac];simp;omega),fa1 (λh=>h8 h.1)]
theorem zY{b:List UInt8}{n:Int}(h:Ik b=(n,0)):64<=n/\n<=b.length:=by
 unfold Ik at h;split at h; · simp at h
 split at h; · simp at h
 split at h; · simp at h
 rename_i hb;split at h; · simp at h
 split at h; · simp at h
 simp only[Agt,Bf0]at h;have hb':¬BC b=true:=λe=>hb (.inl e);simp only[BC,Acj]at hb';omega
def Ce(b:List UInt8):Int×Int:=if(Na b).2≠6 then Na b else Ik b
theorem size_eq(b:List UInt8)(hl:b.length<4611686018427387904):Zs b=some (Ce b):=by
 rw[Zs,Amg b hl,Aa,Ai1 b hl];by_cases h:(Na b).2=6
 ·simp[Ce,h,Ag]
 ·simp[Ce,h,Ag]
theorem aB{b:List UInt8}{n:Int}(h:Ce b=(n,0)):10<=n/\n<=b.length:=by
 unfold Ce at h;split at h
 ·have:=Ae7 h;omega
 ·have:=zY h;omega
def Bp(b:List UInt8):Nat->Nat->List Int×Int
 |0,_=>([],6)
 |j+1,p=>if(Ce (b.drop p)).2=6 then([],0)else if(Ce (b.drop p)).2≠0 then([],(Ce (b.drop p)).2)else
  if 4000<(p:Int)+(Ce (b.drop p)).1 then([],4)else
  if(Bp b j (p+(Ce (b.drop p)).1.toNat)).2=0 then((Ce (b.drop p)).1::(Bp b j (p+(Ce (b.drop p)).1.toNat)).1,0)else([],(Bp b j (p+(Ce (b.drop p)).1.toNat)).2)
theorem VX(b:List UInt8):∀(j p:Nat),p<=b.length->p<=4000-> (Bp b j p).2=0-> (∀x∈(Bp b j p).1,10<=x)/\ (p:Int)+(Bp b j p).1.sum<=b.length/\ (p:Int)+(Bp b j p).1.sum<=4000
 |0,p,_,_,h=>by simp[Bp]at h
 |j+1,p,hp,hq,h=>by
  rw[Bp]at h⊢;split at h
  ·rename_i h6;rw[Ab3 h6];simp;omega
  ·rename_i h6;split at h
   ·rename_i h0;exact absurd h h0
   ·rename_i h0;rw[Aau h6,Aau h0];have hz:Ce (b.drop p)=((Ce (b.drop p)).1,0):=by rw[Prod.ext_iff];exact⟨rfl,Classical.not_not.1 h0⟩
    have hs:=aB hz;rw[Agy]at hs;split at h
    ·simp at h
    ·rename_i h4;rw[Aau h4];split at h
     ·rename_i h00;rw[Ab3 h00];obtain⟨i1,i2,i3⟩:=VX b j _ (by omega) (by omega) h00;refine⟨λx hx=>?_,?_,?_⟩
      ·rcases List.mem_cons.1 hx with rfl|hx
       ·exact hs.1
       ·exact i1 x hx
      ·simp only[Awb];omega
      ·simp only[Awb];omega
     ·rename_i h00;exact absurd h h00
def A7(b:List UInt8)(j p:Nat):Int×Int:=if(Bp b j p).2=0 then((p:Int)+(Bp b j p).1.sum,0)else(0,(Bp b j p).2)
theorem Y8(b:List UInt8)(hl:b.length<4611686018427387904):∀(j p q:Nat),p<=b.length->p<=4000->b.length-p<j->j<=q->Ya b q (p:Int)=some (A7 b j p)
 |0,p,q,_,_,h,_=>by omega
 |j+1,p,q,hp,hp4,hj,hq=>by
  obtain⟨q,rfl⟩:∃k,q=k+1:=⟨q-1,by omega⟩;rw[Ya,Bl,Aa,Ae3,size_eq _ (by simp;omega),Aa,Ar,Ar,Ag,A7];by_cases h6:(Ce (b.drop p)).2=6
  ·rw[Ab3 (by simpa using h6)];have:Bp b (j+1) p=([],0):=by rw[Bp,Ab3 h6]
   rw[this];simp
  ·rw[Aau (by simpa using h6)];by_cases h0:(Ce (b.drop p)).2=0
   ·have hz:Ce (b.drop p)=((Ce (b.drop p)).1,0):=by rw[Prod.ext_iff];exact⟨rfl,h0⟩
    have hs:=aB hz;rw[Agy]at hs;rw[Ak,Aq];by_cases h4:4000<(p:Int)+(Ce (b.drop p)).1
    ·rw[Ab3 (by simp[h0];omega)];have:Bp b (j+1) p=([],4):=by rw[Bp,Aau h6,Aau (λh=>h h0),Ab3 h4]
     rw[this];simp
    ·rw[Aau (by simp[h0];omega),Aau (by simpa using h0)];have ih:=Y8 b hl j (p+(Ce (b.drop p)).1.toNat) q (by omega) (by omega) (by omega) (by omega);rw[show(p:Int)+(Ce (b.drop p)).1=((p+(Ce (b.drop p)).1.toNat:Nat):Int) by omega,ih,A7];have:Bp b (j+1) p=if(Bp b j (p+(Ce (b.drop p)).1.toNat)).2=0 then((Ce (b.drop p)).1::(Bp b j (p+(Ce (b.drop p)).1.toNat)).1,0)else([],(Bp b j (p+(Ce (b.drop p)).1.toNat)).2):=by
      rw[Bp,Aau h6,Aau (λh=>h h0),Aau h4]
     rw[this];by_cases hr:(Bp b j (p+(Ce (b.drop p)).1.toNat)).2=0
     ·simp only[hr,Bgc,Awb];congr 2;omega
     ·simp only[hr,Bd4]
   ·rw[Aau (by simp[h0]),Ab3 (by simpa using h0)];have:Bp b (j+1) p=([],(Ce (b.drop p)).2):=by rw[Bp,Aau h6,Ab3 h0]
    rw[this];simp[h0]
def Ar8(b:List UInt8)(j p:Nat)(xs:List Int):List Int×Int:=if(Bp b j p).2=0 then(xs++(Bp b j p).1,0)else([],(Bp b j p).2)
theorem Ar5(bk:Int->List Int->Option (List Int×Int))(b:List UInt8)(p:Nat)(hp:p<=b.length)(xs:List Int)(hx:xs.length<=4000)(hl:b.length<4611686018427387904):Yf (Rg bk b) b (p:Int) xs=Rg bk b (p:Int) xs (Ce (b.drop p)).1 (Ce (b.drop p)).2:=by
 have hf:=Anp (b.drop p) (by simp;omega);rw[Yf,Bl,Aa,Ae3,Asu _ (by simp;omega),Aa];by_cases h:(Na (b.drop p)).2=6
 ·simp[Ce,h,Ar,hf]
 ·simp[Ce,h,Ar]
theorem wu(b:List UInt8)(hl:b.length<4611686018427387904):∀(j p q:Nat) (xs:List Int),p<=b.length->p<=4000->b.length-p<j->j<=q->xs.length<=p->Ri b q (p:Int) xs=some (Ar8 b j p xs)
 |0,p,q,_,_,_,h,_,_=>by omega
 |j+1,p,q,xs,hp,hp4,hj,hq,hx=>by
  obtain⟨q,rfl⟩:∃k,q=k+1:=⟨q-1,by omega⟩;rw[Ri,Ar5 _ b p hp xs (by omega) hl,Rg,MP,Ar,Ag,Ar8];by_cases h6:(Ce (b.drop p)).2=6
  ·rw[Ab3 (by simpa using h6)];have:Bp b (j+1) p=([],0):=by rw[Bp,Ab3 h6]
   rw[this];simp
  ·rw[Aau (by simpa using h6)];by_cases h0:(Ce (b.drop p)).2=0
   ·have hz:Ce (b.drop p)=((Ce (b.drop p)).1,0):=by rw[Prod.ext_iff];exact⟨rfl,h0⟩
    have hs:=aB hz;rw[Agy]at hs;rw[Aau (by simpa using h0),Ak,Aq];by_cases h4:4000<(p:Int)+(Ce (b.drop p)).1
    ·rw[Ab3 (by simp;omega)];have:Bp b (j+1) p=([],4):=by rw[Bp,Aau h6,Aau (λh=>h h0),Ab3 h4]
     rw[this];simp
    ·rw[Aau (by simp;omega),Bw (by simp;omega),Aa];have ih:=wu b hl j (p+(Ce (b.drop p)).1.toNat) q (xs++[(Ce (b.drop p)).1]) (by omega) (by omega) (by omega) (by omega) (by simp;omega);rw[show(p:Int)+(Ce (b.drop p)).1=((p+(Ce (b.drop p)).1.toNat:Nat):Int) by omega,ih,Ar8];have:Bp b (j+1) p=if(Bp b j (p+(Ce (b.drop p)).1.toNat)).2=0 then((Ce (b.drop p)).1::(Bp b j (p+(Ce (b.drop p)).1.toNat)).1,0)else([],(Bp b j (p+(Ce (b.drop p)).1.toNat)).2):=by
      rw[Bp,Aau h6,Aau (λh=>h h0),Aau h4]
     rw[this];by_cases hr:(Bp b j (p+(Ce (b.drop p)).1.toNat)).2=0
     ·simp only[hr,Bgc];simp
     ·simp only[hr,Bd4]
   ·rw[Ab3 (by simpa using h0)];have:Bp b (j+1) p=([],(Ce (b.drop p)).2):=by rw[Bp,Aau h6,Ab3 h0]
    rw[this];simp[h0]
theorem rI:∀{l:List Int},(∀x∈l,10<=x)->0<=l.sum/\ (l.length:Int)<=l.sum
 |[],_=>by simp
 |x::l,h=>by
  have h1:=h x Ays;have h2:=rI (l:=l) λy hy=>h y (Am3 _ hy);simp only[Awb,Akt];omega
theorem O4(r:Int)(l:List Int)(hl:l.length<=4000)(hx:∀x∈l,10<=x):∀(j i q:Nat) (n:Int),i+j=l.length->j<q->0<=n->n+(l.drop i).sum<=4000->Lr r l q n (i:Int)=some (n+(l.drop i).sum,r)
 |0,i,q+1,n,hi,_,_,_=>by
  rw[Lr,Yp,Aau (by rw[Ae,Ac];simp;omega),show i=l.length by omega,Bdz];simp[MW,MG]
 |j+1,i,q+1,n,hi,hq,hn,hs=>by
  have hlt:i<l.length:=by omega
  rw[drop_cons hlt,Awb]at hs⊢;have h1:=hx l[i] (Ams hlt);have h2:=rI (l:=l.drop (i+1)) λy hy=>hx y (Bfl hy);rw[Lr,Yp,Ab3 (by rw[Ae,Ac];simp;omega),Bn hlt,Aa,Aa,Ak,Ak];have ih:=O4 r l hl hx j (i+1) q (n+l[i]) (by omega) (by omega) (by omega) (by omega);rw[show((i:Int)+1)=((i+1:Nat):Int) by omega,ih];congr 2;omega
def Bc(b:List UInt8):Int×Int:=A7 b (b.length+1) 0
theorem Eb(b:List UInt8)(hl:b.length<4611686018427387904):Ir b=some (Bc b):=by
 have:=Y8 b hl (b.length+1) 0 Ax (by omega) (by omega) (by omega) (by have:=As;omega);exact this
theorem So(b:List UInt8)(hl:b.length<4611686018427387904):Jo b=some (Bc b):=by
 have h:=wu b hl (b.length+1) 0 Ax [] (by omega) (by omega) (by omega) (by have:=As;omega) (by simp);have h':WJ b=some (Ar8 b (b.length+1) 0 []):=h;rw[Jo,MF,h',Aa,Bc,A7,Ar8];have ho:=VX b (b.length+1) 0 (by omega) (by omega);by_cases h0:(Bp b (b.length+1) 0).2=0
 ·obtain⟨i1,i2,i3⟩:=ho h0;have hp:=rI i1;simp only[h0,Bgc,Auc];have:=O4 0 (Bp b (b.length+1) 0).1 (by omega) i1 (Bp b (b.length+1) 0).1.length 0 Ax 0 (by omega) (by have:=As;omega) (by omega) (by simpa using i3);simpa [Yd]using this
 ·simp only[h0,Bd4];have:=O4 (Bp b (b.length+1) 0).2 [] (by simp) (by simp) 0 0 Ax 0 (by simp) (by have:=As;omega) (by omega) (by simp);simpa [Yd]using this
theorem Xs{b:List UInt8}(h:(Bc b).2=0):0<= (Bc b).1/\ (Bc b).1<=b.length/\ (Bc b).1<=4000:=by
 unfold Bc A7 at h⊢;split at h
 ·rename_i h0;rw[Ab3 h0];obtain⟨i1,i2,i3⟩:=VX b (b.length+1) 0 (by omega) (by omega) h0;have hp:=rI i1;exact⟨by simp;omega,i2,i3⟩
 ·rename_i h0;exact absurd h h0
def Am(r:Nat):Nat:=max 1 (256*r/245)
theorem Fe(r:Nat):1<=Am r:=Nat.le_max_left _ _
theorem Y4{r:Nat}(h:r<=1048576):Am r<=1100000:=by unfold Am;omega
theorem V9{r:Nat}(h:r<=1048576):sD (1:Int) (Db (Br (256:Int) (r:Int)) (245:Int))=(Am r:Int):=by
 rw[Ii,TX,Bbn (by omega),Dd (by omega) (by omega),Abw,Am];omega
def Ah(g n:Nat):List Int:=List.replicate ((n-1)/g) (g:Int)++[((n-(n-1)/g*g:Nat):Int)]
theorem Zw(g n:Nat):(Ah g n).length=(n-1)/g+1:=by simp[Ah]
theorem tJ{g n:Nat}(h:n<=g)(h1:1<=n):Ah g n=[(n:Int)]:=by
 rw[Ah,Bc7 (by omega)];simp
theorem H7{g n:Nat}(hg:1<=g)(h:g<n):Ah g n=(g:Int)::Ah g (n-g):=by
 have e:(n-1)/g=(n-g-1)/g+1:=by rw[<-Nat.add_div_right _ (by omega)];congr 1;omega
 rw[Ah,Ah,e,Bbk,Bdv];congr 4;have:=Bbl (n-g-1) g;rw[Ayj,Bgb];omega
theorem wI{g n:Nat}(hg:1<=g)(h1:1<=n):(n+g-1)/g=(n-1)/g+1:=by
 rw[<-Nat.add_div_right _ (by omega)];congr 1;omega
theorem sj{r:Nat}(h1:1<=r)(h:r<=1048576):Wr (r:Int)=some ((Am r:Int),0):=by
 rw[Wr,Aau (by simp[Ae,Aq];omega),V9 h]
theorem As4{r:Nat}(h:r<=1048576):Zj (r:Int)=some (Am r:Int):=by rw[Zj,V9 h]
theorem iK{r n:Nat}(h1:1<=r)(h:r<=1048576)(n1:1<=n)(n2:n<=4000):Jz (r:Int) (n:Int)=some (if 1000<(n-1)/Am r+1 then(0,4)else((((n-1)/Am r+1:Nat):Int),0)):=by
 have hp:=Fe r;have hl:=Y4 h;have e:Db (Ap (Ad (n:Int) (Am r:Int)) (1:Int)) (Am r:Int)=(((n-1)/Am r+1:Nat):Int):=by
  have:(n+Am r-1)/Am r<=n+Am r-1:=Auf _ _;rw[Ak,Bs,TX,Bbn (by omega),show(n:Int)+(Am r:Int)-1=((n+Am r-1:Nat):Int) by omega,<-Int.natCast_ediv,wI hp n1];rw[wI hp n1]at this;generalize(n-1)/Am r=k at*
  exact Dd (by omega) (by omega)
 rw[Jz,sj h1 h,Aa];simp only;rw[Aau (by rw[Ag];simp),Aau (by simp[Ae,Aq];omega),Bt (by rw[Ag];simp;omega),Aa,e];by_cases hk:1000<(n-1)/Am r+1
 ·rw[Ab3 (by rw[Aq];simp;omega),Ab3 hk]
 ·rw[Aau (by rw[Aq];simp;omega),Aau hk]
theorem R8{r:Nat}(h:r<=1048576):∀(j n q:Nat) (acc:List Int),n<=4000->n<=j->j<q->acc.length+n<=10000->Gl (r:Int) q (n:Int) acc=some (acc++(if n=0 then []else Ah (Am r) n))
 |0,n,q+1,acc,hn,hj,hq,ha=>by
  obtain rfl:n=0:=by omega
  rw[Gl,Lt,Aau (by rw[Aq];simp)];simp[Rf,Rm]
 |j+1,n,q+1,acc,hn,hj,hq,ha=>by
  have hp:=Fe r;have hl:=Y4 h;by_cases h0:n=0
  ·subst h0;rw[Gl,Lt,Aau (by rw[Aq];simp)];simp[Rf,Rm]
  ·rw[Gl,Lt,Ab3 (by rw[Aq];simp;omega),As4 h,Aa,Bw (by simp;omega),Aa,Aa,Bs,HL];by_cases hs:n<=Am r
   ·rw[show min (n:Int) (Am r:Int)=(n:Int) by omega,Aau h0,tJ hs (by omega)];have hz:∃k,q=k+1:=⟨q-1,by omega⟩;obtain⟨q,rfl⟩:=hz;rw[Gl,Lt,Aau (by rw[Aq];simp;omega)];simp[Rf,Rm]
   ·rw[show min (n:Int) (Am r:Int)=(Am r:Int) by omega,show(n:Int)-(Am r:Int)=((n-Am r:Nat):Int) by omega,R8 h j (n-Am r) q _ (by omega) (by omega) (by omega) (by simp;omega),Aau (by omega),Aau h0,H7 hp (show Am r<n by omega)];simp
theorem YF{r n:Nat}(h:r<=1048576)(n1:1<=n)(n2:n<=4000):Fu (r:Int) (n:Int)=some (Ah (Am r) n):=by
 have:=R8 h n n Ax [] n2 (Am4 _) (by have:=As;omega) (by simp;omega);rw[Fu,MJ,MI,this,Aau (by omega)];rfl
theorem mul_one(m:Nat)(h:m<=100000):OW (1:UInt64) (UInt64.ofNat m)=some (0,UInt64.ofNat m):=by
 have y1:(UInt64.ofNat m).toNat=m:=aO (by omega);have s1:Ct (1:UInt64) (GI.toZ (32:UInt64)).toNat=0:=by decide
 have s2:Ct (UInt64.ofNat m) (GI.toZ (32:UInt64)).toNat=0:=by
  apply UInt64.toNat_inj.1;rw[LC,y1];exact Bc7 (Bdg h (by decide))
 have s0:Ct (0:UInt64) (GI.toZ (32:UInt64)).toNat=0:=by decide
 have a1:Ey (1:UInt64) (4294967295:UInt64)=1:=by decide
 have a0:Ey (0:UInt64) (4294967295:UInt64)=0:=by decide
 have a2:Ey (UInt64.ofNat m) (4294967295:UInt64)=UInt64.ofNat m:=by
  apply UInt64.toNat_inj.1;rw[X0,UInt64.toNat_and,y1]
  show m&&& (2^32-1)=m;rw[Bds,Ack (by omega)]
 have m1:∀x:UInt64,Br 1 x=x:=λx=>by rw[RI,UInt64.one_mul]
 have m0:∀x:UInt64,Br 0 x=0:=λx=>by rw[RI,UInt64.zero_mul]
 have p0:∀x:UInt64,Ad 0 x=x:=λx=>by rw[RL,UInt64.zero_add]
 have p1:∀x:UInt64,Ad x 0=x:=λx=>by rw[RL,UInt64.add_zero]
 rw[OW,TS];simp only[s1,s2,a1,a2,m1,m0,p0,p1,s0,a0,Aa]
theorem E6(v:Int)(m:Nat)(hm:m<=100000):∀(j n q:Nat),1<=n->n<=m->m-n<=j->j<q->Gf q (n:Int) (List.replicate n v++List.replicate (m-n) 0)=some (List.replicate m v)
 |j,n,q+1,hn,hnm,hj,hq=>by
  have hlen:Ac (List.replicate n v++List.replicate (m-n) 0)=(m:Int):=by simp[Ac];omega
  rw[Gf,Iw,hlen];by_cases h:n<m
  ·obtain⟨j,rfl⟩:∃k,j=k+1:=⟨j-1,by omega⟩;rw[Ab3 (by rw[Ae];simp;omega)];have v1:kW (m:Int) (n:Int) (m:Int)=some ():=by rw[kW,Bt];simp;omega
   have v2:kW (m:Int) (0:Int) (n:Int)=some ():=by rw[kW,Bt];simp;omega
   have e1:aL (List.replicate n v++List.replicate (m-n) 0) (0:Int) ((n:Int)-0)=List.replicate n v:=by
    simp[aL]
   rw[v1,Aa,v2,Aa,e1];have e2:XU ((m:Int)-(n:Int)) (List.replicate n v).length=((min n (m-n):Nat):Int):=by
    rw[XU,Au9];split<;>omega
   have e3:Yl (List.replicate n v++List.replicate (m-n) 0) (n:Int) ((m:Int)-(n:Int)) (List.replicate n v)=List.replicate (n+min n (m-n)) v++List.replicate (m-(n+min n (m-n))) 0:=by
    have t1:((m:Int)-(n:Int)).toNat=m-n:=by omega
    have t2:(List.replicate n v++List.replicate (m-n) (0:Int)).take n=List.replicate n v:=by simp
    rw[Yl,t1,Ae3,t2,List.take_replicate,Au9,<-Aej,List.replicate_append_replicate,List.drop_append,Au9,Nat.min_comm (m-n) n];simp only[List.drop_replicate];rw[show n-(n+min n (m-n))=0 by omega,List.replicate_zero,Auc,show m-n-(n+min n (m-n)-n)=m-(n+min n (m-n)) by omega]
   rw[e2,e3,Ak,show(n:Int)+((min n (m-n):Nat):Int)=((n+min n (m-n):Nat):Int) by omega];exact E6 v m hm j (n+min n (m-n)) q (by omega) (by omega) (by omega) (by omega)
  ·rw[Aau (by rw[Ae];simp;omega)];obtain rfl:n=m:=by omega
   simp[Lm,Sa]
theorem Anx(v:Int)(m:Nat)(hm:m<=100000):Rj [v] (m:Int)=some (List.replicate m v):=by
 have y1:(UInt64.ofNat m).toNat=m:=aO (by omega);have c1:(Af (Ac [v]):UInt64)=1:=by rfl
 have c2:(Af (m:Int):UInt64)=UInt64.ofNat m:=Yb m;have c3:(Af (UInt64.ofNat m):Int)=(m:Int):=by rw[zE (by omega),y1]
 rw[Rj,Tw,Aau (by rw[Ae];simp),Tq,Tx,c1,c2,mul_one m hm,Aa];simp only;rw[Aau (by rw[cF,cF,y1];simp;show m<=9223372036854775807;omega),Tl,Ty,c3,xE,Aa,Bt (by rw[Ar];simp),Aa,Tm,Ae3];by_cases h0:m=0
 ·subst h0;have hF:Ax=(Ax-1)+1:=by have:=As;omega
  rw[hF,Gf,Iw];simp[Ac,T8,XU,Ae,Lm,Sa]
 ·have:=E6 v m hm m 1 Ax (by omega) (by omega) (by omega) (by have:=As;omega);have e1:XU (Ac (List.replicate m (0:Int))) [v].length=((1:Nat):Int):=by simp[XU,Ac];omega
  have e2:T8 (List.replicate m (0:Int)) [v]=List.replicate 1 v++List.replicate (m-1) 0:=by
   obtain⟨k,rfl⟩:∃k,m=k+1:=⟨m-1,by omega⟩;simp[T8]
  rw[e1,e2,this]
theorem Ao4(l m:List Int)(h:l.length+m.length<=1000000):Rl [l,m]=some (l++m):=by
 have hF:Ax=(Ax-3)+1+1+1:=by have:=As;omega
 rw[Rl,Tn,Tu];have g0:Ao [l,m] (0:Int)=some l:=rfl;have g1:Ao [l,m] (1:Int)=some m:=rfl;have l2:Ac [l,m]=2:=rfl;have h3:Lo [l,m] []=some (l++m):=by
  rw[Lo,Sf,Rq,hF,Fs,Ie,l2,Ab3 (by decide),g0,Aa,Bw (by simp;omega),Aa,Auc,show Ad (0:Int) 1=1 by decide,
   Fs,Ie,l2,Ab3 (by decide),g1,Aa,Bw,Aa,show Ad (1:Int) 1=2 by decide,Fs,Ie,l2,Aau (by decide)]
  rfl
 rw[hF,Ge,Iy,l2,Ab3 (by decide),g0,Aa,Ak (by unfold Ac;omega) (by unfold Ac;omega),Aau (by rw[Ae,Ac];simp),show Ad (0:Int) 1=1 by decide,
  Ge,Iy,l2,Ab3 (by decide),g1,Aa,Ak (by unfold Ac;omega) (by unfold Ac;omega),Aau (by rw[Ae,Ac,Ac];simp;omega),show Ad (1:Int) 1=2 by decide,
  Ge,Iy,l2,Aau (by decide),Sd,Se,Aau (by rw[Ae,Ac,Ac];simp;omega),Rz,Rt]
 have z:Ap (0:Int) 0=0:=by decide
 have n0:(0:Int)+Ac l+Ac m=((l.length+m.length:Nat):Int):=by simp[Ac]
 rw[z,n0,Bs,Int.sub_zero];by_cases hp:0<l.length+m.length
 ·rw[Ab3 (by rw[Aq];simp;omega),show kW (0:Int) 0 0=some ()from rfl,Aa,xE,Aa,Bw (by simp;omega),Aa];rw[show kW (Ac ([]++List.replicate ((l.length+m.length:Nat):Int).toNat (0:Int))) 0 0=some () by rw[kW,Bt];simp[Ac];omega,Aa];simp only[aL,Int.sub_self,Be3,Bbi];exact h3
 ·rw[Aau (by rw[Aq];simp;omega)];exact h3
theorem Aex{r n:Nat}(h1:1<=r)(h:r<=1048576)(n1:1<=n)(n2:n<=4000)(hk:(n-1)/Am r+1<=1000):AT (r:Int) (n:Int)=some (Ah (Am r) n,0):=by
 have hp:=Fe r;have hl:=Y4 h;have hd:=Bbl (n-1) (Am r);rw[AT,iK h1 h n1 n2,Aau (by omega),Aa];simp only;rw[Aau (by rw[Ag];simp),sj h1 h,Aa];simp only;rw[Ah];generalize(n-1)/Am r=k at*
 have e1:Ap ((k+1:Nat):Int) 1=(k:Int):=by rw[Bs];omega
 have e2:(k:Int)*(Am r:Int)=((k*Am r:Nat):Int):=by simp
 rw[e1,Anx _ _ (by omega),Aa,Ii (by rw[e2];omega) (by rw[e2];omega),e2,Bs,YP,Ao4 _ _ (by simp;omega),Aa,Aa,show(n:Int)-((k*Am r:Nat):Int)=((n-k*Am r:Nat):Int) by omega]
def Eo(f c w r n:Nat):Bool:=decide ((f=1\/f=2)/\ (1<=c/\c<=6)/\ (w=8\/w=16\/w=24)/\ (1<=r/\r<=1048576)/\1<=n)
def Xm(c r n:Nat):Bool:=decide (n<=4000/c/\ (n-1)/Am r+1<=1000)
theorem bC(f c w r n:Nat):Tv (f:Int) (c:Int) (w:Int) (r:Int) (n:Int)=some (Eo f c w r n):=by
 have e2:Pz (f:Int) (c:Int) (w:Int) (r:Int) (n:Int)=some (decide ((f=1\/f=2)/\ (1<=c/\c<=6)/\ (1<=r/\r<=1048576)/\1<=n)):=by
  rw[Pz,NM];congr 1;rw[Ajf];simp only[Ar,Aq,lS,Acl,Azv,Aug,Acj];omega
 have g:∀k:Nat,geq (w:Int) (k:Int)=decide (w=k):=λk=>by rw[Ar,Ajf];simp;omega
 have g8:geq (w:Int) (8:Int)=decide (w=8):=g 8;have g16:geq (w:Int) (16:Int)=decide (w=16):=g 16;have g24:geq (w:Int) (24:Int)=decide (w=24):=g 24;rw[Tv,BH,e2,g8,g16,g24,Eo];by_cases h8:w=8
 ·subst h8;simp
 ·by_cases h16:w=16
  ·subst h16;simp
  ·by_cases h24:w=24
   ·subst h24;simp
   ·simp[h8,h16,h24]
theorem tS(f c w r n:Nat):Lb (f:Int) (c:Int) (w:Int) (r:Int) (n:Int)=some (Eo f c w r n):=by
 rw[Lb,Eo];simp only[Ar,Dy,lS,Acl,Azv,Aug,Acj,Bdu];split
 ·rename_i h;congr 1;rw[Ajf];simp only[Acl,Azv,Aug,Acj];omega
 ·rename_i h;congr 1;symm;rw[Bbe];omega
theorem Ax8{c:Nat}(h:1<=c):Db (4000:Int) (c:Int)=((4000/c:Nat):Int):=by
 have:4000/c<=4000:=Auf _ _;rw[TX,Bbn (by omega),show(4000:Int)=((4000:Nat):Int)from rfl,<-Int.natCast_ediv];generalize 4000/c=k at*
 exact Dd (by omega) (by omega)
theorem sA{f c w r n:Nat}(h:Eo f c w r n=true):PW (f:Int) (c:Int) (w:Int) (r:Int) (n:Int)=some (Xm c r n):=by
 simp only[Eo,Acj]at h;have hd:4000/c<=4000:=Auf _ _;rw[PW,Bt (by rw[Ag];simp;omega),Aa,Ax8 (by omega),Xm];generalize 4000/c=m at*
 by_cases h1:n<=m
 ·rw[Aau (by rw[Aq];simp;omega),iK (by omega) (by omega) (by omega) (by omega),Aa];generalize(n-1)/Am r+1=k;by_cases h2:1000<k
  ·rw[Ab3 h2];simp[Ar,lS];omega
  ·rw[Aau h2];simp[Ar,lS,h1];omega
 ·rw[Ab3 (by rw[Aq];simp;omega)];simp[h1]
theorem ma{f c w r n:Nat}(h:Eo f c w r n=true):Zg (f:Int) (c:Int) (w:Int) (r:Int) (n:Int)=some (!Xm c r n):=by
 simp only[Eo,Acj]at h;have hd:4000/c<=4000:=Auf _ _;rw[Zg,Bt (by rw[Ag];simp;omega),Aa,Ax8 (by omega),Xm];generalize 4000/c=m at*
 by_cases h1:n<=m
 ·rw[Aau (by rw[Aq];simp;omega),YF (by omega) (by omega) (by omega),Aa,Ac,Zw];generalize(n-1)/Am r+1=k;congr 1;rw[Aq,Ajf];simp only[Acj,Azo,Bbe];omega
 ·rw[Ab3 (by rw[Aq];simp;omega)];simp[h1]
def Mt:List UInt8:=[84,84,65,49]
def f0(b:List UInt8):Nat:=Df (part b 4 2)
def f1(b:List UInt8):Nat:=Df (part b 6 2)
def f2(b:List UInt8):Nat:=Df (part b 8 2)
def f3(b:List UInt8):Nat:=Df (part b 10 4)
def f4(b:List UInt8):Nat:=Df (part b 14 4)
abbrev H6:=Int×Int×Int×Int×Int×Int
def Dm(b:List UInt8):H6:=
 if b.take (min 4 b.length)≠Mt.take (min 4 b.length)then(0,0,0,0,0,12)else if b.length<22 then(0,0,0,0,0,24)else
 if(Dn (b.take 18)).toNat≠Df (part b 18 4)then(0,0,0,0,0,22)else
 if Eo (f0 b) (f1 b) (f2 b) (f3 b) (f4 b)=false then(0,0,0,0,0,12)else
 if Xm (f1 b) (f3 b) (f4 b)=false then(0,0,0,0,0,4)else((f0 b:Int),(f1 b:Int),(f2 b:Int),(f3 b:Int),(f4 b:Int),0)
section
variable {b:List UInt8}
theorem rs1(h:b.take (min 4 b.length)≠Mt.take (min 4 b.length)):Dm b=(0,0,0,0,0,12):=by rw[Dm,Ab3 h]
variable (h:b.take (min 4 b.length)=Mt.take (min 4 b.length))
include h
theorem rs2(h2:b.length<22):Dm b=(0,0,0,0,0,24):=by rw[Dm,Aau (λe=>e h),Ab3 h2]
variable (h2:¬b.length<22)
include h2
theorem rs3(h3:(Dn (b.take 18)).toNat≠Df (part b 18 4)):Dm b=(0,0,0,0,0,22):=by rw[Dm,Aau (λe=>e h),Aau h2,Ab3 h3]
variable (h3:(Dn (b.take 18)).toNat=Df (part b 18 4))
include h3
theorem rs4(h4:Eo (f0 b) (f1 b) (f2 b) (f3 b) (f4 b)=false):Dm b=(0,0,0,0,0,12):=by rw[Dm,Aau (λe=>e h),Aau h2,Aau (λe=>e h3),Ab3 h4]
variable (h4:Eo (f0 b) (f1 b) (f2 b) (f3 b) (f4 b)=true)
include h4
theorem rs5(h5:Xm (f1 b) (f3 b) (f4 b)=false):Dm b=(0,0,0,0,0,4):=by rw[Dm,Aau (λe=>e h),Aau h2,Aau (λe=>e h3),Aau (by rw[h4];simp),Ab3 h5]
theorem rs6(h5:Xm (f1 b) (f3 b) (f4 b)=true):Dm b=((f0 b:Int),(f1 b:Int),(f2 b:Int),(f3 b:Int),(f4 b:Int),0):=by rw[Dm,Aau (λe=>e h),Aau h2,Aau (λe=>e h3),Aau (by rw[h4];simp),Aau (by rw[h5];simp)]
end
theorem Asb(b:List UInt8)(h2:¬b.length<22):Be (Af (Dn (b.take 18)):UInt64) (sV (part b 18 4))=decide ((Dn (b.take 18)).toNat≠Df (part b 18 4)):=by
 rw[VQ,Dw,Ajf];simp only[Bfp,ne_eq,Acj];rw[<-Be9,aO (by have:=(Dn (b.take 18)).toNat_lt;omega),cJ (by rw[Ew];omega)]
theorem pE(b:List UInt8)(a w:Nat)(i q:Nat)(l:List Int)(hi:i<5)(hl:l.length=5)(hw:Ao ([2,2,2,4,4]:List Int) (i:Int)=some (w:Int))(h1:1<=w)(h4:w<=4)(ha:a+w<=b.length)(hb:b.length<4611686018427387904):
  Qy b (q+1) (a:Int) (i:Int) l=Qy b q ((a+w:Nat):Int) ((i+1:Nat):Int) (l.set i (Df (part b a w):Int)):=by
 rw[Qy,IY,Ab3 (by rw[Ae];simp;omega),hw,Aa,wz b a w h1 (by omega) ha hb,Aa];simp only;rw[Bn,Aa,Uq _ (by omega),Aa,PB (by rw[Ew ha];omega),Ak,Ak];rfl
theorem Atg(b:List UInt8)(h22:¬b.length<22)(hb:b.length<4611686018427387904):HS b 4 0 (List.replicate 5 0)=IF [(f0 b:Int),(f1 b:Int),(f2 b:Int),(f3 b:Int),(f4 b:Int)]:=by
 have hF:Ax=(Ax-6)+1+1+1+1+1+1:=by have:=As;omega
 rw[HS,hF,show(4:Int)=((4:Nat):Int)from rfl,show(0:Int)=((0:Nat):Int)from rfl];rw[pE b 4 2 0 _ _ (by omega) (by simp) rfl (by omega) (by omega) (by omega) hb,pE b 6 2 1 _ _ (by omega) (by simp) rfl (by omega) (by omega) (by omega) hb,pE b 8 2 2 _ _ (by omega) (by simp) rfl (by omega) (by omega) (by omega) hb,
  pE b 10 4 3 _ _ (by omega) (by simp) rfl (by omega) (by omega) (by omega) hb,pE b 14 4 4 _ _ (by omega) (by simp) rfl (by omega) (by omega) (by omega) hb,Qy,IY,Aau (by rw[Ae];simp)]
 rfl
theorem Bd6(b:List UInt8):Kk [84,84,65,49] (b.take (min 4 b.length))=some (decide (b.take (min 4 b.length)=Mt.take (min 4 b.length))):=by
 have hl:(b.take (min 4 b.length)).length=min 4 b.length:=by rw[Afa];omega
 rw[Kk,Ib,Ab3 (by rw[Dy,Ac,Ac,hl];simp;omega),Ac,hl,Dg (by omega) (by simp;omega),Aa,Aa,Ae3];congr 1;rw[Ajf];rw[Acj,Aug];exact eq_comm
theorem Bcg(b:List UInt8):Fj (4:Int) (Ac b)=((min 4 b.length:Nat):Int):=by rw[HL,Ac];omega
theorem Mj(b:List UInt8)(hb:b.length<4611686018427387904):Lk b=some (Dm b):=by
 rw[Lk,ZN,Bcg,Dg,Aa,Ae3,Bd6,Aa];by_cases h:b.take (min 4 b.length)=Mt.take (min 4 b.length)
 ·rw[Aau (by simpa using h)];by_cases h2:b.length<22
  ·rw[Ab3 (by rw[Ae,Ac];simp;omega),rs2 h h2]
  ·have a1:eJ b 18 4=some (sV (part b 18 4),0):=wz b 18 4 (by omega) (by omega) (by omega) hb;rw[Aau (by rw[Ae,Ac];simp;omega),a1,Aa];simp only;rw[Dg,Aa,show(18:Int).toNat=18 from rfl,C0 _ (by simp;omega),Aa];simp only;rw[Asb b h2];by_cases h3:(Dn (b.take 18)).toNat=Df (part b 18 4)
   ·rw[Aau (by simpa using h3),Atg b h2 hb,IF,mZ];rw[show Ao [(f0 b:Int),(f1 b:Int),(f2 b:Int),(f3 b:Int),(f4 b:Int)] 0=some (f0 b:Int)from rfl,show Ao [(f0 b:Int),(f1 b:Int),(f2 b:Int),(f3 b:Int),(f4 b:Int)] 1=some (f1 b:Int)from rfl,show Ao [(f0 b:Int),(f1 b:Int),(f2 b:Int),(f3 b:Int),(f4 b:Int)] 2=some (f2 b:Int)from rfl,
     show Ao [(f0 b:Int),(f1 b:Int),(f2 b:Int),(f3 b:Int),(f4 b:Int)] 3=some (f3 b:Int)from rfl,show Ao [(f0 b:Int),(f1 b:Int),(f2 b:Int),(f3 b:Int),(f4 b:Int)] 4=some (f4 b:Int)from rfl]
    simp only[Aa,bC];cases h4:Eo (f0 b) (f1 b) (f2 b) (f3 b) (f4 b)with
    |false=>rw[rs4 h h2 h3 h4];rfl
    |true=>
     rw[sA h4,Aau (by simp),Aa];cases h5:Xm (f1 b) (f3 b) (f4 b)with
     |false=>rw[rs5 h h2 h3 h4 h5];rfl
     |true=>rw[rs6 h h2 h3 h4 h5];rfl
   ·rw[Ab3 (by simpa using h3),rs3 h h2 h3]
 ·rw[Ab3 (by simpa using h),rs1 h]
theorem RG(b:List UInt8)(hb:b.length<4611686018427387904):Kn b=some (Dm b):=by
 rw[Kn,PT,Bcg,Dg,Aa,Ae3,Dg (by omega) (by simp;omega),Aa,Ae3];by_cases h:b.take (min 4 b.length)=Mt.take (min 4 b.length)
 ·rw[Aau (by rw[h];simp[Mt]),RT,QX];by_cases h2:b.length<22
  ·rw[Ab3 (by rw[Ae,Ac];simp;omega),rs2 h h2]
  ·have a1:Bm b 18 22=some (part b 18 4):=Sp 18 4;have c1:Bm b 4 6=some (part b 4 2):=Sp 4 2;have c2:Bm b 6 8=some (part b 6 2):=Sp 6 2;have c3:Bm b 8 10=some (part b 8 2):=Sp 8 2;have c4:Bm b 10 14=some (part b 10 4):=Sp 10 4;have c5:Bm b 14 18=some (part b 14 4):=Sp 14 4;have hs:Be (sV (part b 18 4)) (Af (Dn (b.take 18)):UInt64)=decide ((Dn (b.take 18)).toNat≠Df (part b 18 4)):=by
    rw[<-Asb b h2,VQ,VQ,Ajf];simp only[Bfp,ne_eq];exact not_congr eq_comm
   have lp:∀a w,a+w<=b.length->Eh (part b a w)=some (sV (part b a w)):=λa w h=>Agh _ (by rw[Ew h];omega);rw[Aau (by rw[Ae,Ac];simp;omega),a1,Aa,Dg,Aa,show(18:Int).toNat=18 from rfl,lp _ _ (by omega),Aa,As1 _ (by simp;omega),Aa,hs];by_cases h3:(Dn (b.take 18)).toNat=Df (part b 18 4)
   ·rw[Aau (by simpa using h3),QD,PR,c1,Aa,c2,Aa,c3,Aa,c4,Aa,c5,Aa,lp _ _ (by omega),Aa,lp _ _ (by omega),Aa,lp _ _ (by omega),Aa,lp _ _ (by omega),Aa,lp _ _ (by omega),Aa,
     QO,PQ,PB (by rw[Ew];omega),PB (by rw[Ew];omega),PB (by rw[Ew];omega),PB (by rw[Ew];omega),PB (by rw[Ew];omega)]
    rw[show Df (part b 4 2)=f0 b from rfl,show Df (part b 6 2)=f1 b from rfl,show Df (part b 8 2)=f2 b from rfl,show Df (part b 10 4)=f3 b from rfl,show Df (part b 14 4)=f4 b from rfl,tS,Aa];cases h4:Eo (f0 b) (f1 b) (f2 b) (f3 b) (f4 b)with
    |false=>rw[rs4 h h2 h3 h4];rfl
    |true=>
     rw[ma h4,Aau (by simp),Aa];cases h5:Xm (f1 b) (f3 b) (f4 b)with
     |false=>rw[rs5 h h2 h3 h4 h5];rfl
     |true=>rw[rs6 h h2 h3 h4 h5];rfl
   ·rw[Ab3 (by simpa using h3),rs3 h h2 h3]
 ·rw[Ab3 (by simpa [Mt]using h),rs1 h]
theorem RM{b:List UInt8}(h:(Dm b).2.2.2.2.2=0):Dm b=((f0 b:Int),(f1 b:Int),(f2 b:Int),(f3 b:Int),(f4 b:Int),0)/\22<=b.length/\Eo (f0 b) (f1 b) (f2 b) (f3 b) (f4 b)=true/\Xm (f1 b) (f3 b) (f4 b)=true:=by
 unfold Dm at h⊢;split at h; · simp at h
 rename_i c1;rw[Aau c1];split at h; · simp at h
 rename_i c2;rw[Aau c2];split at h; · simp at h
 rename_i c3;rw[Aau c3];split at h; · simp at h
 rename_i c4;rw[Aau c4];split at h; · simp at h
 rename_i c5;rw[Aau c5];exact⟨rfl,by omega,by simpa using c4,by simpa using c5⟩
theorem QW{f c w r n:Nat}(h:Eo f c w r n=true)(h2:Xm c r n=true):Dl (f:Int) (c:Int) (w:Int) (r:Int) (n:Int)=some (Ah (Am r) n,0):=by
 have hc:Pf (f:Int) (c:Int) (w:Int) (r:Int) (n:Int)=some 0:=by
  rw[Pf,bC,Aa,h,Aau (by simp),sA h,Aa,h2];rfl
 have hd:4000/c<=4000:=Auf _ _;simp only[Eo,Acj]at h;simp only[Xm,Acj]at h2;rw[Dl,hc,Aa,Aau (by rw[Ag];simp),Aex (by omega) (by omega) (by omega) (by omega) h2.2];rfl
def okL:List Int->Int->Bool
 |[],_=>true
 |x::l,left=>decide (5<=x/\x<=left)&&okL l (left-x)
theorem Amx:∀l:List Int,(∀x∈l,5<=x)->0<=l.sum
 |[],_=>by simp
 |x::l,h=>by
  have h1:=h x Ays;have h2:=Amx l λy hy=>h y (Am3 _ hy);rw[Awb];omega
theorem BN:∀(l:List Int) (left:Int),0<=left-> (okL l left=true↔(∀x∈l,5<=x)/\l.sum<=left)
 |[],left,h=>by simp[okL];exact h
 |x::l,left,h=>by
  rw[okL,Acl,Acj,Awb];by_cases hx:5<=x/\x<=left
  ·rw[BN l (left-x) (by omega)];constructor
   ·rintro⟨_,h1,h2⟩;exact⟨λy hy=>(List.mem_cons.1 hy).elim (λe=>e▸hx.1) (h1 y),by omega⟩
   ·rintro⟨h1,h2⟩;exact⟨hx,λy hy=>h1 y (Am3 _ hy),by omega⟩
  ·constructor
   ·rintro⟨h1,_⟩;exact absurd h1 hx
   ·rintro⟨h1,h2⟩;have h3:=h1 x Ays;have:0<=l.sum:=Amx l λy hy=>h1 y (Am3 _ hy);omega
theorem R5(l:List Int)(hl:l.length<=1000):∀(j i q:Nat) (left:Int),i+j=l.length->j<q->0<=left->left<=100000->Vs l q left (i:Int)=some (if okL (l.drop i) left=true then 0 else 8)
 |0,i,q+1,left,hi,_,_,_=>by
  rw[Vs,JX,Aau (by rw[Ae,Ac];simp;omega),show i=l.length by omega,Bdz];rfl
 |j+1,i,q+1,left,hi,hq,h0,h1=>by
  have hlt:i<l.length:=by omega
  rw[Vs,JX,Ab3 (by rw[Ae,Ac];simp;omega),Bn hlt,Aa,drop_cons hlt];by_cases h:5<=l[i]/\l[i]<=left
  ·rw[Aau (by simp[Ae,Aq];omega),Bs,Ak];have ih:=R5 l hl j (i+1) q (left-l[i]) (by omega) (by omega) (by omega) (by omega);rw[show((i:Int)+1)=((i+1:Nat):Int) by omega,ih];simp[okL,h]
  ·rw[Ab3 (by simp[Ae,Aq];omega)];have:okL (l[i]::l.drop (i+1)) left=false:=by rw[okL,Ayn h];rfl
   rw[this];rfl
def Ru(l:List Int):Bool:=decide (1<=l.length/\l.length<=1000)&&okL l 100000
theorem Ab1(l:List Int)(hl:l.length<=1000):Pr l=some (if Ru l=true then 0 else 8):=by
 rw[Pr,JJ,Ru];by_cases h:1<=l.length
 ·rw[Aau (by rw[Ar,Aq,Ac];simp;constructor;(intro e;subst e;simp at h);omega),XA];have:=R5 l hl l.length 0 Ax 100000 (by omega) (by have:=As;omega) (by omega) (by omega);rw[Bcs]at this;rw[Bbc (show 1<=l.length/\l.length<=1000 from⟨h,hl⟩),Bdj];exact this
 ·have:l=[]:=by
   cases l with
   |nil=>rfl
   |cons _ _=>simp at h
  subst this;rfl
theorem wm(l:List Int)(hl:l.length<=1000):∀(j i q:Nat) (s:Int),i+j=l.length->j<q->0<=s->s<=100000*(i:Int)->Ma l q s (i:Int)=some (if(∀x∈l.drop i,5<=x/\x<=100000)/\s+(l.drop i).sum<=100000 then 0 else 8)
 |0,i,q+1,s,hi,_,_,_=>by
  rw[Ma,Yq,Aau (by rw[Ae,Ac];simp;omega),show i=l.length by omega,Bdz,JB,GZ];by_cases h:s<=100000
  ·rw[Aau (by rw[Aq];simp;omega),Ab3 (by simp;omega)]
  ·rw[Ab3 (by rw[Aq];simp;omega),Aau (by simp;omega)]
 |j+1,i,q+1,s,hi,hq,h0,h1=>by
  have hlt:i<l.length:=by omega
  rw[Ma,Yq,Ab3 (by rw[Ae,Ac];simp;omega),Bn hlt,Aa,drop_cons hlt];by_cases h5:l[i]<5
  ·rw[Ab3 (by rw[Ae];simpa using h5),Aau (λh=>by have:=(h.1 l[i] Ays).1;omega)]
  ·rw[Aau (by rw[Ae];simpa using h5),Aa];by_cases h6:100000<l[i]
   ·rw[Ab3 (by rw[Aq];simpa using h6),Aau (λh=>by have:=(h.1 l[i] Ays).2;omega)]
   ·rw[Aau (by rw[Aq];simpa using h6),MR,MK,Bn hlt,Aa,Ak,Ak];have ih:=wm l hl j (i+1) q (s+l[i]) (by omega) (by omega) (by omega) (by omega);rw[show((i:Int)+1)=((i+1:Nat):Int) by omega,ih];have e:((∀x∈l.drop (i+1),5<=x/\x<=100000)/\s+l[i]+(l.drop (i+1)).sum<=100000)↔((∀x∈l[i]::l.drop (i+1),5<=x/\x<=100000)/\s+(l[i]::l.drop (i+1)).sum<=100000):=by
     rw[Awb,List.forall_mem_cons,Bfi];constructor
     ·rintro⟨a,b⟩;exact⟨⟨by omega,a⟩,b⟩
     ·rintro⟨⟨_,a⟩,b⟩;exact⟨a,b⟩
    simp only[e]
theorem vB:∀{l:List Int},(∀x∈l,5<=x)->∀x∈l,x<=l.sum
 |[],_,x,hx=>by simp at hx
 |y::l,h,x,hx=>by
  have h1:=h y Ays;have h2:=Amx l λz hz=>h z (Am3 _ hz);rw[Awb];rcases List.mem_cons.1 hx with rfl|hx
  ·omega
  ·have:=vB (l:=l) (λz hz=>h z (Am3 _ hz)) x hx;omega
theorem Agr(l:List Int)(hl:l.length<=1000):Jl l=some (if Ru l=true then 0 else 8):=by
 rw[Jl,Yk,Ru];by_cases h:1<=l.length
 ·have:=wm l hl l.length 0 Ax 0 (by omega) (by have:=As;omega) (by omega) (by omega);rw[Aau (by rw[Ae,Aq,Ac];simp;omega),MM];refine Bcq this ?_;rw[Bcs,Bbc (show 1<=l.length/\l.length<=1000 from⟨h,hl⟩),Bdj];have e:((∀x∈l,5<=x/\x<=100000)/\0+l.sum<=100000)↔okL l 100000=true:=by
   rw[BN l 100000 (by omega),Int.zero_add];constructor
   ·rintro⟨a,b⟩;exact⟨λx hx=>(a x hx).1,b⟩
   ·rintro⟨a,b⟩;exact⟨λx hx=>⟨a x hx,Int.le_trans (vB a x hx) b⟩,b⟩
  simp only[e]
 ·have:l=[]:=by
   cases l with
   |nil=>rfl
   |cons _ _=>simp at h
  subst this;rfl
theorem YU(l:List Int):Pr l=some (if Ru l=true then 0 else 8):=by
 by_cases hl:l.length<=1000
 ·exact Ab1 l hl
 ·rw[Pr,JJ,Ab3 (by rw[Aq,Ac];simp;omega),Ru,Ayn (by omega)];rfl
theorem dD(l:List Int):Jl l=some (if Ru l=true then 0 else 8):=by
 by_cases hl:l.length<=1000
 ·exact Agr l hl
 ·rw[Jl,Yk,Ab3 (by rw[Aq,Ac];simp;omega),Ru,Ayn (by omega)];rfl
theorem Z0(l:List Int)(hl:l.length<=1000)(hx:∀x∈l,0<=x/\x<4294967296):Pr l=some (if Ru l=true then 0 else 8):=YU l
theorem Aot(l:List Int)(hl:l.length<=1000)(hx:∀x∈l,0<=x/\x<4294967296):Jl l=some (if Ru l=true then 0 else 8):=dD l
def RW(b:List UInt8)(n:Nat):List Int:=(List.range n).map λi=>(Df (part b (4*i) 4):Int)
theorem Uu(b:List UInt8)(n:Nat):(RW b n).length=n:=by simp[RW]
theorem tq(b:List UInt8)(n:Nat):RW b (n+1)=RW b n++[(Df (part b (4*n) 4):Int)]:=by simp[RW,List.range_succ]
theorem Alv(b:List UInt8)(n:Nat)(h:4*n<=b.length):∀x∈RW b n,0<=x/\x<4294967296:=by
 intro x hx;simp only[RW,List.mem_map,List.mem_range]at hx;obtain⟨i,hi,rfl⟩:=hx;have:=zx (l:=part b (4*i) 4) (by rw[Ew];omega);omega
def Ds(b:List UInt8)(n:Nat):List Int×Int:=
 if ¬(1<=n/\n<=1000)then([],2)else if b.length<4*n+4 then([],24)else if(Dn (b.take (4*n))).toNat≠Df (part b (4*n) 4)then([],22)else
 if Ru (RW b n)=true then(RW b n,0)else([],12)
theorem Al2{b:List UInt8}{n:Nat}(h:1<=n/\n<=1000)(h2:¬b.length<4*n+4):Be (Af (Dn (b.take (4*n))):UInt64) (sV (part b (4*n) 4))=decide ((Dn (b.take (4*n))).toNat≠Df (part b (4*n) 4)):=by
 rw[VQ,Dw,Ajf];simp only[Bfp,ne_eq,Acj];rw[<-Be9,aO (by have:=(Dn (b.take (4*n))).toNat_lt;omega),cJ (by rw[Ew];omega)]
section
variable {b:List UInt8} {n:Nat}
theorem ss1(h:¬(1<=n/\n<=1000)):Ds b n=([],2):=by rw[Ds,Ab3 h]
variable (h:1<=n/\n<=1000)
include h
theorem ss2(h2:b.length<4*n+4):Ds b n=([],24):=by rw[Ds,Aau (λe=>e h),Ab3 h2]
variable (h2:¬b.length<4*n+4)
include h2
theorem ss3(h3:(Dn (b.take (4*n))).toNat≠Df (part b (4*n) 4)):Ds b n=([],22):=by rw[Ds,Aau (λe=>e h),Aau h2,Ab3 h3]
theorem ss4(h3:(Dn (b.take (4*n))).toNat=Df (part b (4*n) 4)):Ds b n=if Ru (RW b n)=true then(RW b n,0)else([],12):=by rw[Ds,Aau (λe=>e h),Aau h2,Aau (λe=>e h3)]
end
theorem ym(b:List UInt8)(l8:List Int)(n:Nat)(hn:n<=1000)(h8:l8.length=n)(hb:4*n+4<=b.length)(hb2:b.length<4611686018427387904):∀(j i q:Nat),i+j=n->j<q->Xy b l8 q (i:Int) (RW b i++List.replicate j 0)=PF (RW b n)
 |0,i,q+1,hi,_=>by
  obtain rfl:i=n:=by omega
  rw[Xy,PJ,Aau (by rw[Ae,Ac];simp;omega)];simp
 |j+1,i,q+1,hi,hq=>by
  have hlen:(RW b i++List.replicate (j+1) 0).length=i+(j+1):=by simp[Uu]
  have ha:=wz b (4*i) 4 (by omega) (by omega) (by omega) hb2;rw[Xy,PJ,Ab3 (by rw[Ae,Ac];simp;omega),Ii,show(4:Int)*(i:Int)=((4*i:Nat):Int) by omega,show(4:Int)=((4:Nat):Int)from rfl,ha,Aa];simp only;rw[Bn (by rw[hlen];omega),Aa,Uq _ (by rw[hlen];omega),Aa,PB (by rw[Ew];omega),Ak,Bbk,jF (Uu _ _)];have ih:=ym b l8 n hn h8 hb hb2 j (i+1) q (by omega) (by omega);rw[tq]at ih;rw[show((i:Int)+1)=((i+1:Nat):Int) by omega,<-ih];simp
theorem rW(b:List UInt8)(n:Nat)(hb:b.length<=100100):AM b (n:Int)=some (Ds b n):=by
 rw[AM,cV];by_cases h:1<=n/\n<=1000
 ·rw[Aau (by simp[Ae,Aq];omega),Ii,Ak];by_cases h2:b.length<4*n+4
  ·rw[Ab3 (by rw[Ae,Ac];simp;omega),ss2 h h2]
  ·have ha:eJ b (4*(n:Int)) 4=some (sV (part b (4*n) 4),0):=by
    rw[show(4:Int)*(n:Int)=((4*n:Nat):Int) by omega];exact wz b (4*n) 4 (by omega) (by omega) (by omega) (by omega)
   rw[Aau (by rw[Ae,Ac];simp;omega),ha,Aa];simp only;rw[Dg,Aa,show(4*(n:Int)).toNat=4*n by omega,C0 _ (by simp;omega),Aa];simp only;rw[Al2 h h2];by_cases h3:(Dn (b.take (4*n))).toNat=Df (part b (4*n) 4)
   ·have hlp:=ym b (List.replicate n 0) n (by omega) (by simp) (by omega) (by omega) n 0 Ax (by omega) (by have:=As;omega);rw[Aau (by simpa using h3),xE,Aa,Bt (by rw[Ar];simp),Aa,cN,Ae3];refine Bcq (hlp) ?_;rw[PF,sW,Z0 _ (by rw[Uu];omega) (Alv b n (by omega)),Aa,ss4 h h2 h3];cases Ru (RW b n)<;>rfl
   ·rw[Ab3 (by simpa using h3),ss3 h h2 h3]
 ·rw[Ab3 (by simp[Ae,Aq];omega),ss1 h]
theorem tK(b:List UInt8)(n:Nat)(hn:n<=1000)(hb:4*n+4<=b.length)(hb2:b.length<4611686018427387904):∀(j i q:Nat),i+j=n->j<q->Nb b (n:Int) q (i:Int) (RW b i)=AX (RW b n)
 |0,i,q+1,hi,_=>by
  obtain rfl:i=n:=by omega
  rw[Nb,AR,Aau (by rw[Ae];simp)]
 |j+1,i,q+1,hi,hq=>by
  have hc:Bm b ((4:Int)*(i:Int)) ((4:Int)*(i:Int)+4)=some (part b (4*i) 4):=by
   rw[show(4:Int)*(i:Int)=((4*i:Nat):Int) by omega];exact Sp (4*i) 4
  rw[Nb,AR,Ab3 (by rw[Ae];simp;omega),Ii,Ak,hc,Aa,Agh _ (by rw[Ew];omega),Aa,Bw (by rw[Uu];simp;omega),Aa,
   PB (by rw[Ew];omega),Ak,<-tq]
  exact tK b n hn hb hb2 j (i+1) q (by omega) (by omega)
theorem O7(b:List UInt8)(n:Nat)(hb:b.length<=100100):Ta b (n:Int)=some (Ds b n):=by
 rw[Ta,QF];by_cases h:1<=n/\n<=1000
 ·rw[Aau (by simp[Ae,Aq];omega),Ii,Ak];by_cases h2:b.length<4*n+4
  ·rw[Ab3 (by rw[Ae,Ac];simp;omega),ss2 h h2]
  ·have hc:Bm b ((4:Int)*(n:Int)) ((4:Int)*(n:Int)+4)=some (part b (4*n) 4):=by
    rw[show(4:Int)*(n:Int)=((4*n:Nat):Int) by omega];exact Sp (4*n) 4
   have hs:Be (sV (part b (4*n) 4)) (Af (Dn (b.take (4*n))):UInt64)=decide ((Dn (b.take (4*n))).toNat≠Df (part b (4*n) 4)):=by
    rw[<-Al2 h h2,VQ,VQ,Ajf];simp only[Bfp,ne_eq];exact not_congr eq_comm
   rw[Aau (by rw[Ae,Ac];simp;omega),hc,Aa,Dg,Aa,show(4*(n:Int)).toNat=4*n by omega,Agh _ (by rw[Ew];omega),Aa,As1 _ (by simp;omega),Aa,hs];by_cases h3:(Dn (b.take (4*n))).toNat=Df (part b (4*n) 4)
   ·have hlp:=tK b n (by omega) (by omega) (by omega) n 0 Ax (by omega) (by have:=As;omega);rw[Aau (by simpa using h3),RB,PX,RU];refine Bcq hlp ?_;rw[AX,SC,Aot _ (by rw[Uu];omega) (Alv b n (by omega)),Aa,ss4 h h2 h3];cases Ru (RW b n)<;>rfl
   ·rw[Ab3 (by simpa using h3),ss3 h h2 h3]
 ·rw[Ab3 (by simp[Ae,Aq];omega),ss1 h]
theorem gC{b:List UInt8}{n:Nat}(h:(Ds b n).2=0):Ds b n=(RW b n,0)/\1<=n/\n<=1000/\4*n+4<=b.length/\ (∀x∈RW b n,5<=x)/\ (RW b n).sum<=100000:=by
 unfold Ds at h⊢;split at h; · simp at h
 rename_i c1;rw[Aau c1];split at h; · simp at h
 rename_i c2;rw[Aau c2];split at h; · simp at h
 rename_i c3;rw[Aau c3];split at h
 ·rename_i c4;rw[Ab3 c4];have c4':=c4;rw[Ru,Acl,BN _ _ (by omega)]at c4';exact⟨rfl,by omega,by omega,by omega,c4'.2.1,c4'.2.2⟩
 ·simp at h
def Gx(b:List UInt8):List UInt8:=b.drop (Bc b).1.toNat
abbrev Op8:=Int×Int×Int×Int×Int×Int×(List Int)×Int
def Ph(e:Int):Op8:=(0,0,0,0,0,0,[],e)
theorem kz(A K:Nat)(h:A<=200000)(hk:K<=1000):Ad (Ad (A:Int) (Br 4 (K:Int))) 4=((A+4*K+4:Nat):Int):=by
 rw[Ii,Ak (a:=(A:Int)) (by omega) (by omega),Ak];omega
theorem VY{f c w r n:Nat}(h1:Eo f c w r n=true)(h2:Xm c r n=true)(b:List UInt8)(hb:b.length<=100100)(A:Nat)(hA:A<=b.length):
  Ja b (f:Int) (c:Int) (w:Int) (r:Int) (n:Int) (A:Int)=
   some (if(Ds (b.drop A) (Ah (Am r) n).length).2≠0 then Ph (Ds (b.drop A) (Ah (Am r) n).length).2 else((f:Int),(c:Int),(w:Int),(r:Int),(n:Int),((A+4*(Ah (Am r) n).length+4:Nat):Int),(Ds (b.drop A) (Ah (Am r) n).length).1,0)):=by
 rw[Ja,pB,QW h1 h2,Aa];simp only;rw[Aau (by rw[Ag];simp),Bl,Aa,Ac,show(A:Int).toNat=A from rfl,rW _ _ (by simp;omega),Aa];by_cases h:(Ds (b.drop A) (Ah (Am r) n).length).2≠0
 ·rw[Ab3 h,Ab3 (by rw[Ag];simpa using h)];rfl
 ·have h0:(Ds (b.drop A) (Ah (Am r) n).length).2=0:=by simpa using h
  obtain⟨g1,g2,g3,g4,g5,g6⟩:=gC h0;have gl:(Ds (b.drop A) (Ah (Am r) n).length).1.length=(Ah (Am r) n).length:=by rw[g1];exact Uu _ _
  rw[Aau h,Aau (by rw[Ag];simpa using h),Ac,gl,kz _ _ (by omega) (by omega)]
theorem Af1{f c w r n:Nat}(h1:Eo f c w r n=true)(h2:Xm c r n=true)(b:List UInt8)(hb:b.length<=100100)(A:Nat)(hA:A<=b.length):
  Pd b (f:Int) (c:Int) (w:Int) (r:Int) (n:Int) (A:Int)=
   some (if(Ds (b.drop A) (Ah (Am r) n).length).2≠0 then Ph (Ds (b.drop A) (Ah (Am r) n).length).2 else((f:Int),(c:Int),(w:Int),(r:Int),(n:Int),((A+4*(Ah (Am r) n).length+4:Nat):Int),(Ds (b.drop A) (Ah (Am r) n).length).1,0)):=by
 have hs:(1<=r/\r<=1048576)/\1<=n/\1<=c:=by
  simp only[Eo,Acj]at h1;omega
 have hf:n<=4000:=by
  simp only[Xm,Acj]at h2;have:=Auf 4000 c;omega
 rw[Pd,HP,Bl,Aa,YF hs.1.2 hs.2.1 hf,Aa,Ac,show(A:Int).toNat=A from rfl,O7 _ _ (by simp;omega),Aa];simp only;rw[IA,HA];by_cases h:(Ds (b.drop A) (Ah (Am r) n).length).2≠0
 ·rw[Ab3 h,Ab3 (by rw[Ag];simpa using h)];rfl
 ·have h0:(Ds (b.drop A) (Ah (Am r) n).length).2=0:=by simpa using h
  obtain⟨g1,g2,g3,g4,g5,g6⟩:=gC h0;have gl:(Ds (b.drop A) (Ah (Am r) n).length).1.length=(Ah (Am r) n).length:=by rw[g1];exact Uu _ _
  rw[Aau h,Aau (by rw[Ag];simpa using h),Ac,gl,kz _ _ (by omega) (by omega)]
structure Opn (b p:List UInt8) (f c w r n A:Nat) (l:List Int):Prop where
 prog:Ba b p=some ((f:Int),(c:Int),(w:Int),(r:Int),(n:Int),(A:Int),l,0)
 ref:Cl b p=some ((f:Int),(c:Int),(w:Int),(r:Int),(n:Int),(A:Int),l,0)
 pass:p.length<=64
 file:b.length<=100000
 shape:Eo f c w r n=true
 fit:Xm c r n=true
 len:l.length=(Ah (Am r) n).length
 some1:1<=l.length/\l.length<=1000
 five:∀x∈l,5<=x
 sum:l.sum<=100000
 at':A<=b.length
 tag:(Bc b).2=0
 head:Dm (Gx b)=((f:Int),(c:Int),(w:Int),(r:Int),(n:Int),0)
 tab:Ds (b.drop ((Bc b).1.toNat+22+(if f=2 then 8 else 0))) l.length=(l,0)
 pos:A=(Bc b).1.toNat+22+(if f=2 then 8 else 0)+4*l.length+4
theorem jB(b p:List UInt8)(hb:b.length<=100100)(hp:p.length<=64):
  (∃e:Int,e≠0/\Ba b p=some (Ph e)/\Cl b p=some (Ph e))\/ (∃f c w r n A l,Opn b p f c w r n A l):=by
 by_cases h1:100000<b.length
 ·refine .inl ⟨4,by omega,?_,?_⟩
  ·rw[Ba,Hk,Aau (by rw[Aq,Ac];simp;omega),Ab3 (by rw[Aq,Ac];simp;omega)];rfl
  ·rw[Cl,Ox,Ab3 (by rw[Aq,Ac];simp;omega)];rfl
 have hP:Ba b p=Ba b p:=rfl;have hR:Cl b p=Cl b p:=rfl
 conv at hP=>rhs;rw[Ba,Hk,Aau (by rw[Aq,Ac];simp;omega),Aau (by rw[Aq,Ac];simp;omega),Eb b (by omega),Aa]
 conv at hR=>rhs;rw[Cl,Ox,Aau (by rw[Aq,Ac];simp;omega),So b (by omega),Aa]
 by_cases h2:(Bc b).2=0
 ·obtain⟨p0,p1,p2⟩:=Xs h2;have hc:=Bl (l:=b) p0 p1;simp only[h2]at hP hR;rw[Aau (by rw[Ag];simp),hc,Aa,show b.drop (Bc b).1.toNat=Gx b from rfl,Mj _ (by simp[Gx];omega),Aa]at hP;rw[Aau (by rw[Ag];simp),hc,Aa,show b.drop (Bc b).1.toNat=Gx b from rfl,RG _ (by simp[Gx];omega),Aa]at hR;by_cases h3:(Dm (Gx b)).2.2.2.2.2=0
  ·obtain⟨g1,g2,g3,g4⟩:=RM h3;have hlen:(Gx b).length=b.length-(Bc b).1.toNat:=by simp[Gx]
   generalize hF:(Bc b).1.toNat=F at*
   have hF':(Bc b).1=(F:Int):=by omega
   rw[g1,hF']at hP hR;simp only at hP hR;generalize f0 (Gx b)=f at*
   generalize f1 (Gx b)=c at*
   generalize f2 (Gx b)=w at*
   generalize f3 (Gx b)=r at*
   generalize f4 (Gx b)=n at*
   have t22:Ad (F:Int) 22=((F+22:Nat):Int):=by rw[Ak];omega
   have t30:Ad ((F+22:Nat):Int) 8=((F+30:Nat):Int):=by rw[Ak];omega
   have Aub:f=1\/f=2:=by simp only[Eo,Acj]at g3;omega
   rw[Aau (by rw[Ag];simp),t22,t30]at hP hR;have hend:∀A:Nat,A<=b.length->A=F+22+(if f=2 then 8 else 0)->Ba b p=Ja b (f:Int) (c:Int) (w:Int) (r:Int) (n:Int) (A:Int)->Cl b p=Pd b (f:Int) (c:Int) (w:Int) (r:Int) (n:Int) (A:Int)->
     (∃e:Int,e≠0/\Ba b p=some (Ph e)/\Cl b p=some (Ph e))\/ (∃f c w r n A l,Opn b p f c w r n A l):=by
    intro A hA hA2 e1 e2;rw[VY g3 g4 b hb A hA]at e1;rw[Af1 g3 g4 b hb A hA]at e2;by_cases h:(Ds (b.drop A) (Ah (Am r) n).length).2≠0
    ·rw[Ab3 h]at e1 e2;exact .inl ⟨_,h,e1,e2⟩
    ·have h0:(Ds (b.drop A) (Ah (Am r) n).length).2=0:=by simpa using h
     obtain⟨k1,k2,k3,k4,k5,k6⟩:=gC h0;have gl:(Ds (b.drop A) (Ah (Am r) n).length).1.length=(Ah (Am r) n).length:=by rw[k1];exact Uu _ _
     rw[Aau h]at e1 e2;rw[Agy]at k4;refine .inr ⟨f,c,w,r,n,_,_,⟨e1,e2,hp,by omega,g3,g4,gl,by omega,by rw[k1];exact k5,by rw[k1];exact k6,by omega,h2,g1,by rw[gl,hF,<-hA2];exact Prod.ext rfl h0,by rw[gl,hF,<-hA2]⟩⟩
   by_cases Wb:((p==([]:List UInt8)) !=(geq (f:Int) (1:Int)))=true
   ·rw[Ab3 Wb]at hP hR;exact .inl ⟨26,by omega,hP,hR⟩
   ·rw[Aau Wb]at hP hR;have hpf:(p=[]↔f=1):=by
     rw[Ar]at Wb;have h5:(p==([]:List UInt8))=((f:Int)==1):=by simpa using Wb
     have h6:(p==([]:List UInt8))=true↔((f:Int)==1)=true:=by rw[h5]
     rw[Aug,Aug]at h6;rw[h6];omega
    by_cases h5:f=2
    ·have Agw:p≠ []:=λe=>by have:=hpf.1 e;omega
     have h64:(p !=([]:List UInt8))=true:=by simpa using Agw
     rw[Ab3 h64]at hP;rw[Ab3 (by rw[Ar,h5];rfl),Bs (by rw[Ac];omega) (by rw[Ac];omega)]at hR;by_cases h6:b.length<F+30
     ·rw[Ab3 (by rw[Ae,Ac];simp;omega)]at hP hR;exact .inl ⟨24,by omega,hP,hR⟩
     ·have hseg:((b.take (F+30)).drop (F+22)).length=8:=by simp;omega
      rw[Aau (by rw[Ae,Ac];simp;omega),Oa,Aa]at hP hR;rw[Pg,rQ p hp,Aa]at hP;rw[VU p hp,Aa]at hR;simp only at hP;rw[Aau (by rw[Ag,Ag,Ac,Ac,Ca,show((F+30:Nat):Int).toNat=F+30 from rfl,show((F+22:Nat):Int).toNat=F+22 from rfl,hseg];simp),Iq,Aa,Aa]at hP;simp only at hP;rw[Aau (by rw[Ag];simp)]at hP;generalize(b.take ((F+30:Nat):Int).toNat).drop ((F+22:Nat):Int).toNat=mY at*
      by_cases h7:mY=Rc (Rp p).toNat 8
      ·rw[Aau (by simp[h7])]at hP;rw[Aau (by simp[h7])]at hR;exact hend (F+30) (by omega) (by rw[Ab3 h5]) hP hR
      ·rw[Ab3 (by simpa using h7)]at hP;rw[Ab3 (by simpa using h7)]at hR;exact .inl ⟨26,by omega,hP,hR⟩
    ·have hpe:p=[]:=hpf.2 (by omega);rw[Aau (by rw[hpe];simp)]at hP;rw[Aau (by rw[Ar];simp;omega)]at hR;exact hend (F+22) (by omega) (by rw[Aau h5]) hP hR
  ·generalize Dm (Gx b)=v at*
   obtain⟨v1,v2,v3,v4,v5,v6⟩:=v;simp only at h3 hP hR;rw[Ab3 (by rw[Ag];simpa using h3)]at hP hR;exact .inl ⟨v6,h3,hP,hR⟩
 ·generalize Bc b=v at*
  obtain⟨v,e⟩:=v;simp only at h2 hP hR;rw[Ab3 (by rw[Ag];simpa using h2)]at hP hR;exact .inl ⟨e,h2,hP,hR⟩
theorem yx(l:List Int)(i:Nat):(l.take i).sum+(l.drop i).sum=l.sum:=by
 conv=>rhs;rw[<-Aph i l,Bfq]
theorem Fh{l:List Int}(h5:∀x∈l,5<=x)(i:Nat):0<= (l.take i).sum/\ (l.take i).sum<=l.sum:=by
 have h1:=Amx (l.take i) λx hx=>h5 x (Bfk hx);have h2:=Amx (l.drop i) λx hx=>h5 x (Bfl hx);have:=yx l i;omega
theorem Gd{l:List Int}{i:Nat}(h:i<l.length):(l.take (i+1)).sum=(l.take i).sum+l[i]:=by
 rw[Lg h,Bfq];simp
def K5(l:List Int)(n:Nat):List Int:=(List.range n).map λi=>(l.take i).sum
theorem Ad2(l:List Int)(n:Nat):(K5 l n).length=n:=by simp[K5]
theorem Am7(l:List Int)(n:Nat):K5 l (n+1)=K5 l n++[(l.take n).sum]:=by simp[K5,List.range_succ]
theorem Z9(l:List Int){n i:Nat}(h:i<n):Ao (K5 l n) (i:Int)=some ((l.take i).sum):=by
 rw[Bn (by rw[Ad2];exact h)];simp[K5]
section
variable {l:List Int} (hl:l.length<=1000) (h5:∀x∈l,5<=x) (hs:l.sum<=100000)
include hl h5 hs
theorem zk:∀(j i q:Nat),i+j=l.length->j<q->Qb l q (i:Int) ((l.take i).sum) (K5 l (i+1))=some (K5 l (l.length+1),0)
 |0,i,q+1,hi,_=>by
  rw[Qb,BW,Aau (by rw[Ae,Ac];simp;omega),show i=l.length by omega];rfl
 |j+1,i,q+1,hi,hq=>by
  have hlt:i<l.length:=by omega
  have ih:=zk j (i+1) q (by omega) (by omega);have b1:=Fh h5 i;have b2:=Fh h5 (i+1);have e:=Gd hlt;rw[Am7 l (i+1),e]at ih;rw[Qb,BW,Ab3 (by rw[Ae,Ac];simp;omega),Bn hlt,Aa,Ak,Bw (by simp[Ad2];omega),Aa,NS,eT,Ak,Ak];exact ih
theorem Avu(h1:1<=l.length):PK l=some (K5 l (l.length+1),0):=by
 have h:=zk hl h5 hs l.length 0 Ax (by omega) (by have:=As;omega);have hx:∀x∈l,0<=x/\x<4294967296:=λx hx=>by
  have:=vB h5 x hx;have:=h5 x hx;omega
 have ht:Ru l=true:=by
  rw[Ru,Acl];exact⟨by simpa using⟨h1,hl⟩,(BN l 100000 (by omega)).2 ⟨h5,hs⟩⟩
 rw[PK,OG,Z0 l hl hx,Aa,Ab3 ht,Aau (by rw[Ag];simp)];exact h
theorem U9(f c w r n A:Int)(hA:0<=A)(hA2:A<=200000)(k:Nat)(hk:k<=l.length):∀(j i q:Nat),i+j=k->j<q->Lp (k:Int) f c w r n A l q (A+(l.take i).sum) (i:Int)=some (A+(l.take k).sum)
 |0,i,q+1,hi,_=>by
  rw[Lp,Yn,Aau (by rw[Ae];simp;omega),show i=k by omega];rfl
 |j+1,i,q+1,hi,hq=>by
  have hlt:i<l.length:=by omega
  have ih:=U9 f c w r n A hA hA2 k hk j (i+1) q (by omega) (by omega);have b1:=Fh h5 i;have b2:=Fh h5 (i+1);have e:=Gd hlt;rw[e,<-Bfi]at ih;rw[Lp,Yn,Ab3 (by rw[Ae];simp;omega),Bn hlt,Aa,Ak,Ak];exact ih
theorem zm(f c w r n A:Int)(hA:0<=A)(hA2:A<=200000)(k:Nat)(hk:k<=l.length):aA f c w r n A l (k:Int)=some (A+(l.take k).sum):=by
 have h:=U9 hl h5 hs f c w r n A hA hA2 k hk k 0 Ax (by omega) (by have:=As;omega);rw[Bbi,Bd3,Int.add_zero]at h;exact h
end
theorem Ti{g n:Nat}(hg:1<=g)(hn:1<=n){x:Int}(h:x∈Ah g n):∃m:Nat,x=m/\1<=m/\m<=n:=by
 have hmul:=Bbl (n-1) g;rw[Ah,List.mem_append]at h;rcases h with h|h
 ·rw[List.mem_replicate]at h;have h1:1<= (n-1)/g:=Nat.pos_of_ne_zero h.1;have:=Agu g h1;exact⟨g,h.2,hg,by omega⟩
 ·rw[List.mem_singleton]at h;exact⟨_,h,by omega,by omega⟩
theorem Kz{f c w r n:Nat}(h:Eo f c w r n=true):(1<=c/\c<=6)/\Bu (w:Int)/\ (1<=r/\r<=1048576)/\1<=n/\ (f=1\/f=2):=by
 simp only[Eo,Acj]at h;refine⟨h.2.1,?_,h.2.2.2.1,h.2.2.2.2,h.1⟩;rcases h.2.2.1 with rfl|rfl|rfl
 ·exact .inl rfl
 ·exact .inr (.inl rfl)
 ·exact .inr (.inr rfl)
theorem Aos{b p:List UInt8}{f c w r n A:Nat}{l:List Int}(o:Opn b p f c w r n A l)(k:Nat)(hk:k<l.length):
  ∃y:List UInt8×Int,Xk (k:Int) (Ah (Am r) n) (f:Int) (c:Int) (w:Int) (r:Int) (n:Int) (A:Int) b (Pk p) l (K5 l (l.length+1))=some y/\
   Mi b p (f:Int) (c:Int) (w:Int) (r:Int) (n:Int) (A:Int) l (k:Int)=some y:=by
 obtain⟨hc,hw,hr,hn,_⟩:=Kz o.shape;have hfit:n<=4000/c:=by have:=o.fit;simp only[Xm,Acj]at this;exact this.1
 have hn4:n<=4000:=by have:=Auf 4000 c;omega
 have hA:=o.at';have oq:=o.file;have hlen:=o.len;have b1:=Fh o.five k;have b2:=Fh o.five (k+1);have e:=Gd hk;have h5:=o.five l[k] (Ams _);have hsum:=o.sum;have hs1:=o.some1;have hkf:k<(Ah (Am r) n).length:=by omega
 obtain⟨m,hm,m1,m2⟩:=Ti (Fe r) hn (Ams hkf);have e1:Ad (k:Int) 1=((k+1:Nat):Int):=by rw[Ak];omega
 rw[Xk,TG,Aau (by rw[Ag];simp),Aau (by simp[Ae,Dy,Ac];omega),e1,Z9 l (by omega),Z9 l (by omega),Aa,Aa,Aa,Aa,TI,TR,Ak (a:=(A:Int)) (b:=(l.take (k+1)).sum) (by omega) (by omega),Ak];rw[Mi,CF,zm hs1.2 o.five o.sum _ _ _ _ _ (A:Int) (by omega) (by omega) k (by omega),Aa,Bn hk,Aa,Bs (by rw[Ac];omega) (by rw[Ac];omega)];by_cases hto:(b.length:Int)<(A:Int)+(l.take (k+1)).sum
 ·rw[Ab3 (by rw[Aq,Ac,Acj];omega),Ab3 (by rw[Ae,Ac,Acj];omega)];exact⟨_,rfl,rfl⟩
 ·rw[Aau (by rw[Aq,Ac,Acj];omega),Aau (by rw[Ae,Ac,Acj];omega),JS p o.pass,YF hr.2 hn hn4];simp only[Aa];rw[Ak (a:=(A:Int)+(l.take k).sum) (b:=l[k]) (by omega) (by omega),Bfi,<-e,Bn hkf,hm];simp only[Aa];rw[Oa,Aa,Aa];obtain⟨x,er,g1,g2,g3,_⟩:=Wd (ch:=c) (n:=m) (t:=Pk p) ((b.take ((A:Int)+(l.take (k+1)).sum).toNat).drop ((A:Int)+(l.take k).sum).toNat) hw (Kj p) hc.1 hc.2 m1 (by omega);rw[g1,g2,Aa,Aa];simp only;rw[UA,SY,CU,CV];by_cases her:er=0
  ·obtain⟨g4,g5,_⟩:=g3 her;rw[Aau (by rw[Ag];simpa using her),Aau (by rw[Ag];simpa using her),ND hw g5 g4,FU hw g5 g4,Aa,Aa];exact⟨_,rfl,rfl⟩
  ·rw[Ab3 (by rw[Ag];simpa using her),Ab3 (by rw[Ag];simpa using her)];exact⟨_,rfl,rfl⟩
theorem Ags{b p:List UInt8}{f c w r n A:Nat}{l:List Int}(o:Opn b p f c w r n A l)(k:Int):HD b p k=Xk k (Ah (Am r) n) (f:Int) (c:Int) (w:Int) (r:Int) (n:Int) (A:Int) b (Pk p) l (K5 l (l.length+1)):=by
 have hs1:=o.some1;rw[HD,TN,o.prog,Aa];simp only;rw[Aau (by rw[Ag];simp),QW o.shape o.fit,Aa];simp only;rw[Aau (by rw[Ag];simp),Avu hs1.2 o.five o.sum hs1.1,Aa];simp only;rw[Aau (by rw[Ag];simp),gD p o.pass,Aa];simp only;rw[Aau (by rw[Ag];simp),Ac,<-o.len,Z9 l (by omega),Aa,Aa]
theorem Bas(n m:Nat):Rv n m 0≠Rv n m 2147483648:=by
 intro h;simp[Rv,Rc,zA]at h
def Dc(b:List UInt8):List UInt8:=b.drop (b.length-32)
theorem Aez{b:List UInt8}(h:32<=b.length):(Dc b).length=32:=by rw[Dc,Agy];omega
def NB(t:List UInt8):Nat:=Df (part t 12 4)-32
def U3(t:List UInt8):Nat:=Df (part t 16 4)
def Zz(b:List UInt8):Int×Int:=
 if ¬(32<=b.length/\ (Dc b).take 8=zA)then(0,6)else if BC (Dc b)=true then(0,12)else
 if Dc b=Rv (NB (Dc b)) (U3 (Dc b)) 0 then(if b.length<NB (Dc b)+32 then(0,24)else(((NB (Dc b)+32:Nat):Int),0))else
 if Dc b≠Rv (NB (Dc b)) (U3 (Dc b)) 2147483648 then(0,12)else
 if b.length<NB (Dc b)+64 then(0,24)else
 if(b.take (b.length-(NB (Dc b)+64)+32)).drop (b.length-(NB (Dc b)+64))≠Rv (NB (Dc b)) (U3 (Dc b)) 2684354560 then(0,12)else(((NB (Dc b)+64:Nat):Int),0)
section
variable {b:List UInt8}
theorem ba1(h:¬(32<=b.length/\ (Dc b).take 8=zA)):Zz b=(0,6):=by rw[Zz,Ab3 h]
variable (h:32<=b.length/\ (Dc b).take 8=zA)
include h
theorem ba2(h2:BC (Dc b)=true):Zz b=(0,12):=by rw[Zz,Aau (λh'=>h' h),Ab3 h2]
variable (h2:BC (Dc b)=false)
include h2
theorem ba3(h3:Dc b=Rv (NB (Dc b)) (U3 (Dc b)) 0):Zz b=if b.length<NB (Dc b)+32 then(0,24)else(((NB (Dc b)+32:Nat):Int),0):=by
 rw[Zz,Aau (λh'=>h' h),Aau (by rw[h2];simp),Ab3 h3]
variable (h3:Dc b≠Rv (NB (Dc b)) (U3 (Dc b)) 0)
include h3
theorem ba4(h4:Dc b≠Rv (NB (Dc b)) (U3 (Dc b)) 2147483648):Zz b=(0,12):=by
 rw[Zz,Aau (λh'=>h' h),Aau (by rw[h2];simp),Aau h3,Ab3 h4]
variable (h4:Dc b=Rv (NB (Dc b)) (U3 (Dc b)) 2147483648)
include h4
theorem ba5(h5:b.length<NB (Dc b)+64):Zz b=(0,24):=by
 rw[Zz,Aau (λh'=>h' h),Aau (by rw[h2];simp),Aau h3,Aau (λe=>e h4),Ab3 h5]
theorem ba6(h5:¬b.length<NB (Dc b)+64):Zz b=if(b.take (b.length-(NB (Dc b)+64)+32)).drop (b.length-(NB (Dc b)+64))≠Rv (NB (Dc b)) (U3 (Dc b)) 2684354560 then(0,12)else(((NB (Dc b)+64:Nat):Int),0):=by
 rw[Zz,Aau (λh'=>h' h),Aau (by rw[h2];simp),Aau h3,Aau (λe=>e h4),Aau h5]
end
theorem Ac6{b:List UInt8}{n:Int}(h:Zz b=(n,0)):32<=n/\n<=b.length:=by
 unfold Zz at h;split at h; · simp at h
 rename_i h32;split at h; · simp at h
 split at h
 ·split at h; · simp at h
  simp only[Agt,Bf0]at h;omega
 split at h; · simp at h
 split at h; · simp at h
 split at h; · simp at h
 simp only[Agt,Bf0]at h;omega
theorem Am0{b:List UInt8}(h:(Zz b).2≠0):(Zz b).1=0:=by
 revert h
 unfold Zz;split; · simp
 split; · simp
 split
 ·split<;>simp
 split; · simp
 split; · simp
 split<;>simp
theorem Aq4{b:List UInt8}(h:32<=b.length)(hl:b.length<4611686018427387904):Ap (Ac b) 32=((b.length-32:Nat):Int)/\Bm b ((b.length-32:Nat):Int) (Ac b)=some (Dc b):=by
 refine⟨by rw[Ac,Bs];omega,?_⟩;rw[Bl];rfl
theorem Ao6(b:List UInt8)(hl:b.length<4611686018427387904):yT b=some (Zz b):=by
 rw[yT,pO];by_cases h32:32<=b.length
 ·obtain⟨e1,e2⟩:=Aq4 h32 hl;have hl3:=Aez h32;rw[Aau (by rw[e1,Ae];simp),e1,e2,Aa,jC,Aa];by_cases hp:(Dc b).take 8=zA
  ·have h:=And.intro h32 hp;rw[Aau (by simpa [zA,hl3]using hp),pX,H9,e1,e2,Aa,kK _ 0 (by omega) (by omega) (by decide),Aa];cases hb:BC (Dc b)with
   |true=>
    rw[ba2 h hb];simp only[Bgc,Avr,Bd4];rw[Aa,kK _ 2147483648 (by omega) (by omega) (by decide),Aa,hb];rfl
   |false=>
    obtain⟨i1,i2,i3,i4⟩:=zV (Dc b) (by omega) hb;have eI:Df (part (Dc b) 12 4)-32=NB (Dc b):=rfl;have eM:Df (part (Dc b) 16 4)=U3 (Dc b):=rfl;simp only[Avr,Bd4];rw[eI]at i3;rw[eM]at i4;rw[eI,eM];by_cases c1:Dc b=Rv (NB (Dc b)) (U3 (Dc b)) 0
    ·have c1':Dc b=Rv (NB (Dc b)) (U3 (Dc b)) (0:UInt64).toNat:=c1;rw[Ab3 (by simpa using c1'),ba3 h hb c1];by_cases c2:b.length<NB (Dc b)+32
     ·rw[Ab3 (by rw[Ae];simp;omega),Ab3 c2]
     ·rw[Aau (by rw[Ae];simp;omega),Aau c2,Ak];rfl
    ·have c1':¬Dc b=Rv (NB (Dc b)) (U3 (Dc b)) (0:UInt64).toNat:=c1;rw[Aau (by simpa using c1'),Aa,kK _ 2147483648 (by omega) (by omega) (by decide),Aa,hb];simp only[Avr,Bd4];rw[eI,eM];by_cases c2:Dc b=Rv (NB (Dc b)) (U3 (Dc b)) 2147483648
     ·have c2':Dc b=Rv (NB (Dc b)) (U3 (Dc b)) (2147483648:UInt64).toNat:=c2;rw[Aau (by simpa using c2'),Ak];by_cases c3:b.length<NB (Dc b)+64
      ·rw[Ab3 (by rw[Ae,Ac];simp;omega),ba5 h hb c1 c2 c3]
      ·rw[Aau (by rw[Ae,Ac];simp;omega),Ac,Bs,Ak,Oa,Aa,mf _ _ _ i3 i4 (by decide),Aa,Iq,Aa,ba6 h hb c1 c2 c3];rw[show((b.length:Int)-(((NB (Dc b):Nat):Int)+64)).toNat=b.length-(NB (Dc b)+64) by omega,show((b.length:Int)-(((NB (Dc b):Nat):Int)+64)+32).toNat=b.length-(NB (Dc b)+64)+32 by omega];have e7:(2684354560:UInt64).toNat=2684354560:=rfl;rw[e7];by_cases c4:(b.take (b.length-(NB (Dc b)+64)+32)).drop (b.length-(NB (Dc b)+64))=Rv (NB (Dc b)) (U3 (Dc b)) 2684354560
       ·rw[Aau (by simpa using c4),Aau (λe=>e c4)];rfl
       ·rw[Ab3 (by simpa using c4),Ab3 c4]
     ·have c2':¬Dc b=Rv (NB (Dc b)) (U3 (Dc b)) (2147483648:UInt64).toNat:=c2;rw[Ab3 (by simpa using c2'),ba4 h hb c1 c2]
  ·rw[Ab3 (by rw[Azo,Bbe];intro h;exact hp h.2),ba1 (λh=>hp h.2)]
 ·rw[Ab3 (by rw[Ac,Bs,Ae];simp;omega),ba1 (λh=>h32 h.1)]
theorem Avt{b:List UInt8}(h:32<=b.length):(b.take (b.length-32+8)).drop (b.length-32)=(Dc b).take 8:=by
 rw[Dc,List.take_drop]
theorem Arh(b:List UInt8)(hl:b.length<4611686018427387904):KK b=some (Zz b):=by
 rw[KK,SB];by_cases h32:32<=b.length
 ·obtain⟨e1,e2⟩:=Aq4 h32 hl;have hl3:=Aez h32;rw[Aau (by rw[Ae,Ac];simp;omega),e1,Ak,Oa,Aa,show((b.length-32:Nat):Int).toNat=b.length-32 from rfl,show(((b.length-32:Nat):Int)+8).toNat=b.length-32+8 by omega,Avt h32];by_cases hp:(Dc b).take 8=zA
  ·have h:=And.intro h32 hp;rw[Aau (by simpa [zA]using hp),QB,PZ,e1,e2,Aa,Adv _ (by omega) (by omega),Aa];cases hb:BC (Dc b)with
   |true=>rw[ba2 h hb];rfl
   |false=>
    obtain⟨i1,i2,i3,i4⟩:=zV (Dc b) (by omega) hb;have eI:Df (part (Dc b) 12 4)-32=NB (Dc b):=rfl;have eM:Df (part (Dc b) 16 4)=U3 (Dc b):=rfl;simp only[Avr,Bd4,Bfh];rw[eI]at i3;rw[eM]at i4;rw[eI,eM,Ns,Ab3 rfl,yE _ _ _ i3 i4 (by decide),Aa,Aa];have e7:(2147483648:UInt64).toNat=2147483648:=rfl;have e8:(2684354560:UInt64).toNat=2684354560:=rfl;rw[e7];by_cases c2:Dc b=Rv (NB (Dc b)) (U3 (Dc b)) 2147483648
    ·have c1:Dc b≠Rv (NB (Dc b)) (U3 (Dc b)) 0:=λe=>Bas (NB (Dc b)) (U3 (Dc b)) (e.symm.trans c2);rw[Aau (by simpa using c2),AZ,AB,Ab3 (by simpa using c2),BB,AG,Ak (a:=32) (by omega) (by omega),Ak];by_cases c3:b.length<NB (Dc b)+64
     ·rw[Ab3 (by rw[Ae,Ac];simp;omega),ba5 h hb c1 c2 c3]
     ·rw[Aau (by rw[Ae,Ac];simp;omega),Ab3 (by simpa using c2),Ac,Bs,Ak,Oa,Aa,Zl,yE _ _ _ i3 i4 (by decide),Aa,Aa,ba6 h hb c1 c2 c3,e8];rw[show((b.length:Int)-(32+((NB (Dc b):Nat):Int)+32)).toNat=b.length-(NB (Dc b)+64) by omega,show((b.length:Int)-(32+((NB (Dc b):Nat):Int)+32)+32).toNat=b.length-(NB (Dc b)+64)+32 by omega];by_cases c4:(b.take (b.length-(NB (Dc b)+64)+32)).drop (b.length-(NB (Dc b)+64))=Rv (NB (Dc b)) (U3 (Dc b)) 2684354560
      ·rw[Aau (by simpa using c4),Aau (λe=>e c4),show(32+((NB (Dc b):Nat):Int)+32)=((NB (Dc b)+64:Nat):Int) by omega]
      ·rw[Ab3 (by simpa using c4),Ab3 c4]
    ·rw[Ab3 (by simpa using c2),Ns,Aau (by simp),yE _ _ _ i3 i4 (by decide),Aa,Aa];have e9:(0:UInt64).toNat=0:=rfl;rw[e9];by_cases c1:Dc b=Rv (NB (Dc b)) (U3 (Dc b)) 0
     ·rw[Aau (by simpa using c1),AZ,AB,Aau (by simpa using c2),BB,AG,Ak,ba3 h hb c1,Aau (c:=(Dc b==Rv (NB (Dc b)) (U3 (Dc b)) 2147483648)=true) (by simpa using c2)];by_cases c3:b.length<NB (Dc b)+32
      ·rw[Ab3 (by rw[Ae,Ac];simp;omega),Ab3 c3]
      ·rw[Aau (by rw[Ae,Ac];simp;omega),Aau c3,show(32+((NB (Dc b):Nat):Int))=((NB (Dc b)+32:Nat):Int) by omega]
     ·rw[Ab3 (by simpa using c1),ba4 h hb c1 c2]
  ·rw[Ab3 (by simpa [zA]using hp),ba1 (λh=>hp h.2)]
 ·rw[Ab3 (by rw[Ae,Ac];simp;omega),ba1 (λh=>h32 h.1)]
def Aai:Nat->List UInt8->Nat->Int×Int
 |0,_,_=>(0,38)
 |j+1,b,a=>if b=[]then((a:Int),0)else if(Zz b).2≠0 then(0,38)else Aai j (b.take (b.length-(Zz b).1.toNat)) (a+1)
theorem Aev:∀(j q a:Nat) (b:List UInt8),b.length<j->j<=q->b.length<=4000->a+b.length<=4000->Xj q (a:Int) b=some (Aai j b a)
 |0,_,_,_,h,_,_,_=>by omega
 |j+1,q+1,a,b,h,hq,h4,ha=>by
  rw[Xj,SW,Aai];by_cases hb:b=[]
  ·subst hb;rw[Aau (by decide),Ab3 rfl];rfl
  ·have hpos:0<b.length:=List.length_pos_iff.2 hb;rw[Ab3 (by rw[Aq,Ac];simp;omega),Aau hb,Ao6 b (by omega),Aa];have hbad:=Am0 (b:=b);have hok:=λn=>Ac6 (b:=b) (n:=n);generalize Zz b=v at*
   obtain⟨n,e⟩:=v;simp only at hbad⊢;rw[OL,OR];by_cases he:e≠0
   ·rw[Ab3 he,hbad he,Ab3 (by decide)]
   ·obtain⟨k1,k2⟩:=hok n (by rw[show e=0 by simpa using he]);rw[Aau he,Aau (by rw[Ar];simp;omega),Ac,Bs,Dg,Aa,OV,fG,Ak];rw[show((b.length:Int)-n).toNat=b.length-n.toNat by omega];have ih:=Aev j q (a+1) (b.take (b.length-n.toNat)) (by rw[Afa];omega) (by omega) (by rw[Afa];omega) (by rw[Afa];omega);rw[<-ih];rfl
theorem Aj4:∀(j q a:Nat) (b:List UInt8),b.length<j->j<=q->b.length<=4000->a+b.length<=4000->Pj q b (a:Int)=some (Aai j b a)
 |0,_,_,_,h,_,_,_=>by omega
 |j+1,q+1,a,b,h,hq,h4,ha=>by
  rw[Pj,HI,Aai];by_cases hb:b=[]
  ·subst hb;rw[Aau (by decide),Ab3 rfl];rfl
  ·have hpos:0<b.length:=List.length_pos_iff.2 hb;rw[Ab3 (by rw[Aq,Ac];simp;omega),Aau hb,Arh b (by omega),Aa];have hok:=λn=>Ac6 (b:=b) (n:=n);generalize Zz b=v at*
   obtain⟨n,e⟩:=v;simp only;by_cases he:e≠0
   ·rw[Ab3 he,Ab3 (by rw[Ag];simpa using he)]
   ·obtain⟨k1,k2⟩:=hok n (by rw[show e=0 by simpa using he]);rw[Aau he,Aau (by rw[Ag];simpa using he),Ac,Bs,Dg,Aa,Ak];rw[show((b.length:Int)-n).toNat=b.length-n.toNat by omega];have ih:=Aj4 j q (a+1) (b.take (b.length-n.toNat)) (by rw[Afa];omega) (by omega) (by rw[Afa];omega) (by rw[Afa];omega);rw[<-ih];rfl
def Xe(b:List UInt8):Int×Int:=if 4000<b.length then(0,38)else Aai (b.length+1) b 0
theorem J3(b:List UInt8)(hl:b.length<4611686018427387904):HH b=some (Xe b):=by
 rw[HH,SS,Xe];by_cases h:4000<b.length
 ·rw[Ab3 (by rw[Aq,Ac];simp;omega),Ab3 h]
 ·rw[Aau (by rw[Aq,Ac];simp;omega),Aau h];exact Aev _ Ax 0 b (by omega) (by have:=As;omega) (by omega) (by omega)
theorem vC(b:List UInt8)(hl:b.length<4611686018427387904):Ug b=some (Xe b):=by
 rw[Ug,KH,Xe];by_cases h:4000<b.length
 ·rw[Ab3 (by rw[Aq,Ac];simp;omega),Ab3 h]
 ·rw[Aau (by rw[Aq,Ac];simp;omega),Aau h];exact Aj4 _ Ax 0 b (by omega) (by have:=As;omega) (by omega) (by omega)
theorem vS{a b:Nat}(h:a<9223372036854775808:=by omega):Db (a:Int) (b:Int)=((a/b:Nat):Int):=by
 have:a/b<=a:=Auf _ _;rw[TX,Bbn (by omega),<-Int.natCast_ediv];generalize a/b=k at*
 exact Dd (by omega) (by omega)
theorem zN{bits:Int}(h:Bu bits)(x:Int):(NF bits x).length=wB bits:=by
 obtain rfl|rfl|rfl:=h<;>rfl
theorem FJ{bits:Int}(h:Bu bits):∀l:List Int32,(Cy bits l).length=l.length*wB bits
 |[]=>by simp[Cy]
 |x::l=>by
  have h1:=FJ h l;have h2:=zN h x.toInt;simp only[Cy,List.flatMap_cons,Aci,Akt,Bfb]at*
  omega
def sH(b:List UInt8)(A:Nat)(l:List Int)(k:Nat):List UInt8:=(b.take ((A:Int)+(l.take (k+1)).sum).toNat).drop ((A:Int)+(l.take k).sum).toNat
structure Gts (b p:List UInt8) (f c w r n A:Nat) (l:List Int) (k m:Nat) (x:List Int32) (s:List UInt8) (e:Int):Prop where
 mom:Ao (Ah (Am r) n) (k:Int)=some (m:Int)
 pos:1<=m/\m*c<=4000
 got:Mi b p (f:Int) (c:Int) (w:Int) (r:Int) (n:Int) (A:Int) l (k:Int)=some (s,e)
 none':e≠0->s=[]/\x=[]
 some':e=0->s=Cy (w:Int) x/\x.length=m*c/\Ay (w:Int) x=some 0/\Jq (w:Int) x=some (s,0)/\ (A:Int)+(l.take (k+1)).sum<=b.length
 way:((b.length:Int)<(A:Int)+(l.take (k+1)).sum/\e=24)\/ ((A:Int)+(l.take (k+1)).sum<=b.length/\Hi (c:Int) (w:Int) (Pk p) (m:Int) (sH b A l k)=some (x,e)/\Cm (c:Int) (w:Int) (Pk p) (m:Int) (sH b A l k)=some (x,e))
theorem Qa{b p:List UInt8}{f c w r n A:Nat}{l:List Int}(o:Opn b p f c w r n A l)(k:Nat)(hk:k<l.length):∃m x s e,Gts b p f c w r n A l k m x s e:=by
 obtain⟨hc,hw,hr,hn,_⟩:=Kz o.shape;have hfit:n<=4000/c:=by have:=o.fit;simp only[Xm,Acj]at this;exact this.1
 have hn4:n<=4000:=by have:=Auf 4000 c;omega
 have hA:=o.at';have oq:=o.file;have hlen:=o.len;have b1:=Fh o.five k;have b2:=Fh o.five (k+1);have e:=Gd hk;have h5:=o.five l[k] (Ams _);have hsum:=o.sum;have hs1:=o.some1;have hkf:k<(Ah (Am r) n).length:=by omega
 obtain⟨m,hm,m1,m2⟩:=Ti (Fe r) hn (Ams hkf);have Ax6:Ao (Ah (Am r) n) (k:Int)=some (m:Int):=by rw[Bn hkf,hm]
 have hpos:1<=m/\m*c<=4000:=by
  refine⟨m1,?_⟩;have:=Agu c (Bf1 m2 hfit);have:=Bbl 4000 c;omega
 have hR:Mi b p (f:Int) (c:Int) (w:Int) (r:Int) (n:Int) (A:Int) l (k:Int)=Mi b p (f:Int) (c:Int) (w:Int) (r:Int) (n:Int) (A:Int) l (k:Int):=rfl
 conv at hR=>rhs;rw[Mi,CF,zm hs1.2 o.five o.sum _ _ _ _ _ (A:Int) (by omega) (by omega) k (by omega),Aa,Bn hk,Aa,Bs (by rw[Ac];omega) (by rw[Ac];omega)]
 by_cases hto:(b.length:Int)<(A:Int)+(l.take (k+1)).sum
 ·rw[Ab3 (by rw[Ae,Ac,Acj];omega)]at hR;exact⟨m,[],[],24,Ax6,hpos,hR,λ_=>⟨rfl,rfl⟩,λh=>by simp at h, .inl ⟨hto,rfl⟩⟩
 ·rw[Aau (by rw[Ae,Ac,Acj];omega),JS p o.pass,YF hr.2 hn hn4]at hR;simp only[Aa]at hR;rw[Ak (a:=(A:Int)+(l.take k).sum) (b:=l[k]) (by omega) (by omega),Bfi,<-e,Ax6]at hR;simp only[Aa]at hR;rw[Oa,Aa]at hR;obtain⟨x,er,g1,g2,g3,g4⟩:=Wd (ch:=c) (n:=m) (t:=Pk p) (sH b A l k) hw (Kj p) hc.1 hc.2 m1 (by omega);rw[show(b.take ((A:Int)+(l.take (k+1)).sum).toNat).drop ((A:Int)+(l.take k).sum).toNat=sH b A l k from rfl,g2,Aa]at hR;simp only at hR;rw[CU,CV]at hR;by_cases her:er=0
  ·obtain⟨g5,g6,g7⟩:=g3 her;rw[Aau (by rw[Ag];simpa using her),FU hw g6 g5,Aa]at hR;subst her;exact⟨m,x,_,0,Ax6,hpos,hR,λh=>absurd rfl h,λ_=>⟨rfl,g7,g5,ND hw g6 g5,by omega⟩, .inr ⟨by omega,g1,g2⟩⟩
  ·rw[Ab3 (by rw[Ag];simpa using her)]at hR;exact⟨m,x,_,er,Ax6,hpos,hR,λh=>⟨rfl,g4 h⟩,λh=>absurd h her, .inr ⟨by omega,g1,g2⟩⟩
theorem Gts.lens{b p:List UInt8}{f c w r n A:Nat}{l:List Int}{k m:Nat}{x:List Int32}{s:List UInt8}{e:Int}(hw:Bu (w:Int))(g:Gts b p f c w r n A l k m x s e):s.length<=12000/\x.length<=4000/\ (e=0->s.length=m*c*wB (w:Int)):=by
 by_cases he:e=0
 ·obtain⟨h1,h2,_⟩:=g.some' he;have h3:=OC (w:Int) x;have h4:=FJ hw x;have h5:=g.pos;rw[<-h1]at h3 h4;refine⟨by omega,by omega,λ_=>by rw[h4,h2]⟩
 ·obtain⟨h1,h2⟩:=g.none' he;exact⟨by simp[h1],by simp[h2],λh=>absurd h he⟩
def lD(G:Nat->List UInt8×Int)(be:Int):Nat->Nat->List UInt8->List UInt8×Int
 |0,_,acc=>if be≠0 then([],38)else(acc,0)
 |j+1,k,acc=>if(G k).2≠0 then([],(G k).2)else lD G be j (k+1) (acc++(G k).1)
def Gu(b p:List UInt8)(f c w r n A:Nat)(l:List Int)(k:Nat):List UInt8×Int:=(Mi b p (f:Int) (c:Int) (w:Int) (r:Int) (n:Int) (A:Int) l (k:Int)).getD ([],0)
theorem Gts.eq{b p:List UInt8}{f c w r n A:Nat}{l:List Int}{k m:Nat}{x:List Int32}{s:List UInt8}{e:Int}(g:Gts b p f c w r n A l k m x s e):Gu b p f c w r n A l k=(s,e):=by rw[Gu,g.got];rfl
def sN(b:List UInt8)(A:Nat)(l:List Int):Int:=(Xe (b.drop ((A:Int)+l.sum).toNat)).2
def YO(b:List UInt8)(k:Nat):Nat:=(b.getD k 0).toNat
def sx(n:Nat)(b:List UInt8)(a:Nat):Int:=
 if n=1 then(YO b a:Int)-128 else
 if n=2 then(if YO b a+256*YO b (a+1)<32768 then(YO b a+256*YO b (a+1):Nat)else((YO b a+256*YO b (a+1):Nat):Int)-65536)else
 (if YO b a+256*YO b (a+1)+65536*YO b (a+2)<8388608 then(YO b a+256*YO b (a+1)+65536*YO b (a+2):Nat)else((YO b a+256*YO b (a+1)+65536*YO b (a+2):Nat):Int)-16777216)
def sxs(n m:Nat)(b:List UInt8):List Int32:=(List.range m).map λx=>Int32.ofInt (sx n b (x*n))
theorem Axn(n m:Nat)(b:List UInt8):(sxs n m b).length=m:=by simp[sxs]
theorem sx2(b:List UInt8)(a:Nat):sx 2 b a=if YO b a+256*YO b (a+1)<32768 then((YO b a+256*YO b (a+1):Nat):Int)else((YO b a+256*YO b (a+1):Nat):Int)-65536:=rfl
theorem sx3(b:List UInt8)(a:Nat):sx 3 b a=if YO b a+256*YO b (a+1)+65536*YO b (a+2)<8388608 then((YO b a+256*YO b (a+1)+65536*YO b (a+2):Nat):Int)else((YO b a+256*YO b (a+1)+65536*YO b (a+2):Nat):Int)-16777216:=rfl
variable (b:List UInt8)
end Go.Pl
namespace Go.Pl
open Go Go.Lv
theorem Az0{c:Nat}{w:Nat}(hc:c<=6)(hw:Bu (w:Int)):Db (Br (c:Int) (w:Int)) 8=((c*wB (w:Int):Nat):Int):=by
 have h:w=8\/w=16\/w=24:=by unfold Bu at hw;omega
 have:c=0\/c=1\/c=2\/c=3\/c=4\/c=5\/c=6:=by omega
 rcases h with rfl|rfl|rfl<;>rcases this with rfl|rfl|rfl|rfl|rfl|rfl|rfl<;>rfl
theorem Az8{w:Nat}(hw:Bu (w:Int)):8*wB (w:Int)=w/\w<=24:=by
 have h:w=8\/w=16\/w=24:=by unfold Bu at hw;omega
 rcases h with rfl|rfl|rfl<;>exact⟨rfl,by omega⟩
theorem Arz{t c w:Nat}(ht:t<=4000)(hc:c<=6)(hw:Bu (w:Int)):Db (Br (Br (t:Int) (c:Int)) (w:Int)) 8=((t*(c*wB (w:Int)):Nat):Int):=by
 obtain⟨h1,h2⟩:=Az8 hw;have e1:(t:Int)*(c:Int)=((t*c:Nat):Int):=by simp
 have b1:t*c<=4000*6:=Bce ht hc;have b2:t*c*w<=24000*24:=Bce b1 h2;rw[Ii (a:=(t:Int)) (by rw[e1];omega) (by rw[e1];omega),e1,Ii (by rw[<-Ba1];omega) (by rw[<-Ba1];omega),<-Ba1,show(8:Int)=((8:Nat):Int)from rfl,vS];congr 1;generalize wB (w:Int)=W at*
 subst h1;rw[Nat.mul_left_comm,Nat.mul_div_cancel_left _ (by omega),Bb7]
section
variable {b p:List UInt8} {f c w r n A:Nat} {l:List Int} (o:Opn b p f c w r n A l)
include o
theorem Amf{k m:Nat}{x:List Int32}{s:List UInt8}{e:Int}(hk:k<l.length)(g:Gts b p f c w r n A l k m x s e):HD b p (k:Int)=some (s,e):=by
 obtain⟨y,h1,h2⟩:=Aos o k hk;rw[Ags o,h1,<-g.got,h2]
end
def pg(w:Nat)(y:List UInt8×Int):List Int32:=if y.2≠0 then []else sxs (wB (w:Int)) (y.1.length/wB (w:Int)) y.1
theorem D8(z:Int):(u8 z).toNat=(z %256).toNat:=by
 have:(z %256).toNat<256:=by omega
 rw[u8,Apd,Ack (by omega)]
theorem ig{bits:Int}(h:Bu bits):∀(l:List Int32) (i j:Nat),i<l.length->j<wB bits-> (Cy bits l).getD (i*wB bits+j) 0=(NF bits (l.getD i 0).toInt).getD j 0
 |[],i,j,hi,_=>by simp at hi
 |x::l,0,j,_,hj=>by
  have h1:=zN h x.toInt;have e:Cy bits (x::l)=NF bits x.toInt++Cy bits l:=by simp[Cy]
  rw[e,Nat.zero_mul,Azm,List.getD_eq_getElem?_getD,List.getD_eq_getElem?_getD,List.getElem?_append_left (by omega)];rfl
 |x::l,i+1,j,hi,hj=>by
  have h1:=zN h x.toInt;have e:Cy bits (x::l)=NF bits x.toInt++Cy bits l:=by simp[Cy]
  have ih:=ig h l i j (by simpa using hi) hj;have e2:(i+1)*wB bits+j=(NF bits x.toInt).length+(i*wB bits+j):=by rw[Ayj,Bgb,h1];omega
  rw[e,e2,List.getD_eq_getElem?_getD,List.getElem?_append_right (by omega),Bba,<-List.getD_eq_getElem?_getD,ih];rfl
theorem Auq{bits:Int}(h:Bu bits)(l:List Int32)(hr:inR bits l)(i:Nat)(hi:i<l.length):Int32.ofInt (sx (wB bits) (Cy bits l) (i*wB bits))=l.getD i 0:=by
 have hm:l.getD i 0∈l:=by rw[List.getD_eq_getElem?_getD,List.getElem?_eq_getElem hi];exact Ams hi
 have hv:=hr _ hm;have g:∀j,j<wB bits->YO (Cy bits l) (i*wB bits+j)=((NF bits (l.getD i 0).toInt).getD j 0).toNat:=λj hj=>by rw[YO,ig h l i j hi hj]
 generalize l.getD i 0=x at*
 have key:sx (wB bits) (Cy bits l) (i*wB bits)=x.toInt:=by
  generalize hA:i*wB bits=a at*
  obtain rfl|rfl|rfl:=h
  ·have g0:=g 0 (by decide);have e1:(NF 8 x.toInt).getD 0 0=u8 (x.toInt+128):=rfl;rw[Bcz,e1,D8]at g0;simp only[hB]at hv;simp at hv;have e2:wB 8=1:=rfl;rw[e2,sx,Ab3 rfl,g0];omega
  ·have g0:=g 0 (by decide);have g1:=g 1 (by decide);have e0:(NF 16 x.toInt).getD 0 0=u8 x.toInt:=rfl;have e1:(NF 16 x.toInt).getD 1 0=u8 (x.toInt/256):=rfl;rw[Bcz,e0,D8]at g0;rw[e1,D8]at g1;simp only[hB]at hv;simp at hv;have e2:wB 16=2:=rfl;rw[e2,sx2,g0,g1];split<;>omega
  ·have g0:=g 0 (by decide);have g1:=g 1 (by decide);have g2:=g 2 (by decide);have e0:(NF 24 x.toInt).getD 0 0=u8 x.toInt:=rfl;have e1:(NF 24 x.toInt).getD 1 0=u8 (x.toInt/256):=rfl;have e3:(NF 24 x.toInt).getD 2 0=u8 (x.toInt/65536):=rfl;rw[Bcz,e0,D8]at g0;rw[e1,D8]at g1;rw[e3,D8]at g2;simp only[hB]at hv;simp at hv;have e2:wB 24=3:=rfl;rw[e2,sx3,g0,g1,g2];split<;>omega
 rw[key];simp
theorem As6{bits:Int}(h:Bu bits)(l:List Int32)(hr:inR bits l):sxs (wB bits) l.length (Cy bits l)=l:=by
 refine Bae (Axn _ _ _) λi h1 h2=>?_;have:=Auq h l hr i h2;simp only[sxs,Bea,Bd8];rw[this,List.getD_eq_getElem?_getD,List.getElem?_eq_getElem h2];rfl
theorem Gts.xW{b p:List UInt8}{f c w r n A:Nat}{l:List Int}{k m:Nat}{x:List Int32}{s:List UInt8}{e:Int}(hw:Bu (w:Int))(g:Gts b p f c w r n A l k m x s e):pg w (s,e)=x:=by
 have hwb:=P1 (w:Int);by_cases he:e=0
 ·obtain⟨h1,h2,h3,_⟩:=g.some' he;have h4:=g.pos;have h5:=FJ hw x;rw[pg,Aau (by simpa using he)];simp only;rw[h1,h5,Nat.mul_div_cancel _ (by omega)];exact As6 hw x (gK hw (by omega) h3)
 ·rw[pg,Ab3 he,(g.none' he).2]
abbrev C5:=Int×Int×Int×List Int32×Int
def O2(e:Int):C5:=(0,0,0,[],e)
theorem YG{mY p:List UInt8}(hs:mY.length=8)(hp:p.length<=64):Pg mY p=some (mY==Rc (Rp p).toNat 8,0):=by
 rw[Pg,rQ p hp,Aa];simp only;rw[Aau (by rw[Ag,Ag,Ac,Ac,Ca,hs];simp),Iq,Aa]
theorem Auu(b p:List UInt8)(m c w h o q n g y ab:Int)(k v:List Int){e:Int}(he:e≠0):Qo b p m c w h o q n g k e y ab v=some (O2 e):=by
 rw[Qo,HY,Ab3 (by rw[Ag];simpa using he)];rfl
theorem N1(b p:List UInt8)(m c w h o q n g y ab:Int)(k:List Int){e:Int}(he:e≠0):Ur b p m c w h o q n g y ab k e=some (O2 e):=by
 rw[Ur,HU,Ab3 (by rw[Ag];simpa using he)];rfl
theorem Ass(b p:List UInt8)(m c w h o q n g y ab:Int)(k:List Int):Ur b p m c w h o q n g y ab k 0=AL b p m c w h o q n g y ab k:=by
 rw[Ur,HU,Aau (by rw[Ag];simp)]
def fO(X:Nat->List Int32)(E:Nat->Int)(be:Int):Nat->Nat->List Int32->List Int32×Int
 |0,_,acc=>if be≠0 then([],38)else(acc,0)
 |j+1,k,acc=>if E k≠0 then([],E k)else fO X E be j (k+1) (acc++X k)
def gR(c w r:Nat)(y:List Int32×Int):C5:=if y.2≠0 then O2 y.2 else((c:Int),(w:Int),(r:Int),y.1,0)
def Afg(b p:List UInt8)(f c w r n A:Nat)(l:List Int):C5:=
 gR c w r (fO (λk=>pg w (Gu b p f c w r n A l k)) (λk=>(Gu b p f c w r n A l k).2) (sN b A l) l.length 0 [])
section
variable {b p:List UInt8} {f c w r n A:Nat} {l:List Int} (o:Opn b p f c w r n A l)
include o
theorem rJ(a1 a2 a3 a4:Int):∀(j k q:Nat) (acc:List Int32),k+j=l.length->j<q-> (k=l.length-> (A:Int)+l.sum<=b.length)->acc.length<=4000*k->
  Vw b l (f:Int) (c:Int) (w:Int) (r:Int) (n:Int) a1 a2 a3 (A:Int) a4 (Pk p) (Ah (Am r) n) q ((A:Int)+(l.take k).sum) (k:Int) acc=
   some (gR c w r (fO (λk=>pg w (Gu b p f c w r n A l k)) (λk=>(Gu b p f c w r n A l k).2) (sN b A l) j k acc))
 |0,k,q+1,acc,hk,_,hfit,_=>by
  have hA:=o.at';have oq:=o.file;have hs1:=o.some1;have hsum:=o.sum;have b1:=Fh o.five l.length;have hf:=hfit (by omega);obtain rfl:k=l.length:=by omega
  rw[Ba9]at b1⊢;rw[Vw,KR,Aau (by rw[Ae,Ac];simp),ZX,nP,Bl,Aa,J3 _ (by rw[Agy];omega),Aa,fO,sN];generalize Xe (b.drop ((A:Int)+l.sum).toNat)=v;obtain⟨v1,v2⟩:=v;simp only;by_cases hv:v2≠0
  ·rw[Ab3 hv,Ab3 (by rw[Ag];simpa using hv),gR,Ab3 (by simp)];rfl
  ·rw[Aau hv,Aau (by rw[Ag];simpa using hv),gR,Aau (by simp)]
 |j+1,k,q+1,acc,hk,hq,hfit,hacc=>by
  have hA:=o.at';have oq:=o.file;have hs1:=o.some1;have hsum:=o.sum;have b1:=Fh o.five k;have b2:=Fh o.five (k+1);have hkl:k<l.length:=by omega
  have e2:=Gd hkl;have h5:=o.five l[k] (Ams _);obtain⟨m,x,s,e,g⟩:=Qa o k hkl;obtain⟨hc,hw,hr,hn,_⟩:=Kz o.shape;have hl:=g.lens hw;rw[Vw,KR,Ab3 (by rw[Ae,Ac];simp;omega),Bn hkl,Aa,Aa,Ak (a:=(A:Int)+(l.take k).sum) (by omega) (by omega),Bfi,<-e2,Ac,fO,g.eq];simp only;rcases g.way with⟨h1,h2⟩|⟨h1,h2,_⟩
  ·rw[Ab3 (by rw[Ae,Acj];omega),Ab3 (by rw[h2];simp),h2,gR,Ab3 (by simp)];rfl
  ·rw[Aau (by rw[Ae,Acj];omega),g.mom];simp only[Aa];rw[Oa,Aa,show(b.take ((A:Int)+(l.take (k+1)).sum).toNat).drop ((A:Int)+(l.take k).sum).toNat=sH b A l k from rfl,h2,Aa];simp only;rw[XQ,oU];by_cases he:e≠0
   ·rw[Ab3 (by rw[Ag];simpa using he),Ab3 he,gR,Ab3 he];rfl
   ·have he0:e=0:=by simpa using he
    have Agx:=(g.some' he0).2.2.2.2;rw[Aau (by rw[Ag];simpa using he),Aau he,g.xW hw,Bw,Aa,Ak (a:=(A:Int)+(l.take k).sum) (by omega) (by omega),Bfi,<-e2,Ak];exact rJ a1 a2 a3 a4 j (k+1) q (acc++x) (by omega) (by omega) (λh=>by rw[h,Ba9]at Agx;exact Agx) (by rw[Aci];omega)
theorem tL:∀(j k q:Nat) (acc:List Int32),k+j=l.length->j<q-> (k=l.length-> (A:Int)+l.sum<=b.length)->acc.length<=4000*k->
  Nd b (f:Int) (c:Int) (w:Int) (r:Int) (n:Int) l (Ah (Am r) n) (Pk p) q ((A:Int)+(l.take k).sum) (k:Int) acc=
   some (gR c w r (fO (λk=>pg w (Gu b p f c w r n A l k)) (λk=>(Gu b p f c w r n A l k).2) (sN b A l) j k acc))
 |0,k,q+1,acc,hk,_,hfit,_=>by
  have hA:=o.at';have oq:=o.file;have hs1:=o.some1;have hsum:=o.sum;have b1:=Fh o.five l.length;have hf:=hfit (by omega);obtain rfl:k=l.length:=by omega
  rw[Ba9]at b1⊢;rw[Nd,AP,Aau (by rw[Ae,Ac];simp),MS,MV,Bl,Aa,vC _ (by rw[Agy];omega),Aa,fO,sN];generalize Xe (b.drop ((A:Int)+l.sum).toNat)=v;obtain⟨v1,v2⟩:=v;simp only;by_cases hv:v2≠0
  ·rw[Ab3 hv,Ab3 (by rw[Ag];simpa using hv),gR,Ab3 (by simp)];rfl
  ·rw[Aau hv,Aau (by rw[Ag];simpa using hv),gR,Aau (by simp)]
 |j+1,k,q+1,acc,hk,hq,hfit,hacc=>by
  have hA:=o.at';have oq:=o.file;have hs1:=o.some1;have hsum:=o.sum;have b1:=Fh o.five k;have b2:=Fh o.five (k+1);have hkl:k<l.length:=by omega
  have e2:=Gd hkl;have h5:=o.five l[k] (Ams _);obtain⟨m,x,s,e,g⟩:=Qa o k hkl;obtain⟨hc,hw,hr,hn,_⟩:=Kz o.shape;have hl:=g.lens hw;rw[Nd,AP,Ab3 (by rw[Ae,Ac];simp;omega),Bn hkl,Aa,Aa,Ac,Bs,fO,g.eq];simp only;rcases g.way with⟨h1,h2⟩|⟨h1,_,h2⟩
  ·rw[Ab3 (by rw[Ae,Acj];omega),Ab3 (by rw[h2];simp),h2,gR,Ab3 (by simp)];rfl
  ·rw[Aau (by rw[Ae,Acj];omega),g.mom];simp only[Aa];rw[Ak (a:=(A:Int)+(l.take k).sum) (by omega) (by omega),Bfi,<-e2,Oa,Aa,show(b.take ((A:Int)+(l.take (k+1)).sum).toNat).drop ((A:Int)+(l.take k).sum).toNat=sH b A l k from rfl,h2,Aa];simp only;rw[MO,MZ];by_cases he:e≠0
   ·rw[Ab3 (by rw[Ag];simpa using he),Ab3 he,gR,Ab3 he];rfl
   ·have he0:e=0:=by simpa using he
    have Agx:=(g.some' he0).2.2.2.2;rw[Aau (by rw[Ag];simpa using he),Aau he,g.xW hw,Bw,Aa,Bn hkl,Aa,Aa,Ak (a:=(A:Int)+(l.take k).sum) (by omega) (by omega),Bfi,<-e2,Ak];exact tL j (k+1) q (acc++x) (by omega) (by omega) (λh=>by rw[h,Ba9]at Agx;exact Agx) (by rw[Aci];omega)
end
theorem si(l:List Int)(b p:List UInt8)(m c w h o q n g:Int)(k:List Int)(hl:l.length<=1000)(h5:∀x∈l,5<=x)(A:Int)(hA:0<=A)(hb:A+l.sum<=1000000):∀(j i z:Nat),i+j=l.length->j<z->Vm l b p m c w h o q n g k z (i:Int) (A+(l.take i).sum)=GW b p l m c w h o q n g (A+l.sum) k
 |0,i,z+1,hi,_=>by
  rw[Vm,IW,Aau (by rw[Ae,Ac];simp;omega),show i=l.length by omega,Ba9]
 |j+1,i,z+1,hi,hz=>by
  have hlt:i<l.length:=by omega
  have b1:=Fh h5 i;have b2:=Fh h5 (i+1);have e:=Gd hlt;have ih:=si l b p m c w h o q n g k hl h5 A hA hb j (i+1) z (by omega) (by omega);rw[e,<-Bfi]at ih;rw[Vm,IW,Ab3 (by rw[Ae,Ac];simp;omega),Bn hlt,Aa,Aa,Ak,Ak];exact ih
theorem Ahf(b p:List UInt8)(hb:b.length<=100100)(hp:p.length<=64):
  (∃e:Int,e≠0/\Ba b p=some (Ph e)/\Ra b p=some (O2 e)/\Km b p=some (O2 e))\/
  (∃f c w r n T:Nat,∃q d:Int,T<=b.length/\b.length<=100000/\Eo f c w r n=true/\Xm c r n=true/\
   Ba b p=Ja b (f:Int) (c:Int) (w:Int) (r:Int) (n:Int) (T:Int)/\
   Ra b p=AL b p (f:Int) (c:Int) (w:Int) (r:Int) (n:Int) q d (T:Int) 0 0 (Ah (Am r) n)/\
   Km b p=(EW b (T:Int) (f:Int) (c:Int) (w:Int) (r:Int) (n:Int)).bind λ(h,ae)=>if Be ae 0=true then some (O2 ae)else(Fu (r:Int) (n:Int)).bind λp2=>(Nr p).bind λ(u,ap)=>RP b (f:Int) (c:Int) (w:Int) (r:Int) (n:Int) h p2 u (Ad (T:Int) (Ad (Br 4 (Ac h)) 4)) 0 []):=by
 have hO:Ba b p=Ba b p:=rfl;have hV:Ra b p=Ra b p:=rfl;have hR:Km b p=Km b p:=rfl
 conv at hO=>rhs;rw[Ba,Hk,Aau (by rw[Aq,Ac];simp;omega)]
 conv at hV=>rhs;rw[Ra,dJ,Aau (by rw[Aq,Ac];simp;omega),aT]
 conv at hR=>rhs;rw[Km,QQ,Aau (by rw[Aq,Ac];simp;omega),XJ]
 by_cases h1:100000<b.length
 ·rw[Ab3 (by rw[Aq,Ac];simp;omega)]at hO hV hR;refine .inl ⟨4,by omega,hO,?_,?_⟩
  ·rw[hV,Aa];rfl
  ·rw[hR,Aa];rfl
 rw[Aau (by rw[Aq,Ac];simp;omega)]at hO hV hR;rw[Eb b (by omega),Aa]at hO hV;rw[So b (by omega),Aa]at hR;by_cases h2:(Bc b).2=0
 ·obtain⟨p0,p1,p2⟩:=Xs h2;have hc:=Bl (l:=b) p0 p1;simp only[h2]at hO hV hR;rw[Aau (by rw[Ag];simp),hc,Aa,show b.drop (Bc b).1.toNat=Gx b from rfl]at hO hV hR;rw[Mj _ (by simp[Gx];omega),Aa]at hO hV;rw[RG _ (by simp[Gx];omega),Aa]at hR;by_cases h3:(Dm (Gx b)).2.2.2.2.2=0
  ·obtain⟨g1,g2,g3,g4⟩:=RM h3;have hlen:(Gx b).length=b.length-(Bc b).1.toNat:=by simp[Gx]
   generalize hF:(Bc b).1.toNat=F at*
   have hF':(Bc b).1=(F:Int):=by omega
   rw[g1,hF']at hO hV hR;simp only at hO hV hR;generalize f0 (Gx b)=f at*
   generalize f1 (Gx b)=c at*
   generalize f2 (Gx b)=w at*
   generalize f3 (Gx b)=r at*
   generalize f4 (Gx b)=n at*
   have t22:Ad (F:Int) 22=((F+22:Nat):Int):=by rw[Ak];omega
   have t30:Ad ((F+22:Nat):Int) 8=((F+30:Nat):Int):=by rw[Ak];omega
   have Aub:f=1\/f=2:=by simp only[Eo,Acj]at g3;omega
   rw[Aau (by rw[Ag];simp),t22,t30]at hO;rw[Aau (by rw[Ag];simp),QW g3 g4,Aa,t22,t30]at hV;rw[Aa]at hR;simp only at hV hR;rw[Aau (by rw[Ag];simp),t22,UW,t30]at hR;by_cases Wb:((p==([]:List UInt8)) !=(geq (f:Int) (1:Int)))=true
   ·rw[Ab3 Wb]at hO hR;refine .inl ⟨26,by omega,hO,?_,?_⟩
    ·rw[hV];by_cases h5:f=2
     ·rw[Ab3 (by rw[Ar,h5];rfl),Aa];simp only;rw[Aau (by rw[Ag];simp),Ab3 Wb,N1 _ _ _ _ _ _ _ _ _ _ _ _ _ (by omega)]
     ·rw[Aau (by rw[Ar];simp;omega),Aa];simp only;rw[Aau (by rw[Ag];simp),Ab3 Wb,N1 _ _ _ _ _ _ _ _ _ _ _ _ _ (by omega)]
    ·rw[hR,Aa];rfl
   ·rw[Aau Wb]at hO hR;have hpf:(p=[]↔f=1):=by
     rw[Ar]at Wb;have h5:(p==([]:List UInt8))=((f:Int)==1):=by simpa using Wb
     have h6:(p==([]:List UInt8))=true↔((f:Int)==1)=true:=by rw[h5]
     rw[Aug,Aug]at h6;rw[h6];omega
    by_cases h5:f=2
    ·have Agw:p≠ []:=λe=>by have:=hpf.1 e;omega
     rw[Ab3 (by rw[Ar,h5];rfl),Aa]at hV;simp only at hV;rw[Aau (by rw[Ag];simp),Aau Wb,Aau (by rw[Ar];simp;omega)]at hV;rw[Ab3 (by simpa using Agw)]at hO;rw[Aau (by simpa using Agw)]at hR;by_cases h6:b.length<F+30
     ·rw[Ab3 (by rw[Ae,Ac];simp;omega)]at hO hV hR;refine .inl ⟨24,by omega,hO,?_,?_⟩
      ·rw[hV,N1 _ _ _ _ _ _ _ _ _ _ _ _ _ (by omega)]
      ·rw[hR,Aa];rfl
     ·have hseg:((b.take (F+30)).drop (F+22)).length=8:=by simp;omega
      rw[Aau (by rw[Ae,Ac];simp;omega),Oa,Aa,show((F+30:Nat):Int).toNat=F+30 from rfl,show((F+22:Nat):Int).toNat=F+22 from rfl]at hO hV hR;rw[YG hseg hp,Aa]at hO hV;rw[VU p hp,Aa]at hR;simp only at hO hV;rw[Aau (by rw[Ag];simp)]at hO;generalize(b.take (F+30)).drop (F+22)=mY at*
      by_cases h7:mY=Rc (Rp p).toNat 8
      ·rw[Aau (by simp[h7])]at hO hV;rw[Aau (by simp[h7]),Aa]at hR;simp only at hR;rw[Aau (by rw[Ag];simp)]at hR;rw[Ass]at hV;exact .inr ⟨f,c,w,r,n,F+30,(F:Int),((F+22:Nat):Int),by omega,by omega,g3,g4,hO,hV,hR⟩
      ·rw[Ab3 (by simpa using h7)]at hO hV;rw[Ab3 (by simpa using h7)]at hR;refine .inl ⟨26,by omega,hO,?_,?_⟩
       ·rw[hV,N1 _ _ _ _ _ _ _ _ _ _ _ _ _ (by omega)]
       ·rw[hR,Aa];rfl
    ·have hpe:p=[]:=hpf.2 (by omega);rw[Aau (by rw[Ar];simp;omega),Aa]at hV;simp only at hV;rw[Aau (by rw[Ag];simp),Aau Wb,Ab3 (by rw[Ar];simp;omega),Ass]at hV;rw[Aau (by rw[hpe];simp)]at hO;rw[Ab3 (by rw[hpe];rfl),Aa]at hR;simp only at hR;rw[Aau (by rw[Ag];simp)]at hR;exact .inr ⟨f,c,w,r,n,F+22,(F:Int),((F+22:Nat):Int),by omega,by omega,g3,g4,hO,hV,hR⟩
  ·generalize Dm (Gx b)=v at*
   obtain⟨v1,v2,v3,v4,v5,v6⟩:=v;simp only at h3 hO hV hR;rw[Ab3 (by rw[Ag];simpa using h3)]at hO hV;refine .inl ⟨v6,h3,hO,?_,?_⟩
   ·rw[hV,Aa];simp only;rw[Ab3 (by rw[Ag];simpa using h3)];rfl
   ·rw[hR,Aa];simp only;rw[Ab3 (by rw[Ag];simpa using h3)];rfl
 ·generalize Bc b=v at*
  obtain⟨v,e⟩:=v;simp only at h2 hO hV hR;rw[Ab3 (by rw[Ag];simpa using h2)]at hO hV hR;refine .inl ⟨e,h2,hO,?_,?_⟩
  ·rw[hV,Aa];simp only;rw[Ab3 (by rw[Ag];simpa using h2)];rfl
  ·rw[hR,Aa];simp only;rw[Ab3 (by rw[Ag];simpa using h2)];rfl
theorem M4(b p:List UInt8)(hb:b.length<=100100)(hp:p.length<=64):
  (∃e:Int,e≠0/\Ba b p=some (Ph e)/\Cl b p=some (Ph e)/\Ra b p=some (O2 e)/\Km b p=some (O2 e))\/
  (∃f c w r n A l,Opn b p f c w r n A l/\Ra b p=some (Afg b p f c w r n A l)/\Km b p=some (Afg b p f c w r n A l)):=by
 have Ayx:∀{e e2:Int},Ph e=Ph e2->e=e2:=λh=>by simpa [Ph]using h
 rcases Ahf b p hb hp with⟨e,he,h1,h2,h3⟩|⟨f,c,w,r,n,T,q,d,hT,oq,g3,g4,hO,hV,hR⟩
 ·rcases jB b p hb hp with⟨e',he',k1,k2⟩|⟨f,c,w,r,n,A,l,o⟩
  ·rw[h1]at k1;have:=Ayx (Apf k1);subst this;exact .inl ⟨e,he,h1,k2,h2,h3⟩
  ·have:=o.prog;rw[h1]at this;have:=Apf this;simp only[Ph,Agt]at this;exact absurd this.2.2.2.2.2.2.2 he
 ·obtain⟨hc,hw,hr,hn,_⟩:=Kz g3;have hfit:n<=4000/c:=by simp only[Xm,Acj]at g4;exact g4.1
  have hn4:n<=4000:=by have:=Auf 4000 c;omega
  rw[VY g3 g4 b hb T hT]at hO;have hcut:=Bl (l:=b) (a:=(T:Int)) (by omega) (by omega);rw[Ae3]at hcut;have hdl:(b.drop T).length<=100100:=by simp;omega
  rw[AL,ZG,Aau (by rw[Ae,Ac];simp;omega),hcut,Aa,Ac,rW _ _ hdl,Aa]at hV;rw[EW,hcut,Aa,YF hr.2 hn hn4,Aa,Ac,O7 _ _ hdl,Aa,Aa]at hR;by_cases h:(Ds (b.drop T) (Ah (Am r) n).length).2≠0
  ·rw[Ab3 h]at hO;generalize Ds (b.drop T) (Ah (Am r) n).length=v at*
   obtain⟨v1,v2⟩:=v;simp only at h hO hV hR;rcases jB b p hb hp with⟨e',he',k1,k2⟩|⟨f,c,w,r,n,A,l,o⟩
   ·rw[hO]at k1;have:=Ayx (Apf k1);subst this;refine .inl ⟨_,h,hO,k2,?_,?_⟩
    ·rw[hV,KN,GY,Ab3 (by rw[Ag];simpa using h),Auu _ _ _ _ _ _ _ _ _ _ _ _ _ _ h]
    ·rw[hR,Ab3 (by rw[Ag];simpa using h)]
   ·have:=o.prog;rw[hO]at this;have:=Apf this;simp only[Ph,Agt]at this;exact absurd this.2.2.2.2.2.2.2 h
  ·have h0:(Ds (b.drop T) (Ah (Am r) n).length).2=0:=by simpa using h
   rw[Aau h]at hO;generalize hsv:Ds (b.drop T) (Ah (Am r) n).length=v at*
   obtain⟨v1,v2⟩:=v;simp only at h0 hO hV hR;subst h0;rcases jB b p hb hp with⟨e',he',k1,k2⟩|⟨f',c',w',r',n',A,l,o⟩
   ·rw[hO]at k1;have:=Apf k1;simp only[Ph,Agt]at this;exact absurd this.2.2.2.2.2.2.2.symm he'
   ·have hp2:=o.prog;rw[hO]at hp2;have hp3:=Apf hp2;simp only[Agt]at hp3;obtain⟨i1,i2,i3,i4,i5,i6,i7,_⟩:=hp3;obtain rfl:f=f':=by omega
    obtain rfl:c=c':=by omega
    obtain rfl:w=w':=by omega
    obtain rfl:r=r':=by omega
    obtain rfl:n=n':=by omega
    subst i7;have hlen:=o.len;have hs1:=o.some1;have hsum:=o.sum;have hA:=o.at';have hAT:(A:Int)=(T:Int)+4*(v1.length:Int)+4:=by omega
    have a1:Br 4 (v1.length:Int)=4*(v1.length:Int):=Ii;have eV:Ad (Ad (T:Int) (Br 4 (Ac v1))) 4=(A:Int):=by
     rw[Ac,a1,Ak (a:=(T:Int)) (by omega) (by omega),Ak];omega
    have eR:Ad (T:Int) (Ad (Br 4 (Ac v1)) 4)=(A:Int):=by
     rw[Ac,a1,Ak (a:=4*(v1.length:Int)) (by omega) (by omega),Ak];omega
    have hlv:=rJ o q d (T:Int) ((A:Int)+v1.sum) v1.length 0 Ax [] (by omega) (by have:=As;omega) (by omega) (by simp);have hlr:=tL o v1.length 0 Ax [] (by omega) (by have:=As;omega) (by omega) (by simp);rw[Bbi,Bd3,Int.add_zero]at hlv hlr;refine .inr ⟨f,c,w,r,n,A,v1,o,?_,?_⟩
    ·have hs:=si v1 b p (f:Int) (c:Int) (w:Int) (r:Int) (n:Int) q d (T:Int) (Ah (Am r) n) hs1.2 o.five (A:Int) (by omega) (by omega) v1.length 0 Ax (by omega) (by have:=As;omega);rw[Bbi,Bd3,Int.add_zero]at hs;rw[hV,KN,GY,Aau (by rw[Ag];simp),YQ,eV];refine Bcq hs ?_;rw[GW,XD,eV,Qo,HY,Aau (by rw[Ag];simp),gD p o.pass,Aa];exact hlv
    ·rw[hR,Aau (by rw[Ag];simp),Aa,JS p o.pass,Aa,eR];exact hlr
def zS(b:List UInt8):List Int:=Ah (Am (f3 (Gx b))) (f4 (Gx b))
end Go.Pl
