/- A part of a proof (see the text that ends in Proof). No conditions. -/
import Derived.Test.YtniihmolajmfcaaGreatDoorCvPA
import Derived.KernelRfl
set_option linter.unusedVariables false
set_option linter.unusedSimpArgs false
namespace Go.Lv
variable{a b:Int}{l:List UInt8}{n:Nat}{α:Type}
theorem Aj(h: -9223372036854775808<=a+b:=by omega)(h':a+b<=9223372036854775807:=by omega):Ae a b=a+b:=by rw[Avo,Df h h']
theorem Dv(h: -9223372036854775808<=a-b:=by omega)(h':a-b<=9223372036854775807:=by omega):Ap a b=a-b:=by rw[Avq,Df h h']
theorem Gk(h: -9223372036854775808<=a*b:=by omega)(h':a*b<=9223372036854775807:=by omega):Cm a b=a*b:=by rw[Avb,Df h h']
theorem Ao2(c:UInt8):(Ah c:Int)=(c.toNat:Int):=by rw[Akd,Df]<;>have:=c.toNat_lt<;>omega
theorem Ac2(c:UInt32):(Ah c:Int)=(c.toNat:Int):=by rw[Ahb,Df]<;>have:=c.toNat_lt<;>omega
theorem I6(c:UInt8):(Ah c:UInt64)=UInt64.ofNat c.toNat:=by simp only[Ah,PM,Js]
theorem Fo(c:UInt32):(Ah c:UInt64)=UInt64.ofNat c.toNat:=by simp only[Ah,CD,Js]
theorem bJ(c:UInt64):(Ah c:UInt8)=UInt8.ofNat c.toNat:=by simp only[Ah,Ua,Yi]
theorem Ab7(c:UInt32):(Ah c:UInt8)=UInt8.ofNat c.toNat:=by simp only[Ah,CD,Yi]
theorem KY(n:Nat):(Ah (n:Int):UInt64)=UInt64.ofNat n:=by simp only[Ah];exact Js n
theorem Att(n:Nat):(Ah (n:Int):UInt32)=UInt32.ofNat n:=by simp only[Ah];exact Li n
theorem Ajt{c:UInt64}(h:c.toNat<9223372036854775808):(Ah c:Int)=(c.toNat:Int):=by rw[Ahu,Df]<;>omega
theorem sQ:wo=17179869184:=F4
theorem Bc:36893488147419103231<Ay:=F4
theorem Dy{l:List α}(h:n<l.length:=by omega):Af l (n:Int)=some l[n]:=by simp[Af,h]
theorem FR{l:List α}(x:α)(h:n<l.length):Pn l (n:Int) x=some (l.set n x):=by simp[Pn,h]
theorem OT{l:List α}(h:0<=a:=by omega)(h1:a<=b:=by omega)(h2:b<=l.length:=by omega):Cb l a b=some ((l.take b.toNat).drop a.toNat):=by rw[Cb,A7 ⟨h,h1,h2⟩]
theorem Ja{l:List α}(h:0<=a:=by omega)(h1:a<=l.length:=by omega):Cb l a (Ad l)=some (l.drop a.toNat):=by
 unfold Ad;rw[OT h h1 (Int.le_refl _),C',NI]
theorem Yb{l:List α}(h:0<=b:=by omega)(h1:b<=l.length:=by omega):Cb l 0 b=some (l.take b.toNat):=by rw[OT (Int.le_refl _) h h1];rfl
theorem Bi{l m:List α}(h:l.length+m.length<=17179869184:=by omega):Bf l m=some (l++m):=by rw[Bf,sQ,A7 h]
theorem E7{n:Int}{z:α}(h:0<=n:=by omega)(h':n<=17179869184:=by omega):mkI n z=some (List.replicate n.toNat z):=by rw[mkI,sQ,A7 ⟨h,h'⟩]
theorem Bt{b:Bool}(h:b=true):Gi b=some ():=by rw[h];rfl
theorem Aa{β:Type}(a:α)(f:α->Option β):Option.bind (some a) f=f a:=rfl
theorem drop_cons{l:List α}(h:n<l.length):l.drop n=l[n]::l.drop (n+1):=eR h
theorem Gb{l:List α}(h:n<l.length):l.take (n+1)=l.take n++[l[n]]:=by rw[List.take_add_one,C? h];rfl
def Jp:List UInt8->Nat
 |[]=>0
 |x::r=>x.toNat+256*Jp r
theorem C!:∀l:List UInt8,Jp l<256^l.length
 |[]=>by simp[Jp]
 |x::r=>by
  have h:=C! r;have:=x.toNat_lt;simp only[Jp,B6,L8];omega
theorem G2:∀l m:List UInt8,Jp (l++m)=Jp l+256^l.length*Jp m
 |[],m=>by simp[Jp]
 |x::r,m=>by
  simp only[Jp,SU,G2 r m,B6,L8,gJ];rw[I! (256^r.length) 256,N9];omega
def Y0(l:List UInt8):UInt64:=UInt64.ofNat (Jp l)
theorem Apc(h:l.length<=8):Jp l<18446744073709551616:=by
 have h1:=C! l;have h2:256^l.length<=256^8:=IV F0 h;exact E5 h1 (by simpa using h2)
theorem rB(h:l.length<=4):Jp l<4294967296:=by
 have h1:=C! l;have h2:256^l.length<=256^4:=IV F0 h;exact E5 h1 (by simpa using h2)
theorem RS(h:l.length<=8):(Y0 l).toNat=Jp l:=by
 rw[Y0,P6,B3 (Apc h)]
theorem D2(h:l.length<=4):(Ah (Y0 l):Int)=(Jp l:Int):=by
 have:=rB h;rw[Ajt]<;>rw[RS F0];omega
def Uy(n:Nat):Nat->List UInt8
 |0=>[]
 |w+1=>UInt8.ofNat n::Uy (n/256) w
theorem Bw:∀(w n:Nat),(Uy n w).length=w
 |0,_=>rfl
 |w+1,n=>by simp[Uy,Bw w]
theorem p!:∀(w n:Nat),Uy n (w+1)=Uy n w++[UInt8.ofNat (n/256^w)]
 |0,n=>by simp[Uy]
 |w+1,n=>by
  rw[Uy,p! w (n/256),Uy];simp[eQ,L8,I!]
def Nj(p:List UInt8)(i:Nat):Nat:=(p.getD (i/8) 0).toNat/2^(i %8) %2
theorem gR(p:List UInt8)(i:Nat):Nj p i<2:=Sf _ F0
def Da(p:List UInt8):Nat->Nat->Nat
 |_,0=>0
 |a,n+1=>Nj p a+2*Da p (a+1) n
theorem Ng(p:List UInt8):∀(n a:Nat),Da p a n<2^n
 |0,_=>by simp[Da]
 |n+1,a=>by
  have:=Ng p n (a+1);have:=gR p a;rw[Da,L8];omega
theorem GU(p:List UInt8):∀(m n a:Nat),Da p a (m+n)=Da p a m+2^m*Da p (a+m) n
 |0,n,a=>by simp[Da]
 |m+1,n,a=>by
  rw[show m+1+n=(m+n)+1 by omega,Da,Da,GU p m n (a+1),show a+1+m=a+(m+1) by omega,L8,gJ,I! (2^m) 2,N9];omega
theorem sJ(p:List UInt8)(a:Nat):Da p a 1=Nj p a:=by simp[Da]
theorem vS(p:List UInt8)(a n:Nat):Da p a (n+1)=Da p a n+2^n*Nj p (a+n):=by rw[GU p n 1 a,sJ]
theorem WI(p:List UInt8)(a:Nat):∀t:Nat,a %8+t<=8->Da p a t=(p.getD (a/8) 0).toNat/2^(a %8) %2^t
 |0,_=>by simp[Da,Nat.mod_one]
 |t+1,h=>by
  have h1:(a+t)/8=a/8:=F0
  have h2:(a+t) %8=a %8+t:=F0
  rw[vS,WI p a t F0,Nj,h1,h2,Nat.mod_pow_succ,X5,eQ]
theorem wF{p:List UInt8}:∀(n a:Nat),(∀k,k<n->Nj p (a+k)=0)->Da p a n=0
 |0,_,_=>rfl
 |n+1,a,h=>by
  have h0:=h 0 F0;rw[Da,wF n (a+1) λk hk=>by have:=h (k+1) F0;rwa [show a+1+k=a+(k+1) by omega]];rw[SJ]at h0;omega
def okB(p:List UInt8)(n:Nat):Prop:=n<=330000/\p.length=(n+7)/8/\∀k,n<=k->k<8*p.length->Nj p k=0
def Tk(p:List UInt8)(a n:Nat):List UInt8:=(List.range ((n+7)/8)).map λj=>UInt8.ofNat (Da p (a+8*j) (min 8 (n-8*j)))
theorem Iq(p:List UInt8)(a n:Nat):(Tk p a n).length=(n+7)/8:=by simp[Tk]
theorem L!(p:List UInt8):∀(n a k:Nat),k<n->Da p a n/2^k %2=Nj p (a+k)
 |n+1,a,0,_=>by have:=gR p a;rw[Da];simp;omega
 |n+1,a,k+1,h=>by
  have hb:=gR p a;have e:(Nj p a+2*Da p (a+1) n)/2=Da p (a+1) n:=F0
  rw[Da,L8,I! (2^k) 2,<-eQ,e,L! p n (a+1) k F0,show a+1+k=a+(k+1) by omega]
theorem Aix(p:List UInt8)(n a k:Nat)(h:n<=k):Da p a n/2^k %2=0:=by
 have:=Ng p n a;rw[UU (E5 this (IV F0 h))]
theorem tY(p:List UInt8)(a n k:Nat):Nj (Tk p a n) k=if k<n then Nj p (a+k)else 0:=by
 rw[Nj];by_cases hj:k/8<(n+7)/8
 ·have e:(Tk p a n).getD (k/8) 0=UInt8.ofNat (Da p (a+8*(k/8)) (min 8 (n-8*(k/8)))):=by
   rw[B4,C? (by rw[Iq];exact hj)];simp[Tk]
  have hlt:Da p (a+8*(k/8)) (min 8 (n-8*(k/8)))<256:=by
   have:=Ng p (min 8 (n-8*(k/8))) (a+8*(k/8));have h2:2^(min 8 (n-8*(k/8)))<=2^8:=IV F0 F0;omega
  have hu:(UInt8.ofNat (Da p (a+8*(k/8)) (min 8 (n-8*(k/8))))).toNat=Da p (a+8*(k/8)) (min 8 (n-8*(k/8))):=by
   rw[S8];exact B3 hlt
  rw[e,hu];by_cases hk:k<n
  ·rw[A7 hk,L! p _ _ _ F0,show a+8*(k/8)+k %8=a+k by omega]
  ·rw[A4 hk,Aix p _ _ _ F0]
 ·have e:(Tk p a n).getD (k/8) 0=0:=by
   rw[B4,Vx (by rw[Iq];omega)];rfl
  rw[e,A4 F0];simp
theorem D6(p:List UInt8)(a n:Nat)(h:n<=330000):okB (Tk p a n) n:=⟨h,Iq p a n,λk hk _=>by rw[tY,A4 F0]⟩
theorem qI{p q:List UInt8}(hl:p.length=q.length)(h:∀k,k<8*p.length->Nj p k=Nj q k):p=q:=by
 apply U4 hl;intro i h1 h2;have hp:Da p (8*i) 8=Da q (8*i) 8:=by
  have key:∀(n a:Nat),a+n<=8*p.length->Da p a n=Da q a n:=by
   intro n
   induction n with
   |zero=>intros;rfl
   |succ n ih=>intro a ha;rw[Da,Da,h a F0,ih (a+1) F0]
  exact key 8 (8*i) F0
 rw[WI p _ 8 F0,WI q _ 8 F0]at hp;have e1:8*i/8=i:=F0
 have e2:8*i %8=0:=F0
 rw[e1,e2]at hp;have a1:p.getD i 0=p[i]:=by simp[B4,h1]
 have a2:q.getD i 0=q[i]:=by simp[B4,h2]
 rw[a1,a2]at hp;apply UInt8.toNat_inj.1;have:=p[i].toNat_lt;have:=q[i].toNat_lt;simp at hp;omega
end Go.Lv
namespace Go.Pl
open Go Go.Lv
variable{w:Int32}{α:Type}{s:UInt64}
theorem F6{p:Prop}(h:p:=by rw[Ag,Ad];simp;omega):p:=h
theorem OK{p:Prop}(h:p:=by simp[Ag,Be];omega):p:=h
theorem OU{p:Prop}(h:p:=by rw[Dh];simp;omega):p:=h
theorem T4{p:Prop}(h:p:=by rw[Gf];simp;omega):p:=h
theorem SM{p:Prop}(h:p:=by unfold Ad;omega):p:=h
theorem B7{p:Prop}(h:p:=by have:=Bc;omega):p:=h
theorem ZJ{p:Prop}(h:p:=by rw[Dh];simp):p:=h
theorem cP{p:Prop}(h:p:=by rw[Dh];rfl):p:=h
theorem tZ{n c:UInt64}{i:Nat}(hn:n.toNat<2^i)(hc:c.toNat*2^i<18446744073709551616):pO n (Dp c i)=UInt64.ofNat (n.toNat+c.toNat*2^i):=by
 rw[Aqv];apply UInt64.toNat_inj.1;rw[UInt64.toNat_or,OI,B3 hc,I!,Nat.or_comm,<-VU hn,P6,B3,VF,I!];have h:=VU hn c.toNat;have h2:2^i*c.toNat+n.toNat<2^64:=by
  rw[h];exact Nat.or_lt_two_pow (by rw[I!];simpa using hc) n.toNat_lt
 rw[VF];first|exact h2|(rw[I!];exact h2)
theorem Alk(b:LB)(hb:b.length<=8):∀(j i q:Nat),i+j=b.length->j<q->Zj b q (Y0 (b.take i)) (i:Int)=some (Y0 b,0)
 |0,i,q+1,hi,_=>by
  rw[Zj,SS,A4 F6,show i=b.length by omega,NI];rfl
 |j+1,i,q+1,hi,hq=>by
  have hlt:i<b.length:=F0
  rw[Zj,SS,A7 F6,Dy hlt,Aa,Gk,Bt T4,Aa,Aj];have h:pO (Y0 (b.take i)) (Dp (Ah b[i]:UInt64) (GI.toZ ((8:Int)*(i:Int))).toNat)=Y0 (b.take (i+1)):=by
   have e:(GI.toZ ((8:Int)*(i:Int))).toNat=8*i:=by show((8:Int)*(i:Int)).toNat=_;omega
   have e2:(2:Nat)^(8*i)=256^i:=by rw[gK]
   have h1:=C! (b.take i);rw[HH,T! F0]at h1;have h3:=b[i].toNat_lt;have hle:(256:Nat)^(i+1)<=256^8:=IV F0 F0;rw[L8]at hle;have h4:(Ah b[i]:UInt64).toNat=b[i].toNat:=by rw[I6,P6];omega
   have h5:b[i].toNat*256^i<18446744073709551616:=by
    have:b[i].toNat*256^i<256*256^i:=zO (by simpa using h3) (U7 F0);simp at hle;omega
   rw[e,tZ (by rw[RS F5,e2];exact h1) (by rw[h4,e2];exact h5),RS F5,h4,e2,Gb hlt];rw[Y0,G2];simp only[Jp,HH,T! (Nat.le_of_lt hlt),Nat.mul_zero,SJ];rw[I!]
  rw[h];exact Alk b hb j (i+1) q F0 F0
theorem Aet (b:LB)(h1:1<=b.length)(h2:b.length<=8):fY b=some (Y0 b,0):=by
 have h:=Alk b h2 b.length 0 Ay F0 B7;rw[fY,lC,A4 (by simp[Ag,Be,Ad];omega),Av0];exact h
def part(b:LB)(at' w:Nat):LB:=(b.take (at'+w)).drop at'
theorem Nn{b:LB}{a w:Nat}(h:a+w<=b.length:=by omega):(part b a w).length=w:=by simp[part];omega
theorem uy(b:LB)(a w:Nat)(h1:1<=w)(h2:w<=8)(h3:a+w<=b.length)(hb:b.length<4611686018427387904):WU b (a:Int) (w:Int)=some (Y0 (part b a w),0):=by
 rw[WU,A4 OK,A4 (by rw[Be,Dv SM SM,Ad];simp;omega),Aj,OT,Aa];rw[show((a:Int)+(w:Int)).toNat=a+w by omega,show(a:Int).toNat=a by omega];rw[Aet _ (by rw[show((b.take (a+w)).drop a).length=_ from Nn h3];exact h1) (by rw[show((b.take (a+w)).drop a).length=_ from Nn h3];exact h2),Aa];rfl
theorem tI{l m:List α}{x y:α}{i:Nat}(h:l.length=i):(l++x::m).set i y=l++y::m:=by subst h;simp
theorem Aji(n:UInt64)(l4:LB)(w:Nat)(hl:l4.length=w)(hw:w<=8):∀(j i q:Nat),i+j=w->j<q->Zs n l4 q (i:Int) (Uy n.toNat i++List.replicate j 0)=some (Uy n.toNat w,0)
 |0,i,q+1,hi,_=>by
  rw[Zs,SX,A4 F6];obtain rfl:i=w:=F0
  simp[fX,Auz]
 |j+1,i,q+1,hi,hq=>by
  have hlen:(Uy n.toNat i++List.replicate (j+1) 0).length=i+(j+1):=by simp[Bw]
  rw[Zs,SX,A7 F6,Gk,Bt T4,Aa,Dy (by rw[hlen];omega),Aa,FR _ (by rw[hlen];omega),Aa,Aj];have e:(Ah (Cl n (GI.toZ ((8:Int)*(i:Int))).toNat):UInt8)=UInt8.ofNat (n.toNat/256^i):=by
   have e:(GI.toZ ((8:Int)*(i:Int))).toNat=8*i:=by show((8:Int)*(i:Int)).toNat=_;omega
   rw[e,bJ,CE,gK]
  rw[e,V9,tI (Bw _ _)];have h:=Aji n l4 w hl hw j (i+1) q F0 F0;rw[p!]at h;simpa using h
theorem Aq6(n:UInt64)(w:Nat)(h1:1<=w)(h2:w<=8)(h:n.toNat<256^w):C5 n (w:Int)=some true:=by
 rw[C5];by_cases h8:w=8
 ·subst h8;rw[A7 cP]
 ·rw[A4 OU,Gk,Bt T4,Aa];have e:(GI.toZ ((8:Int)*(w:Int))).toNat=8*w:=by show((8:Int)*(w:Int)).toNat=_;omega
  rw[e,D9];have:Cl n (8*w)=0:=by
   apply UInt64.toNat_inj.1;rw[CE,gK];exact UU h
  rw[this];rfl
theorem OD(n:UInt64)(w:Nat)(h1:1<=w)(h2:w<=8)(h:n.toNat<256^w):Xb n (w:Int)=some (Uy n.toNat w,0):=by
 rw[Xb,iQ,A4 OK,Aq6 n w h1 h2 h,Aa,A4 F8,E7,Aa,Bt ZJ,Aa,Aue];have h:=Aji n (List.replicate (w:Int).toNat 0) w F8 h2 w 0 Ay F0 B7;simpa [Uy]using h
theorem G4{p:Prop}(h:p:=by rw[Ag];simp;omega):p:=h
theorem Q9{p:Prop}(h:p:=by rw[Be];simp;omega):p:=h
theorem DZ{p:Prop}(h:p:=by rw[Bj];simp):p:=h
theorem SQ{p:Prop}(h:p:=by rw[Gf];simp):p:=h
theorem yA(n:Nat)(h:n<4611686018427387904):Ed (n:Int) (7:Int)=((n %8:Nat):Int):=by
 have e:Ed (n:Int) (7:Int)=wrap64 ((BitVec.ofInt 64 (n:Int)&&&BitVec.ofInt 64 7).toNat:Int):=rfl;rw[e,fH,VC,VC];have h1:((n:Int) %((2^64:Nat):Int)).toNat=n:=F0
 have h2:((7:Int) %((2^64:Nat):Int)).toNat=2^3-1:=F4
 rw[h1,h2,Zy,Df F0 F0]
theorem yM(n:Nat):s_ (n:Int) (GI.toZ (3:UInt64)).toNat=((n/8:Nat):Int):=by
 have e:s_ (n:Int) (GI.toZ (3:UInt64)).toNat=(n:Int).fdiv 8:=rfl;rw[e,T9 _ F0];omega
theorem Ax1{t:Nat}(h:t<=8):Ap (Dp (1:UInt8) t) (1:UInt8)=UInt8.ofNat (2^t-1):=by
 have:t=0\/t=1\/t=2\/t=3\/t=4\/t=5\/t=6\/t=7\/t=8:=F0
 rcases this with rfl|rfl|rfl|rfl|rfl|rfl|rfl|rfl|rfl<;>decide
theorem bitsOf(c:UInt8)(off t:Nat)(h:t<=8):(Ed (Cl c off) (Ap (Dp (1:UInt8) t) (1:UInt8))).toNat=c.toNat/2^off %2^t:=by
 have hp:2^t<=2^8:=IV F0 h;rw[Ax1 h,Y',fS,E0,S8,B3 (by have:=U7 (n:=t) (show 0<2 by omega);omega),Zy]
theorem oq{p:LB}{k:Nat}(h:k<p.length):Af p (k:Int)=some (p.getD k 0):=by
 rw[Dy h];simp[B4,h]
def Ut(p:LB)(a n:Nat):UInt64:=UInt64.ofNat (Da p a n)
theorem Xi(p:LB)(a n:Nat)(h:n<=64):(Ut p a n).toNat=Da p a n:=by
 have h1:=Ng p n a;have h2:2^n<=2^64:=IV F0 h;rw[Ut,P6,B3 F0]
theorem M!(p:LB)(N:Int)(a n:Nat)(hn:n<=64)(ha:a+n<=8*p.length)(hp:p.length<=1000000):∀(j h q:Nat),h+j=n->j<q->GR (a:Int) (n:Int) p N q (Ut p a h) (h:Int)=some (Ut p a n)
 |j,h,q+1,hj,hq=>by
  rw[GR,fT];by_cases hlt:h<n
  ·have e1:Ae (a:Int) (h:Int)=((a+h:Nat):Int):=by rw[Aj];omega
   have e2:Fy (Ap (n:Int) (h:Int)) (Ap (8:Int) (((a+h) %8:Nat):Int))=((min (n-h) (8-(a+h) %8):Nat):Int):=by
    rw[PO,Dv,Dv];omega
   have hm:(a+h)/8<p.length:=F0
   rw[A7 G4,e1,yM,oq hm,Aa,yA _ F0,Bt T4,Aa,e2,Bt SQ,Aa,Bt SQ,Aa];generalize hT:min (n-h) (8-(a+h) %8)=T;have hT8:T<=8:=F0
   have hT1:1<=T:=F0
   have hb:(a+h) %8+T<=8:=F0
   have hv:=WI p (a+h) T hb;have z1:(GI.toZ (((a+h) %8:Nat):Int)).toNat=(a+h) %8:=rfl;have z2:(GI.toZ ((T:Nat):Int)).toNat=T:=rfl;have z3:(GI.toZ ((h:Nat):Int)).toNat=h:=rfl;rw[z1,z2,z3];have hx:(Ah (Ed (Cl (p.getD ((a+h)/8) 0) ((a+h) %8)) (Ap (Dp (1:UInt8) T) (1:UInt8))):UInt64).toNat=Da p (a+h) T:=by
    rw[I6,P6,bitsOf _ _ _ hT8,<-hv];have:=Ng p T (a+h);have h2:2^T<=2^8:=IV F0 hT8;omega
   have hlt2:=Ng p (h+T) a;rw[GU]at hlt2;have h64:2^(h+T)<=2^64:=IV F0 F0;have hor:pO (Ut p a h) (Dp (Ah (Ed (Cl (p.getD ((a+h)/8) 0) ((a+h) %8)) (Ap (Dp (1:UInt8) T) (1:UInt8))):UInt64) h)=Ut p a (h+T):=by
    rw[tZ (by rw[Xi p a h F0];exact Ng p h a) (by rw[hx,I!];omega),hx,Xi p a h F0,Ut,GU,I! (2^h)]
   rw[hor,Aj,show(h:Int)+((T:Nat):Int)=((h+T:Nat):Int) by omega];exact M! p N a n hn ha hp (j-T) (h+T) q F0 F0
  ·rw[A4 G4,show h=n by omega];rfl
theorem get_eq(p:LB)(N:Int)(a n:Nat)(hn:n<=64)(ha:a+n<=8*p.length)(hp:p.length<=1000000):sL p N (a:Int) (n:Int)=some (Ut p a n):=by
 have:=M! p N a n hn ha hp n 0 Ay F0 B7;exact this
theorem Vq{p:LB}{n:Nat}(h:okB p n):Ib p (n:Int)=some 0:=by
 obtain⟨h1,h2,h3⟩:=h;have e7:Ae (n:Int) 7=((n+7:Nat):Int):=by rw[Aj];omega
 rw[Ib,e7,yM,A4 (by simp[Ag,Be,Bj,Ad,h2];omega),yA _ F0];by_cases hz:n %8=0
 ·rw[A4 Q9]
 ·have el:Ap (Ad p) 1=((p.length-1:Nat):Int):=by rw[Ad,Dv];omega
  rw[A7 Q9,el,oq F0,Aa,Bt T4,Aa];have z:(GI.toZ ((n %8:Nat):Int)).toNat=n %8:=rfl;have hs:Cl (p.getD (p.length-1) 0) (n %8)=0:=by
   apply UInt8.toNat_inj.1;rw[E0];have hv:=WI p n (8-n %8) F0;have h0:Da p n (8-n %8)=0:=wF _ _ λk hk=>h3 _ F0 F0;rw[h0,show n/8=p.length-1 by omega]at hv;have hlt:(p.getD (p.length-1) 0).toNat/2^(n %8)<2^(8-n %8):=by
    have:=(p.getD (p.length-1) 0).toNat_lt;rw[Nat.div_lt_iff_lt_mul (U7 F0),<-X5,show 8-n %8+n %8=8 by omega];simpa using this
   rw[B3 hlt]at hv;exact hv.symm
  rw[z,hs,A4 (by rw[uz];simp)]
theorem vH{p:LB}{N:Nat}(h:okB p N)(a n:Nat)(hn:n<=64):DA p (N:Int) (a:Int) (n:Int)=some (if N<a+n then(0,24)else(Ut p a n,0)):=by
 obtain⟨h1,h2,h3⟩:=h;rw[DA,Vq ⟨h1,h2,h3⟩,Aa,A4 DZ,A4 OK,Dv];by_cases hl:N<a+n
 ·rw[A7 Q9,A7 hl]
 ·rw[A4 Q9,get_eq p N a n hn F0 F0,Aa,A4 hl]
theorem T7(p:LB)(a n j:Nat)(h:j<(n+7)/8):(Tk p a n)[j]'(by rw[Iq];exact h)=UInt8.ofNat (Da p (a+8*j) (min 8 (n-8*j))):=by simp[Tk]
theorem I8(p:LB)(a t:Nat)(h:t<=8):Da p a t<256:=by
 have h1:=Ng p t a;have h2:2^t<=2^8:=IV F0 h;omega
def room(p:LB)(a n:Nat):LB:=if n %8=0 then Tk p a n++[0]else Tk p a n
theorem Pc(p:LB)(a n:Nat):(room p a n).length=n/8+1:=by
 rw[room];split<;>simp[Iq]<;>omega
theorem ou(p:LB)(a n j:Nat)(h:j<n/8+1):(room p a n)[j]'(by rw[Pc];exact h)=UInt8.ofNat (Da p (a+8*j) (min 8 (n-8*j))):=by
 have h0:(room p a n)[j]? =some (UInt8.ofNat (Da p (a+8*j) (min 8 (n-8*j)))):=by
  rw[room];split
  ·by_cases hj:j<(n+7)/8
   ·rw[I9 (by rw[Iq];exact hj),C? (by rw[Iq];exact hj),T7 p a n j hj]
   ·rw[SF (by rw[Iq];omega),Iq,show j-(n+7)/8=0 by omega,show n-8*j=0 by omega];rfl
  ·rw[C? (by rw[Iq];omega),T7 p a n j F0]
 rw[C? (by rw[Pc];exact h)]at h0;exact Z6 h0
theorem K4(p:LB)(a n T:Nat)(h1:1<=T)(h:n %8+T<=8):(room p a n).set (n/8) (UInt8.ofNat (Da p (a+8*(n/8)) (n %8+T)))=Tk p a (n+T):=by
 apply U4 (by rw[Z7,Pc,Iq];omega);intro j g1 g2;rw[Z7,Pc]at g1;rw[fL,T7 p a (n+T) j (by rw[Iq]at g2;exact g2)];split
 ·rename_i e;subst e;rw[show min 8 (n+T-8*(n/8))=n %8+T by omega]
 ·rw[ou p a n j g1,show min 8 (n-8*j)=8 by omega,show min 8 (n+T-8*j)=8 by omega]
theorem wR(p:LB)(a n:Nat):(room p a n)[n/8]'(by rw[Pc];omega)=UInt8.ofNat (Da p (a+8*(n/8)) (n %8)):=by
 rw[ou p a n _ F0,show min 8 (n-8*(n/8))=n %8 by omega]
theorem oL{p:Prop}(h:p:=by rw[Iq];simp;omega):p:=h
theorem gN{p:Prop}(h:p:=by rw[I!];omega):p:=h
theorem ZI{p:Prop}(h:p:=by rw[Pc];omega):p:=h
theorem ZK{p:Prop}(h:p:=by rw[Be];simp):p:=h
theorem Au2{t:Nat}(h:t<=8):Ap (Dp (1:UInt64) t) (1:UInt64)=UInt64.ofNat (2^t-1):=by
 have:t=0\/t=1\/t=2\/t=3\/t=4\/t=5\/t=6\/t=7\/t=8:=F0
 rcases this with rfl|rfl|rfl|rfl|rfl|rfl|rfl|rfl|rfl<;>decide
theorem yR(v:UInt64){t:Nat}(h:t<=8):(Ed v (Ap (Dp (1:UInt64) t) (1:UInt64))).toNat=v.toNat %2^t:=by
 have hp:2^t<=2^8:=IV F0 h;rw[Au2 h,O4,fK,P6,B3 (by have:=U7 (n:=t) (show 0<2 by omega);omega),Zy]
theorem or8{v w i:Nat}(hv:v<2^i)(hw:w*2^i<256)(hi:i<8):pO (UInt8.ofNat v) (Dp (UInt8.ofNat w) i)=UInt8.ofNat (v+w*2^i):=by
 have hp:2^i<=2^8:=IV F0 F0;have hpos:0<2^i:=U7 F0;have hw2:w<256:=fA (mg w hpos) hw;rw[Awu];apply UInt8.toNat_inj.1;have e1:(UInt8.ofNat v).toNat=v:=by rw[S8,B3 F0]
 have e2:(UInt8.ofNat w).toNat=w:=by rw[S8,B3 F0]
 rw[UInt8.toNat_or,Ash,e1,e2,B3 hw,I! w,Nat.or_comm,<-VU hv,S8,VF v];rw[I!]at hw;have hb:2^i*w+v<256:=by
  rw[VU hv];exact Nat.or_lt_two_pow (n:=8) hw F0
 rw[B3 hb]
theorem oY(p:LB)(a n T:Nat)(h:T<=n)(hn:n<=64):Cl (Ut p a n) T=Ut p (a+T) (n-T):=by
 apply UInt64.toNat_inj.1;rw[CE,Xi p a n hn,Xi p (a+T) (n-T) F0];have:=Ng p T a
 conv=>lhs;rw[show n=T+(n-T) by omega,GU,Nat.add_mul_div_left _ _ (U7 F0),UU this,K1]
theorem qT(p:LB)(a n T:Nat)(h:T<=n)(hn:n<=64):(Ut p a n).toNat %2^T=Da p a T:=by
 have:=Ng p T a;rw[Xi p a n hn]
 conv=>lhs;rw[show n=T+(n-T) by omega,GU,Nat.add_mul_mod_self_left,B3 this]
theorem S0(bk:Int->Int->LB->Option (LB×Int×Int))(to':Int)(p:LB)(N fr:Int)(r6:UInt64)(a:Nat):∀(j m q:Nat),m+j<=300000->j<=64->j<q->
  Nq bk to' p N fr r6 q (Ut p (a+m) j) (j:Int) (m:Int) (Tk p a m)=KE bk to' p N fr ((m+j:Nat):Int) (Tk p a (m+j))
 |0,m,q+1,_,_,_=>by
  rw[Nq,KR,A4 ZK];rfl
 |j+1,m,q+1,hm,hj,hq=>by
  have hroom:Nq bk to' p N fr r6 (q+1) (Ut p (a+m) (j+1)) ((j+1:Nat):Int) (m:Int) (Tk p a m)=KP (Nq bk to' p N fr r6 q) to' fr p N r6 (Ut p (a+m) (j+1)) ((j+1:Nat):Int) (m:Int) (room p a m):=by
   rw[Nq,KR,A7 ZK,yA m F0,room];by_cases h0:m %8=0
   ·rw[A7 (by rw[Dh,h0];rfl),Bi oL,Aa,A7 h0]
   ·rw[A4 OU,A4 h0]
  have hl:Ap (Ad (room p a m)) 1=((m/8:Nat):Int):=by
   rw[Ad,Pc,Dv];omega
  have e2:Fy ((j+1:Nat):Int) (Ap (8:Int) ((m %8:Nat):Int))=((min (j+1) (8-m %8):Nat):Int):=by
   rw[PO,Dv];omega
  rw[hroom,KP,Aoo,yA m F0,e2,hl];generalize hT:min (j+1) (8-m %8)=T;have hT1:1<=T:=F0
  have hT8:m %8+T<=8:=F0
  have hg:Af (room p a m) ((m/8:Nat):Int)=some (UInt8.ofNat (Da p (a+8*(m/8)) (m %8))):=by
   rw[Dy ZI,wR]
  have z1:(GI.toZ ((m %8:Nat):Int)).toNat=m %8:=rfl;have z2:(GI.toZ ((T:Nat):Int)).toNat=T:=rfl;have hlt:=I8 p (a+8*(m/8)) (m %8+T) F0;have hadd:=GU p (m %8) T (a+8*(m/8));rw[show a+8*(m/8)+m %8=a+m by omega]at hadd;have hbyte:(Ah (Ed (Ut p (a+m) (j+1)) (Ap (Dp (1:UInt64) T) (1:UInt64))):UInt8)=UInt8.ofNat (Da p (a+m) T):=by
   rw[bJ,yR _ F0,qT p (a+m) (j+1) T F0 hj]
  have hnew:pO (UInt8.ofNat (Da p (a+8*(m/8)) (m %8))) (Dp (UInt8.ofNat (Da p (a+m) T)) (m %8))=UInt8.ofNat (Da p (a+8*(m/8)) (m %8+T)):=by
   rw[or8 (Ng _ _ _) gN F0,hadd,I! (2^(m %8))]
  rw[hg,z1,z2,hbyte];simp only[Aa];rw[Bt SQ,Aa,Bt T4,Aa,hnew,FR _ ZI,Aa,K4 p a m T hT1 hT8,Aoy,Apq,yA m F0,e2,hT,Bt SQ,Aa,z2,oY p (a+m) (j+1) T F0 hj,Dv,Aj];have ih:=S0 bk to' p N fr r6 a (j+1-T) (m+T) q F0 F0 F0;rw[show m+T+(j+1-T)=m+(j+1) by omega]at ih;rw[<-ih,show a+m+T=a+(m+T) by omega,show((j+1:Nat):Int)-((T:Nat):Int)=((j+1-T:Nat):Int) by omega,show(m:Int)+((T:Nat):Int)=((m+T:Nat):Int) by omega]
theorem og(p:LB)(N:Int)(a n:Nat)(ha:a+n<=8*p.length)(hp:p.length<=1000000)(hn:n<=300000):∀(j m f q:Nat),(f=m\/n<=f/\m=n)->m+j=n->f<=n+64->j<q->Vm ((a+n:Nat):Int) p N q ((a+f:Nat):Int) (m:Int) (Tk p a m)=some (Tk p a n,(n:Int),0)
 |j,m,f,q+1,hf,hm,hf2,hq=>by
  rw[Vm,aH];by_cases hlt:f<n
  ·obtain rfl:f=m:=F0
   have e1:Fy (64:Int) (Ap ((a+n:Nat):Int) ((a+f:Nat):Int))=((min 64 (n-f):Nat):Int):=by
    rw[PO,Dv];omega
   rw[A7 G4,e1,get_eq p N (a+f) _ F0 F0 hp,Aa,aY];have h1:=S0 (Vm ((a+n:Nat):Int) p N q) ((a+n:Nat):Int) p N ((a+f:Nat):Int) (Ut p (a+f) (min 64 (n-f))) a (min 64 (n-f)) f Ay F0 F0 B7;refine KU h1 ?_;rw[KE,Apa,Aj,show((a+f:Nat):Int)+64=((a+(f+64):Nat):Int) by omega];exact og p N a n ha hp hn (j-min 64 (n-f)) (f+min 64 (n-f)) (f+64) q F0 F0 F0 F0
  ·rw[A4 G4,aU,At6,show m=n by omega]
theorem Av1{p:LB}{N:Nat}(h:okB p N)(a n:Nat)(ha:a+n<=N)(hn:n<=300000):fP p (N:Int) (a:Int) ((a+n:Nat):Int)=some (Tk p a n,(n:Int),0):=by
 obtain⟨h1,h2,h3⟩:=h;have:=og p N a n F0 F0 hn n 0 0 Ay F0 F0 F0 B7;rw[fP,kF,Vq ⟨h1,h2,h3⟩,Aa,A4 DZ,A4 OK,Aos];exact this
theorem T5{p:Prop}(h:p:=by rw[Ag];simp):p:=h
def Ki(p:LB):Nat->Nat->Nat
 |_,0=>0
 |a,m+1=>if Nj p a=1 then 1+Ki p (a+1) m else 0
theorem C7(p:LB):∀(m a:Nat),Ki p a m<=m
 |0,_=>C4 _
 |m+1,a=>by rw[Ki];split<;>have:=C7 p m (a+1)<;>omega
theorem Aok(p:LB):∀(m a:Nat),∃s,Da p a m+1=2^(Ki p a m+1)*s+2^Ki p a m/\ (Ki p a m=m->s=0)
 |0,a=>⟨0,by simp[Da,Ki],λ_=>rfl⟩
 |m+1,a=>by
  have hb:=gR p a;obtain⟨s,h1,h2⟩:=Aok p m (a+1);by_cases h:Nj p a=1
  ·refine⟨s,?_,λe=>h2 ?_⟩
   ·rw[Ki,A7 h,Da,h,show 1+Ki p (a+1) m+1=(Ki p (a+1) m+1)+1 by omega,show 1+Ki p (a+1) m=Ki p (a+1) m+1 by omega,L8,L8 (n:=2) (m:=Ki p (a+1) m)];rw[L8]at h1;generalize Da p (a+1) m=V at*
    generalize 2^Ki p (a+1) m=W at*
    have e1:W*2*2*s=2*(W*2*s):=by rw[eZ (W*2) 2 s,I!]
    omega
   ·rw[Ki,A7 h]at e;omega
  ·refine⟨Da p (a+1) m,?_,λe=>?_⟩
   ·rw[Ki,A4 h,Da];simp;omega
   ·rw[Ki,A4 h]at e;omega
theorem Aps{n t s:Nat}(h:2^(t+1)*s+2^t<=2^n)(ht:t<n)(x:Nat)(hx:x=2^n-(2^(t+1)*s+2^t)):x&&& (2^(t+1)*s+2^t)=2^t:=by
 have hpos:0<2^t:=U7 F0;have hlt:2^t<2^(t+1):=by rw[L8];omega
 have e:x=2^n-((2^(t+1)*s+(2^t-1))+1):=by rw[hx];congr 1;omega
 apply eY;intro i;rw[bL,e,Nat.testBit_two_pow_sub_succ F0,zP _ F0,zP _ hlt];by_cases hi:i<t+1
 ·rw[A7 hi,A7 hi,Nat.testBit_two_pow_sub_one,Z!];by_cases hit:t=i
  ·subst hit;simp;exact ht
  ·have:¬i=t:=λe=>hit e.symm;simp[hit]
 ·rw[A4 hi,A4 hi,Z!];have:¬t=i:=F0
  simp[this]
theorem Ang(a:UInt64):(U8 a).toNat=18446744073709551615-a.toNat:=by
 have h:=a.toNat_lt;have e:U8 a=UInt64.ofNat (BitVec.ofInt 64 18446744073709551615^^^BitVec.ofInt 64 (a.toNat:Int)).toNat:=Js _;have h1:BitVec.ofInt 64 (a.toNat:Int)=a.toBitVec:=q_ a;have h2:(BitVec.ofInt 64 18446744073709551615:BitVec 64)=BitVec.allOnes 64:=F4
 rw[e,P6,h1,h2,BitVec.allOnes_xor,fR];show(18446744073709551616-1-a.toNat) %18446744073709551616=18446744073709551615-a.toNat;omega
theorem Aj7(a:UInt64):(nC a).toNat=(18446744073709551616-a.toNat) %18446744073709551616:=by
 have h:=a.toNat_lt;have e:nC a=UInt64.ofNat ((0-(a.toNat:Int)) %18446744073709551616).toNat:=zh _;rw[e,P6];show((0-(a.toNat:Int)) %18446744073709551616).toNat %18446744073709551616=_;omega
def Ay7:LB:=[0,1,56,2,57,49,28,3,61,58,42,50,38,29,17,4,62,47,59,36,45,43,51,22,53,39,33,30,24,18,12,5,63,55,48,27,60,41,37,16,46,35,44,21,52,32,23,11,54,26,40,15,34,20,31,10,25,14,19,9,13,8,7,6]
theorem Agw:∀t:Fin 64,Af Ay7 (GI.toZ (Cl (Cm (UInt64.ofNat (2^t.val)) (285870213051353865:UInt64)) (GI.toZ (58:UInt64)).toNat))=some (UInt8.ofNat t.val):=by decide +kernel
theorem Ax2(x:UInt64)(t s:Nat)(ht:t<64)(h:x.toNat+(2^(t+1)*s+2^t)=18446744073709551616):Gg x=some (t:Int):=by
 have hpos:0<2^t:=U7 F0;have hx:x.toNat=2^64-(2^(t+1)*s+2^t):=by show x.toNat=18446744073709551616-_;omega
 have hle:2^t<=2^63:=IV F0 F0;have hne:x≠0:=by
  intro e;rw[e]at h;have h':2^t*(2*s+1)=2^64:=by
   rw[gJ,cG,<-N9,<-L8]
   show _=18446744073709551616;simpa using h
  have h2:2^64=2^t*2^(64-t):=by rw[<-X5];congr 1;omega
  rw[h2]at h';have h3:=Nat.eq_of_mul_eq_mul_left hpos h';rw[show 64-t=(63-t)+1 by omega,L8]at h3;omega
 have hx0:x.toNat≠0:=λe=>hne (UInt64.toNat_inj.1 e);have hl:Ed x (nC x)=UInt64.ofNat (2^t):=by
  apply UInt64.toNat_inj.1;rw[O4,fK,Aj7,show(18446744073709551616-x.toNat) %18446744073709551616=2^(t+1)*s+2^t by omega,Aps (n:=64) (by show _<=18446744073709551616;omega) ht _ hx,P6,B3];exact fA hle F4
 have hb:=Agw ⟨t,ht⟩;rw[Gg,A4 (by rw[D9];simpa using hne),hl];refine KU (congrArg (λo=>Option.bind o λc=>some (Ah c:Int)) hb) ?_;rw[Aa,Ao2,S8,B3 (by show t<256;omega)]
theorem Ar6(p:LB)(a m:Nat)(hm:m<=48):Gg (U8 (Ut p a m))=some ((Ki p a m:Nat):Int):=by
 obtain⟨s,h1,h2⟩:=Aok p m a;have hle:=C7 p m a;have hlt:=Ng p m a;have h48:2^m<=2^48:=IV F0 hm;have hn:(U8 (Ut p a m)).toNat=18446744073709551615-Da p a m:=by rw[Ang,Xi p a m F0]
 have h3:(281474976710656:Nat)=2^48:=rfl;refine Ax2 _ (Ki p a m) s F0 ?_;rw[hn];omega
def unS(p:LB)(N a:Nat):Int×Int×Int:=
 if Ki p a (min 48 (N-a))<min 48 (N-a)then((Ki p a (min 48 (N-a)):Nat),((a+Ki p a (min 48 (N-a))+1:Nat):Int),0)else
 if Ki p a (min 48 (N-a))=48 then(48,((a+48:Nat):Int),0)else(0,0,24)
theorem Akg{p:LB}{N:Nat}(h:okB p N)(a:Nat)(ha:a<N):EW p (N:Int) (a:Int)=some (unS p N a):=by
 have hN:=h.1;have e1:Fy (48:Int) (Ap (N:Int) (a:Int))=((min 48 (N-a):Nat):Int):=by rw[PO,Dv];omega
 have hle:=C7 p (min 48 (N-a)) a;rw[EW,Xl,Vq h,Aa,A4 DZ,A4 T5,A4 T4,e1,vH h a _ F0,A4 F0,Aa];simp only;rw[UE,Ama,A4 DZ,Ar6 p a _ F0,Aa,Amu,Alx,e1,unS];by_cases h1:Ki p a (min 48 (N-a))<min 48 (N-a)
 ·rw[A7 G4,A7 h1,Aj (a:=(a:Int)) F0 F0,show Ae (0:Int) 1=1 by decide,Aj];congr 3;omega
 ·rw[A4 G4,A4 h1,Amz,An7];by_cases h2:Ki p a (min 48 (N-a))=48
  ·rw[A7 (by rw[Dh,h2];rfl),A7 h2,h2,Aj (a:=(a:Int)) F0 F0,Aj];congr 3;omega
  ·rw[A4 OU,A4 h2];rfl
theorem Aw6{p:LB}{N a:Nat}(h:Ki p a (min 48 (N-a))<min 48 (N-a)):unS p N a=(((Ki p a (min 48 (N-a)):Nat):Int),((a+Ki p a (min 48 (N-a))+1:Nat):Int),0):=by rw[unS,A7 h]
theorem Awo{p:LB}{N a:Nat}(h:¬Ki p a (min 48 (N-a))<min 48 (N-a))(h2:Ki p a (min 48 (N-a))=48):unS p N a=(48,((a+48:Nat):Int),0):=by rw[unS,A4 h,A7 h2]
theorem Aup{p:LB}{N a:Nat}(h:¬Ki p a (min 48 (N-a))<min 48 (N-a))(h2:¬Ki p a (min 48 (N-a))=48):unS p N a=(0,0,24):=by rw[unS,A4 h,A4 h2]
theorem Aih{p:LB}{N:Nat}(h:okB p N)(a:Nat)(ha:N<=a):EW p (N:Int) (a:Int)=some (0,0,24):=by
 rw[EW,Xl,Vq h,Aa,A4 DZ,A4 T5,A7 T4]
def tA(p:LB)(N a k:Nat):UInt32×Int×Int:=
 if N<=a then(0,0,24)else
 if Ki p a (min 48 (N-a))<min 48 (N-a)then
  (if N<a+Ki p a (min 48 (N-a))+1+k then(0,0,24)else(UInt32.ofNat (Ki p a (min 48 (N-a))*2^k+Da p (a+Ki p a (min 48 (N-a))+1) k),((a+Ki p a (min 48 (N-a))+1+k:Nat):Int),0))
 else if Ki p a (min 48 (N-a))=48 then
  (if N<a+48+32 then(0,0,24)else if Da p (a+48) 32/2^k<48 then(0,0,12)else(UInt32.ofNat (Da p (a+48) 32),((a+48+32:Nat):Int),0))
 else(0,0,24)
theorem D!{p:LB}{a n:Nat}(h:n<=32):(Ah (Ut p a n):UInt32)=UInt32.ofNat (Da p a n):=by
 have e:(Ah (Ut p a n):UInt32)=UInt32.ofNat (Ut p a n).toNat:=by simp only[Ah,Ua,Li]
 rw[e,Xi p a n F0]
theorem cQ{n:Nat}(h:n<4294967296):(UInt32.ofNat n).toNat=n:=by rw[QJ];exact B3 h
theorem Aj0(p:LB)(a:Nat){n:Nat}(h:n<=32):Da p a n<4294967296:=by
 have h1:=Ng p n a;have h2:2^n<=2^32:=IV F0 h;omega
theorem Avi{q v k:Nat}(hq:q<48)(hv:v<2^k)(hk:k<=24):pO (Dp (Ah (q:Int):UInt32) k) (UInt32.ofNat v)=UInt32.ofNat (q*2^k+v):=by
 have hp:2^k<=2^24:=IV F0 hk;have h1:q*2^k<=47*2^24:=P8 F0 hp;rw[Ara];apply UInt32.toNat_inj.1;rw[UInt32.toNat_or,gL,Att,cQ F0,cQ (n:=v) F0,B3 F0,I! q,<-VU hv,cQ gN]
theorem As7{p:LB}{N:Nat}(h:okB p N)(a k:Nat)(hk:k<=24):lO p (N:Int) (a:Int) (k:Int)=some (tA p N a k):=by
 have hN:=h.1;rw[lO,Aox,Vq h,Aa,A4 DZ,A4 OK];by_cases ha:N<=a
 ·rw[Aih h a ha,Aa,tA,A7 ha];rfl
 have hle:=C7 p (min 48 (N-a)) a;rw[Akg h a F0,Aa];by_cases h1:Ki p a (min 48 (N-a))<min 48 (N-a)
 ·have hS:tA p N a k=if N<a+Ki p a (min 48 (N-a))+1+k then(0,0,24)else(UInt32.ofNat (Ki p a (min 48 (N-a))*2^k+Da p (a+Ki p a (min 48 (N-a))+1) k),((a+Ki p a (min 48 (N-a))+1+k:Nat):Int),0):=by rw[tA,A4 ha,A7 h1]
  rw[Aw6 h1,hS];generalize Ki p a (min 48 (N-a))=q at*
  simp only;rw[A4 DZ,A4 OU,dB,aV,vH h _ k F0,Aa];by_cases h2:N<a+q+1+k
  ·rw[A7 h2,A7 h2];rfl
  ·rw[A4 h2,A4 h2];simp only;have z:(GI.toZ (k:Int)).toNat=k:=rfl;rw[A4 DZ,A7 G4,Bt SQ,Aa,z,D! F0,Avi F0 (Ng _ _ _) hk,Aj];rfl
 ·by_cases h2:Ki p a (min 48 (N-a))=48
  ·have hS:tA p N a k=if N<a+48+32 then(0,0,24)else if Da p (a+48) 32/2^k<48 then(0,0,12)else(UInt32.ofNat (Da p (a+48) 32),((a+48+32:Nat):Int),0):=by rw[tA,A4 ha,A4 h1,A7 h2]
   have hg:=vH h (a+48) 32 F0;rw[Awo h1 h2,hS];simp only;rw[A4 DZ,A7 cP,dB,aV];refine KU (congrArg (λo=>Option.bind o _) hg) ?_;rw[Aa];by_cases h3:N<a+48+32
   ·rw[A7 h3,A7 h3];rfl
   ·rw[A4 h3,A4 h3];simp only;have z:(GI.toZ (k:Int)).toNat=k:=rfl;have hv:=Aj0 p (a+48) (n:=32) F0;rw[A4 DZ,A4 T5,Vh,Bt SQ,Aa,Aa,z,D! F0,sX];have e:(decide ((48:UInt32).toNat<= (Cl (UInt32.ofNat (Da p (a+48) 32)) k).toNat))=decide (¬Da p (a+48) 32/2^k<48):=by
     rw[OH,cQ hv];simp
    rw[e];by_cases h4:Da p (a+48) 32/2^k<48
    ·rw[A7 (by simp[h4]),A7 h4]
    ·rw[A4 F5,A4 h4,Aj];rfl
  ·rw[Aup h1 h2,tA,A4 ha,A4 h1,A4 h2];rfl
theorem Awb{p:LB}{N a k:Nat}{v:UInt32}{n:Int}(h:tA p N a k=(v,n,0)):(a:Int)<n/\n<=N:=by
 unfold tA at h;split at h
 ·simp at h
 split at h
 ·split at h
  ·simp at h
  ·simp only[SO]at h;omega
 ·split at h
  ·split at h
   ·simp at h
   ·split at h
    ·simp at h
    ·simp only[SO]at h;omega
  ·simp at h
def okD(k l:Nat)(s t:UInt64):Prop:=k<=24/\l<=24/\s.toNat<=68719476735/\t.toNat<=68719476735
theorem Alp (a b:UInt64)(h:a.toNat<=b.toNat):Fy a b=a:=by
 show(if _ then _ else _)=_;rw[Ua,Ua,A4 F0]
theorem At0(a:UInt64):geq a a=true:=by rw[D9];simp
theorem v!{k l:Nat}{t:UInt64}(h:okD k l s t):MP (k:Int) (l:Int) s t=some 0:=by
 obtain⟨h1,h2,h3,h4⟩:=h;have e1:Fy (wZ (k:Int) 0) 24=(k:Int):=by rw[PO,wu];omega
 have e2:Fy (wZ (l:Int) 0) 24=(l:Int):=by rw[PO,wu];omega
 have e3:Fy s (68719476735:UInt64)=s:=Alp _ _ (by simpa using h3);have e4:Fy t (68719476735:UInt64)=t:=Alp _ _ (by simpa using h4);have e5:∀a:Int,geq a a=true:=λa=>by rw[Dh];simp
 rw[MP,GL,TA,FX,TR,Amt,e1,e2,e3,e4,e5,e5,At0,At0];rfl
def KO(s n:UInt64):UInt64:=s+n-s/16
def kS(k:Nat)(s:UInt64):Nat:=if 0<k/\s.toNat<2^(k+4)then k-1 else if k<24/\2^(k+5)<s.toNat then k+1 else k
theorem xL{k:Nat}(h:k<=24)(s:UInt64):kS k s<=24:=by
 unfold kS;by_cases h1:0<k/\s.toNat<2^(k+4)
 ·rw[A7 h1];omega
 ·rw[A4 h1];split<;>omega
theorem sZ{n:UInt64}(h:s.toNat<=68719476735)(hn:n.toNat<=4294967295):(KO s n).toNat<=68719476735:=by
 have h1:=s.toNat_lt;have e:(s+n).toNat=s.toNat+n.toNat:=by rw[UInt64.toNat_add];omega
 have e2:(s/16).toNat=s.toNat/16:=by rw[UInt64.toNat_div];rfl
 rw[KO,UInt64.toNat_sub_of_le _ _ (by rw[UInt64.le_iff_toNat_le,e,e2];omega),e,e2];omega
theorem YG(s n:UInt64):Ae s (Ap n (Cl s (GI.toZ (4:UInt64)).toNat))=KO s n:=by
 have e:Cl s (GI.toZ (4:UInt64)).toNat=s/16:=by
  apply UInt64.toNat_inj.1;rw[CE,UInt64.toNat_div];rfl
 rw[e,H0,Aty,KO,UInt64.sub_eq_add_neg,UInt64.sub_eq_add_neg,UInt64.add_assoc]
theorem Ay8{k:Nat}(h:k<=24):(Dp (16:UInt64) k).toNat=2^(k+4):=by
 have hp:2^k<=2^24:=IV F0 h;rw[OI,X5]
 show 16*2^k %_=2^k*16;rw[B3 F0,I!]
theorem Avt{k:Nat}(h:k<=24):(Dp (32:UInt64) k).toNat=2^(k+5):=by
 have hp:2^k<=2^24:=IV F0 h;rw[OI,X5]
 show 32*2^k %_=2^k*32;rw[B3 F0,I!]
theorem Azf{k:Nat}(h:0<k)(h2:s.toNat<2^(k+4)):kS k s=k-1:=by rw[kS,A7 ⟨h,h2⟩]
theorem yG{k:Nat}(h:¬(0<k/\s.toNat<2^(k+4)))(h2:k<24)(h3:2^(k+5)<s.toNat):kS k s=k+1:=by rw[kS,A4 h,A7 ⟨h2,h3⟩]
theorem dO{k:Nat}(h:¬(0<k/\s.toNat<2^(k+4)))(h2:¬(k<24/\2^(k+5)<s.toNat)):kS k s=k:=by rw[kS,A4 h,A4 h2]
theorem cu(k:Nat)(hk:k<=24)(s:UInt64)(f:Int->Option α):
  (if(Eg (k:Int) (0:Int))=true then(
   Option.bind (Gi (Ha (k:Int) (0:Int))) λ_=>
   if(Cx s (Dp (16:UInt64) (GI.toZ (k:Int)).toNat))=true then f (Ap (k:Int) (1:Int))
   else(if(Cx (k:Int) (24:Int))=true then(
    Option.bind (Gi (Ha (k:Int) (0:Int))) λ_=>
    if(Eg s (Dp (32:UInt64) (GI.toZ (k:Int)).toNat))=true then f (Ae (k:Int) (1:Int))else f (k:Int))
    else f (k:Int)))
  else(if(Cx (k:Int) (24:Int))=true then(
    Option.bind (Gi (Ha (k:Int) (0:Int))) λ_=>
    if(Eg s (Dp (32:UInt64) (GI.toZ (k:Int)).toNat))=true then f (Ae (k:Int) (1:Int))else f (k:Int))
    else f (k:Int)))=f ((kS k s:Nat):Int):=by
 have z:(GI.toZ (k:Int)).toNat=k:=rfl;rw[z,Bt SQ];simp only[Aa];rw[qg,qZ,Ay8 hk,Avt hk];by_cases h0:0<k
 ·rw[A7 Q9];by_cases h1:s.toNat<2^(k+4)
  ·rw[A7 (by simp[h1]),Azf h0 h1,Dv];congr 1;omega
  ·rw[A4 F5];by_cases h2:k<24
   ·rw[A7 G4];by_cases h3:2^(k+5)<s.toNat
    ·rw[A7 (by simp[h3]),yG (λh=>h1 h.2) h2 h3,Aj];rfl
    ·rw[A4 F5,dO (λh=>h1 h.2) (λh=>h3 h.2)]
   ·rw[A4 G4,dO (λh=>h1 h.2) (λh=>h2 h.1)]
 ·rw[A4 Q9];by_cases h2:k<24
  ·rw[A7 G4];by_cases h3:2^(k+5)<s.toNat
   ·rw[A7 (by simp[h3]),yG (λh=>h0 h.1) h2 h3,Aj];rfl
   ·rw[A4 F5,dO (λh=>h0 h.1) (λh=>h3 h.2)]
  ·rw[A4 G4,dO (λh=>h0 h.1) (λh=>h2 h.1)]
def mo(v:UInt32):UInt64:=UInt64.ofNat v.toNat
theorem uw(v:UInt32):(mo v).toNat<=4294967295:=by have:=v.toNat_lt;rw[mo,P6,B3 F0];omega
def oK(k:Nat)(v:UInt32):UInt32:=UInt32.ofNat (v.toNat-2^k)
def lK(l:Nat)(t:UInt64)(k:Nat)(v:UInt32):Nat:=if v.toNat<2^k then l else kS l (KO t (mo (oK k v)))
def lT(t:UInt64)(k:Nat)(v:UInt32):UInt64:=if v.toNat<2^k then t else KO t (mo (oK k v))
theorem Aoa{k l:Nat}{t:UInt64}(h:okD k l s t)(v:UInt32):okD (kS k (KO s (mo v))) (lK l t k v) (KO s (mo v)) (lT t k v):=by
 obtain⟨h1,h2,h3,h4⟩:=h;refine⟨xL h1 _,?_,sZ h3 (uw v),?_⟩
 ·unfold lK;split; · exact h2
  exact xL h2 _
 ·unfold lT;split; · exact h4
  exact sZ h4 (uw _)
theorem M8(k l:Nat)(s t:UInt64)(hk:k<=24)(v:UInt32):FL (k:Int) (l:Int) s t v=some (if v.toNat<2^k then(0,v)else(1,oK k v)):=by
 have hp:2^k<=2^24:=IV F0 hk;have hpos:0<2^k:=U7 F0;have hl:=v.toNat_lt;have z:(GI.toZ (k:Int)).toNat=k:=rfl;have e1:geq (Cl v k) (0:UInt32)=decide (v.toNat<2^k):=by
  rw[Apl,N4];simp only[VM,<-UInt32.toNat_inj,OH,B2]
  show _/_=0↔_;rw[Nat.div_eq_zero_iff];omega
 have e2:¬v.toNat<2^k->Ap v (Dp (1:UInt32) k)=oK k v:=by
  intro h;have e3:(Dp (1:UInt32) k).toNat=2^k:=by rw[gL];show 1*2^k %_=_;rw[B3 F0,R3]
  apply UInt32.toNat_inj.1;rw[H?,mY _ _ (by rw[mZ,e3];omega),e3,oK,cQ F0]
 rw[FL,Bt SQ,Aa,Aa,z,e1];by_cases h:v.toNat<2^k
 ·rw[A7 (by simp[h]),A7 h]
 ·rw[A4 F5,A4 h,e2 h]
theorem M3{k l:Nat}{t:UInt64}(h:okD k l s t)(v:UInt32)(r:Int):bG (k:Int) (l:Int) s t v r=some (v,r,((kS k (KO s (mo v)):Nat):Int),((lK l t k v:Nat):Int),KO s (mo v),lT t k v,0):=by
 obtain⟨h1,h2,h3,h4⟩:=h;have hp:∀(x:Int) (y:UInt64),DW v r (k:Int) s x y=some (v,r,((kS k (KO s (mo v)):Nat):Int),x,KO s (mo v),y,0):=by
  intro x y;rw[DW,Ant,Fo,YG,cu k h1];rw[At5,Aqf,Ams,Am7,Fo,YG];rfl
 rw[bG,bS,M8 k l s t h1,Aa];by_cases hv:v.toNat<2^k
 ·rw[A7 hv];simp only;rw[A4 ZJ,hp,lK,A7 hv,lT,A7 hv]
 ·rw[A4 hv];simp only;rw[A7 cP,Fo,YG,cu l h2 _ (λx=>DW v r (k:Int) s x (KO t (UInt64.ofNat (oK k v).toNat))),hp,lK,A4 hv,lT,A4 hv];rfl
def rT(p:LB)(N a k l:Nat):UInt32×Int×Int:=
 if N<=a then(0,0,24)else
 if Nj p a=0 then(if N<a+1+k then(0,0,24)else(UInt32.ofNat (Da p (a+1) k),((a+1+k:Nat):Int),0))else
 if(tA p N (a+1) l).2.2≠0 then(0,0,(tA p N (a+1) l).2.2)else
 if 4294967295<(tA p N (a+1) l).1.toNat+2^k then(0,0,12)else(UInt32.ofNat ((tA p N (a+1) l).1.toNat+2^k),(tA p N (a+1) l).2.1,0)
theorem Au6{p:LB}{N a k l:Nat}(h:(rT p N a k l).2.2=0):(a:Int)<(rT p N a k l).2.1/\ (rT p N a k l).2.1<=N:=by
 revert h
 unfold rT;split
 ·simp
 split
 ·split
  ·simp
  ·simp only;omega
 ·split
  ·intro h;contradiction
  ·rename_i h1;split
   ·simp
   ·intro _;have:=Awb (p:=p) (N:=N) (a:=a+1) (k:=l) (v:=(tA p N (a+1) l).1) (n:=(tA p N (a+1) l).2.1) (by
     have e:(tA p N (a+1) l).2.2=0:=by simpa using h1
     rw[<-e])
    simp only;omega
theorem Ar7{p:LB}{N:Nat}(h:okB p N)(a:Nat){k l:Nat}{t:UInt64}(hd:okD k l s t):EL p (N:Int) (a:Int) (k:Int) (l:Int) s t=
  some (if(rT p N a k l).2.2≠0 then(0,0,0,0,0,0,(rT p N a k l).2.2)else((rT p N a k l).1,(rT p N a k l).2.1,((kS k (KO s (mo (rT p N a k l).1)):Nat):Int),((lK l t k (rT p N a k l).1:Nat):Int),KO s (mo (rT p N a k l).1),lT t k (rT p N a k l).1,0)):=by
 obtain⟨h1,h2,h3,h4⟩:=hd;have hd:okD k l s t:=⟨h1,h2,h3,h4⟩;have hN:=h.1;have hg:=vH h a 1 F0;have hb:=gR p a;rw[EL,cT,Vq h,Aa,A4 DZ,v! hd,Aa,A4 DZ,Asr,cL];refine KU (congrArg (λo=>Option.bind o _) hg) ?_;rw[Aa];by_cases ha:N<=a
 ·have hS:rT p N a k l=(0,0,24):=by rw[rT,A7 ha]
  rw[A7 F0,hS];rfl
 rw[A4 F0];simp only;have e0:geq (Ut p a 1) (0:UInt64)=decide (Nj p a=0):=by
  rw[D9,N4];simp only[VM,<-YS,B2,Xi p a 1 F0,sJ];rfl
 have e1:Ae (a:Int) 1=((a+1:Nat):Int):=by rw[Aj];omega
 rw[A4 DZ,e0,e1];by_cases hz:Nj p a=0
 ·rw[A7 (by simp[hz]),vH h (a+1) k F0,Aa];by_cases h5:N<a+1+k
  ·have hS:rT p N a k l=(0,0,24):=by rw[rT,A4 ha,A7 hz,A7 h5]
   rw[A7 h5,hS];rfl
  ·have hS:rT p N a k l=(UInt32.ofNat (Da p (a+1) k),((a+1+k:Nat):Int),0):=by rw[rT,A4 ha,A7 hz,A4 h5]
   rw[A4 h5,hS];simp only;rw[A4 DZ,M3 hd,D! F0,Aj];rfl
 ·rw[A4 (by simp[hz]),As7 h (a+1) l h2,Aa];have hp:2^k<=2^24:=IV F0 h1;by_cases h5:(tA p N (a+1) l).2.2≠0
  ·have hS:rT p N a k l=(0,0,(tA p N (a+1) l).2.2):=by rw[rT,A4 ha,A4 hz,A7 h5]
   rw[hS];generalize tA p N (a+1) l=R at*
   obtain⟨v,n,e⟩:=R;simp only at*
   rw[A7 (by rw[Bj];simpa using h5),A7 h5]
  ·have hv:=(tA p N (a+1) l).1.toNat_lt;have z:(GI.toZ (k:Int)).toNat=k:=rfl;have e3:(Dp (1:UInt32) k).toNat=2^k:=by rw[gL];show 1*2^k %_=_;rw[B3 F0,R3]
   by_cases h6:4294967295<(tA p N (a+1) l).1.toNat+2^k
   ·have hS:rT p N a k l=(0,0,12):=by rw[rT,A4 ha,A4 hz,A4 h5,A7 h6]
    rw[hS];generalize tA p N (a+1) l=R at*
    obtain⟨v,n,e⟩:=R;simp only at*
    rw[A4 (by rw[Bj];simpa using h5),Bt SQ,Aa,z,A7 (by rw[qp,O9,o?,e3];simp;omega),A7 F4]
   ·have hS:rT p N a k l=(UInt32.ofNat ((tA p N (a+1) l).1.toNat+2^k),(tA p N (a+1) l).2.1,0):=by rw[rT,A4 ha,A4 hz,A4 h5,A4 h6]
    rw[hS];generalize tA p N (a+1) l=R at*
    obtain⟨v,n,e⟩:=R;simp only at*
    have e4:Ae v (Dp (1:UInt32) k)=UInt32.ofNat (v.toNat+2^k):=by
     apply UInt32.toNat_inj.1;rw[O9,o?,e3,cQ F0,B3 F0]
    rw[A4 (by rw[Bj];simpa using h5),Bt SQ,Aa,z,A4 (by rw[qp,O9,o?,e3];simp;omega),e4,M3 hd];rfl
theorem M_{p:Prop}(h:p:=by rw[Bj];simp;omega):p:=h
theorem UZ{p:Prop}(h:p:=by rw[<-U1];omega):p:=h
abbrev DuN:=Nat×Nat×UInt64×UInt64
def okN(d:DuN):Prop:=okD d.1 d.2.1 d.2.2.1 d.2.2.2
def nxt(d:DuN)(v:UInt32):DuN:=(kS d.1 (KO d.2.2.1 (mo v)),lK d.2.1 d.2.2.2 d.1 v,KO d.2.2.1 (mo v),lT d.2.2.2 d.1 v)
def vG:DuN:=(10,10,16384,16384)
theorem Am6:okN vG:=⟨F4,F4,F4,F4⟩
theorem Av6{d:DuN}(h:okN d)(v:UInt32):okN (nxt d v):=Aoa h v
abbrev DuL:=Int×Int×UInt64×UInt64×Unit
def toI(d:DuN):DuL:=((d.1:Int),(d.2.1:Int),d.2.2.1,d.2.2.2,())
def h!(ch:Nat)(v:LU)(c:Nat):Nat->DuN
 |0=>vG
 |m+1=>if m %ch=c then nxt (h! ch v c m) (v.getD m 0)else h! ch v c m
theorem G9(ch:Nat)(v:LU)(c:Nat):∀m,okN (h! ch v c m)
 |0=>Am6
 |m+1=>by rw[h!];split;exact Av6 (G9 ch v c m) _;exact G9 ch v c m
theorem sG(ch:Nat)(v w:LU)(c:Nat):∀m,m<=v.length->h! ch (v++w) c m=h! ch v c m
 |0,_=>rfl
 |m+1,h=>by
  have e:(v++w).getD m 0=v.getD m 0:=by simp[B4,I9 (show m<v.length by omega)]
  rw[h!,h!,sG ch v w c m F0,e]
theorem Avv {l:LU}{k:Nat}(h:k<l.length):Af l (k:Int)=some (l.getD k 0):=by
 rw[Dy h];simp[B4,h]
theorem JG(a b:Nat):Me (a:Int) (b:Int)=((a %b:Nat):Int):=by rw[Me,Int.tmod_eq_emod_of_nonneg F0];omega
def now(ch:Nat)(v:LU):DuN:=h! ch v (v.length %ch) v.length
def win(N a:Nat):Nat:=min 81 (N-a)
def Uu(ch:Nat)(p:LB)(N a:Nat)(out:LU):UInt32×Int×Int:=rT (Tk p a (win N a)) (win N a) 0 (now ch out).1 (now ch out).2.1
def tX(ch:Nat)(p:LB)(N:Nat):Nat->Nat->LU->LU×Nat×Int
 |0,a,out=>(out,a,0)
 |j+1,a,out=>if(Uu ch p N a out).2.2≠0 then(out,a,(Uu ch p N a out).2.2)else tX ch p N j (a+(Uu ch p N a out).2.1.toNat) (out++[(Uu ch p N a out).1])
theorem Apk{ch:Nat}{p:LB}{N a:Nat}{out:LU}(h:(Uu ch p N a out).2.2=0):0<(Uu ch p N a out).2.1/\ (Uu ch p N a out).2.1<=win N a:=by
 have:=Au6 h;exact⟨this.1,this.2⟩
theorem Ajp{ch:Nat}{p:LB}{N a:Nat}{out:LU}(h:(Uu ch p N a out).2.2=0):((a:Int)+(Uu ch p N a out).2.1)=((a+(Uu ch p N a out).2.1.toNat:Nat):Int):=by
 have:=Apk h;omega
def sts(ch:Nat)(v:LU):List DuL:=(List.range 6).map λc=>toI (h! ch v c v.length)
theorem Y_{ch:Nat}{v:LU}{c:Nat}(h:c<6):Af (sts ch v) (c:Int)=some (toI (h! ch v c v.length)):=by
 rw[Dy (by simp[sts];exact h)];simp[sts]
theorem rH{ch:Nat}{v:LU}{c:Nat}(x:UInt32)(h:c<6)(hc:c=v.length %ch):Pn (sts ch v) (c:Int) (toI (nxt (h! ch v c v.length) x))=some (sts ch (v++[x])):=by
 rw[FR _ (by simp[sts];exact h)];congr 1;apply U4 (by simp[sts]);intro i h1 h2;rw[fL];simp only[sts,Wv,aB];have e:(v++[x]).getD v.length 0=x:=by simp
 rw[A?,Ul,h!,e,sG ch v [x] i v.length (C4 _)];by_cases hi:c=i
 ·subst hi;rw[A7 rfl,A7 hc.symm]
 ·rw[A4 hi,A4 F0]
theorem Aso{ch:Nat}{v:LU}{c:Nat}(hc:c=v.length %ch):h! ch v c v.length=now ch v:=by rw[now,hc]
section
variable {p:LB} {N ch n:Nat}
theorem qQ(hp:okB p N)(h1:1<=ch)(h6:ch<=6)(hn:n*ch<=4000):∀(j a q:Nat) (out:LU),out.length+j=n*ch->j<q->a<=N->
  Lz (ch:Int) (n:Int) p (N:Int) q (a:Int) (out.length:Int) (sts ch out) out=
   some (if(tX ch p N j a out).2.2≠0 then([],0,(tX ch p N j a out).2.2)else((tX ch p N j a out).1,((tX ch p N j a out).2.1:Int),0))
 |j,a,q+1,out,hj,hq,ha=>by
  have hN:=hp.1;have hnn:n<=n*ch:=mg n F0;have em:Cm (n:Int) (ch:Int)=((n*ch:Nat):Int):=by rw[Gk UZ UZ,U1]
  rw[Lz,Rm,em];cases j with
  |zero=>
   rw[A4 G4];rfl
  |succ j=>
   have hc:out.length %ch<6:=E5 (Sf _ F0) h6;have ew:Fy (Ae (a:Int) 81) (N:Int)=((a+win N a:Nat):Int):=by rw[PO,Aj];unfold win;omega
   have hw:a+win N a<=N:=by unfold win;omega
   have hw2:win N a<=81:=by unfold win;omega
   have hd:=Ar7 (D6 p a (win N a) F0) 0 (G9 ch out (out.length %ch) out.length);have Az4:rT (Tk p a (win N a)) (win N a) 0 (h! ch out (out.length %ch) out.length).1 (h! ch out (out.length %ch) out.length).2.1=Uu ch p N a out:=rfl;rw[A7 G4,ew,Av1 hp a _ hw F0,Aa];simp only;rw[A4 DZ,Bt M_,Aa,JG,Y_ hc,Aa,Aa];refine KU (congrArg (λo=>Option.bind o _) hd) ?_;rw[Aa,Az4,tX];by_cases he:(Uu ch p N a out).2.2≠0
   ·rw[A7 he,A7 he];simp only;rw[Rv,Ym,A7 (by rw[Bj];simpa using he),A7 he]
   ·have he0:(Uu ch p N a out).2.2=0:=by simpa using he
    have hok:=Apk he0;have hset:=rH (ch:=ch) (v:=out) (Uu ch p N a out).1 hc rfl;rw[A4 he,A4 he];simp only;rw[Rv,Ym,A4 DZ,Bt M_,Aa,JG,Y_ hc,Aa];refine KU (congrArg (λo=>Option.bind o _) hset) ?_;rw[Aa,NO,PH,Bi F5,Aa,Aj,Aj,Ajp he0];have ih:=qQ hp h1 h6 hn j (a+(Uu ch p N a out).2.1.toNat) q (out++[(Uu ch p N a out).1]) F5 F0 F0;rw[A?,Ul]at ih;exact ih
end
theorem Aa1(ch n:Int)(b:LB)(N:Int):Yr ch n b N 0 (List.replicate 6 ((0:Int),(0:Int),(0:UInt64),(0:UInt64),()))=OG ch n b N (List.replicate 6 ((10:Int),(10:Int),(16384:UInt64),(16384:UInt64),())):=by
 have e:Ay=(Ay-7)+1+1+1+1+1+1+1:=by have:=Bc;omega
 rw[Yr,e];rfl
theorem values_eq{p:LB}{N ch n:Nat}(hp:okB p N)(h1:1<=ch)(h6:ch<=6)(hn:n*ch<=4000):DP (ch:Int) (n:Int) p (N:Int)=
  some (if(tX ch p N (n*ch) 0 []).2.2≠0 then([],0,(tX ch p N (n*ch) 0 []).2.2)else((tX ch p N (n*ch) 0 []).1,((tX ch p N (n*ch) 0 []).2.1:Int),0)):=by
 have h:=qQ hp h1 h6 hn (n*ch) 0 Ay [] F8 B7 F0;rw[DP,DF,Aa1];exact h
theorem P'(n:Int):(GI.ofZ n:Int32)=Int32.ofInt n:=rfl
theorem SR(a:Int32):GI.toZ a=a.toInt:=rfl
theorem kD(a b:Int32):Ae a b=a+b:=by
 rw[Ae,SR,SR,P',Int32.ofInt_add,W8,W8]
theorem WX(a b:Int32):Ap a b=a-b:=by
 rw[Ap,SR,SR,P',Int32.ofInt_sub,W8,W8]
theorem qW(a b:Int32):geq a b=(a==b):=by
 rw[geq,SR,SR,N4];simp[Int32.toInt_inj]
def wV(p:Nat->Bool)(a b:LX):LX:=(List.range a.length).map λk=>if p k=true then a.getD k 0 else b.getD k 0
section
variable {p q:Nat->Bool} {a b:LX}
theorem KT:(wV p a b).length=a.length:=by simp[wV]
theorem Ya{k:Nat}(h:k<a.length):a.getD k 0=a[k]:=by simp[B4,h]
theorem Uk{k:Nat}(h:k<(wV p a b).length):(wV p a b)[k]=if p k=true then a.getD k 0 else b.getD k 0:=by simp[wV]
theorem KK{k:Nat}(h:k<a.length):Af (wV p a b) (k:Int)=some (if p k=true then a.getD k 0 else b.getD k 0):=by
 rw[Dy (by rw[KT];exact h),Uk]
theorem KX(h:∀k,k<a.length->p k=q k):wV p a b=wV q a b:=by
 apply Z0;intro k hk;rw[h k (List.mem_range.1 hk)]
theorem rL{k:Nat}(h:k<a.length):Pn (wV p a b) (k:Int) (a.getD k 0)=some (wV (λj=>p j||decide (j=k)) a b):=by
 rw[FR _ (by rw[KT];exact h)];congr 1;apply U4 (by simp[KT]);intro i h1 h2;rw[fL,Uk,Uk];by_cases hi:k=i
 ·subst hi;simp
 ·have:¬i=k:=λe=>hi e.symm;simp[hi,this]
theorem zy(h:∀k,k<a.length->p k=true):wV p a b=a:=by
 apply U4 (by simp[KT]);intro i h1 h2;rw[Uk,A7 (h i h2),Ya h2]
theorem H3(hl:b.length=a.length)(h:∀k,k<a.length->p k=false):wV p a b=b:=by
 apply U4 (by simp[KT,hl]);intro i h1 h2;rw[Uk,h i F0];simp[B4,h2]
end
theorem Al4(a b:Int32):Cm a b=a*b:=by
 rw[Cm,SR,SR,P',Int32.ofInt_mul,W8,W8]
theorem I5(a:Int32): -2147483648<=a.toInt/\a.toInt<2147483648:=⟨a.le_toInt,a.toInt_lt⟩
theorem YV(a:Int32):(Ah a:Int)=a.toInt:=by
 have:=I5 a
 show wrap64 a.toInt=_;rw[Df]<;>omega
theorem Ai8(n:Int):(Ah n:Int32)=Int32.ofInt n:=rfl
def OkF(s:Int)(t p:LX):Prop:=(s=9\/s=10)/\t.length=16/\p.length=16
theorem wA{s:Int}{t p:LX}(h:OkF s t p):EI s t p=some 0:=by
 obtain⟨rfl|rfl,_,_⟩:=h<;>rfl
theorem g32{l:LX}{k:Nat}(h:k<l.length):Af l (k:Int)=some (l.getD k 0):=by
 rw[Dy h];simp[B4,h]
def dT(t p:LX):Nat->Int32
 |0=>0
 |i+1=>dT t p i+t.getD i 0*p.getD i 0
def half(s:Int):Int32:=if s=9 then 256 else 512
def gF(s:Int)(t p:LX):Int32:=Int32.ofInt ((half s+dT t p 16).toInt.fdiv (if s=9 then 512 else 1024))
theorem Atv{s:Int}{t p:LX}(h:OkF s t p):∀(j i q:Nat),i+j=16->j<q->Td t s p q (half s+dT t p i) (i:Int)=some (gF s t p,0)
 |0,i,q+1,hi,_=>by
  obtain rfl:i=16:=F0
  have hs:=h.1;rw[Td,FU,A4 T5,TM,Amb,Bt T4,Aa];obtain rfl|rfl:=hs<;>rfl
 |j+1,i,q+1,hi,hq=>by
  obtain⟨hs,ht,hp⟩:=h;rw[Td,FU,A7 G4,g32 F0,Aa,g32 F0,Aa,Aa,Aj (b:=1) F0 F0,kD,Al4,Int32.add_assoc];exact Atv ⟨hs,ht,hp⟩ j (i+1) q F0 F0
theorem K!{s:Int}{t p:LX}(h:OkF s t p):NH s t p=some (gF s t p,0):=by
 have hs:=h.1;have h1:=Atv h 16 0 Ay F0 B7;have e:Dp (1:Int32) (GI.toZ (Ap s (1:Int))).toNat=half s+dT t p 0:=by
  obtain rfl|rfl:=hs<;>rfl
 rw[NH,UD,wA h,Aa,A4 DZ,Bt (by rw[Gf,Dv];simp;omega),Aa,Aly,e];exact h1
def stp(i:Nat):Int32:=if i=0 then 4 else if i<4 then 2 else 1
def sg(x:Int32):Int32:=if x.toInt<0 then -1 else if 0<x.toInt then 1 else 0
def G!(t p:LX)(w:Int32):LX:=(List.range 16).map λi=>t.getD i 0+stp i*sg (p.getD i 0)*sg w
theorem RO(t p:LX)(w:Int32):(G! t p w).length=16:=by simp[G!]
theorem rP(t p:LX)(w:Int32){i:Nat}(h:i<16):(G! t p w).getD i 0=t.getD i 0+stp i*sg (p.getD i 0)*sg w:=by
 rw[Ya (by rw[RO];exact h)];simp[G!]
theorem step_eq(i:Nat):ZO (i:Int)=some (stp i):=by
 rw[ZO,stp];by_cases h:i=0
 ·rw[A7 (by rw[Dh];simp[h]),A7 h]
 ·rw[A4 OU,A4 h];by_cases h2:i<4
  ·rw[A7 G4,A7 h2]
  ·rw[A4 G4,A4 h2]
theorem iO(a b:Int32):Cx a b=decide (a.toInt<b.toInt):=rfl
theorem Auy(a b:Int32):Eg a b=decide (b.toInt<a.toInt):=rfl
theorem qb:sg 0=0:=rfl
theorem toInt_ne{x:Int32}(h:x≠0):x.toInt≠0:=λe=>h (Int32.toInt_inj.1 (by rw[e];rfl))
theorem yc{x:Int32}(h:x.toInt<0):sg x= -1:=by rw[sg,A7 h]
theorem N_{x:Int32}(h:x≠0)(h2:¬x.toInt<0):sg x=1:=by
 have:=toInt_ne h;rw[sg,A4 h2,A7 F0]
theorem mL(i:Nat):stp i=4\/stp i=2\/stp i=1:=by
 unfold stp;by_cases h:i=0
 ·rw[A7 h];exact .inl rfl
 ·rw[A4 h];split;exact .inr (.inl rfl);exact .inr (.inr rfl)
theorem Aib{x:Int32}(hx:x≠0)(hw:w≠0)(h:(x.toInt<0)=(w.toInt<0))(i:Nat):stp i*sg x*sg w=stp i:=by
 by_cases h1:x.toInt<0
 ·rw[yc h1,yc (by rw[<-h];exact h1)];obtain e|e|e:=mL i<;>rw[e]<;>decide
 ·rw[N_ hx h1,N_ hw (by rw[<-h];exact h1)];obtain e|e|e:=mL i<;>rw[e]<;>decide
theorem Ady{x:Int32}(hx:x≠0)(hw:w≠0)(h:¬(x.toInt<0)=(w.toInt<0))(i:Nat)(a:Int32):a+stp i*sg x*sg w=a-stp i:=by
 have key:stp i*sg x*sg w=-stp i:=by
  by_cases h1:x.toInt<0
  ·have h2:¬w.toInt<0:=λh2=>h (propext ⟨λ_=>h2,λ_=>h1⟩);rw[yc h1,N_ hw h2];obtain e|e|e:=mL i<;>rw[e]<;>decide
  ·have h2:w.toInt<0:=Decidable.by_contra λh2=>h (propext ⟨λh3=>absurd h3 h1,λh3=>absurd h3 h2⟩);rw[N_ hx h1,yc h2];obtain e|e|e:=mL i<;>rw[e]<;>decide
 rw[key,Int32.sub_eq_add_neg]
def X6(i:Nat):Nat->Bool:=λj=>decide (j<i)
theorem Ad2 {a b:LX}{i:Nat}(h:i<a.length):Pn (wV (X6 i) a b) (i:Int) (a.getD i 0)=some (wV (X6 (i+1)) a b):=by
 rw[rL h];congr 1;apply KX;intro k _;rw[N4];simp only[X6,R!,B2];omega
theorem Ahv{a b:LX}{i:Nat}(e:a.getD i 0=b.getD i 0):wV (X6 i) a b=wV (X6 (i+1)) a b:=by
 apply Z0;intro k _;simp only[X6,B2];by_cases h1:k<i
 ·rw[A7 h1,A7 F0]
 ·by_cases h2:k=i
  ·subst h2;rw[A4 h1,A7 F0,e]
  ·rw[A4 h1,A4 F0]
theorem An1{a b:LX}{i:Nat}(h:i<a.length):Af (wV (X6 i) a b) (i:Int)=some (b.getD i 0):=by
 rw[KK h,A4 (by simp[X6])]
theorem Alu{s:Int}{t p:LX}{w:Int32}(hw:w≠0)(ht:t.length=16)(hp:p.length=16):∀(j i q:Nat),i+j=16->j<q->So w p s q (i:Int) (wV (X6 i) (G! t p w) t)=some (s,G! t p w,p,0)
 |0,i,q+1,hi,_=>by
  obtain rfl:i=16:=F0
  rw[So,FZ,A4 T5,zy (λk hk=>by rw[RO]at hk;simpa [X6]using hk)];rfl
 |j+1,i,q+1,hi,hq=>by
  have hl:=RO t p w;have hg:=rP t p w (i:=i) F0;rw[So,FZ,A7 G4,g32 F0,Aa,Aj (b:=1) F0 F0,An1 F0,step_eq];simp only[Aa];rw[kD,WX,qW,iO,iO,show(0:Int32).toInt=0 from rfl];have ih:=Alu (s:=s) hw ht hp j (i+1) q F0 F0;by_cases hx:p.getD i 0=0
  ·rw[A7 (by rw[hx];rfl),Ahv (by rw[hg,hx,qb,Int32.mul_zero,Int32.zero_mul,Int32.add_zero])];exact ih
  ·rw[A4 (by simpa using hx)];by_cases hs:((p.getD i 0).toInt<0)=(w.toInt<0)
   ·rw[A7 (by rw[VM];simp only[hs]),show t.getD i 0+stp i=(G! t p w).getD i 0 by rw[hg,Aib hx hw hs],Ad2 F0,Aa];exact ih
   ·rw[A4 (by rw[VM,decide_eq_decide];exact λh=>hs (propext h)),show t.getD i 0-stp i=(G! t p w).getD i 0 by rw[hg,Ady hx hw hs],Ad2 F0,Aa];exact ih
theorem Ak2{t:LX}(p:LX)(ht:t.length=16):G! t p 0=t:=by
 apply U4 (by rw[RO,ht]);intro i h1 h2;have:=rP t p 0 (i:=i) F0;rw[Ya h1,Ya h2]at this;rw[this,qb,Int32.mul_zero,Int32.add_zero]
theorem Amm {s:Int}{t p:LX}(h:OkF s t p)(w:Int32):dK s t p w=some (s,G! t p w,p,0):=by
 rw[dK,TG,wA h,Aa,A4 DZ,qW];by_cases hw:w=0
 ·rw[A7 (by simpa using hw),hw,Ak2 p h.2.1]
 ·have h1:=Alu (s:=s) hw h.2.1 h.2.2 16 0 Ay F0 B7;rw[H3 (by rw[RO,h.2.1]) (λk _=>by simp[X6])]at h1;rw[A4 (by simpa using hw)];exact h1
theorem Asu{p:LX}(h:p.length=16):∃a0 a1 a2 a3 a4 a5 a6 a7 a8 a9 b0 b1 b2 b3 b4 b5,p=[a0,a1,a2,a3,a4,a5,a6,a7,a8,a9,b0,b1,b2,b3,b4,b5]:=by
 match p,h with
 |[a0,a1,a2,a3,a4,a5,a6,a7,a8,a9,b0,b1,b2,b3,b4,b5],_=>exact⟨a0,a1,a2,a3,a4,a5,a6,a7,a8,a9,b0,b1,b2,b3,b4,b5,rfl⟩
theorem qw{s:Int}{t p:LX}(h:OkF s t p)(x:Int32):mU s t p x=some (s,t,x::p.take 15,0):=by
 obtain⟨hs,ht,hp⟩:=h;rw[mU,KH,wA ⟨hs,ht,hp⟩,Aa,A4 DZ,show ZW (16:Int) 1 16=some ()from rfl,Aa,show ZW (16:Int) 0 16=some ()from rfl,Aa,bT,Aqy];obtain⟨a0,a1,a2,a3,a4,a5,a6,a7,a8,a9,b0,b1,b2,b3,b4,b5,rfl⟩:=Asu hp;rfl
theorem Aoe{s:Int}{t p:LX}(h:OkF s t p)(w x:Int32):OkF s (G! t p w) (x::p.take 15):=⟨h.1,RO _ _ _,by simp[h.2.2]⟩
theorem Arr{s:Int}{t p:LX}(h:OkF s t p)(y:Int32):iP s t p y=some (y+gF s t p,s,G! t p y,(y+gF s t p)::p.take 15,0):=by
 rw[iP,K! h,Aa];simp only;rw[A4 DZ,kD,PD,Amm h,Aa];simp only;rw[qw (s:=s) (t:=G! t p y) (p:=p) ⟨h.1,RO _ _ _,h.2.2⟩,Aa];rfl
def sB(bits:Int):Int:=if bits=16 then 9 else 10
def shB(bits:Int):Int:=if bits=8 then 4 else 5
def Cy(bits:Int):Prop:=bits=8\/bits=16\/bits=24
def gs(sh:Int)(last:Int32):Int32:=Ah (s_ (Ap (Dp (Ah last:Int) sh.toNat) (Ah last)) sh.toNat)
theorem Azk(bits:Int):sB bits=9\/sB bits=10:=by unfold sB;split<;>simp
theorem Asy(bits:Int):0<=shB bits:=by unfold shB;split<;>omega
theorem Bax{bits:Int}(h:Cy bits)(t:LX):rD bits t=some (sB bits,t,List.replicate 16 0,0):=by
 obtain rfl|rfl|rfl:=h<;>rfl
theorem Awv{bits:Int}(h:Cy bits):jW bits=some (shB bits,0):=by
 obtain rfl|rfl|rfl:=h<;>rfl
theorem Ava{sh:Int}(h:0<=sh)(last:Int32):SL sh last=some (gs sh last):=by
 rw[SL,Bt (by rw[Gf];simpa using h),Aa,Aa];rfl
theorem vZ{bits:Int}(h:Cy bits)(last:Int32):Uw bits last=some (gs (shB bits) last,0):=by
 rw[Uw,Awv h,Aa];simp only;rw[A4 DZ,Ava (Asy bits),Aa]
theorem K9{bits:Int}(h:Cy bits)(last:Int32)(t p:LX):Us bits last (sB bits) t p=some 0:=by
 rw[Us,Bax h,Aa];simp only;rw[A4 (by rw[Bj,Bj];simp)]
theorem Agp{bits:Int}(h:Cy bits){t p:LX}(hF:OkF (sB bits) t p)(last y:Int32):
  Kk bits last (sB bits) t p y=some (y+gF (sB bits) t p+gs (shB bits) last,bits,y+gF (sB bits) t p+gs (shB bits) last,sB bits,G! t p y,(y+gF (sB bits) t p)::p.take 15,0):=by
 rw[Kk,K9 h,Aa,A4 DZ,vZ h,Aa];simp only;rw[Arr hF,Aa];simp only;rw[kD]
def jS(n:UInt32):Int32:=if n.toNat %2=0 then Int32.ofInt ((n.toNat/2:Nat):Int)else Int32.ofInt (-((n.toNat/2:Nat):Int)-1)
theorem Aes(a b:Int32):(Wr a b).toBitVec=a.toBitVec^^^b.toBitVec:=by
 show(Int32.ofInt ((BitVec.ofInt 32 a.toBitVec.toInt^^^BitVec.ofInt 32 b.toBitVec.toInt).toNat:Int)).toBitVec=_;rw[BitVec.ofInt_toInt,BitVec.ofInt_toInt,nL,BitVec.ofInt_natCast,BitVec.ofNat_toNat,BitVec.setWidth_eq]
theorem Ayn(m:Nat)(h:m<2147483648):Wr (Int32.ofInt (m:Int)) (Int32.ofInt (-1))=Int32.ofInt (-(m:Int)-1):=by
 apply Int32.toBitVec_inj.1;have e1:(Int32.ofInt (-1)).toBitVec=BitVec.allOnes 32:=F4
 rw[Aes,e1,BitVec.xor_allOnes,nL,nL];apply YN;rw[fR,VC,VC];omega
theorem Aou(n:UInt32):Vt n=some (jS n):=by
 have hn:=n.toNat_lt;have e1:(Ah (Cl n (GI.toZ (1:UInt64)).toNat):Int32)=Int32.ofInt ((n.toNat/2:Nat):Int):=by
  show Int32.ofInt ((Cl n 1).toNat:Int)=_;rw[OH]
 have e2:(Ah (Ed n (1:UInt32)):Int32)=Int32.ofInt ((n.toNat %2:Nat):Int):=by
  show Int32.ofInt ((Ed n (1:UInt32)).toNat:Int)=_;rw[N6,fJ]
  show Int32.ofInt ((n.toNat&&&1:Nat):Int)=_;rw[nA]
 rw[Vt,e1,e2,jS];congr 1;by_cases h:n.toNat %2=0
 ·have e3:nC (Int32.ofInt ((n.toNat %2:Nat):Int))=Int32.ofInt 0:=by rw[h];decide
  rw[A7 h,e3];apply Int32.toBitVec_inj.1;rw[Aes,show(Int32.ofInt 0).toBitVec=0#32 from rfl,BitVec.xor_zero]
 ·have e3:nC (Int32.ofInt ((n.toNat %2:Nat):Int))=Int32.ofInt (-1):=by rw[show n.toNat %2=1 by omega];decide
  rw[A4 h,e3,Ayn _ F0]
theorem J5{p:Prop}(h:p:=by rw[Be,Ad];simp;omega):p:=h
theorem nZ{c:Prop} [Decidable c](h:c):Gi (decide c)=some ():=by rw[Q6 h];rfl
def unV(f:Nat->Int32)(ch:Nat):Nat->Int32
 |0=>if 1<ch then f (ch-1)+Ej (f (ch-2)) (2:Int32)else f (ch-1)
 |j+1=>unV f ch j-f (ch-2-j)
def unm(ch:Nat)(m:LX):LX:=(List.range m.length).map λk=>unV (λi=>m.getD (k-k %ch+i) 0) ch (ch-1-k %ch)
theorem qR(ch:Nat)(m:LX):(unm ch m).length=m.length:=by simp[unm]
theorem E4{ch:Nat}{m:LX}{a i:Nat}(ha:a %ch=0)(hi:i<ch)(h:a+i<m.length):(unm ch m).getD (a+i) 0=unV (λi=>m.getD (a+i) 0) ch (ch-1-i):=by
 have hb:(a+i) %ch=i:=by rw[Nat.add_mod,ha,K1,cH,B3 hi]
 rw[Ya (by rw[qR];exact h)];simp only[unm,Wv,aB,hb];rw[show a+i-i=a by omega]
section
variable (ch:Nat) (m:LX)
theorem Asj (h1:1<=ch)(h6:ch<=6)(hm:m.length %ch=0)(hl2:m.length<=4000):WS (ch:Int) m=some 0:=by
 rw[WS,A4 OK,A4 J5,Bt M_,Aa,A4];rw[Bj,Me,Ad,<-Int.ofNat_tmod,hm];simp
theorem I0(bk:Int->LX->Option (LX×Int))(at':Nat)(h1:1<=ch)(h6:ch<=6)(hm:at' %ch=0)(hl:at'+ch<=m.length)(hl2:m.length<=4000):∀(i q:Nat),i<=ch-1->i<q->
  Vg bk (ch:Int) (at':Int) q ((i:Int)-1) (wV (λk=>decide (k<at'\/ (at'+i<=k/\k<at'+ch))) (unm ch m) m)=bk ((at'+ch:Nat):Int) (wV (λk=>decide (k<at'+ch)) (unm ch m) m)
 |0,q+1,hi,_=>by
  have e4:Ae (at':Int) (ch:Int)=((at'+ch:Nat):Int):=by rw[Aj];omega
  rw[Vg,KQ,A4 SQ,dG,Aon,e4];congr 1;apply KX;intro k _;rw[N4];simp;omega
 |i+1,q+1,hi,hq=>by
  have hlen:=qR ch m;have e2:Ae (at':Int) (ch:Int)-(at':Int)=(ch:Int):=by rw[Aj];omega
  have e3:Ae (i:Int) 1=((i+1:Nat):Int):=by rw[Aj];omega
  have hv:((unm ch m).getD (at'+(i+1)) 0-m.getD (at'+i) 0)=(unm ch m).getD (at'+i) 0:=by
   rw[E4 hm F0 F0,E4 hm F0 F0,show ch-1-i=(ch-1-(i+1))+1 by omega,unV,show ch-2-(ch-1-(i+1))=i by omega]
  rw[Vg,KQ,show((i+1:Nat):Int)-1=(i:Int) by omega,A7 SQ,e2,e3,nZ F0,Aa,nZ F0,Aa,
   show(at':Int)+((i+1:Nat):Int)=((at'+(i+1):Nat):Int) by omega,show(at':Int)+(i:Int)=((at'+i:Nat):Int) by omega,
   KK F0,Aa,KK F0,Aa,Aa,A7 F5,A4 F5,WX,hv,rL F0,Aa,Dv]
  have ih:=I0 bk at' h1 h6 hm hl hl2 i q F0 F0;rw[<-ih];congr 1;apply KX;intro k _;rw[N4];simp;omega
theorem P7{at' ch n:Nat}(ha:at' %ch=0)(hm:n %ch=0)(h:at'<n):at'+ch<=n:=by
 have d1:=X! at' ch;have d2:=X! n ch;rw[ha,SJ]at d1;rw[hm,SJ]at d2;have hlt:at'/ch<n/ch:=by
  rcases VE (at'/ch) (n/ch)with h'|h'
  ·exact h'
  ·have:=XV ch h';omega
 have:=XV ch (show at'/ch+1<=n/ch from hlt);rw[gJ]at this;omega
theorem Ajw(h1:1<=ch)(h6:ch<=6)(hm:m.length %ch=0)(hl2:m.length<=4000):∀(j at' q:Nat),at' %ch=0->at'<=m.length->m.length-at'<=j->j<q->
  Rg (ch:Int) q (at':Int) (wV (λk=>decide (k<at')) (unm ch m) m)=some (unm ch m,0)
 |j,at',q+1,ha,hle,hj,hq=>by
  have hlen:=qR ch m;have hl:Ad (wV (λk=>decide (k<at')) (unm ch m) m)=(m.length:Int):=by rw[Ad,KT,hlen]
  rw[Rg,bW,hl];by_cases h:at'<m.length
  ·have hb:=P7 ha hm h;obtain⟨j,rfl⟩:∃k,j=k+1:=⟨j-1,F0⟩;have e1:Ap (Ae (at':Int) (ch:Int)-(at':Int)) 1=((ch-1:Nat):Int):=by rw[Aj,Dv];omega
   have e2:Ae (at':Int) (ch:Int)-(at':Int)=(ch:Int):=by rw[Aj];omega
   have e4:Ae (at':Int) (ch:Int)=((at'+ch:Nat):Int):=by rw[Aj];omega
   have hi:=I0 ch m (Rg (ch:Int) q) at' h1 h6 ha hb hl2 (ch-1) Ay F0 B7;have hrest:=Ajw h1 h6 hm hl2 j (at'+ch) q (by rw[nW,ha]) hb F0 F0;have hstart:bE (Rg (ch:Int) q) (ch:Int) (at':Int) (wV (λk=>decide (k<at'\/ (at'+(ch-1)<=k/\k<at'+ch))) (unm ch m) m)=some (unm ch m,0):=by
    have e6:Ap ((ch-1:Nat):Int) 1=((ch-1:Nat):Int)-1:=Dv;rw[bE,aG,dI,e1,e6];exact KU hi hrest
   rw[A7 G4,show ZW (m.length:Int) (at':Int) (Ae (at':Int) (ch:Int))=some () by rw[e4,ZW,nZ];omega,Aa,e1,e2];have hlast:=E4 (m:=m) ha (show ch-1<ch by omega) F0;rw[show ch-1-(ch-1)=0 by omega,unV]at hlast;by_cases hc:1<ch
   ·have e5:Ap ((ch-1:Nat):Int) 1=((ch-2:Nat):Int):=by rw[Dv];omega
    rw[A7 hc]at hlast;rw[A7 Q9,nZ F0,Aa,e5,nZ F0,Aa,show(at':Int)+((ch-1:Nat):Int)=((at'+(ch-1):Nat):Int) by omega,show(at':Int)+((ch-2:Nat):Int)=((at'+(ch-2):Nat):Int) by omega,
     KK F0,Aa,KK F0,Aa,Aa,A4 F8,A4 F8,kD,<-hlast,rL F0,Aa]
    rw[<-hstart];congr 1;apply KX;intro k _;rw[N4];simp;omega
   ·have hc1:ch=1:=F0
    rw[A4 Q9,<-hstart];congr 1;rw[A4 hc]at hlast;apply Z0;intro k hk;by_cases hk2:k=at'
    ·subst hk2;rw[A4 F8,A7 F5];rw[show k+(ch-1)=k by omega]at hlast;exact hlast.symm
    ·by_cases hk3:k<at'
     ·rw[A7 F5,A7 F5]
     ·rw[A4 F5,A4 F5]
  ·rw[A4 G4,zy (λk hk=>by simp;omega)];rfl
theorem Aqd(h1:1<=ch)(h6:ch<=6)(hm:m.length %ch=0)(hl2:m.length<=4000):rX (ch:Int) m=some (unm ch m,0):=by
 have hlen:=qR ch m;have h:=Ajw ch m h1 h6 hm hl2 m.length 0 Ay F8 F0 F0 B7;rw[rX,iL,Asj ch m h1 h6 hm hl2,Aa,A4 DZ,Db,Bi F5,Aa,Aa,O7,Ati];rw[H3 hlen.symm (λk _=>by simp)]at h;exact h
end
def pre{α:Type}(ch c:Nat)(f:α->Nat->α)(a0:α):Nat->α
 |0=>a0
 |m+1=>if m %ch=c then f (pre ch c f a0 m) m else pre ch c f a0 m
abbrev CS:=Int32×LX×LX
def U!(bits:Int)(s:CS)(y:Int32):Int32:=y+gF (sB bits) s.2.1 s.2.2+gs (shB bits) s.1
def W!(bits:Int)(s:CS)(y:Int32):CS:=(U! bits s y,G! s.2.1 s.2.2 y,(y+gF (sB bits) s.2.1 s.2.2)::s.2.2.take 15)
def cst(bits:Int)(ch:Nat)(t:LX)(v:LU)(c:Nat):Nat->CS:=pre ch c (λs i=>W! bits s (jS (v.getD i 0))) (0,t,List.replicate 16 0)
def OkC(bits:Int)(s:CS):Prop:=OkF (sB bits) s.2.1 s.2.2
theorem jF(bits:Int)(ch:Nat){t:LX}(ht:t.length=16)(v:LU)(c:Nat):∀m,OkC bits (cst bits ch t v c m)
 |0=>⟨Azk bits,ht,by simp[cst,pre]⟩
 |m+1=>by
  have ih:=jF bits ch ht v c m;rw[cst,pre];split
  ·exact Aoe ih _ _
  ·exact ih
def smp(bits:Int)(ch:Nat)(t:LX)(v:LU):LX:=(List.range v.length).map λi=>U! bits (cst bits ch t v (i %ch) i) (jS (v.getD i 0))
theorem C6(bits:Int)(ch:Nat)(t:LX)(v:LU):(smp bits ch t v).length=v.length:=by simp[smp]
theorem tE(bits:Int)(ch:Nat)(t:LX)(v:LU){i:Nat}(h:i<v.length):(smp bits ch t v).getD i 0=U! bits (cst bits ch t v (i %ch) i) (jS (v.getD i 0)):=by
 rw[Ya (by rw[C6];exact h)];simp[smp]
abbrev CL:=Int×Int32×(Int×LX×LX×Unit)×Unit
def toC(bits:Int)(s:CS):CL:=(bits,s.1,(sB bits,s.2.1,s.2.2,()),())
def cts(bits:Int)(ch:Nat)(t:LX)(v:LU)(i:Nat):List CL:=(List.range 6).map λc=>toC bits (cst bits ch t v c i)
theorem tR{bits:Int}{ch:Nat}{t:LX}{v:LU}{i c:Nat}(h:c<6):Af (cts bits ch t v i) (c:Int)=some (toC bits (cst bits ch t v c i)):=by
 rw[Dy (by simp[cts];exact h)];simp[cts]
theorem Atx(bits:Int)(ch:Nat)(t:LX)(v:LU)(c m:Nat):cst bits ch t v c (m+1)=if m %ch=c then W! bits (cst bits ch t v c m) (jS (v.getD m 0))else cst bits ch t v c m:=rfl
theorem qV{bits:Int}{ch:Nat}{t:LX}{v:LU}{i c:Nat}(h:c<6)(hc:i %ch=c):Pn (cts bits ch t v i) (c:Int) (toC bits (W! bits (cst bits ch t v c i) (jS (v.getD i 0))))=some (cts bits ch t v (i+1)):=by
 rw[FR _ (by simp[cts];exact h)];congr 1;apply U4 (by simp[cts]);intro k h1 h2;rw[fL];simp only[cts,Wv,aB];by_cases hk:c=k
 ·subst hk;rw[A7 rfl,Atx,A7 hc]
 ·rw[A4 hk,Atx,A4 F0]
section
variable {bits:Int} {ch:Nat} {t:LX} {v:LU}
theorem J? (hb:Cy bits)(ht:t.length=16)(h1:1<=ch)(h6:ch<=6)(hv:v.length<=4000):∀(j i q:Nat),i+j=v.length->j<q->
  Ig v (ch:Int) bits q (i:Int) (cts bits ch t v i) ((smp bits ch t v).take i)=Kt (ch:Int) bits (smp bits ch t v)
 |0,i,q+1,hi,_=>by
  rw[Ig,Ks,A4 F6,J0 (by rw[C6];omega)]
 |j+1,i,q+1,hi,hq=>by
  have hlen:=C6 bits ch t v;have hc:i %ch<6:=E5 (Sf _ F0) h6;have hok:=jF bits ch ht v (i %ch) i;have hs:=qV (bits:=bits) (ch:=ch) (t:=t) (v:=v) (i:=i) hc rfl;have hx:=tE bits ch t v (i:=i) F0;have hcb:=Agp hb hok (cst bits ch t v (i %ch) i).1 (jS (v.getD i 0));have ih:=J? hb ht h1 h6 hv j (i+1) q F0 F0;rw[Gb F0,<-Ya F0,hx]at ih;rw[Ig,Ks,A7 F6,Avv F0,Aa,Bt M_,Aa,JG,tR hc,Aa,Aa,Aou,Aa];refine KU (congrArg (λo=>Option.bind o _) hcb) ?_;rw[Aa];simp only;rw[Wb,JP,A4 DZ,JG];refine KU (congrArg (λo=>Option.bind o _) hs) ?_;rw[Aa,Bi F5,Aa,Aj];exact ih
theorem Ajk(hb:Cy bits)(ht:t.length=16)(h1:1<=ch)(h6:ch<=6)(hv:v.length<=4000):Xw (ch:Int) bits t v=Kt (ch:Int) bits (smp bits ch t v):=by
 have h:=J? hb ht h1 h6 hv v.length 0 Ay F0 B7;have e:Ay=(Ay-7)+1+1+1+1+1+1+1:=by have:=Bc;omega
 have hs:Wo v (ch:Int) bits t 0 (List.replicate 6 ((0:Int),(0:Int32),((0:Int),(List.replicate 16 (0:Int32)),(List.replicate 16 (0:Int32)),()),()))=JN v (ch:Int) bits (cts bits ch t v 0):=by
  rw[Wo,e];obtain rfl|rfl|rfl:=hb<;>rfl
 rw[Xw,Yt,hs];exact h
end
def hB(bits:Int):Int:=if bits=8 then 128 else if bits=16 then 32768 else 8388608
theorem e_{bits:Int}(h:Cy bits):Qn bits=some (Int32.ofInt (-(hB bits)),Int32.ofInt (hB bits-1),0):=by
 obtain rfl|rfl|rfl:=h<;>decide
theorem yV{bits:Int}(h:Cy bits):Ka bits=some (hB bits):=by
 obtain rfl|rfl|rfl:=h<;>rfl
theorem iC(bits:Int):0<hB bits/\hB bits<=8388608:=by
 unfold hB;split; · omega
 ·split<;>omega
theorem P5{bits:Int}(h:Cy bits)(l:LX)(hl:l.length<=4000):∀(j i q:Nat),i+j=l.length->j<q->
  Qh (Int32.ofInt (-(hB bits))) (Int32.ofInt (hB bits-1)) l q (i:Int)=Bl l (hB bits) q (i:Int)
 |0,i,q+1,hi,_=>by
  rw[Qh,DV,Bl,Dt,A4 F6,A4 F6];rfl
 |j+1,i,q+1,hi,hq=>by
  have hh:=iC bits;have ih:=P5 h l hl j (i+1) q F0 F0;have e1:(Int32.ofInt (-(hB bits))).toInt= -(hB bits):=by rw[XX,eV (by show -(4294967296/2:Int)<= _;omega) (by show _<(4294967296+1)/2;omega)]
  have e2:(Int32.ofInt (hB bits-1)).toInt=hB bits-1:=by rw[XX,eV (by show -(4294967296/2:Int)<= _;omega) (by show _<(4294967296+1)/2;omega)]
  rw[Qh,DV,Bl,Dt,A7 F6,A7 F6,g32 F0,Aa,Aa,Aa,YV,jQ,Df F0 F0,Aj,iO,Auy,e1,e2,Ag,Gf];generalize(l.getD i 0).toInt=X;by_cases h1:X< -(hB bits)
  ·rw[A7 F5,A7 F5]
  ·rw[A4 (c:=decide (X<0-hB bits)=true) F5];by_cases h2:hB bits<=X
   ·rw[A7 F5,A7 F5]
   ·rw[A4 F5,A4 F5];exact ih
theorem ON{bits:Int}(h:Cy bits)(l:LX)(hl:l.length<=4000):Ni bits l=Bo bits l:=by
 have hh:=iC bits;rw[Ni,PT,e_ h,Aa,Bo,Ee,yV h,Aa];simp only;rw[A4 DZ,A4 J5,A4 OU,A4 J5];exact P5 h l hl l.length 0 Ay F0 B7
def nS(s:Nat):Nat:=(s/2)^^^ (if s %2=1 then 3988292384 else 0)
theorem N8{s:Nat}(h:s<4294967296):nS s<4294967296:=by
 unfold nS;exact Vz (n:=32) F5 (by split<;>decide)
theorem Aj2(x y:Nat):(x^^^y)/2=(x/2)^^^ (y/2):=by
 have:=zQ (a:=x) (b:=y) (i:=1);simpa [zT]using this
theorem Agu(x y:Nat):nS (x^^^y)=nS x^^^nS y:=by
 have h:(x^^^y) %2=(x %2+y %2) %2:=by
  have:=Nat.xor_mod_two_eq_one (a:=x) (b:=y);have h1:(x^^^y) %2<2:=Sf _ F0;omega
 simp only[nS,Aj2,h];have hx:x %2=0\/x %2=1:=F0
 have hy:y %2=0\/y %2=1:=F0
 rcases hx with hx|hx<;>rcases hy with hy|hy<;>simp only[hx,hy]<;>simp
 ·rw[VD]
 ·rw[VD,cC (y/2),VD,cC 3988292384 (y/2)]
 ·rw[VD,cC 3988292384,VD,Nat.xor_self];simp
def BW:Nat->Nat->Nat
 |0,s=>s
 |k+1,s=>BW k (nS s)
theorem Ats:∀(k x y:Nat),BW k (x^^^y)=BW k x^^^BW k y
 |0,_,_=>rfl
 |k+1,x,y=>by rw[BW,Agu,Ats k];rfl
theorem Ajn:∀(k h:Nat),BW k (2^k*h)=h
 |0,h=>by simp[BW]
 |k+1,h=>by
  have:nS (2^(k+1)*h)=2^k*h:=by
   rw[L8,I! (2^k) 2,N9,nS,A4 F0,zZ _ F0];simp
  rw[BW,this,Ajn k]
theorem H5:∀(k:Nat) {s:Nat},s<4294967296->BW k s<4294967296
 |0,_,h=>h
 |k+1,_,h=>H5 k (N8 h)
def qo(s c:Nat):Nat:=BW 8 (s^^^c)
theorem q?{s c:Nat}(h:s<4294967296)(hc:c<256):qo s c<4294967296:=H5 8 (Vz (n:=32) (by simpa using h) F5)
theorem Bfy {s c:Nat}(hc:c<256):qo s c=(s/256)^^^BW 8 ((s %256)^^^c):=by
 have h:s=(2^8*(s/256))^^^ (s %256):=by
  have h1:s %256<2^8:=by simpa using Sf s (by omega:256>0)
  have:=VU h1 (s/256);have h2:2^8*(s/256)|||s %256=(2^8*(s/256))^^^ (s %256):=by
   apply eY;intro i;rw[ZB,Nat.testBit_xor];by_cases hi:i<8
   ·have:(2^8*(s/256)).testBit i=false:=by rw[zm];simp;omega
    rw[this];simp
   ·have:(s %256).testBit i=false:=Nat.testBit_lt_two_pow (E5 h1 (IV F0 F0));rw[this];simp
  omega
 rw[qo]
 conv=>lhs;rw[h]
 rw[VD,Ats,Ajn]
def eD(s:Nat)(l:LB):Nat:=l.foldl (λs c=>qo s c.toNat) s
def Hq(b:LB):UInt32:=4294967295-UInt32.ofNat (eD 4294967295 b)
theorem Ar5(c:UInt32):Wr (Cl c (GI.toZ (1:UInt64)).toNat) (Cm (3988292384:UInt32) (Ed c (1:UInt32)))=UInt32.ofNat (nS c.toNat):=by
 apply UInt32.toNat_inj.1;have e:(GI.toZ (1:UInt64)).toNat=1:=rfl;have h1:(Cl c 1).toNat=c.toNat/2:=by rw[OH]
 have h2:(Cm (3988292384:UInt32) (Ed c (1:UInt32))).toNat=if c.toNat %2=1 then 3988292384 else 0:=by
  rw[Aor,N6,UInt32.toNat_mul,fJ]
  show 3988292384*(c.toNat&&&1) %4294967296=_;rw[nA];have:c.toNat %2=0\/c.toNat %2=1:=F0
  rcases this with h|h<;>simp[h]
 rw[e,sT,aM,h1,h2,QJ,B3 (N8 c.toNat_lt)];rfl
theorem Aeb(He:Int->LU->Option (UInt32×Int))(s:UInt32)(b:LB)(x:Int)(t:LU):∀(j i q:Nat) (c:UInt32),i+j=8->j<q->
  Ql He s b x t q c (i:Int)=BD He s b x (UInt32.ofNat (BW j c.toNat)) t
 |0,i,q+1,c,hi,_=>by
  obtain rfl:i=8:=F0
  rw[Ql,DS,A4 T5,BW,UInt32.ofNat_toNat]
 |j+1,i,q+1,c,hi,hq=>by
  rw[Ql,DS,A7 G4,Ar5,Aj,show((i:Int)+1)=((i+1:Nat):Int) by omega,Aeb He s b x t j (i+1) q _ F0 F0,QJ,B3 (N8 c.toNat_lt)];rfl
def tbl(n:Nat):LU:=(List.range n).map λi=>UInt32.ofNat (BW 8 i)
theorem tG(s:UInt32)(b:LB):∀(j i q:Nat),i+j=256->j<q->Lr s b q (i:Int) (tbl i++List.replicate j 0)=NM s b (tbl 256)
 |0,i,q+1,hi,_=>by
  obtain rfl:i=256:=F0
  rw[Lr,BS,A4 T5];simp
 |j+1,i,q+1,hi,hq=>by
  have hlen:(tbl i++List.replicate (j+1) 0).length=i+(j+1):=by simp[tbl]
  rw[Lr,BS,A7 G4,OZ];have h:=Aeb (Lr s b q) s b (i:Int) (tbl i++List.replicate (j+1) 0) 8 0 Ay (Ah (i:Int)) F0 B7;rw[show((0:Int))=((0:Nat):Int)from rfl,h,BD,Ail,Dy (by rw[hlen];omega),Aa,FR _ (by rw[hlen];omega),Aa,Agv,Aku,Aj];have e:(Ah (i:Int):UInt32).toNat=i:=by rw[Att,QJ,B3 F0]
  rw[e,V9,tI (by simp[tbl])];have h2:=tG s b j (i+1) q F0 F0;have h3:tbl (i+1)=tbl i++[UInt32.ofNat (BW 8 i)]:=by simp[tbl,Z9]
  rw[h3]at h2;rw[show((i:Int)+1)=((i+1:Nat):Int) by omega,<-h2];simp
theorem Aq4{i:Nat}(h:i<256):Af (tbl 256) (i:Int)=some (UInt32.ofNat (BW 8 i)):=by
 rw[Dy (by simpa [tbl]using h)];simp[tbl]
theorem Ami(s:UInt32)(c:UInt8):Af (tbl 256) (GI.toZ (Wr (Ah s:UInt8) c))=some (UInt32.ofNat (BW 8 ((s.toNat %256)^^^c.toNat))):=by
 have e:GI.toZ (Wr (Ah s:UInt8) c)=(((s.toNat %256)^^^c.toNat:Nat):Int):=by
  rw[PM,tL,nO,Ab7,S8]
 rw[e,Aq4];exact Vz (n:=8) F5 (by simpa using c.toNat_lt)
theorem Ahq(s:UInt32)(c:UInt8):Wr (Cl s (GI.toZ (8:UInt64)).toNat) (UInt32.ofNat (BW 8 ((s.toNat %256)^^^c.toNat)))=UInt32.ofNat (qo s.toNat c.toNat):=by
 apply UInt32.toNat_inj.1;have hlt:BW 8 ((s.toNat %256)^^^c.toNat)<4294967296:=H5 8 (Vz (n:=32) F5 (by have:=c.toNat_lt;simp;omega));have e:(GI.toZ (8:UInt64)).toNat=8:=rfl;rw[e,sT,aM,OH,QJ,QJ,B3 hlt,B3 (q? s.toNat_lt c.toNat_lt),Bfy c.toNat_lt]
theorem om(b:LB)(hb:b.length<4611686018427387904):∀(j i q:Nat) (s:UInt32),i+j=b.length->j<q->Ou b (tbl 256) q s (i:Int)=some (UInt32.ofNat (eD s.toNat (b.drop i)),0)
 |0,i,q+1,s,hi,_=>by
  rw[Ou,AZ,A4 F6,show i=b.length by omega,YU];simp[NJ,Ag3,eD]
 |j+1,i,q+1,s,hi,hq=>by
  have hlt:i<b.length:=F0
  rw[Ou,AZ,A7 F6,Dy hlt,Aa,Ami,Aa,Aa,Ahq,Aj];have h:=om b hb j (i+1) q (UInt32.ofNat (qo s.toNat b[i].toNat)) F0 F0;rw[show((i:Int)+1)=((i+1:Nat):Int) by omega,h,drop_cons hlt,QJ,B3 (q? s.toNat_lt b[i].toNat_lt)];rfl
theorem Asp(s:UInt32)(b:LB)(hb:b.length<=100000):bC s b=some (UInt32.ofNat (eD s.toNat b),0):=by
 have h:=tG s b 256 0 Ay F0 B7;have h2:=om b F0 b.length 0 Ay s F0 B7;rw[bC,UA,A4 J5,Afk];refine KU h ?_;rw[NM,NC,Aka,MH,OL];exact h2
theorem An0(a:UInt32):U8 a=4294967295-a:=by
 have h:=a.toNat_lt;have e:U8 a=UInt32.ofNat (BitVec.ofInt 32 4294967295^^^BitVec.ofInt 32 (a.toNat:Int)).toNat:=Li _;apply UInt32.toNat_inj.1;rw[e,QJ,mY _ _ (by rw[mZ];show a.toNat<=4294967295;omega)];have h1:BitVec.ofInt 32 (a.toNat:Int)=a.toBitVec:=z_ a;have h2:(BitVec.ofInt 32 4294967295:BitVec 32)=BitVec.allOnes 32:=F4
 rw[h1,h2,BitVec.allOnes_xor,fR];show(4294967296-1-a.toNat) %4294967296=4294967295-a.toNat;omega
theorem uY(b:LB)(hb:b.length<=100000):Vw b=some (Hq b,0):=by
 rw[Vw,Asp _ _ hb,Aa];simp only[Bj,An0];rfl
theorem FV:∀(w n:Nat),Jp (Uy n w)=n %256^w
 |0,n=>by simp[Uy,Jp,Nat.mod_one]
 |w+1,n=>by
  rw[Uy,Jp,FV w (n/256),S8,show(256:Nat)^(w+1)=256*256^w by rw[L8,I!],Nat.mod_mul]
def dP(b:LB):Int:=
 if b.length<5 then 24 else if 41254<b.length then 4 else if(Hq (b.take (b.length-4))).toNat≠Jp (b.drop (b.length-4))then 22 else 0
theorem Bea (b:LB):BN b=some (if dP b≠0 then([],dP b)else(b.take (b.length-4),0)):=by
 rw[BN];by_cases h1:b.length<5
 ·have hS:dP b=24:=by rw[dP,A7 h1]
  rw[A7 F6,hS];rfl
 rw[A4 F6];by_cases h2:41254<b.length
 ·have hS:dP b=4:=by rw[dP,A4 h1,A7 h2]
  rw[A7 J5,hS];rfl
 have e4:Ap (Ad b) 4=((b.length-4:Nat):Int):=by rw[Ad,Dv];omega
 have hd:(b.drop (b.length-4)).length=4:=by simp;omega
 rw[A4 J5,e4,Yb,Aa,show((b.length-4:Nat):Int).toNat=b.length-4 from rfl,uY _ F5,Aa];simp only;rw[A4 DZ,Ja,Aa,show((b.length-4:Nat):Int).toNat=b.length-4 from rfl,Aet _ F0 F0,Aa];have hne:Bg (Y0 (b.drop (b.length-4))) (Ah (Hq (b.take (b.length-4))):UInt64)=decide ((Hq (b.take (b.length-4))).toNat≠Jp (b.drop (b.length-4))):=by
  have hlt:=(Hq (b.take (b.length-4))).toNat_lt;rw[C9,N4];simp only[bne_iff_ne,ne_eq,<-YS,B2];rw[RS F0,Fo,P6,B3 F0];exact⟨λh e=>h e.symm,λh e=>h e.symm⟩
 simp only;rw[hne,Aa];by_cases h3:(Hq (b.take (b.length-4))).toNat≠Jp (b.drop (b.length-4))
 ·have hS:dP b=22:=by rw[dP,A4 h1,A4 h2,A7 h3]
  rw[A7 (by simp[h3]),hS];rfl
 ·have hS:dP b=0:=by rw[dP,A4 h1,A4 h2,A4 h3]
  rw[A4 (by rw[b? h3];decide),hS];rfl
theorem su{c:Nat}(h1:1<=c)(h6:c<=6):Ej (4000:Int) (c:Int)=((4000/c:Nat):Int):=by
 have:c=1\/c=2\/c=3\/c=4\/c=5\/c=6:=F0
 rcases this with rfl|rfl|rfl|rfl|rfl|rfl<;>rfl
theorem Apr(p:LB)(h:p.length<=41250):okB p (8*p.length):=⟨F0,F0,λk h1 h2=>by omega⟩
theorem Amr(a b:Int32):a-(a-b)=b:=by
 apply Int32.toBitVec_inj.1;simp only[Int32.toBitVec_sub];apply YN;simp only[BitVec.toNat_sub];have:=a.toBitVec.isLt;have:=b.toBitVec.isLt;omega
theorem SV(a b:Int32):a-b+b=a:=by
 apply Int32.toBitVec_inj.1;simp only[Int32.toBitVec_sub,Int32.toBitVec_add];apply YN;simp only[BitVec.toNat_sub,BitVec.toNat_add];have:=a.toBitVec.isLt;have:=b.toBitVec.isLt;omega
def mxV(f:Nat->Int32)(ch i:Nat):Int32:=if i+1<ch then f (i+1)-f i else if 1<ch then f (ch-1)-Ej (f (ch-1)-f (ch-2)) (2:Int32)else f (ch-1)
theorem uq{f g:Nat->Int32}{ch:Nat}(h1:1<=ch)(h:∀i,i<ch->f i=mxV g ch i):∀j,j<ch->unV f ch j=g (ch-1-j)
 |0,_=>by
  rw[unV];by_cases h2:1<ch
  ·rw[A7 h2,h (ch-1) F0,h (ch-2) F0,mxV,mxV,A4 F0,A7 h2,A7 F0,show ch-2+1=ch-1 by omega,SV,bU]
  ·rw[A4 h2,h (ch-1) F0,mxV,A4 F0,A4 h2,bU]
 |j+1,hj=>by
  rw[unV,uq h1 h j F0,h (ch-2-j) F0,mxV,A7 F0,show ch-2-j+1=ch-1-j by omega,Amr];congr 1;omega
def mx(ch:Nat)(x:LX):LX:=(List.range x.length).map λk=>mxV (λi=>x.getD (k-k %ch+i) 0) ch (k %ch)
theorem HQ(ch:Nat)(x:LX):(mx ch x).length=x.length:=by simp[mx]
theorem w?{ch:Nat}{x:LX}{k:Nat}(h:k<x.length):(mx ch x).getD k 0=mxV (λi=>x.getD (k-k %ch+i) 0) ch (k %ch):=by
 rw[Ya (by rw[HQ];exact h)];simp[mx]
theorem Au8{ch:Nat}{x:LX}(h1:1<=ch)(hm:x.length %ch=0):unm ch (mx ch x)=x:=by
 apply U4 (by rw[qR,HQ]);intro k hk1 hk2;have hr:=Sf k (show 0<ch by omega);have hle:=Xq k ch;have ha:(k-k %ch) %ch=0:=Nat.mod_eq_zero_of_dvd (Nat.dvd_sub_mod k);have hb:=P7 ha hm F0;have e:=E4 (m:=mx ch x) ha hr (by rw[HQ];omega);rw[show k-k %ch+k %ch=k by omega]at e;rw[<-Ya hk1,<-Ya hk2,e];rw[uq (g:=λi=>x.getD (k-k %ch+i) 0) h1 (λi hi=>?_) (ch-1-k %ch) F0]
 ·congr 1;omega
 ·rw[w? F0];have h2:(k-k %ch+i) %ch=i:=by rw[Nat.add_mod,ha,K1,cH,B3 hi]
  rw[h2,show k-k %ch+i-i=k-k %ch by omega]
def iT(x:Int32):UInt32:=UInt32.ofNat (if 0<=x.toInt then 2*x.toInt.toNat else 2*(-x.toInt-1).toNat+1)
theorem xG(x:Int32):jS (iT x)=x:=by
 have h:=I5 x;have e:(iT x).toNat=if 0<=x.toInt then 2*x.toInt.toNat else 2*(-x.toInt-1).toNat+1:=by
  rw[iT,QJ];split<;>exact B3 F0
 rw[jS,e];by_cases h0:0<=x.toInt
 ·rw[A7 h0,A7 F0,show((2*x.toInt.toNat/2:Nat):Int)=x.toInt by omega,W8]
 ·rw[A4 h0,A4 F0,show -(((2*(-x.toInt-1).toNat+1)/2:Nat):Int)-1=x.toInt by omega,W8]
theorem Ajv{α:Type}(ch c:Nat)(f g:α->Nat->α)(a0:α):∀m:Nat,(∀i,i<m->∀a,f a i=g a i)->pre ch c f a0 m=pre ch c g a0 m
 |0,_=>rfl
 |m+1,h=>by
  rw[pre,pre,Ajv ch c f g a0 m λi hi=>h i F0,h m F0]
theorem rM(bits:Int)(ch:Nat)(t:LX)(v w:LU)(c i:Nat)(h:i<=v.length):cst bits ch t (v++w) c i=cst bits ch t v c i:=by
 unfold cst;apply Ajv;intro j hj a;have:(v++w).getD j 0=v.getD j 0:=by
  rw[B4,B4,I9 F0]
 rw[this]
def C3(bits:Int)(s:CS)(x:Int32):Int32:=x-gs (shB bits) s.1-gF (sB bits) s.2.1 s.2.2
theorem Ak1(bits:Int)(s:CS)(x:Int32):U! bits s (C3 bits s x)=x:=by
 rw[U!,C3,SV,SV]
def evl(bits:Int)(ch:Nat)(t m:LX):Nat->LU
 |0=>[]
 |i+1=>evl bits ch t m i++[iT (C3 bits (cst bits ch t (evl bits ch t m i) (i %ch) i) (m.getD i 0))]
theorem lP(bits:Int)(ch:Nat)(t m:LX):∀i,(evl bits ch t m i).length=i
 |0=>rfl
 |i+1=>by rw[evl,A?,lP bits ch t m i];rfl
theorem wz(bits:Int)(ch:Nat)(t m:LX):∀(j i:Nat),∃w,evl bits ch t m (i+j)=evl bits ch t m i++w
 |0,i=>⟨[],F8⟩
 |j+1,i=>by
  obtain⟨w,hw⟩:=wz bits ch t m j i;rw[<-K7,evl,hw];exact⟨_,C0 _ _ _⟩
theorem Aqw(bits:Int)(ch:Nat)(t m:LX):smp bits ch t (evl bits ch t m m.length)=m:=by
 have hl:=lP bits ch t m m.length;apply U4 (by rw[C6,hl]);intro i h1 h2;rw[<-Ya h1,<-Ya h2,tE _ _ _ _ F0];obtain⟨w,hw⟩:=wz bits ch t m (m.length-(i+1)) (i+1);rw[show i+1+(m.length-(i+1))=m.length by omega,evl,C0]at hw;have hli:=lP bits ch t m i;rw[hw,rM _ _ _ _ _ _ _ F0];have hg:(evl bits ch t m i++([iT (C3 bits (cst bits ch t (evl bits ch t m i) (i %ch) i) (m.getD i 0))]++w)).getD i 0=iT (C3 bits (cst bits ch t (evl bits ch t m i) (i %ch) i) (m.getD i 0)):=by
  rw[B4,SF F0,hli,Nat.sub_self];rfl
 rw[hg,xG,Ak1]
theorem WE{p:Prop}(h:p:=by rw[A?];omega):p:=h
def tb(l:List Bool)(k:Nat):Nat:=if l.getD k false=true then 1 else 0
theorem tT(b:Bool)(l:List Bool):tb (b::l) 0=if b=true then 1 else 0:=rfl
theorem sO(b:Bool)(l:List Bool)(k:Nat):tb (b::l) (k+1)=tb l k:=by simp[tb]
theorem qy{a b:List Bool}{k:Nat}(h:k<a.length):tb (a++b) k=tb a k:=by
 rw[tb,tb,B4,B4,I9 h]
theorem k_(a b:List Bool)(k:Nat):tb (a++b) (a.length+k)=tb b k:=by
 rw[tb,tb,B4,B4,SF F0,YM]
theorem X_{l:List Bool}{k:Nat}(h:l.length<=k):tb l k=0:=by
 rw[tb,B4,Vx h];rfl
def At(p:LB)(a:Nat)(c:List Bool):Prop:=∀i,i<c.length->Nj p (a+i)=tb c i
theorem At.left{p:LB}{a:Nat}{c d:List Bool}(h:At p a (c++d)):At p a c:=λi hi=>by
 rw[h i WE,qy hi]
theorem At.right{p:LB}{a:Nat}{c d:List Bool}(h:At p a (c++d)):At p (a+c.length) d:=λi hi=>by
 rw[K7,h (c.length+i) WE,k_]
theorem At.cons{p:LB}{a:Nat}{b:Bool}{c:List Bool}(h:At p a (b::c)):Nj p a=(if b=true then 1 else 0)/\At p (a+1) c:=by
 have h0:=h 0 F8;rw[SJ,tT]at h0;refine⟨h0,λi hi=>?_⟩;have:=h (i+1) F5;rw[sO]at this;rw[show a+1+i=a+(i+1) by omega,this]
def eK:Nat->Nat->List Bool
 |_,0=>[]
 |v,n+1=>decide (v %2=1)::eK (v/2) n
theorem Qf:∀(v n:Nat),(eK v n).length=n
 |_,0=>rfl
 |v,n+1=>by rw[eK,B6,Qf (v/2) n]
theorem ES(p:LB):∀(n a v:Nat),At p a (eK v n)->Da p a n=v %2^n
 |0,a,v,_=>by rw[Da,Nat.pow_zero,Nat.mod_one]
 |n+1,a,v,h=>by
  rw[eK]at h;obtain⟨h0,h1⟩:=h.cons;rw[Da,h0,ES p n (a+1) (v/2) h1,L8,I! (2^n) 2,Nat.mod_mul];have:=Nat.mod_two_eq_zero_or_one v;rcases this with e|e<;>simp[e]
theorem J7(p:LB):∀(q m a:Nat) (c:List Bool),At p a (List.replicate q true++c)->q<=m->Ki p a m=q+Ki p (a+q) (m-q)
 |0,m,a,c,h,hm=>by simp
 |q+1,m,a,c,h,hm=>by
  rw[V9,SU]at h;obtain⟨h0,h1⟩:=h.cons;obtain⟨m,rfl⟩:∃k,m=k+1:=⟨m-1,F0⟩;rw[Ki,A7 (by rw[h0];rfl),J7 p q m (a+1) c h1 F0,show a+1+q=a+(q+1) by omega,show m+1-(q+1)=m-q by omega];omega
theorem Apf{p:LB}{a m:Nat}(h:Nj p a=0):Ki p a m=0:=by
 cases m with
 |zero=>rfl
 |succ m=>rw[Ki,A4 F0]
def MV(l v:Nat):List Bool:=if 48<=v/2^l then List.replicate 48 true++eK v 32 else List.replicate (v/2^l) true++(false::eK (v %2^l) l)
theorem Ajb{l v:Nat}(hl:l<=24):1<= (MV l v).length/\ (MV l v).length<=80:=by
 rw[MV];generalize v/2^l=q;split
 ·rw[A?,S6,Qf];omega
 ·rw[A?,S6,B6,Qf];omega
theorem Ah8{p:LB}{N a l v:Nat}(hl:l<=24)(hv:v<2^32)(h:At p a (MV l v))(hN:a+(MV l v).length<=N):tA p N a l=(UInt32.ofNat v,((a+(MV l v).length:Nat):Int),0):=by
 rw[MV]at h hN⊢;by_cases h48:48<=v/2^l
 ·rw[A7 h48]at h hN⊢;rw[A?,S6,Qf]at hN⊢;have hm:min 48 (N-a)=48:=F0
  have ho:=J7 p 48 48 a (eK v 32) h (C4 _);rw[Nat.sub_self,Ki,SJ]at ho;have hr:=h.right;rw[S6]at hr;have hval:=ES p 32 (a+48) v hr;rw[B3 hv]at hval;rw[tA,A4 F0,hm,ho,A4 F0,A7 rfl,A4 F0,hval,A4 F0]
 ·rw[A4 h48]at h hN⊢;rw[A?,S6,B6,Qf]at hN⊢;generalize hq:v/2^l=q at*
  have hr:=h.right;rw[S6]at hr;obtain⟨h0,h1⟩:=hr.cons;have hm:q<min 48 (N-a):=F0
  have ho:=J7 p q (min 48 (N-a)) a _ h F0;rw[Apf (a:=a+q) (m:=min 48 (N-a)-q) (by rw[h0];rfl),SJ]at ho;have hval:=ES p l (a+q+1) (v %2^l) h1;rw[cH]at hval;have hdm:=X! v (2^l);rw[hq,I!]at hdm;rw[tA,A4 F0,ho,A7 hm,A4 F0,hval,hdm,show a+q+1+l=a+(q+(l+1)) by omega]
def Og(k l:Nat)(v:UInt32):List Bool:=if v.toNat<2^k then false::eK v.toNat k else true::MV l (v.toNat-2^k)
theorem WQ{k l:Nat}(v:UInt32)(hk:k<=24)(hl:l<=24):1<= (Og k l v).length/\ (Og k l v).length<=81:=by
 have:=Ajb (v:=v.toNat-2^k) hl;rw[Og];split
 ·rw[B6,Qf];omega
 ·rw[B6];omega
theorem Ago{p:LB}{N a k l:Nat}{v:UInt32}(hk:k<=24)(hl:l<=24)(h:At p a (Og k l v))(hN:a+(Og k l v).length<=N):rT p N a k l=(v,((a+(Og k l v).length:Nat):Int),0):=by
 have Bel:=v.toNat_lt;have hof:UInt32.ofNat v.toNat=v:=by simp
 rw[Og]at h hN⊢;by_cases hs:v.toNat<2^k
 ·rw[A7 hs]at h hN⊢;rw[B6,Qf]at hN⊢;obtain⟨h0,h1⟩:=h.cons;have hval:=ES p k (a+1) v.toNat h1;rw[B3 hs]at hval;rw[rT,A4 F0,A7 (by rw[h0];rfl),A4 F0,hval,hof,show a+1+k=a+(k+1) by omega]
 ·rw[A4 hs]at h hN⊢;rw[B6]at hN⊢;obtain⟨h0,h1⟩:=h.cons;have hsub:=Nat.sub_le v.toNat (2^k);have hr:=Ah8 hl (by omega:v.toNat-2^k<2^32) h1 (by omega:a+1+_<=N);have ht:(UInt32.ofNat (v.toNat-2^k)).toNat=v.toNat-2^k:=by rw[QJ];exact B3 F0
  rw[rT,A4 F0,A4 (by rw[h0];decide),hr];simp only;rw[A4 F4,ht,A4 F0,show v.toNat-2^k+2^k=v.toNat by omega,hof,show a+1+(MV l (v.toNat-2^k)).length=a+((MV l (v.toNat-2^k)).length+1) by omega]
def bv:List Bool->Nat
 |[]=>0
 |b::r=>(if b=true then 1 else 0)+2*bv r
theorem y?:∀l:List Bool,bv l<2^l.length
 |[]=>by decide
 |b::r=>by
  have:=y? r;rw[bv,B6,L8];split<;>omega
theorem wK:∀(l:List Bool) (k:Nat),bv l/2^k %2=tb l k
 |[],k=>by simp[bv,tb]
 |b::r,0=>by
  rw[bv,tT,Nat.pow_zero,Nat.div_one];split<;>omega
 |b::r,k+1=>by
  have:((if b=true then 1 else 0)+2*bv r)/2=bv r:=by split<;>omega
  rw[bv,sO,L8,I! (2^k) 2,<-eQ,this,wK r k]
def Jg(c:List Bool):LB:=(List.range ((c.length+7)/8)).map λj=>UInt8.ofNat (bv ((c.drop (8*j)).take 8))
theorem Te(c:List Bool):(Jg c).length=(c.length+7)/8:=by simp[Jg]
theorem AH(c:List Bool)(i:Nat):Nj (Jg c) i=tb c i:=by
 rw[Nj];by_cases h:i/8<(c.length+7)/8
 ·have hg:(Jg c).getD (i/8) 0=UInt8.ofNat (bv ((c.drop (8*(i/8))).take 8)):=by
   rw[B4,C? (by rw[Te];exact h)];simp[Jg]
  have hlt:=y? ((c.drop (8*(i/8))).take 8);have hl8:((c.drop (8*(i/8))).take 8).length<=8:=by rw[HH];omega
  have hp:=IV (show 0<2 by omega) hl8;have hn:(UInt8.ofNat (bv ((c.drop (8*(i/8))).take 8))).toNat=bv ((c.drop (8*(i/8))).take 8):=by
   rw[S8];exact B3 F0
  rw[hg,hn,wK,tb,tb];have:((c.drop (8*(i/8))).take 8).getD (i %8) false=c.getD i false:=by
   rw[B4,B4,SI,A7 F0,VA,show 8*(i/8)+i %8=i by omega]
  rw[this]
 ·have hg:(Jg c).getD (i/8) 0=0:=by
   rw[B4,Vx (by rw[Te];omega)];rfl
  rw[hg,X_ F0];simp
def Mm(ch:Nat)(V:LU):Nat->List Bool
 |0=>[]
 |i+1=>Mm ch V i++Og (now ch (V.take i)).1 (now ch (V.take i)).2.1 (V.getD i 0)
theorem D'(ch:Nat)(v:LU):(now ch v).1<=24/\ (now ch v).2.1<=24:=by
 have:=G9 ch v (v.length %ch) v.length;exact⟨this.1,this.2.1⟩
theorem Atz(ch:Nat)(V:LU):∀(j i:Nat),∃w,Mm ch V (i+j)=Mm ch V i++w
 |0,i=>⟨[],F8⟩
 |j+1,i=>by
  obtain⟨w,hw⟩:=Atz ch V j i;rw[<-K7,Mm,hw];exact⟨_,C0 _ _ _⟩
theorem VX(ch:Nat)(V:LU):∀i,(Mm ch V i).length<=81*i
 |0=>by simp[Mm]
 |i+1=>by
  have h:=D' ch (V.take i);have:=WQ (V.getD i 0) h.1 h.2;rw[Mm,A?];have:=VX ch V i;omega
theorem At7(ch:Nat)(V:LU)(N:Nat)(hN:(Mm ch V V.length).length<=N):∀(j i:Nat),i+j=V.length->tX ch (Jg (Mm ch V V.length)) N j (Mm ch V i).length (V.take i)=(V,(Mm ch V V.length).length,0)
 |0,i,h=>by
  obtain rfl:i=V.length:=F0
  rw[tX,NI]
 |j+1,i,h=>by
  obtain⟨w,hw⟩:=Atz ch V j (i+1);rw[show i+1+j=V.length by omega]at hw;have hk:=D' ch (V.take i);have hcl:=WQ (V.getD i 0) hk.1 hk.2;have hAt:At (Jg (Mm ch V V.length)) (Mm ch V i).length (Og (now ch (V.take i)).1 (now ch (V.take i)).2.1 (V.getD i 0)):=by
   intro m hm;rw[AH,hw,Mm,C0,k_,qy hm]
  have hlen:(Mm ch V i).length+(Og (now ch (V.take i)).1 (now ch (V.take i)).2.1 (V.getD i 0)).length<= (Mm ch V V.length).length:=by
   rw[hw,Mm,A?,A?];omega
  have ih:=At7 ch V N hN j (i+1) F0;rw[Mm,A?]at ih;generalize Jg (Mm ch V V.length)=p at*
  generalize(Mm ch V i).length=a at*
  have hw2:(Og (now ch (V.take i)).1 (now ch (V.take i)).2.1 (V.getD i 0)).length<=win N a:=by unfold win;omega
  have hAt2:At (Tk p a (win N a)) 0 (Og (now ch (V.take i)).1 (now ch (V.take i)).2.1 (V.getD i 0)):=by
   intro m hm;rw[K1,tY,A7 F0,hAt m hm]
  have hb:=Ago hk.1 hk.2 hAt2 (by omega:0+_<=win N a);have hcode:Uu ch p N a (V.take i)=(V.getD i 0,((0+(Og (now ch (V.take i)).1 (now ch (V.take i)).2.1 (V.getD i 0)).length:Nat):Int),0):=hb;rw[tX,hcode];simp only;rw[A4 F4,K1,C'];have ht:V.take i++[V.getD i 0]=V.take (i+1):=by
   have hg:V.getD i 0=V[i]:=by rw[B4,C? F0];rfl
   rw[hg,Gb F0]
  rw[ht];exact ih
def P64:Nat:=4823603603198064275
def PG(s:Nat):Nat:=(2*s %18446744073709551616)^^^ (s/9223372036854775808*P64)
theorem XD{s:Nat}(h:s<18446744073709551616):PG s<18446744073709551616:=by
 have h1:s/9223372036854775808=0\/s/9223372036854775808=1:=F0
 exact Vz (n:=64) (Sf _ F4) (by rcases h1 with e|e<;>rw[e]<;>decide)
theorem As9(x y:Nat):(x^^^y)/9223372036854775808=(x/9223372036854775808)^^^ (y/9223372036854775808):=by
 have:=zQ (a:=x) (b:=y) (i:=63);simpa [zT]using this
theorem Ar9(x y:Nat):2*(x^^^y) %18446744073709551616=(2*x %18446744073709551616)^^^ (2*y %18446744073709551616):=by
 have h1:=zU (a:=x) (b:=y) (i:=1);have h2:=Nat.xor_mod_two_pow (a:=2*x) (b:=2*y) (n:=64);have e:2*(x^^^y)=(2*x)^^^ (2*y):=by simpa [Nat.shiftLeft_eq,I!]using h1
 rw[e];exact h2
theorem Aq1{a b:Nat}(ha:a=0\/a=1)(hb:b=0\/b=1)(p:Nat):(a^^^b)*p=(a*p)^^^ (b*p):=by
 rcases ha with rfl|rfl<;>rcases hb with rfl|rfl<;>simp
theorem Bap(a b c d:Nat):(a^^^b)^^^ (c^^^d)=(a^^^c)^^^ (b^^^d):=by
 rw[VD,VD,<-VD b c d,cC b c,VD c b d]
theorem Ab1{x y:Nat}(hx:x<18446744073709551616)(hy:y<18446744073709551616):PG (x^^^y)=PG x^^^PG y:=by
 rw[PG,PG,PG,Ar9,As9,Aq1 F0 F0,Bap]
def Ri:Nat->Nat->Nat
 |0,s=>s
 |k+1,s=>Ri k (PG s)
theorem vE:∀(k:Nat) {s:Nat},s<18446744073709551616->Ri k s<18446744073709551616
 |0,_,h=>h
 |k+1,_,h=>vE k (XD h)
theorem P9:∀(k:Nat) {x y:Nat},x<18446744073709551616->y<18446744073709551616->Ri k (x^^^y)=Ri k x^^^Ri k y
 |0,_,_,_,_=>rfl
 |k+1,x,y,hx,hy=>by rw[Ri,Ab1 hx hy,P9 k (XD hx) (XD hy)];rfl
theorem Aay:∀(k h:Nat),2^k*h<18446744073709551616->Ri k h=2^k*h
 |0,h,_=>by simp[Ri]
 |k+1,h,hl=>by
  have hpos:0<2^k:=U7 F0;rw[L8,N9]at hl;have h2:2*h<18446744073709551616:=fA (Nat.le_mul_of_pos_left _ hpos) hl;have:PG h=2*h:=by rw[PG,B3 h2,show h/9223372036854775808=0 by omega];simp
  rw[Ri,this,Aay k _ hl,L8,N9]
def vJ(s c:Nat):Nat:=Ri 8 (s^^^ (c*72057594037927936))
theorem c56{c:Nat}(hc:c<256):c*72057594037927936<18446744073709551616:=F0
theorem Anz{s c:Nat}(h:s<18446744073709551616)(hc:c<256):vJ s c<18446744073709551616:=vE 8 (Vz (n:=64) h (c56 hc))
theorem Aqq(s:Nat):s=(s/72057594037927936*72057594037927936)^^^ (s %72057594037927936):=by
 have h1:s %72057594037927936<2^56:=Sf _ F4;have:=VU h1 (s/72057594037927936);have h2:2^56*(s/72057594037927936)|||s %72057594037927936=(2^56*(s/72057594037927936))^^^ (s %72057594037927936):=by
  apply eY;intro i;rw[ZB,Nat.testBit_xor];by_cases hi:i<56
  ·have:(2^56*(s/72057594037927936)).testBit i=false:=by rw[zm];simp;omega
   rw[this];simp
  ·have:(s %72057594037927936).testBit i=false:=Nat.testBit_lt_two_pow (E5 h1 (IV F0 F0));rw[this];simp
 rw[I! (s/72057594037927936)]
 show s=(2^56*(s/72057594037927936))^^^ _;rw[<-h2,<-this];have:=X! s 72057594037927936
 show s=72057594037927936*_+_;omega
theorem Ahh(a c:Nat):(a^^^c)*72057594037927936=(a*72057594037927936)^^^ (c*72057594037927936):=by
 have h1:=zU (a:=a) (b:=c) (i:=56);simpa [Nat.shiftLeft_eq]using h1
theorem Bgb{s c:Nat}(h:s<18446744073709551616)(hc:c<256):vJ s c=(256*s %18446744073709551616)^^^Ri 8 (((s/72057594037927936)^^^c)*72057594037927936):=by
 have hs:s/72057594037927936<2^8:=by show _<256;omega
 have hx:(s/72057594037927936)^^^c<256:=Vz (n:=8) hs (by simpa using hc);have hl:s %72057594037927936<72057594037927936:=Sf _ F4;rw[vJ]
 conv=>lhs;rw[Aqq s]
 rw[cC (s/72057594037927936*72057594037927936),VD,<-Ahh,P9 8 F0 (c56 hx),Aay 8 _ (by show 256*_<_;omega)];congr 1
 show 256*(s %72057594037927936)=_;omega
def jJ(s:Nat)(l:LB):Nat:=l.foldl (λs c=>vJ s c.toNat) s
theorem YA{n:Nat}(h:n<18446744073709551616):(UInt64.ofNat n).toNat=n:=by rw[P6];exact B3 h
def GV(b:LB):UInt64:=UInt64.ofNat (jJ 0 b)
theorem Abn(c:UInt64):Wr (Dp c (GI.toZ (1:UInt64)).toNat) (Cm (4823603603198064275:UInt64) (Cl c (GI.toZ (63:UInt64)).toNat))=UInt64.ofNat (PG c.toNat):=by
 have hc:=c.toNat_lt;apply UInt64.toNat_inj.1;have h1:(Dp c (GI.toZ (1:UInt64)).toNat).toNat=2*c.toNat %18446744073709551616:=by
  rw[show(GI.toZ (1:UInt64)).toNat=1 from rfl,OI,I!]
 have h2:(Cm (4823603603198064275:UInt64) (Cl c (GI.toZ (63:UInt64)).toNat)).toNat=c.toNat/9223372036854775808*P64:=by
  rw[show(GI.toZ (63:UInt64)).toNat=63 from rfl,E6,UInt64.toNat_mul,CE]
  show 4823603603198064275*(c.toNat/9223372036854775808) %18446744073709551616=_;have h1:c.toNat/9223372036854775808=0\/c.toNat/9223372036854775808=1:=F0
  rcases h1 with e|e<;>rw[e]<;>decide
 rw[Aed,ni,h1,h2,YA (XD hc)];rfl
theorem Aub(He:Int->LQ->Option (UInt64×Int))(s:UInt64)(b:LB)(x:Int)(t:LQ):∀(j i q:Nat) (c:UInt64),i+j=8->j<q->
  Oz He s b x t q c (i:Int)=DI He s b x (UInt64.ofNat (Ri j c.toNat)) t
 |0,i,q+1,c,hi,_=>by
  obtain rfl:i=8:=F0
  rw[Oz,DM,A4 T5,Ri,UInt64.ofNat_toNat]
 |j+1,i,q+1,c,hi,hq=>by
  rw[Oz,DM,A7 G4,Abn,Aj,show((i:Int)+1)=((i+1:Nat):Int) by omega,Aub He s b x t j (i+1) q _ F0 F0,YA (XD c.toNat_lt)];rfl
def RJ(n:Nat):LQ:=(List.range n).map λi=>UInt64.ofNat (Ri 8 (i*72057594037927936))
theorem H8(s:UInt64)(b:LB):∀(j i q:Nat),i+j=256->j<q->Lt s b q (i:Int) (RJ i++List.replicate j 0)=OB s b (RJ 256)
 |0,i,q+1,hi,_=>by
  obtain rfl:i=256:=F0
  rw[Lt,BF,A4 T5];simp
 |j+1,i,q+1,hi,hq=>by
  have hlen:(RJ i++List.replicate (j+1) 0).length=i+(j+1):=by simp[RJ]
  rw[Lt,BF,A7 G4,NP];have h:=Aub (Lt s b q) s b (i:Int) (RJ i++List.replicate (j+1) 0) 8 0 Ay (Dp (Ah (i:Int):UInt64) (GI.toZ (56:UInt64)).toNat) F0 B7;rw[show((0:Int))=((0:Nat):Int)from rfl,h,DI,Akl,Dy (by rw[hlen];omega),Aa,FR _ (by rw[hlen];omega),Aa,Afq,Ag2,Aj];have e:(Dp (Ah (i:Int):UInt64) (GI.toZ (56:UInt64)).toNat).toNat=i*72057594037927936:=by
   rw[OI,KY,YA F0]
   show i*72057594037927936 %18446744073709551616=_;omega
  rw[e,V9,tI (by simp[RJ])];have h2:=H8 s b j (i+1) q F0 F0;have h3:RJ (i+1)=RJ i++[UInt64.ofNat (Ri 8 (i*72057594037927936))]:=by simp[RJ,Z9]
  rw[h3]at h2;rw[show((i:Int)+1)=((i+1:Nat):Int) by omega,<-h2];simp
theorem Ah1{i:Nat}(h:i<256):Af (RJ 256) (i:Int)=some (UInt64.ofNat (Ri 8 (i*72057594037927936))):=by
 rw[Dy (by simpa [RJ]using h)];simp[RJ]
theorem Bgo (s:UInt64)(c:UInt8):Af (RJ 256) (GI.toZ (Wr (Ah (Cl s (GI.toZ (56:UInt64)).toNat):UInt8) c))=some (UInt64.ofNat (Ri 8 (((s.toNat/72057594037927936)^^^c.toNat)*72057594037927936))):=by
 have hs:=s.toNat_lt;have e:GI.toZ (Wr (Ah (Cl s (GI.toZ (56:UInt64)).toNat):UInt8) c)=(((s.toNat/72057594037927936)^^^c.toNat:Nat):Int):=by
  have e2:((Ah (Cl s (GI.toZ (56:UInt64)).toNat):UInt8)).toNat=s.toNat/72057594037927936:=by
   rw[bJ,S8,CE]
   show s.toNat/72057594037927936 %256=_;omega
  rw[PM,tL,nO,e2]
 rw[e,Ah1];exact Vz (n:=8) (by show _<256;omega) (by simpa using c.toNat_lt)
theorem Ayh(s:UInt64)(c:UInt8):Wr (Dp s (GI.toZ (8:UInt64)).toNat) (UInt64.ofNat (Ri 8 (((s.toNat/72057594037927936)^^^c.toNat)*72057594037927936)))=UInt64.ofNat (vJ s.toNat c.toNat):=by
 have hs:=s.toNat_lt;have hc:c.toNat<256:=by simpa using c.toNat_lt
 apply UInt64.toNat_inj.1;have hlt:Ri 8 (((s.toNat/72057594037927936)^^^c.toNat)*72057594037927936)<18446744073709551616:=vE 8 (c56 (Vz (n:=8) (by show _<256;omega) (by simpa using c.toNat_lt)));have e:(GI.toZ (8:UInt64)).toNat=8:=rfl;rw[e,Aed,ni,OI,YA hlt,YA (Anz hs hc),Bgb hs hc,I! s.toNat]
theorem Auf(b:LB)(s0:UInt64)(hb:b.length<4611686018427387904):∀(j i q:Nat) (s:UInt64),i+j=b.length->j<q->Ps b s0 (RJ 256) q s (i:Int)=some (UInt64.ofNat (jJ s.toNat (b.drop i)),0)
 |0,i,q+1,s,hi,_=>by
  rw[Ps,CZ,A4 F6,show i=b.length by omega,YU];simp[MW,Aje,Afz,Aiz,jJ]
 |j+1,i,q+1,s,hi,hq=>by
  have hlt:i<b.length:=F0
  have hc:=b[i].toNat_lt;rw[Ps,CZ,A7 F6,Dy hlt,Aa,Bgo,Aa,Aa,Ayh,Aj];have h:=Auf b s0 hb j (i+1) q (UInt64.ofNat (vJ s.toNat b[i].toNat)) F0 F0;rw[show((i:Int)+1)=((i+1:Nat):Int) by omega,h,drop_cons hlt,YA (Anz s.toNat_lt (by simpa using hc))];rfl
theorem oo(b:LB)(hb:b.length<=100000):YT b=some (GV b,0):=by
 have h:=H8 0 b 256 0 Ay F0 B7;have h2:=Auf b 0 F0 b.length 0 Ay 0 F0 B7;have hn:cS 0 b=some (GV b,0):=by
  rw[cS,UB,A4 J5,Aja];refine KU h ?_;rw[OB,MO,MS];exact h2
 rw[YT,hn,Aa]
theorem Ao1(p:LB)(hp:p.length<=64):BL p=some (Uy (GV p).toNat 8,0):=by
 rw[BL,xM,A4 J5,oo p F0,Aa,Aa];simp only;have h:=OD (GV p) 8 F0 F0 (by simpa using(GV p).toNat_lt);rw[A4 DZ];exact congrArg (λo=>Option.bind o λx:LB×Int=>some (x.1,x.2)) h
def s8(n:Nat):Int32:=Int32.ofInt (if n<128 then(n:Int)else(n:Int)-256)
def qY(d:UInt64)(n:Nat):LX:=(List.range n).map λi=>s8 (d.toNat/256^i %256)
theorem wU(d:UInt64)(n:Nat):(qY d n).length=n:=by simp[qY]
theorem Ace(d:UInt64)(n:Nat):qY d (n+1)=qY d n++[s8 (d.toNat/256^n %256)]:=by simp[qY,Z9]
theorem bm8(z:Nat):(z:Int).bmod Int8.size=if z %256<128 then((z %256:Nat):Int)else((z %256:Nat):Int)-256:=by
 rw[show Int8.size=256 from rfl,bO];split<;>split<;>omega
theorem qj(d:UInt64):∀(j i q:Nat),i+j=8->j<q->FI d q (i:Int) (qY d i++List.replicate (16-i) 0)=some (qY d 8++List.replicate 8 0)
 |0,i,q+1,hi,_=>by
  obtain rfl:i=8:=F0
  rw[FI,dE,A4 T5];rfl
 |j+1,i,q+1,hi,hq=>by
  have hlen:(qY d i++List.replicate (16-i) 0).length=16:=by simp[wU];omega
  have ih:=qj d j (i+1) q F0 F0;have e8:Cm (8:Int) (i:Int)=((8*i:Nat):Int):=by rw[Gk];omega
  have ev:(Ah (Ah (Cl d (GI.toZ (((8*i:Nat):Int))).toNat):Int8):Int32)=s8 (d.toNat/256^i %256):=by
   have e1:(Cl d (GI.toZ (((8*i:Nat):Int))).toNat).toNat=d.toNat/256^i:=by
    rw[show(GI.toZ (((8*i:Nat):Int))).toNat=8*i from rfl,CE,gK]
   show Int32.ofInt (Int8.ofInt ((Cl d (GI.toZ (((8*i:Nat):Int))).toNat).toNat:Int)).toInt=_;rw[e1,s8,Int8.toInt_ofInt,bm8]
  rw[FI,dE,A7 G4,e8,Bt T4,Aa,ev,Dy,Aa,FR _ F0,Aa,Aj,show 16-i=(15-i)+1 by omega,V9,tI (wU d i)];rw[Ace,show 16-(i+1)=15-i by omega,C0]at ih;exact ih
def Ud(p:LB):LX:=qY (GV p) 8++List.replicate 8 0
theorem pY(p:LB):(Ud p).length=16:=by simp[Ud,wU]
theorem WN(p:LB)(hp:p.length<=64):Mv p=some (Ud p,0):=by
 have h:=qj (GV p) 8 0 Ay F0 B7;have h2:zu (GV p)=some (Ud p):=h;rw[Mv,A4 J5,oo p F0,Aa];simp only;rw[A4 DZ,h2,Aa]
def u8(z:Int):UInt8:=UInt8.ofNat (z %256).toNat
def wB(bits:Int):Nat:=if bits=8 then 1 else if bits=16 then 2 else 3
theorem gX{bits:Int}(h:Cy bits):Ej bits 8=(wB bits:Int):=by obtain rfl|rfl|rfl:=h<;>rfl
theorem nX(bits:Int):1<=wB bits/\wB bits<=3:=by
 unfold wB;split; · omega
 ·split<;>omega
def XL(bits:Int)(x:Int):LB:=if bits=8 then [u8 (x+128)]else if bits=16 then [u8 x,u8 (x/256)]else [u8 x,u8 (x/256),u8 (x/65536)]
theorem Am9(bits x:Int):(XL bits x).length<=3:=by
 unfold XL;split; · simp
 ·split<;>simp
theorem Al3(x:Int32)(k:Nat)(hk:k<=32):(Ah (Cl x k):UInt8)=u8 (x.toInt.fdiv (2^k)):=by
 have h:=I5 x;have e:Cl x k=Int32.ofInt (x.toInt.fdiv (2^k)):=by
  show Int32.ofInt (x.toInt.fdiv (2^min k 32))=_;rw[T! hk]
 have hb: -2147483648<=x.toInt.fdiv (2^k)/\x.toInt.fdiv (2^k)<2147483648:=by
  have hpos:(0:Int)<2^k:=ZF F0;rw[T9 _ F0];constructor
  ·refine(Int.le_ediv_iff_mul_le hpos).2 ?_;have:(1:Int)<=2^k:=F0
   have h2: -2147483648*(2^k:Int)<= -2147483648*1:=Int.mul_le_mul_of_nonpos_left F0 this;omega
  ·refine Int.ediv_lt_of_lt_mul hpos ?_;have:(1:Int)<=2^k:=F0
   have h2:(2147483648:Int)*1<=2147483648*2^k:=m? this F0;omega
 show UInt8.ofNat ((Cl x k).toInt %256).toNat=_;rw[e,XX,eV (by show -(4294967296/2:Int)<= _;omega) (by show _<(4294967296+1)/2;omega)];rfl
section
variable (bk:Int->LB->Option (LB×Int)) (l:LX)
theorem D5{bits:Int}(h:Cy bits)(c:Int32)(x:Int)(i q:Nat)(acc:LB)(hi:i<wB bits)(ha:acc.length<=100000):
  Il bk bits l c x (q+1) (i:Int) acc=Il bk bits l c x q ((i+1:Nat):Int) (acc++[u8 (c.toInt.fdiv (2^(8*i)))]):=by
 have hw:=nX bits;have e8:Cm (8:Int) (i:Int)=((8*i:Nat):Int):=by rw[Gk];omega
 rw[Il,Xz,gX h,A7 G4,e8,Bt T4,Aa,show(GI.toZ (((8*i:Nat):Int))).toNat=8*i from rfl,Al3 _ _ F0,Bi F5,Aa,Aj];rfl
theorem hU{bits:Int}(h:Cy bits)(c:Int32)(x:Int)(q:Nat)(acc:LB):Il bk bits l c x (q+1) ((wB bits:Nat):Int) acc=bk (Ae x 1) acc:=by
 rw[Il,Xz,gX h,A4 T5,JA,Aep]
theorem Avn{bits:Int}(h:Cy bits)(c:Int32)(x:Int)(acc:LB)(ha:acc.length<=90000)(hr: -(hB bits)<=c.toInt/\c.toInt<hB bits):
  Mt bk bits l x acc (if bits=8 then Ae c (128:Int32)else c)=bk (Ae x 1) (acc++XL bits c.toInt):=by
 have e:Ay=(Ay-4)+1+1+1+1:=by have:=Bc;omega
 have hc:=I5 c;rw[Mt,HL,IE,e];have g0:=λ(c:Int32) q acc ha=>D5 bk l h c x 0 q acc (by have:=nX bits;omega) ha;obtain rfl|rfl|rfl:=h
 ·have hh:hB 8=128:=rfl;rw[hh]at hr;have e1:(Ae c (128:Int32)).toInt=c.toInt+128:=by
   show(Int32.ofInt (c.toInt+(128:Int32).toInt)).toInt=_;rw[show(128:Int32).toInt=128 from rfl,XX,eV (by show -(4294967296/2:Int)<= _;omega) (by show _<(4294967296+1)/2;omega)]
  have g1:=hU bk l (bits:=8) (.inl rfl) (Ae c (128:Int32)) x (Ay-4+1+1);rw[A7 rfl,show(0:Int)=((0:Nat):Int)from rfl,g0 _ _ _ F0];refine KU (g1 _) ?_;rw[e1,XL,A7 rfl]
  show bk _ (acc++[u8 ((c.toInt+128).fdiv 1)])=_;rw[Int.fdiv_one]
 ·have g1:=λq acc ha=>D5 bk l (bits:=16) (.inr (.inl rfl)) c x 1 q acc F4 ha;have g2:=hU bk l (bits:=16) (.inr (.inl rfl)) c x (Ay-4+1);rw[A4 F4,show(0:Int)=((0:Nat):Int)from rfl,g0 _ _ _ F0,g1 _ _ F5];refine KU (g2 _) ?_;rw[XL,A4 F4,A7 rfl,C0]
  show bk _ (acc++[u8 (c.toInt.fdiv 1),u8 (c.toInt.fdiv 256)])=_;rw[Int.fdiv_one,T9 _ F0]
 ·have g1:=λq acc ha=>D5 bk l (bits:=24) (.inr (.inr rfl)) c x 1 q acc F4 ha;have g2:=λq acc ha=>D5 bk l (bits:=24) (.inr (.inr rfl)) c x 2 q acc F4 ha;have g3:=hU bk l (bits:=24) (.inr (.inr rfl)) c x (Ay-4);rw[A4 F4,show(0:Int)=((0:Nat):Int)from rfl,g0 _ _ _ F0,g1 _ _ F5,g2 _ _ F5];refine KU (g3 _) ?_;rw[XL,A4 F4,A4 F4,C0,C0]
  show bk _ (acc++[u8 (c.toInt.fdiv 1),u8 (c.toInt.fdiv 256),u8 (c.toInt.fdiv 65536)])=_;rw[Int.fdiv_one,T9 _ F0,T9 _ F0]
end
def By(bits:Int)(l:LX):LB:=l.flatMap λx=>XL bits x.toInt
theorem bR(bits:Int):∀l:LX,(By bits l).length<=3*l.length
 |[]=>by simp[By]
 |x::l=>by
  have h1:=bR bits l;have h2:=Am9 bits x.toInt;simp only[By,eW,A?,B6]at*
  omega
def Z5(bits:Int)(l:LX):Prop:=∀x∈l, -(hB bits)<=x.toInt/\x.toInt<hB bits
theorem ql{bits:Int}(h:Cy bits)(l:LX)(hl:l.length<=4000)(hr:Z5 bits l):∀(j i q:Nat),i+j=l.length->j<q->Ft bits l q (i:Int) (By bits (l.take i))=some (By bits l,0)
 |0,i,q+1,hi,_=>by
  rw[Ft,Xx,A4 F6,J0 F0];rfl
 |j+1,i,q+1,hi,hq=>by
  have hlt:i<l.length:=F0
  have ih:=ql h l hl hr j (i+1) q F0 F0;have hlen:=bR bits (l.take i);have hx:=hr l[i] (N5 _);have h1:=Avn (Ft bits l q) l h l[i] (i:Int) (By bits (l.take i)) (by rw[HH]at hlen;omega) hx;rw[Ft,Xx,A7 F6,Dy hlt,Aa];have e:(if(geq bits (8:Int))=true then Mt (Ft bits l q) bits l (i:Int) (By bits (l.take i)) (Ae l[i] (128:Int32))else Mt (Ft bits l q) bits l (i:Int) (By bits (l.take i)) l[i])=Mt (Ft bits l q) bits l (i:Int) (By bits (l.take i)) (if bits=8 then Ae l[i] (128:Int32)else l[i]):=by
   by_cases h8:bits=8
   ·rw[A7 (by rw[Dh];simpa using h8),A7 h8]
   ·rw[A4 (by rw[Dh];simpa using h8),A4 h8]
  rw[e,h1,Aj];rw[Gb hlt]at ih;have e2:By bits (l.take i++[l[i]])=By bits (l.take i)++XL bits l[i].toInt:=by unfold By;rw[n?,List.flatMap_singleton]
  rw[e2]at ih;exact ih
theorem Ao4{bits:Int}(h:Cy bits){l:LX}(hl:l.length<=4000)(hc:Bo bits l=some 0):Z5 bits l:=by
 have hh:=iC bits;have key:∀(j i q:Nat),i+j=l.length->j<q->Bl l (hB bits) q (i:Int)=some 0->∀k,i<=k-> (hk:k<l.length)-> -(hB bits)<=l[k].toInt/\l[k].toInt<hB bits:=by
  intro j
  induction j with
  |zero=>intro i q hi hq _ k h1 h2;omega
  |succ j ih=>
   intro i q hi hq hs k h1 h2;obtain⟨q,rfl⟩:∃k,q=k+1:=⟨q-1,F0⟩;rw[Bl,Dt,A7 F6,Dy,Aa,Aa,YV,jQ,Df F0 F0,Aj,Ag,Gf]at hs;by_cases g1:l[i].toInt<0-hB bits
   ·rw[A7 (by simpa using g1)]at hs;simp at hs
   ·rw[A4 (by simpa using g1)]at hs;by_cases g2:hB bits<=l[i].toInt
    ·rw[A7 (by simpa using g2)]at hs;simp at hs
    ·rw[A4 (by simpa using g2)]at hs;by_cases hk:k=i
     ·subst hk;omega
     ·exact ih (i+1) q F0 F0 hs k F0 h2
 rw[Bo,Ee,yV h,Aa,A4 OU,A4 J5]at hc;have:=key l.length 0 Ay F0 B7 hc;intro x hx;obtain⟨k,hk,rfl⟩:=mh hx;exact this k F0 hk
theorem Ac1{bits:Int}(h:Cy bits){l:LX}(hl:l.length<=4000)(hc:Bo bits l=some 0):Ik bits l=some (By bits l,0):=by
 have h1:=ql h l hl (Ao4 h hl hc) l.length 0 Ay F0 B7;rw[Ik,NG,ON h l hl,hc,Aa,A4 DZ];exact h1
def oQ:LB->Nat->Int×Int
 |[],n=>((n:Int),0)
 |c::r,n=>if 128<=c.toNat then(0,12)else oQ r (128*n+c.toNat)
theorem rO:∀(l:LB) (n k:Nat),n<128^k->0<= (oQ l n).1/\ (oQ l n).1<((128^(k+l.length):Nat):Int)
 |[],n,k,h=>by simp[oQ];exact_mod_cast h
 |c::r,n,k,h=>by
  rw[oQ];split
  ·have:0<128^(k+(c::r).length):=U7 F0;exact⟨Int.le_refl _,by simp only;exact_mod_cast this⟩
  ·have:=rO r (128*n+c.toNat) (k+1) (by rw[L8];omega);rw[B6,show k+(r.length+1)=k+1+r.length by omega];exact this
theorem or7(n c:Nat)(hn:n<268435456)(hc:c<128):pO (Dp (n:Int) (GI.toZ (7:UInt64)).toNat) (c:Int)=((128*n+c:Nat):Int):=by
 have e:(GI.toZ (7:UInt64)).toNat=7:=rfl;have h1:Dp (n:Int) 7=((2^7*n:Nat):Int):=by
  have:Dp (n:Int) 7=wrap64 ((n:Int)*2^7):=rfl;rw[this,Df F0 F0];omega
 rw[e,h1];have h2:pO ((2^7*n:Nat):Int) (c:Int)=wrap64 ((BitVec.ofInt 64 ((2^7*n:Nat):Int)|||BitVec.ofInt 64 (c:Int)).toNat:Int):=rfl;rw[h2,bB,VC,VC];have h3:(((2^7*n:Nat):Int) %((2^64:Nat):Int)).toNat=2^7*n:=F0
 have h4:((c:Int) %((2^64:Nat):Int)).toNat=c:=F0
 rw[h3,h4,<-VU (by simpa using hc),Df F0 F0]
theorem rQ(b:LB)(hb:b.length=4):∀(j i q n:Nat),i+j=4->j<q->n<128^i->Lo b q (n:Int) (i:Int)=some (oQ (b.drop i) n)
 |0,i,q+1,n,hi,_,_=>by
  rw[Lo,Va,A4 F6,show b.drop i=[] by simp;omega];rfl
 |j+1,i,q+1,n,hi,hq,hn=>by
  have hlt:i<b.length:=F0
  have hn2:n<268435456:=E5 hn (show 128^i<=128^4 from IV F0 F0);rw[Lo,Va,A7 F6,Dy hlt,Aa,drop_cons hlt,oQ,Awz];by_cases hc:128<=b[i].toNat
  ·rw[A7 F5,A7 hc]
  ·rw[A4 F5,A4 hc,Ao2,or7 n _ hn2 F0,Aj];exact rQ b hb j (i+1) q _ F0 F0 (by rw[L8];omega)
theorem Adh(b:LB)(hb:b.length=4):GH b=some (oQ b 0):=by
 have h:=rQ b hb 4 0 Ay 0 F0 B7 F8;rw[GH,EK,A4 (by rw[Bj,Ad];simp;omega),Ac4];exact h
theorem uP{b:LB}(hb:b.length=4):0<= (oQ b 0).1/\ (oQ b 0).1<268435456:=by
 have:=rO b 0 0 F8;rw[hb]at this;simpa using this
theorem aE(s p:LB):Km s p=some (decide (p.length<=s.length/\s.take p.length=p)):=by
 rw[Km];by_cases h:p.length<=s.length
 ·rw[A7 (by rw[Gf,Ad,Ad];simp;omega),show Ad p=(p.length:Int)from rfl,Yb,Aa,Ij,Aa,C'];congr 1;rw[N4];simp[h]
 ·rw[A4 (by rw[Gf,Ad,Ad];simp;omega)];simp[h]
def yO(b:LB)(n:Int):Int×Int:=
 if 4000<n then(0,4)else if(b.length:Int)<n then(0,24)else
 if b.getD 5 0=16/\ (b.take n.toNat).drop (n-10).toNat≠ [51,68,73]++part b 3 7 then(0,12)else(n,0)
def dM(b:LB)(r:Int):Int×Int:=yO b (r+10+(if b.getD 5 0=16 then 10 else 0))
def kN(b:LB):Int×Int:=
 if ¬(3<=b.length/\b.take 3=[73,68,51])then(0,6)else if b.length<10 then(0,24)else
 if(oQ (part b 6 4) 0).2≠0\/b.getD 4 0≠0\/ ¬((b.getD 5 0=0/\2<= (b.getD 3 0).toNat/\ (b.getD 3 0).toNat<=4)\/ (b.getD 5 0=16/\b.getD 3 0=4))then(0,12)else
 dM b (oQ (part b 6 4) 0).1
theorem jE{b:LB}{i:Nat}(h:i<b.length):Af b (i:Int)=some (b.getD i 0):=by
 rw[Dy h];simp[B4,h]
theorem Apm {b:LB}(a w:Nat)(h:a+w<=b.length:=by omega):Cb b (a:Int) ((a+w:Nat):Int)=some (part b a w):=by
 rw[OT];rfl
theorem Adc(b:LB)(n:Int)(h10:10<=b.length)(hn:10<=n)(hn2:n<268435500):HZ b (b.getD 5 0) n=some (yO b n):=by
 rw[HZ,Aex];by_cases c1:4000<n
 ·rw[A7 (by rw[Be];simpa using c1),yO,A7 c1]
 ·rw[A4 (by rw[Be];simpa using c1)];by_cases c2:(b.length:Int)<n
  ·rw[A7 (by rw[Ag,Ad];simpa using c2),yO,A4 c1,A7 c2]
  ·have e3:Cb b (3:Int) (10:Int)=some (part b 3 7):=Apm 3 7;rw[A4 (by rw[Ag,Ad];simpa using c2)];by_cases c3:b.getD 5 0=16
   ·have hl:((b.take n.toNat).drop (n-10).toNat).length=10:=by simp;omega
    have ht:yO b n=if(b.take n.toNat).drop (n-10).toNat≠ [51,68,73]++part b 3 7 then(0,12)else(n,0):=by rw[yO,A4 c1,A4 c2];simp only[c3,true_and]
    rw[A7 (by rw[Q1];simpa using c3),Dv,OT,Aa,ht];generalize(b.take n.toNat).drop (n-10).toNat=f at*
    rw[Yb,Aa,Ja,Aa,e3,Aa,Ij,Aa];have hf:f=f.take 3++f.drop 3:=(WW 3 f).symm;by_cases c4:f=[51,68,73]++part b 3 7
    ·subst c4;simp
    ·by_cases c5:f.take 3=[51,68,73]
     ·have:f.drop 3≠part b 3 7:=λh=>c4 (by rw[hf,c5,h]);simp only[SU,O7]at c4;simp[c4,c5,this]
     ·simp only[SU,O7]at c4;simp[c4,c5]
   ·rw[A4 (by rw[Q1];simpa using c3),yO,A4 c1,A4 c2,A4 (λh=>c3 h.1)]
theorem Aj6(b:LB)(r:Int)(h10:10<=b.length)(h0:0<=r)(h1:r<268435456):HS b r (b.getD 5 0)=some (dM b r):=by
 rw[HS,Af9,dM];by_cases c3:b.getD 5 0=16
 ·rw[A7 (by rw[Q1];simpa using c3),Aj (by rw[Aj]<;>omega) (by rw[Aj]<;>omega),Aj,Adc b _ h10 F0 F0,A7 c3]
 ·rw[A4 (by rw[Q1];simpa using c3),Aj,Adc b _ h10 F0 F0,A4 c3];simp
theorem Ahn(b:LB)(hb:b.length<4611686018427387904):KF b=some (kN b):=by
 rw[KF,Yf,aE,Aa];by_cases hp:3<=b.length/\b.take 3=[73,68,51]
 ·rw[A4 (by simpa using hp)];by_cases h10:b.length<10
  ·rw[A7 F6,kN,A4 (λh=>h hp),A7 h10]
  ·have e6:Cb b (6:Int) (10:Int)=some (part b 6 4):=Apm 6 4;have g3:Af b (3:Int)=some (b.getD 3 0):=jE (i:=3) F0;have g4:Af b (4:Int)=some (b.getD 4 0):=jE (i:=4) F0;have g5:Af b (5:Int)=some (b.getD 5 0):=jE (i:=5) F0;obtain⟨v1,v2⟩:=uP (b:=part b 6 4) (Nn);have ht:=Aj6 b (oQ (part b 6 4) 0).1 F0 v1 v2;rw[A4 F6,g3,Aa,g5,Aa,HX,IB,e6,Aa,Adh _ (Nn),Aa,kN,A4 (λh=>h hp),A4 h10];generalize oQ (part b 6 4) 0=v at*
   obtain⟨v,e⟩:=v;simp only at ht v1 v2⊢;simp only[Aa,g4,IH,Aeu];generalize b.getD 3 0=x at*
   generalize b.getD 4 0=y at*
   generalize b.getD 5 0=z at*
   simp only[uz,Aw1,Q1,Awr,Bj];have e2:(2:UInt8).toNat=2:=rfl;have e4:(4:UInt8).toNat=4:=rfl;by_cases he:e=0<;>by_cases hy:y=0<;>by_cases hz:z=0<;>by_cases hz2:z=16<;>by_cases hx:x=4<;>by_cases hx2:2<=x.toNat<;>by_cases hx4:x.toNat<=4<;>simp_all
 ·rw[A7 (by rw[O1,XU];exact hp),kN,A7 hp]
theorem Amq{b:LB}{n:Int}(h:kN b=(n,0)):10<=n/\n<=b.length/\n<=4000:=by
 unfold kN at h;split at h; · simp at h
 split at h; · simp at h
 split at h; · simp at h
 rename_i h10 _;obtain⟨v1,v2⟩:=uP (b:=part b 6 4) (Nn);unfold dM at h;generalize hm:(oQ (part b 6 4) 0).1+10+(if b.getD 5 0=16 then 10 else 0)=m at h;unfold yO at h;split at h; · simp at h
 split at h; · simp at h
 split at h; · simp at h
 simp only[SO,XA]at h;subst h;refine⟨?_,F0,F0⟩;rw[<-hm];split<;>omega
theorem Y!{p:Prop}(h:p:=by rw[Ag,Ad];simp):p:=h
theorem WG{p:Prop}(h:p:=by rw[Bw];omega):p:=h
theorem XG{p:Prop}(h:p:=by rw[Nn];omega):p:=h
theorem cX{p:Prop}(h:p:=by simp[Bw]):p:=h
def APE:LB:=[65,80,69,84,65,71,69,88]
def AT(n m fl:Nat):LB:=APE++Uy 2000 4++Uy (n+32) 4++Uy m 4++Uy fl 4++List.replicate 8 0
theorem lY{n:Nat}(h:n<18446744073709551616):(UInt64.ofNat n).toNat=n:=by rw[P6,B3 h]
theorem lX(n m:Int)(fl:UInt64)(c:UInt64)(i q:Nat)(acc:LB)(hi:i<6)(hc:Af ([(2000:UInt64),(Ah (Ae n (32:Int)):UInt64),(Ah m:UInt64),fl,(0:UInt64),(0:UInt64)]:LQ) (i:Int)=some c)(h:c.toNat<4294967296)(ha:acc.length<=1000000):
  Yn n m fl (q+1) (i:Int) acc=Yn n m fl q ((i+1:Nat):Int) (acc++Uy c.toNat 4):=by
 have hb:=OD c 4 F0 F0 (by simpa using h);rw[Yn,aR,A7 F6,hc,Aa,Aa,show((4:Int))=((4:Nat):Int)from rfl,hb,Aa];simp only;rw[Bi WG,Aa,Aj];rfl
theorem K3(n m:Nat)(fl:UInt64)(hn:n<=3000)(hm:m<=1000)(hf:fl.toNat<4294967296):lV (n:Int) (m:Int) fl=some (AT n m fl.toNat):=by
 have e1:(Ah (Ae (n:Int) (32:Int)):UInt64).toNat=n+32:=by rw[Aj,show(n:Int)+32=((n+32:Nat):Int) by omega,KY,lY F0]
 have e2:(Ah (m:Int):UInt64).toNat=m:=by rw[KY,lY F0]
 have hF:Ay=(Ay-7)+1+1+1+1+1+1+1:=by have:=Bc;omega
 rw[lV,pF,S1,hF];rw[show((0:Int))=((0:Nat):Int)from rfl,lX n m fl 2000 0 _ _ F0 rfl F4 F8,lX n m fl _ 1 _ _ F0 rfl (by rw[e1];omega) cX,lX n m fl _ 2 _ _ F0 rfl (by rw[e2];omega) cX,
  lX n m fl fl 3 _ _ F0 rfl hf cX,lX n m fl 0 4 _ _ F0 rfl F4 cX,lX n m fl 0 5 _ _ F0 rfl F4 cX,e1,e2]
 rw[Yn,aR,A4 Y!,pD,O5,AT];have z:Uy (0:UInt64).toNat 4++Uy (0:UInt64).toNat 4=List.replicate 8 0:=F4
 have z2:Uy (2000:UInt64).toNat 4=Uy 2000 4:=rfl;rw[C0 _ (Uy (0:UInt64).toNat 4),z,z2];rfl
theorem mV{b:LB}{a w k:Nat}(h:a+w<=k):part (b.take k) a w=part b a w:=by rw[part,part,nU,T! h]
def TF(b:LB):Bool:=decide (Jp (part b 12 4)<32\/3032<Jp (part b 12 4)\/1000<Jp (part b 16 4))
theorem Avy(b:LB)(h:20<=b.length):(((Cx (Y0 (part b 12 4)) (32:UInt64))||(Eg (Y0 (part b 12 4)) (3032:UInt64)))||(Eg (Y0 (part b 16 4)) (1000:UInt64)))=TF b:=by
 rw[qg,qZ,qZ,RS XG,RS XG,TF];show((decide (Jp (part b 12 4)<32)||decide (3032<Jp (part b 12 4)))||decide (1000<Jp (part b 16 4)))=_;simp[Bool.or_assoc]
theorem iE(b:LB)(h:20<=b.length)(hb:TF b=false):Ap (Ah (Y0 (part b 12 4)):Int) (32:Int)=((Jp (part b 12 4)-32:Nat):Int)/\ (Ah (Y0 (part b 16 4)):Int)=((Jp (part b 16 4):Nat):Int)/\Jp (part b 12 4)-32<=3000/\Jp (part b 16 4)<=1000:=by
 simp only[TF,XU]at hb;refine⟨?_,D2 XG,F0,F0⟩;rw[D2 XG,Dv];omega
theorem aN(b:LB)(fl:UInt64)(h:20<=b.length)(hl:b.length<4611686018427387904)(hf:fl.toNat<4294967296):
  KZ b fl=some (if TF b=true then(0,0,false)else(((Jp (part b 12 4)-32:Nat):Int),((Jp (part b 16 4):Nat):Int),b==AT (Jp (part b 12 4)-32) (Jp (part b 16 4)) fl.toNat)):=by
 have a1:WU b 12 4=some (Y0 (part b 12 4),0):=uy b 12 4 F0 F0 F0 hl;have a2:WU b 16 4=some (Y0 (part b 16 4),0):=uy b 16 4 F0 F0 F0 hl;rw[KZ,a1,Aa];simp only;rw[a2,Aa];simp only;rw[Avy b h];cases hb:TF b with
 |true=>rfl
 |false=>
  obtain⟨i1,i2,i3,i4⟩:=iE b h hb;rw[i1,i2,K3 _ _ _ i3 i4 hf];rfl
def Tj(b:LB):Int×Int:=
 if ¬(8<=b.length/\b.take 8=APE)then(0,6)else if b.length<32 then(0,24)else
 if TF b=true\/b.take 32≠AT (Jp (part b 12 4)-32) (Jp (part b 16 4)) 2684354560 then(0,12)else
 if b.length<Jp (part b 12 4)+32 then(0,24)else
 if(b.take (Jp (part b 12 4)+32)).drop (Jp (part b 12 4))≠AT (Jp (part b 12 4)-32) (Jp (part b 16 4)) 2147483648 then(0,12)else(((Jp (part b 12 4)+32:Nat):Int),0)
theorem Am5(b:LB):TF (b.take 32)=TF b:=by rw[TF,TF,mV F0,mV F0]
section
variable {b:LB}
theorem fa1(h:¬(8<=b.length/\b.take 8=APE)):Tj b=(0,6):=by rw[Tj,A7 h]
theorem fa2(h:8<=b.length/\b.take 8=APE)(h2:b.length<32):Tj b=(0,24):=by rw[Tj,A4 (λh'=>h' h),A7 h2]
variable (h:8<=b.length/\b.take 8=APE) (h2:¬b.length<32)
include h h2
theorem fa3(h3:TF b=true):Tj b=(0,12):=by rw[Tj,A4 (λh'=>h' h),A4 h2,A7 (.inl h3)]
theorem fa4(h4:b.take 32≠AT (Jp (part b 12 4)-32) (Jp (part b 16 4)) 2684354560):Tj b=(0,12):=by rw[Tj,A4 (λh'=>h' h),A4 h2,A7 (.inr h4)]
variable (h3:TF b=false) (h4:b.take 32=AT (Jp (part b 12 4)-32) (Jp (part b 16 4)) 2684354560)
include h3 h4
theorem fa5(h5:b.length<Jp (part b 12 4)+32):Tj b=(0,24):=by
 rw[Tj,A4 (λh'=>h' h),A4 h2,A4 (λh'=>h'.elim (λe=>by rw[h3]at e;cases e) λe=>e h4),A7 h5]
theorem fa6(h5:¬b.length<Jp (part b 12 4)+32)(h6:(b.take (Jp (part b 12 4)+32)).drop (Jp (part b 12 4))≠AT (Jp (part b 12 4)-32) (Jp (part b 16 4)) 2147483648):Tj b=(0,12):=by
 rw[Tj,A4 (λh'=>h' h),A4 h2,A4 (λh'=>h'.elim (λe=>by rw[h3]at e;cases e) λe=>e h4),A4 h5,A7 h6]
theorem fa7(h5:¬b.length<Jp (part b 12 4)+32)(h6:(b.take (Jp (part b 12 4)+32)).drop (Jp (part b 12 4))=AT (Jp (part b 12 4)-32) (Jp (part b 16 4)) 2147483648):Tj b=(((Jp (part b 12 4)+32:Nat):Int),0):=by
 rw[Tj,A4 (λh'=>h' h),A4 h2,A4 (λh'=>h'.elim (λe=>by rw[h3]at e;cases e) λe=>e h4),A4 h5,A4 (λh'=>h' h6)]
end
theorem Abw(b:LB)(hl:b.length<4611686018427387904):mD b=some (Tj b):=by
 rw[mD,aE,Aa];by_cases hp:8<=b.length/\b.take 8=APE
 ·rw[A4 (by simpa [APE]using hp)];by_cases h32:b.length<32
  ·rw[A7 F6,fa2 hp h32]
  ·have t:=aN (b.take 32) 2684354560 F5 F5 F4;rw[Am5,mV F0,mV F0]at t;rw[A4 F6,Yb,Aa,show(32:Int).toNat=32 from rfl,t,Aa];cases hb:TF b with
   |true=>rw[fa3 hp h32 hb];simp
   |false=>
    obtain⟨i1,i2,i3,i4⟩:=iE b F0 hb;have i5:32<=Jp (part b 12 4):=by simp only[TF,XU]at hb;omega
    simp only[SN,R8,false_or];by_cases c1:b.take 32=AT (Jp (part b 12 4)-32) (Jp (part b 16 4)) 2684354560
    ·have c1':b.take 32=AT (Jp (part b 12 4)-32) (Jp (part b 16 4)) (2684354560:UInt64).toNat:=c1;rw[A4 (by simpa using c1'),Aj];have e1:((Jp (part b 12 4)-32:Nat):Int)+64=((Jp (part b 12 4)+32:Nat):Int):=F0
     rw[e1];by_cases c2:b.length<Jp (part b 12 4)+32
     ·rw[A7 F6,fa5 hp h32 hb c1 c2]
     ·rw[A4 F6,Dv,OT,Aa,K3 _ _ _ i3 i4 F4,Aa,Ij,Aa];rw[show(((Jp (part b 12 4)+32:Nat):Int)).toNat=Jp (part b 12 4)+32 by omega,show(((Jp (part b 12 4)+32:Nat):Int)-32).toNat=Jp (part b 12 4) by omega];by_cases c3:(b.take (Jp (part b 12 4)+32)).drop (Jp (part b 12 4))=AT (Jp (part b 12 4)-32) (Jp (part b 16 4)) 2147483648
      ·have c3':(b.take (Jp (part b 12 4)+32)).drop (Jp (part b 12 4))=AT (Jp (part b 12 4)-32) (Jp (part b 16 4)) (2147483648:UInt64).toNat:=c3;rw[A4 (by simpa using c3'),fa7 hp h32 hb c1 c2 c3]
      ·have c3':¬(b.take (Jp (part b 12 4)+32)).drop (Jp (part b 12 4))=AT (Jp (part b 12 4)-32) (Jp (part b 16 4)) (2147483648:UInt64).toNat:=c3;rw[A7 (by simpa using c3'),fa6 hp h32 hb c1 c2 c3]
    ·have c1':¬b.take 32=AT (Jp (part b 12 4)-32) (Jp (part b 16 4)) (2684354560:UInt64).toNat:=c1;rw[A7 (by simpa using c1'),fa4 hp h32 c1]
 ·rw[A7 (by rw[O1,XU];exact hp),fa1 hp]
theorem Aiw{b:LB}{n:Int}(h:Tj b=(n,0)):64<=n/\n<=b.length:=by
 unfold Tj at h;split at h; · simp at h
 split at h; · simp at h
 split at h; · simp at h
 rename_i hb;split at h; · simp at h
 split at h; · simp at h
 simp only[SO,XA]at h;have hb':¬TF b=true:=λe=>hb (.inl e);simp only[TF,B2]at hb';omega
def Nr(b:LB):Int×Int:=if(kN b).2≠6 then kN b else Tj b
theorem size_eq(b:LB)(hl:b.length<4611686018427387904):Ue b=some (Nr b):=by
 rw[Ue,Ahn b hl,Aa,Abw b hl];by_cases h:(kN b).2=6
 ·simp[Nr,h,Bj]
 ·simp[Nr,h,Bj]
theorem Aod{b:LB}{n:Int}(h:Nr b=(n,0)):10<=n/\n<=b.length:=by
 unfold Nr at h;split at h
 ·have:=Amq h;omega
 ·have:=Aiw h;omega
def Qv(b:LB):Nat->Nat->LI×Int
 |0,_=>([],6)
 |j+1,p=>if(Nr (b.drop p)).2=6 then([],0)else if(Nr (b.drop p)).2≠0 then([],(Nr (b.drop p)).2)else
  if 4000<(p:Int)+(Nr (b.drop p)).1 then([],4)else
  if(Qv b j (p+(Nr (b.drop p)).1.toNat)).2=0 then((Nr (b.drop p)).1::(Qv b j (p+(Nr (b.drop p)).1.toNat)).1,0)else([],(Qv b j (p+(Nr (b.drop p)).1.toNat)).2)
def Zk(b:LB)(j p:Nat):Int×Int:=if(Qv b j p).2=0 then((p:Int)+(Qv b j p).1.sum,0)else(0,(Qv b j p).2)
theorem N1(b:LB)(hl:b.length<4611686018427387904):∀(j p q:Nat),p<=b.length->p<=4000->b.length-p<j->j<=q->Tf b q (p:Int)=some (Zk b j p)
 |0,p,q,_,_,h,_=>by omega
 |j+1,p,q,hp,hp4,hj,hq=>by
  obtain⟨q,rfl⟩:∃k,q=k+1:=⟨q-1,F0⟩;rw[Tf,Ja,Aa,C',size_eq _ F5,Aa,Dh,Dh,Bj,Zk];by_cases h6:(Nr (b.drop p)).2=6
  ·rw[A7 (by simpa using h6)];have:Qv b (j+1) p=([],0):=by rw[Qv,A7 h6]
   rw[this];simp
  ·rw[A4 (by simpa using h6)];by_cases h0:(Nr (b.drop p)).2=0
   ·have hz:Nr (b.drop p)=((Nr (b.drop p)).1,0):=by rw[Prod.ext_iff];exact⟨rfl,h0⟩
    have hs:=Aod hz;rw[SH]at hs;rw[Aj,Be];by_cases h4:4000<(p:Int)+(Nr (b.drop p)).1
    ·rw[A7 (by simp[h0];omega)];have:Qv b (j+1) p=([],4):=by rw[Qv,A4 h6,A4 (λh=>h h0),A7 h4]
     rw[this];simp
    ·rw[A4 (by simp[h0];omega),A4 (by simpa using h0)];have ih:=N1 b hl j (p+(Nr (b.drop p)).1.toNat) q F0 F0 F0 F0;rw[show(p:Int)+(Nr (b.drop p)).1=((p+(Nr (b.drop p)).1.toNat:Nat):Int) by omega,ih,Zk];have:Qv b (j+1) p=if(Qv b j (p+(Nr (b.drop p)).1.toNat)).2=0 then((Nr (b.drop p)).1::(Qv b j (p+(Nr (b.drop p)).1.toNat)).1,0)else([],(Qv b j (p+(Nr (b.drop p)).1.toNat)).2):=by
      rw[Qv,A4 h6,A4 (λh=>h h0),A4 h4]
     rw[this];by_cases hr:(Qv b j (p+(Nr (b.drop p)).1.toNat)).2=0
     ·simp only[hr,U9,T0];congr 2;omega
     ·simp only[hr,R8]
   ·rw[A4 (by simp[h0]),A7 (by simpa using h0)];have:Qv b (j+1) p=([],(Nr (b.drop p)).2):=by rw[Qv,A4 h6,A7 h0]
    rw[this];simp[h0]
def wE(b:LB):Int×Int:=Zk b (b.length+1) 0
theorem NS(b:LB)(hl:b.length<4611686018427387904):Hf b=some (wE b):=by
 have:=N1 b hl (b.length+1) 0 Ay F0 F0 F0 B7;exact this
theorem ZM{p:Prop}(h:p:=by rw[Ag,Ad,Ad];simp;omega):p:=h
def Ak(r:Nat):Nat:=max 1 (256*r/245)
theorem Iu(r:Nat):1<=Ak r:=Nat.le_max_left _ _
theorem YQ{r:Nat}(h:r<=1048576):Ak r<=1100000:=by unfold Ak;omega
theorem Ak6 {r:Nat}(h:r<=1048576):wZ (1:Int) (Ej (Cm (256:Int) (r:Int)) (245:Int))=(Ak r:Int):=by
 rw[Gk,L_,Zx F0,Df F0 F0,wu,Ak];omega
def Bb(g n:Nat):LI:=List.replicate ((n-1)/g) (g:Int)++[((n-(n-1)/g*g:Nat):Int)]
theorem jP(g n:Nat):(Bb g n).length=(n-1)/g+1:=by simp[Bb]
theorem Bcd{g n:Nat}(h:n<=g)(h1:1<=n):Bb g n=[(n:Int)]:=by
 rw[Bb,UU F0];simp
theorem Bgq{g n:Nat}(hg:1<=g)(h:g<n):Bb g n=(g:Int)::Bb g (n-g):=by
 have e:(n-1)/g=(n-g-1)/g+1:=by rw[<-Nat.add_div_right _ F0];congr 1;omega
 rw[Bb,Bb,e,V9,SU];congr 4;have:=WY (n-g-1) g;rw[B5,R3];omega
theorem At1{g n:Nat}(hg:1<=g)(h1:1<=n):(n+g-1)/g=(n-1)/g+1:=by
 rw[<-Nat.add_div_right _ F0];congr 1;omega
theorem mR{r:Nat}(h1:1<=r)(h:r<=1048576):Lc (r:Int)=some ((Ak r:Int),0):=by
 rw[Lc,A4 OK,Ak6 h]
theorem cI{r n:Nat}(h1:1<=r)(h:r<=1048576)(n1:1<=n)(n2:n<=4000):Hr (r:Int) (n:Int)=some (if 1000<(n-1)/Ak r+1 then(0,4)else((((n-1)/Ak r+1:Nat):Int),0)):=by
 have hp:=Iu r;have hl:=YQ h;have e:Ej (Ap (Ae (n:Int) (Ak r:Int)) (1:Int)) (Ak r:Int)=(((n-1)/Ak r+1:Nat):Int):=by
  have:(n+Ak r-1)/Ak r<=n+Ak r-1:=SW _ _;rw[Aj,Dv,L_,Zx F0,show(n:Int)+(Ak r:Int)-1=((n+Ak r-1:Nat):Int) by omega,<-oC,At1 hp n1];rw[At1 hp n1]at this;generalize(n-1)/Ak r=k at*
  exact Df F0 F0
 rw[Hr,mR h1 h,Aa];simp only;rw[A4 DZ,A4 OK,Bt M_,Aa,e];by_cases hk:1000<(n-1)/Ak r+1
 ·rw[A7 Q9,A7 hk]
 ·rw[A4 Q9,A4 hk]
theorem mul_one(m:Nat)(h:m<=100000):GK (1:UInt64) (UInt64.ofNat m)=some (0,UInt64.ofNat m):=by
 have y1:(UInt64.ofNat m).toNat=m:=lY F0;have s1:Cl (1:UInt64) (GI.toZ (32:UInt64)).toNat=0:=F4
 have s2:Cl (UInt64.ofNat m) (GI.toZ (32:UInt64)).toNat=0:=by
  apply UInt64.toNat_inj.1;rw[CE,y1];exact UU (fA h F4)
 have s0:Cl (0:UInt64) (GI.toZ (32:UInt64)).toNat=0:=F4
 have a1:Ed (1:UInt64) (4294967295:UInt64)=1:=F4
 have a0:Ed (0:UInt64) (4294967295:UInt64)=0:=F4
 have a2:Ed (UInt64.ofNat m) (4294967295:UInt64)=UInt64.ofNat m:=by
  apply UInt64.toNat_inj.1;rw[O4,fK,y1]
  show m&&& (2^32-1)=m;rw[Zy,B3 F0]
 have m1:∀x:UInt64,Cm 1 x=x:=λx=>by rw[E6,UInt64.one_mul]
 have m0:∀x:UInt64,Cm 0 x=0:=λx=>by rw[E6,UInt64.zero_mul]
 have p0:∀x:UInt64,Ae 0 x=x:=λx=>by rw[H0,UInt64.zero_add]
 have p1:∀x:UInt64,Ae x 0=x:=λx=>by rw[H0,UInt64.add_zero]
 rw[GK,IJ];simp only[s1,s2,a1,a2,m1,m0,p0,p1,s0,a0,Aa]
theorem Av7(v:Int)(m:Nat)(hm:m<=100000):∀(j n q:Nat),1<=n->n<=m->m-n<=j->j<q->Et q (n:Int) (List.replicate n v++List.replicate (m-n) 0)=some (List.replicate m v)
 |j,n,q+1,hn,hnm,hj,hq=>by
  have hlen:Ad (List.replicate n v++List.replicate (m-n) 0)=(m:Int):=by simp[Ad];omega
  rw[Et,Gp,hlen];by_cases h:n<m
  ·obtain⟨j,rfl⟩:∃k,j=k+1:=⟨j-1,F0⟩;rw[A7 G4];have v1:ZW (m:Int) (n:Int) (m:Int)=some ():=by rw[ZW,Bt];simp;omega
   have v2:ZW (m:Int) (0:Int) (n:Int)=some ():=by rw[ZW,Bt];simp;omega
   have e1:QL (List.replicate n v++List.replicate (m-n) 0) (0:Int) ((n:Int)-0)=List.replicate n v:=by
    simp[QL]
   rw[v1,Aa,v2,Aa,e1];have e2:LK ((m:Int)-(n:Int)) (List.replicate n v).length=((min n (m-n):Nat):Int):=by
    rw[LK,S6];split<;>omega
   have e3:Um (List.replicate n v++List.replicate (m-n) 0) (n:Int) ((m:Int)-(n:Int)) (List.replicate n v)=List.replicate (n+min n (m-n)) v++List.replicate (m-(n+min n (m-n))) 0:=by
    have t1:((m:Int)-(n:Int)).toNat=m-n:=F0
    have t2:(List.replicate n v++List.replicate (m-n) (0:Int)).take n=List.replicate n v:=by simp
    rw[Um,t1,C',t2,List.take_replicate,S6,<-C0,List.replicate_append_replicate,o!,S6,Nat.min_comm (m-n) n];simp only[List.drop_replicate];rw[show n-(n+min n (m-n))=0 by omega,List.replicate_zero,O7,show m-n-(n+min n (m-n)-n)=m-(n+min n (m-n)) by omega]
   rw[e2,e3,Aj,show(n:Int)+((min n (m-n):Nat):Int)=((n+min n (m-n):Nat):Int) by omega];exact Av7 v m hm j (n+min n (m-n)) q F0 F0 F0 F0
  ·rw[A4 G4];obtain rfl:n=m:=F0
   simp[Ip,Mk]
theorem Ag8(v:Int)(m:Nat)(hm:m<=100000):Mh [v] (m:Int)=some (List.replicate m v):=by
 have y1:(UInt64.ofNat m).toNat=m:=lY F0;have c1:(Ah (Ad [v]):UInt64)=1:=by rfl
 have c2:(Ah (m:Int):UInt64)=UInt64.ofNat m:=KY m;have c3:(Ah (UInt64.ofNat m):Int)=(m:Int):=by rw[Ajt F0,y1]
 rw[Mh,Oe,A4 T5,Acz,Oc,c1,c2,mul_one m hm,Aa];simp only;rw[A4 (by rw[qZ,qZ,y1];simp;show m<=9223372036854775807;omega),Ac6,Nx,c3,E7,Aa,Bt ZJ,Aa,Acy,C'];by_cases h0:m=0
 ·subst h0;have hF:Ay=(Ay-1)+1:=by have:=Bc;omega
  rw[hF,Et,Gp];simp[Ad,JT,LK,Ag,Ip,Mk]
 ·have:=Av7 v m hm m 1 Ay F0 F0 F0 B7;have e1:LK (Ad (List.replicate m (0:Int))) [v].length=((1:Nat):Int):=by simp[LK,Ad];omega
  have e2:JT (List.replicate m (0:Int)) [v]=List.replicate 1 v++List.replicate (m-1) 0:=by
   obtain⟨k,rfl⟩:∃k,m=k+1:=⟨m-1,F0⟩;simp[JT]
  rw[e1,e2,this]
theorem Ag1(l m:LI)(h:l.length+m.length<=1000000):Mg [l,m]=some (l++m):=by
 have hF:Ay=(Ay-3)+1+1+1:=by have:=Bc;omega
 rw[Mg,Nv,Ad0];have g0:Af [l,m] (0:Int)=some l:=rfl;have g1:Af [l,m] (1:Int)=some m:=rfl;have l2:Ad [l,m]=2:=rfl;have h3:Mq [l,m] []=some (l++m):=by
  rw[Mq,Mo,Mp,hF,Em,Ge,l2,A7 F4,g0,Aa,Bi F5,Aa,O7,show Ae (0:Int) 1=1 by decide,
   Em,Ge,l2,A7 F4,g1,Aa,Bi,Aa,show Ae (1:Int) 1=2 by decide,Em,Ge,l2,A4 F4]
  rfl
 rw[hF,Eu,Gn,l2,A7 F4,g0,Aa,Aj SM SM,A4 Y!,show Ae (0:Int) 1=1 by decide,
  Eu,Gn,l2,A7 F4,g1,Aa,Aj SM SM,A4 ZM,show Ae (1:Int) 1=2 by decide,
  Eu,Gn,l2,A4 F4,Abj,Mi,A4 ZM,Abh,Mj]
 have z:Ap (0:Int) 0=0:=F4
 have n0:(0:Int)+Ad l+Ad m=((l.length+m.length:Nat):Int):=by simp[Ad]
 rw[z,n0,Dv,Int.sub_zero];by_cases hp:0<l.length+m.length
 ·rw[A7 Q9,show ZW (0:Int) 0 0=some ()from rfl,Aa,E7,Aa,Bi F5,Aa];rw[show ZW (Ad ([]++List.replicate ((l.length+m.length:Nat):Int).toNat (0:Int))) 0 0=some () by rw[ZW,Bt];simp[Ad];omega,Aa];simp only[QL,fZ,ZC,Ty];exact h3
 ·rw[A4 Q9];exact h3
theorem Akn{r n:Nat}(h1:1<=r)(h:r<=1048576)(n1:1<=n)(n2:n<=4000)(hk:(n-1)/Ak r+1<=1000):RN (r:Int) (n:Int)=some (Bb (Ak r) n,0):=by
 have hp:=Iu r;have hl:=YQ h;have hd:=WY (n-1) (Ak r);rw[RN,cI h1 h n1 n2,A4 F0,Aa];simp only;rw[A4 DZ,mR h1 h,Aa];simp only;rw[Bb];generalize(n-1)/Ak r=k at*
 have e1:Ap ((k+1:Nat):Int) 1=(k:Int):=by rw[Dv];omega
 have e2:(k:Int)*(Ak r:Int)=((k*Ak r:Nat):Int):=by simp
 rw[e1,Ag8 _ _ F0,Aa,Gk (by rw[e2];omega) (by rw[e2];omega),e2,Dv,NF,Ag1 _ _ F5,Aa,Aa,show(n:Int)-((k*Ak r:Nat):Int)=((n-k*Ak r:Nat):Int) by omega]
def Nz(f c w r n:Nat):Bool:=decide ((f=1\/f=2)/\ (1<=c/\c<=6)/\ (w=8\/w=16\/w=24)/\ (1<=r/\r<=1048576)/\1<=n)
def WC(c r n:Nat):Bool:=decide (n<=4000/c/\ (n-1)/Ak r+1<=1000)
theorem gM(f c w r n:Nat):Xa (f:Int) (c:Int) (w:Int) (r:Int) (n:Int)=some (Nz f c w r n):=by
 have e2:EV (f:Int) (c:Int) (w:Int) (r:Int) (n:Int)=some (decide ((f=1\/f=2)/\ (1<=c/\c<=6)/\ (1<=r/\r<=1048576)/\1<=n)):=by
  rw[EV,Ab6];congr 1;rw[N4];simp only[Dh,Be,yH,A9,R!,VM,B2];omega
 have g:∀k:Nat,geq (w:Int) (k:Int)=decide (w=k):=λk=>by rw[Dh,N4];simp;omega
 have g8:geq (w:Int) (8:Int)=decide (w=8):=g 8;have g16:geq (w:Int) (16:Int)=decide (w=16):=g 16;have g24:geq (w:Int) (24:Int)=decide (w=24):=g 24;rw[Xa,Ach,e2,g8,g16,g24,Nz];by_cases h8:w=8
 ·subst h8;simp
 ·by_cases h16:w=16
  ·subst h16;simp
  ·by_cases h24:w=24
   ·subst h24;simp
   ·simp[h8,h16,h24]
theorem Ay0{c:Nat}(h:1<=c):Ej (4000:Int) (c:Int)=((4000/c:Nat):Int):=by
 have:4000/c<=4000:=SW _ _;rw[L_,Zx F0,show(4000:Int)=((4000:Nat):Int)from rfl,<-oC];generalize 4000/c=k at*
 exact Df F0 F0
theorem wN{f c w r n:Nat}(h:Nz f c w r n=true):GO (f:Int) (c:Int) (w:Int) (r:Int) (n:Int)=some (WC c r n):=by
 simp only[Nz,B2]at h;have hd:4000/c<=4000:=SW _ _;rw[GO,Bt M_,Aa,Ay0 F0,WC];generalize 4000/c=m at*
 by_cases h1:n<=m
 ·rw[A4 Q9,cI F0 F0 F0 F0,Aa];generalize(n-1)/Ak r+1=k;by_cases h2:1000<k
  ·rw[A7 h2];simp[Dh,yH];omega
  ·rw[A4 h2];simp[Dh,yH,h1];omega
 ·rw[A7 Q9];simp[h1]
def Qp:LB:=[84,84,65,49]
def f0(b:LB):Nat:=Jp (part b 4 2)
def f1(b:LB):Nat:=Jp (part b 6 2)
def f2(b:LB):Nat:=Jp (part b 8 2)
def f3(b:LB):Nat:=Jp (part b 10 4)
def f4(b:LB):Nat:=Jp (part b 14 4)
abbrev H6:=Int×Int×Int×Int×Int×Int
def PA(b:LB):H6:=
 if b.take (min 4 b.length)≠Qp.take (min 4 b.length)then(0,0,0,0,0,12)else if b.length<22 then(0,0,0,0,0,24)else
 if(Hq (b.take 18)).toNat≠Jp (part b 18 4)then(0,0,0,0,0,22)else
 if Nz (f0 b) (f1 b) (f2 b) (f3 b) (f4 b)=false then(0,0,0,0,0,12)else
 if WC (f1 b) (f3 b) (f4 b)=false then(0,0,0,0,0,4)else((f0 b:Int),(f1 b:Int),(f2 b:Int),(f3 b:Int),(f4 b:Int),0)
section
variable {b:LB}
theorem rs1(h:b.take (min 4 b.length)≠Qp.take (min 4 b.length)):PA b=(0,0,0,0,0,12):=by rw[PA,A7 h]
variable (h:b.take (min 4 b.length)=Qp.take (min 4 b.length))
include h
theorem rs2(h2:b.length<22):PA b=(0,0,0,0,0,24):=by rw[PA,A4 (λe=>e h),A7 h2]
variable (h2:¬b.length<22)
include h2
theorem rs3(h3:(Hq (b.take 18)).toNat≠Jp (part b 18 4)):PA b=(0,0,0,0,0,22):=by rw[PA,A4 (λe=>e h),A4 h2,A7 h3]
variable (h3:(Hq (b.take 18)).toNat=Jp (part b 18 4))
include h3
theorem rs4(h4:Nz (f0 b) (f1 b) (f2 b) (f3 b) (f4 b)=false):PA b=(0,0,0,0,0,12):=by rw[PA,A4 (λe=>e h),A4 h2,A4 (λe=>e h3),A7 h4]
variable (h4:Nz (f0 b) (f1 b) (f2 b) (f3 b) (f4 b)=true)
include h4
theorem rs5(h5:WC (f1 b) (f3 b) (f4 b)=false):PA b=(0,0,0,0,0,4):=by rw[PA,A4 (λe=>e h),A4 h2,A4 (λe=>e h3),A4 (by rw[h4];simp),A7 h5]
theorem rs6(h5:WC (f1 b) (f3 b) (f4 b)=true):PA b=((f0 b:Int),(f1 b:Int),(f2 b:Int),(f3 b:Int),(f4 b:Int),0):=by rw[PA,A4 (λe=>e h),A4 h2,A4 (λe=>e h3),A4 (by rw[h4];simp),A4 (by rw[h5];simp)]
end
theorem Aws(b:LB)(h2:¬b.length<22):Bg (Ah (Hq (b.take 18)):UInt64) (Y0 (part b 18 4))=decide ((Hq (b.take 18)).toNat≠Jp (part b 18 4)):=by
 rw[C9,Fo,N4];simp only[bne_iff_ne,ne_eq,B2];rw[<-YS,lY (by have:=(Hq (b.take 18)).toNat_lt;omega),RS XG]
theorem gE(b:LB)(a w:Nat)(i q:Nat)(l:LI)(hi:i<5)(hl:l.length=5)(hw:Af ([2,2,2,4,4]:LI) (i:Int)=some (w:Int))(h1:1<=w)(h4:w<=4)(ha:a+w<=b.length)(hb:b.length<4611686018427387904):
  Ma b (q+1) (a:Int) (i:Int) l=Ma b q ((a+w:Nat):Int) ((i+1:Nat):Int) (l.set i (Jp (part b a w):Int)):=by
 rw[Ma,DH,A7 G4,hw,Aa,uy b a w h1 F0 ha hb,Aa];simp only;rw[Dy,Aa,FR _ F0,Aa,D2 (by rw[Nn ha];omega),Aj,Aj];rfl
theorem Ali(b:LB)(h22:¬b.length<22)(hb:b.length<4611686018427387904):LO b 4 0 (List.replicate 5 0)=CN [(f0 b:Int),(f1 b:Int),(f2 b:Int),(f3 b:Int),(f4 b:Int)]:=by
 have hF:Ay=(Ay-6)+1+1+1+1+1+1:=by have:=Bc;omega
 rw[LO,hF,show(4:Int)=((4:Nat):Int)from rfl,show(0:Int)=((0:Nat):Int)from rfl];rw[gE b 4 2 0 _ _ F0 F8 rfl F0 F0 F0 hb,gE b 6 2 1 _ _ F0 F8 rfl F0 F0 F0 hb,gE b 8 2 2 _ _ F0 F8 rfl F0 F0 F0 hb,
  gE b 10 4 3 _ _ F0 F8 rfl F0 F0 F0 hb,gE b 14 4 4 _ _ F0 F8 rfl F0 F0 F0 hb,Ma,DH,A4 T5]
 rfl
theorem Baq(b:LB):Na [84,84,65,49] (b.take (min 4 b.length))=some (decide (b.take (min 4 b.length)=Qp.take (min 4 b.length))):=by
 have hl:(b.take (min 4 b.length)).length=min 4 b.length:=by rw[HH];omega
 rw[Na,Jc,A7 (by rw[Gf,Ad,Ad,hl];simp;omega),Ad,hl,Yb F0 F5,Aa,Aa,C'];congr 1;rw[N4];rw[B2,VM];exact eq_comm
theorem Bak(b:LB):Fy (4:Int) (Ad b)=((min 4 b.length:Nat):Int):=by rw[PO,Ad];omega
theorem xC(b:LB)(hb:b.length<4611686018427387904):Jt b=some (PA b):=by
 rw[Jt,OY,Bak,Yb,Aa,C',Baq,Aa];by_cases h:b.take (min 4 b.length)=Qp.take (min 4 b.length)
 ·rw[A4 (by simpa using h)];by_cases h2:b.length<22
  ·rw[A7 F6,rs2 h h2]
  ·have a1:WU b 18 4=some (Y0 (part b 18 4),0):=uy b 18 4 F0 F0 F0 hb;rw[A4 F6,a1,Aa];simp only;rw[Yb,Aa,show(18:Int).toNat=18 from rfl,uY _ F5,Aa];simp only;rw[Aws b h2];by_cases h3:(Hq (b.take 18)).toNat=Jp (part b 18 4)
   ·rw[A4 (by simpa using h3),Ali b h2 hb,CN,Air];rw[show Af [(f0 b:Int),(f1 b:Int),(f2 b:Int),(f3 b:Int),(f4 b:Int)] 0=some (f0 b:Int)from rfl,show Af [(f0 b:Int),(f1 b:Int),(f2 b:Int),(f3 b:Int),(f4 b:Int)] 1=some (f1 b:Int)from rfl,show Af [(f0 b:Int),(f1 b:Int),(f2 b:Int),(f3 b:Int),(f4 b:Int)] 2=some (f2 b:Int)from rfl,
     show Af [(f0 b:Int),(f1 b:Int),(f2 b:Int),(f3 b:Int),(f4 b:Int)] 3=some (f3 b:Int)from rfl,show Af [(f0 b:Int),(f1 b:Int),(f2 b:Int),(f3 b:Int),(f4 b:Int)] 4=some (f4 b:Int)from rfl]
    simp only[Aa,gM];cases h4:Nz (f0 b) (f1 b) (f2 b) (f3 b) (f4 b)with
    |false=>rw[rs4 h h2 h3 h4];rfl
    |true=>
     rw[wN h4,A4 F8,Aa];cases h5:WC (f1 b) (f3 b) (f4 b)with
     |false=>rw[rs5 h h2 h3 h4 h5];rfl
     |true=>rw[rs6 h h2 h3 h4 h5];rfl
   ·rw[A7 (by simpa using h3),rs3 h h2 h3]
 ·rw[A7 (by simpa using h),rs1 h]
theorem Uc{f c w r n:Nat}(h:Nz f c w r n=true)(h2:WC c r n=true):Dq (f:Int) (c:Int) (w:Int) (r:Int) (n:Int)=some (Bb (Ak r) n,0):=by
 have hc:Qu (f:Int) (c:Int) (w:Int) (r:Int) (n:Int)=some 0:=by
  rw[Qu,gM,Aa,h,A4 F8,wN h,Aa,h2];rfl
 have hd:4000/c<=4000:=SW _ _;simp only[Nz,B2]at h;simp only[WC,B2]at h2;rw[Dq,hc,Aa,A4 DZ,Akn F0 F0 F0 F0 h2.2];rfl
def okL:LI->Int->Bool
 |[],_=>true
 |x::l,left=>decide (5<=x/\x<=left)&&okL l (left-x)
theorem ZS:∀l:LI,(∀x∈l,5<=x)->0<=l.sum
 |[],_=>by simp
 |x::l,h=>by
  have h1:=h x KM;have h2:=ZS l λy hy=>h y (H9 _ hy);rw[T0];omega
theorem bZ:∀(l:LI) (left:Int),0<=left-> (okL l left=true↔(∀x∈l,5<=x)/\l.sum<=left)
 |[],left,h=>by simp[okL];exact h
 |x::l,left,h=>by
  rw[okL,A9,B2,T0];by_cases hx:5<=x/\x<=left
  ·rw[bZ l (left-x) F0];constructor
   ·rintro⟨_,h1,h2⟩;exact⟨λy hy=>(List.mem_cons.1 hy).elim (λe=>e▸hx.1) (h1 y),F0⟩
   ·rintro⟨h1,h2⟩;exact⟨hx,λy hy=>h1 y (H9 _ hy),F0⟩
  ·constructor
   ·rintro⟨h1,_⟩;exact absurd h1 hx
   ·rintro⟨h1,h2⟩;have h3:=h1 x KM;have:0<=l.sum:=ZS l λy hy=>h1 y (H9 _ hy);omega
theorem N0(l:LI)(hl:l.length<=1000):∀(j i q:Nat) (left:Int),i+j=l.length->j<q->0<=left->left<=100000->Ph l q left (i:Int)=some (if okL (l.drop i) left=true then 0 else 8)
 |0,i,q+1,left,hi,_,_,_=>by
  rw[Ph,CG,A4 F6,show i=l.length by omega,YU];rfl
 |j+1,i,q+1,left,hi,hq,h0,h1=>by
  have hlt:i<l.length:=F0
  rw[Ph,CG,A7 F6,Dy hlt,Aa,drop_cons hlt];by_cases h:5<=l[i]/\l[i]<=left
  ·rw[A4 OK,Dv,Aj];have ih:=N0 l hl j (i+1) q (left-l[i]) F0 F0 F0 F0;rw[show((i:Int)+1)=((i+1:Nat):Int) by omega,ih];simp[okL,h]
  ·rw[A7 OK];have:okL (l[i]::l.drop (i+1)) left=false:=by rw[okL,b? h];rfl
   rw[this];rfl
def cR(l:LI):Bool:=decide (1<=l.length/\l.length<=1000)&&okL l 100000
theorem Bhi(l:LI)(hl:l.length<=1000):Jq l=some (if cR l=true then 0 else 8):=by
 rw[Jq,CV,cR];by_cases h:1<=l.length
 ·rw[A4 (by rw[Dh,Be,Ad];simp;constructor;(intro e;subst e;simp at h);omega),Al8];have:=N0 l hl l.length 0 Ay 100000 F0 B7 F0 F0;rw[W?]at this;rw[Q6 (show 1<=l.length/\l.length<=1000 from⟨h,hl⟩),UY];exact this
 ·have:l=[]:=by
   cases l with
   |nil=>rfl
   |cons _ _=>simp at h
  subst this;rfl
theorem E_:∀{l:LI},(∀x∈l,5<=x)->∀x∈l,x<=l.sum
 |[],_,x,hx=>by simp at hx
 |y::l,h,x,hx=>by
  have h1:=h y KM;have h2:=ZS l λz hz=>h z (H9 _ hz);rw[T0];rcases List.mem_cons.1 hx with rfl|hx
  ·omega
  ·have:=E_ (l:=l) (λz hz=>h z (H9 _ hz)) x hx;omega
theorem MA(l:LI):Jq l=some (if cR l=true then 0 else 8):=by
 by_cases hl:l.length<=1000
 ·exact Bhi l hl
 ·rw[Jq,CV,A7 J5,cR,b? F0];rfl
theorem H2(l:LI)(hl:l.length<=1000)(hx:∀x∈l,0<=x/\x<4294967296):Jq l=some (if cR l=true then 0 else 8):=MA l
def WV(b:LB)(n:Nat):LI:=(List.range n).map λi=>(Jp (part b (4*i) 4):Int)
theorem kX(b:LB)(n:Nat):(WV b n).length=n:=by simp[WV]
theorem Agt(b:LB)(n:Nat):WV b (n+1)=WV b n++[(Jp (part b (4*n) 4):Int)]:=by simp[WV,Z9]
theorem Ar8(b:LB)(n:Nat)(h:4*n<=b.length):∀x∈WV b n,0<=x/\x<4294967296:=by
 intro x hx;simp only[WV,g!,ZA]at hx;obtain⟨i,hi,rfl⟩:=hx;have:=rB (l:=part b (4*i) 4) XG;omega
def Zw(b:LB)(n:Nat):LI×Int:=
 if ¬(1<=n/\n<=1000)then([],2)else if b.length<4*n+4 then([],24)else if(Hq (b.take (4*n))).toNat≠Jp (part b (4*n) 4)then([],22)else
 if cR (WV b n)=true then(WV b n,0)else([],12)
theorem Asi{b:LB}{n:Nat}(h:1<=n/\n<=1000)(h2:¬b.length<4*n+4):Bg (Ah (Hq (b.take (4*n))):UInt64) (Y0 (part b (4*n) 4))=decide ((Hq (b.take (4*n))).toNat≠Jp (part b (4*n) 4)):=by
 rw[C9,Fo,N4];simp only[bne_iff_ne,ne_eq,B2];rw[<-YS,lY (by have:=(Hq (b.take (4*n))).toNat_lt;omega),RS XG]
section
variable {b:LB} {n:Nat}
theorem ss1(h:¬(1<=n/\n<=1000)):Zw b n=([],2):=by rw[Zw,A7 h]
variable (h:1<=n/\n<=1000)
include h
theorem ss2(h2:b.length<4*n+4):Zw b n=([],24):=by rw[Zw,A4 (λe=>e h),A7 h2]
variable (h2:¬b.length<4*n+4)
include h2
theorem ss3(h3:(Hq (b.take (4*n))).toNat≠Jp (part b (4*n) 4)):Zw b n=([],22):=by rw[Zw,A4 (λe=>e h),A4 h2,A7 h3]
theorem ss4(h3:(Hq (b.take (4*n))).toNat=Jp (part b (4*n) 4)):Zw b n=if cR (WV b n)=true then(WV b n,0)else([],12):=by rw[Zw,A4 (λe=>e h),A4 h2,A4 (λe=>e h3)]
end
theorem Ao3(b:LB)(l8:LI)(n:Nat)(hn:n<=1000)(h8:l8.length=n)(hb:4*n+4<=b.length)(hb2:b.length<4611686018427387904):∀(j i q:Nat),i+j=n->j<q->Sr b l8 q (i:Int) (WV b i++List.replicate j 0)=GD (WV b n)
 |0,i,q+1,hi,_=>by
  obtain rfl:i=n:=F0
  rw[Sr,FW,A4 F6];simp
 |j+1,i,q+1,hi,hq=>by
  have hlen:(WV b i++List.replicate (j+1) 0).length=i+(j+1):=by simp[kX]
  have ha:=uy b (4*i) 4 F0 F0 F0 hb2;rw[Sr,FW,A7 F6,Gk,show(4:Int)*(i:Int)=((4*i:Nat):Int) by omega,show(4:Int)=((4:Nat):Int)from rfl,ha,Aa];simp only;rw[Dy (by rw[hlen];omega),Aa,FR _ (by rw[hlen];omega),Aa,D2 XG,Aj,V9,tI (kX _ _)];have ih:=Ao3 b l8 n hn h8 hb hb2 j (i+1) q F0 F0;rw[Agt]at ih;rw[show((i:Int)+1)=((i+1:Nat):Int) by omega,<-ih];simp
theorem vP(b:LB)(n:Nat)(hb:b.length<=100100):Yu b (n:Int)=some (Zw b n):=by
 rw[Yu,TY];by_cases h:1<=n/\n<=1000
 ·rw[A4 OK,Gk,Aj];by_cases h2:b.length<4*n+4
  ·rw[A7 F6,ss2 h h2]
  ·have ha:WU b (4*(n:Int)) 4=some (Y0 (part b (4*n) 4),0):=by
    rw[show(4:Int)*(n:Int)=((4*n:Nat):Int) by omega];exact uy b (4*n) 4 F0 F0 F0 F0
   rw[A4 F6,ha,Aa];simp only;rw[Yb,Aa,show(4*(n:Int)).toNat=4*n by omega,uY _ F5,Aa];simp only;rw[Asi h h2];by_cases h3:(Hq (b.take (4*n))).toNat=Jp (part b (4*n) 4)
   ·have hlp:=Ao3 b (List.replicate n 0) n F0 F8 F0 F0 n 0 Ay F0 B7;rw[A4 (by simpa using h3),E7,Aa,Bt ZJ,Aa,Alz,C'];refine KU (hlp) ?_;rw[GD,Am3,H2 _ (by rw[kX];omega) (Ar8 b n F0),Aa,ss4 h h2 h3];cases cR (WV b n)<;>rfl
   ·rw[A7 (by simpa using h3),ss3 h h2 h3]
 ·rw[A7 OK,ss1 h]
theorem Ald{b:LB}{n:Nat}(h:(Zw b n).2=0):Zw b n=(WV b n,0)/\1<=n/\n<=1000/\4*n+4<=b.length/\ (∀x∈WV b n,5<=x)/\ (WV b n).sum<=100000:=by
 unfold Zw at h⊢;split at h; · simp at h
 rename_i c1;rw[A4 c1];split at h; · simp at h
 rename_i c2;rw[A4 c2];split at h; · simp at h
 rename_i c3;rw[A4 c3];split at h
 ·rename_i c4;rw[A7 c4];have c4':=c4;rw[cR,A9,bZ _ _ F0]at c4';exact⟨rfl,F0,F0,F0,c4'.2.1,c4'.2.2⟩
 ·simp at h
def hdr(b:LB):LB:=b.drop (wE b).1.toNat
abbrev Op8:=Int×Int×Int×Int×Int×Int×LI×Int
def Bat(e:Int):Op8:=(0,0,0,0,0,0,[],e)
theorem i?(A K:Nat)(h:A<=200000)(hk:K<=1000):Ae (Ae (A:Int) (Cm 4 (K:Int))) 4=((A+4*K+4:Nat):Int):=by
 rw[Gk,Aj (a:=(A:Int)) F0 F0,Aj];omega
theorem Ak0{f c w r n:Nat}(h1:Nz f c w r n=true)(h2:WC c r n=true)(b:LB)(hb:b.length<=100100)(A:Nat)(hA:A<=b.length):
  MU b (f:Int) (c:Int) (w:Int) (r:Int) (n:Int) (A:Int)=
   some (if(Zw (b.drop A) (Bb (Ak r) n).length).2≠0 then Bat (Zw (b.drop A) (Bb (Ak r) n).length).2 else((f:Int),(c:Int),(w:Int),(r:Int),(n:Int),((A+4*(Bb (Ak r) n).length+4:Nat):Int),(Zw (b.drop A) (Bb (Ak r) n).length).1,0)):=by
 rw[MU,Ake,Uc h1 h2,Aa];simp only;rw[A4 DZ,Ja,Aa,Ad,show(A:Int).toNat=A from rfl,vP _ _ F5,Aa];by_cases h:(Zw (b.drop A) (Bb (Ak r) n).length).2≠0
 ·rw[A7 h,A7 (by rw[Bj];simpa using h)];rfl
 ·have h0:(Zw (b.drop A) (Bb (Ak r) n).length).2=0:=by simpa using h
  obtain⟨g1,g2,g3,g4,g5,g6⟩:=Ald h0;have gl:(Zw (b.drop A) (Bb (Ak r) n).length).1.length=(Bb (Ak r) n).length:=by rw[g1];exact kX _ _
  rw[A4 h,A4 (by rw[Bj];simpa using h),Ad,gl,i? _ _ F0 F0]
theorem Ajs(l:LI)(i:Nat):(l.take i).sum+(l.drop i).sum=l.sum:=by
 conv=>rhs;rw[<-WW i l,nP]
theorem Kh{l:LI}(h5:∀x∈l,5<=x)(i:Nat):0<= (l.take i).sum/\ (l.take i).sum<=l.sum:=by
 have h1:=ZS (l.take i) λx hx=>h5 x (aF hx);have h2:=ZS (l.drop i) λx hx=>h5 x (YX hx);have:=Ajs l i;omega
theorem Of{l:LI}{i:Nat}(h:i<l.length):(l.take (i+1)).sum=(l.take i).sum+l[i]:=by
 rw[Gb h,nP];simp
def zJ(l:LI)(n:Nat):LI:=(List.range n).map λi=>(l.take i).sum
theorem qO(l:LI)(n:Nat):(zJ l n).length=n:=by simp[zJ]
theorem Ai5(l:LI)(n:Nat):zJ l (n+1)=zJ l n++[(l.take n).sum]:=by simp[zJ,Z9]
theorem K2(l:LI){n i:Nat}(h:i<n):Af (zJ l n) (i:Int)=some ((l.take i).sum):=by
 rw[Dy (by rw[qO];exact h)];simp[zJ]
section
variable {l:LI} (hl:l.length<=1000) (h5:∀x∈l,5<=x) (hs:l.sum<=100000)
include hl h5 hs
theorem Art:∀(j i q:Nat),i+j=l.length->j<q->Lp l q (i:Int) ((l.take i).sum) (zJ l (i+1))=some (zJ l (l.length+1),0)
 |0,i,q+1,hi,_=>by
  rw[Lp,Vj,A4 F6,show i=l.length by omega];rfl
 |j+1,i,q+1,hi,hq=>by
  have hlt:i<l.length:=F0
  have ih:=Art j (i+1) q F0 F0;have b1:=Kh h5 i;have b2:=Kh h5 (i+1);have e:=Of hlt;rw[Ai5 l (i+1),e]at ih;rw[Lp,Vj,A7 F6,Dy hlt,Aa,Aj,Bi (by simp[qO];omega),Aa,ER,Aaz,Aj,Aj];exact ih
theorem Apo(h1:1<=l.length):Wx l=some (zJ l (l.length+1),0):=by
 have h:=Art hl h5 hs l.length 0 Ay F0 B7;have hx:∀x∈l,0<=x/\x<4294967296:=λx hx=>by
  have:=E_ h5 x hx;have:=h5 x hx;omega
 have ht:cR l=true:=by
  rw[cR,A9];exact⟨by simpa using⟨h1,hl⟩,(bZ l 100000 F0).2 ⟨h5,hs⟩⟩
 rw[Wx,FF,H2 l hl hx,Aa,A7 ht,A4 DZ];exact h
end
theorem Ac8{g n:Nat}(hg:1<=g)(hn:1<=n){x:Int}(h:x∈Bb g n):∃m:Nat,x=m/\1<=m/\m<=n:=by
 have hmul:=WY (n-1) g;rw[Bb,fC]at h;rcases h with h|h
 ·rw[List.mem_replicate]at h;have h1:1<= (n-1)/g:=Nat.pos_of_ne_zero h.1;have:=C2 g h1;exact⟨g,h.2,hg,F0⟩
 ·rw[f?]at h;exact⟨_,h,F0,F0⟩
theorem GX{f c w r n:Nat}(h:Nz f c w r n=true):(1<=c/\c<=6)/\Cy (w:Int)/\ (1<=r/\r<=1048576)/\1<=n/\ (f=1\/f=2):=by
 simp only[Nz,B2]at h;refine⟨h.2.1,?_,h.2.2.2.1,h.2.2.2.2,h.1⟩;rcases h.2.2.1 with rfl|rfl|rfl
 ·exact .inl rfl
 ·exact .inr (.inl rfl)
 ·exact .inr (.inr rfl)
theorem gO{p:Prop}(h:p:=by rw[HH];omega):p:=h
def En(b:LB):LB:=b.drop (b.length-32)
theorem Ano{b:LB}(h:32<=b.length):(En b).length=32:=by rw[En,SH];omega
def fG(t:LB):Nat:=Jp (part t 12 4)-32
def mnA(t:LB):Nat:=Jp (part t 16 4)
def Xf(b:LB):Int×Int:=
 if ¬(32<=b.length/\ (En b).take 8=APE)then(0,6)else if TF (En b)=true then(0,12)else
 if En b=AT (fG (En b)) (mnA (En b)) 0 then(if b.length<fG (En b)+32 then(0,24)else(((fG (En b)+32:Nat):Int),0))else
 if En b≠AT (fG (En b)) (mnA (En b)) 2147483648 then(0,12)else
 if b.length<fG (En b)+64 then(0,24)else
 if(b.take (b.length-(fG (En b)+64)+32)).drop (b.length-(fG (En b)+64))≠AT (fG (En b)) (mnA (En b)) 2684354560 then(0,12)else(((fG (En b)+64:Nat):Int),0)
section
variable {b:LB}
theorem ba1(h:¬(32<=b.length/\ (En b).take 8=APE)):Xf b=(0,6):=by rw[Xf,A7 h]
variable (h:32<=b.length/\ (En b).take 8=APE)
include h
theorem ba2(h2:TF (En b)=true):Xf b=(0,12):=by rw[Xf,A4 (λh'=>h' h),A7 h2]
variable (h2:TF (En b)=false)
include h2
theorem ba3(h3:En b=AT (fG (En b)) (mnA (En b)) 0):Xf b=if b.length<fG (En b)+32 then(0,24)else(((fG (En b)+32:Nat):Int),0):=by
 rw[Xf,A4 (λh'=>h' h),A4 (by rw[h2];simp),A7 h3]
variable (h3:En b≠AT (fG (En b)) (mnA (En b)) 0)
include h3
theorem ba4(h4:En b≠AT (fG (En b)) (mnA (En b)) 2147483648):Xf b=(0,12):=by
 rw[Xf,A4 (λh'=>h' h),A4 (by rw[h2];simp),A4 h3,A7 h4]
variable (h4:En b=AT (fG (En b)) (mnA (En b)) 2147483648)
include h4
theorem ba5(h5:b.length<fG (En b)+64):Xf b=(0,24):=by
 rw[Xf,A4 (λh'=>h' h),A4 (by rw[h2];simp),A4 h3,A4 (λe=>e h4),A7 h5]
theorem ba6(h5:¬b.length<fG (En b)+64):Xf b=if(b.take (b.length-(fG (En b)+64)+32)).drop (b.length-(fG (En b)+64))≠AT (fG (En b)) (mnA (En b)) 2684354560 then(0,12)else(((fG (En b)+64:Nat):Int),0):=by
 rw[Xf,A4 (λh'=>h' h),A4 (by rw[h2];simp),A4 h3,A4 (λe=>e h4),A4 h5]
end
theorem Aoi{b:LB}{n:Int}(h:Xf b=(n,0)):32<=n/\n<=b.length:=by
 unfold Xf at h;split at h; · simp at h
 rename_i h32;split at h; · simp at h
 split at h
 ·split at h; · simp at h
  simp only[SO,XA]at h;omega
 split at h; · simp at h
 split at h; · simp at h
 split at h; · simp at h
 simp only[SO,XA]at h;omega
theorem Ahr{b:LB}(h:(Xf b).2≠0):(Xf b).1=0:=by
 revert h
 unfold Xf;split; · simp
 split; · simp
 split
 ·split<;>simp
 split; · simp
 split; · simp
 split<;>simp
theorem Avj{b:LB}(h:32<=b.length)(hl:b.length<4611686018427387904):Ap (Ad b) 32=((b.length-32:Nat):Int)/\Cb b ((b.length-32:Nat):Int) (Ad b)=some (En b):=by
 refine⟨by rw[Ad,Dv];omega,?_⟩;rw[Ja];rfl
theorem Ai0(b:LB)(hl:b.length<4611686018427387904):tN b=some (Xf b):=by
 rw[tN,Auc];by_cases h32:32<=b.length
 ·obtain⟨e1,e2⟩:=Avj h32 hl;have hl3:=Ano h32;rw[A4 (by rw[e1,Ag];simp),e1,e2,Aa,aE,Aa];by_cases hp:(En b).take 8=APE
  ·have h:=And.intro h32 hp;rw[A4 (by simpa [APE,hl3]using hp),Auh,Aug,e1,e2,Aa,aN _ 0 F0 F0 F4,Aa];cases hb:TF (En b)with
   |true=>
    rw[ba2 h hb];simp only[U9,SN,R8];rw[Aa,aN _ 2147483648 F0 F0 F4,Aa,hb];rfl
   |false=>
    obtain⟨i1,i2,i3,i4⟩:=iE (En b) F0 hb;have eI:Jp (part (En b) 12 4)-32=fG (En b):=rfl;have eM:Jp (part (En b) 16 4)=mnA (En b):=rfl;simp only[SN,R8];rw[eI]at i3;rw[eM]at i4;rw[eI,eM];by_cases c1:En b=AT (fG (En b)) (mnA (En b)) 0
    ·have c1':En b=AT (fG (En b)) (mnA (En b)) (0:UInt64).toNat:=c1;rw[A7 (by simpa using c1'),ba3 h hb c1];by_cases c2:b.length<fG (En b)+32
     ·rw[A7 G4,A7 c2]
     ·rw[A4 G4,A4 c2,Aj];rfl
    ·have c1':¬En b=AT (fG (En b)) (mnA (En b)) (0:UInt64).toNat:=c1;rw[A4 (by simpa using c1'),Aa,aN _ 2147483648 F0 F0 F4,Aa,hb];simp only[SN,R8];rw[eI,eM];by_cases c2:En b=AT (fG (En b)) (mnA (En b)) 2147483648
     ·have c2':En b=AT (fG (En b)) (mnA (En b)) (2147483648:UInt64).toNat:=c2;rw[A4 (by simpa using c2'),Aj];by_cases c3:b.length<fG (En b)+64
      ·rw[A7 F6,ba5 h hb c1 c2 c3]
      ·rw[A4 F6,Ad,Dv,Aj,OT,Aa,K3 _ _ _ i3 i4 F4,Aa,Ij,Aa,ba6 h hb c1 c2 c3];rw[show((b.length:Int)-(((fG (En b):Nat):Int)+64)).toNat=b.length-(fG (En b)+64) by omega,show((b.length:Int)-(((fG (En b):Nat):Int)+64)+32).toNat=b.length-(fG (En b)+64)+32 by omega];have e7:(2684354560:UInt64).toNat=2684354560:=rfl;rw[e7];by_cases c4:(b.take (b.length-(fG (En b)+64)+32)).drop (b.length-(fG (En b)+64))=AT (fG (En b)) (mnA (En b)) 2684354560
       ·rw[A4 (by simpa using c4),A4 (λe=>e c4)];rfl
       ·rw[A7 (by simpa using c4),A7 c4]
     ·have c2':¬En b=AT (fG (En b)) (mnA (En b)) (2147483648:UInt64).toNat:=c2;rw[A7 (by simpa using c2'),ba4 h hb c1 c2]
  ·rw[A7 (by rw[O1,XU];intro h;exact hp h.2),ba1 (λh=>hp h.2)]
 ·rw[A7 (by rw[Ad,Dv,Ag];simp;omega),ba1 (λh=>h32 h.1)]
def eE:Nat->LB->Nat->Int×Int
 |0,_,_=>(0,38)
 |j+1,b,a=>if b=[]then((a:Int),0)else if(Xf b).2≠0 then(0,38)else eE j (b.take (b.length-(Xf b).1.toNat)) (a+1)
theorem Ak5:∀(j q a:Nat) (b:LB),b.length<j->j<=q->b.length<=4000->a+b.length<=4000->Sj q (a:Int) b=some (eE j b a)
 |0,_,_,_,h,_,_,_=>by omega
 |j+1,q+1,a,b,h,hq,h4,ha=>by
  rw[Sj,HM,eE];by_cases hb:b=[]
  ·subst hb;rw[A4 F4,A7 rfl];rfl
  ·have hpos:0<b.length:=List.length_pos_iff.2 hb;rw[A7 J5,A4 hb,Ai0 b F0,Aa];have hbad:=Ahr (b:=b);have hok:=λn=>Aoi (b:=b) (n:=n);generalize Xf b=v at*
   obtain⟨n,e⟩:=v;simp only at hbad⊢;rw[FM,Ac0];by_cases he:e≠0
   ·rw[A7 he,hbad he,A7 F4]
   ·obtain⟨k1,k2⟩:=hok n (by rw[show e=0 by simpa using he]);rw[A4 he,A4 OU,Ad,Dv,Yb,Aa,Abb,Acx,Aj];rw[show((b.length:Int)-n).toNat=b.length-n.toNat by omega];have ih:=Ak5 j q (a+1) (b.take (b.length-n.toNat)) gO F0 gO gO;rw[<-ih];rfl
def S_(b:LB):Int×Int:=if 4000<b.length then(0,38)else eE (b.length+1) b 0
theorem fQ(b:LB)(hl:b.length<4611686018427387904):Rn b=some (S_ b):=by
 rw[Rn,IK,S_];by_cases h:4000<b.length
 ·rw[A7 J5,A7 h]
 ·rw[A4 J5,A4 h];exact Ak5 _ Ay 0 b F0 B7 F0 F0
theorem IG{a b:Nat}(h:a<9223372036854775808:=by omega):Ej (a:Int) (b:Int)=((a/b:Nat):Int):=by
 have:a/b<=a:=SW _ _;rw[L_,Zx F0,<-oC];generalize a/b=k at*
 exact Df F0 F0
theorem uO{bits:Int}(h:Cy bits)(x:Int):(XL bits x).length=wB bits:=by
 obtain rfl|rfl|rfl:=h<;>rfl
theorem Ux{bits:Int}(h:Cy bits):∀l:LX,(By bits l).length=l.length*wB bits
 |[]=>by simp[By]
 |x::l=>by
  have h1:=Ux h l;have h2:=uO h x.toInt;simp only[By,eW,A?,B6,VG]at*
  omega
def XP(b:LB)(A:Nat)(l:LI)(k:Nat):LB:=(b.take ((A:Int)+(l.take (k+1)).sum).toNat).drop ((A:Int)+(l.take k).sum).toNat
def Oh(b:LB)(k:Nat):Nat:=(b.getD k 0).toNat
theorem uA(b:LB)(k:Nat):Oh b k<256:=(b.getD k 0).toNat_lt
def sx(n:Nat)(b:LB)(a:Nat):Int:=
 if n=1 then(Oh b a:Int)-128 else
 if n=2 then(if Oh b a+256*Oh b (a+1)<32768 then(Oh b a+256*Oh b (a+1):Nat)else((Oh b a+256*Oh b (a+1):Nat):Int)-65536)else
 (if Oh b a+256*Oh b (a+1)+65536*Oh b (a+2)<8388608 then(Oh b a+256*Oh b (a+1)+65536*Oh b (a+2):Nat)else((Oh b a+256*Oh b (a+1)+65536*Oh b (a+2):Nat):Int)-16777216)
def iM(n m:Nat)(b:LB):LX:=(List.range m).map λx=>Int32.ofInt (sx n b (x*n))
theorem uD(n m:Nat)(b:LB):(iM n m b).length=m:=by simp[iM]
theorem An6(n m:Nat)(b:LB):iM n (m+1) b=iM n m b++[Int32.ofInt (sx n b (m*n))]:=by simp[iM,Z9]
theorem jX{n:Int}(h: -2147483648<=n)(h':n<2147483648):(Int32.ofInt n).toInt=n:=by
 rw[XX,bO,show((Int32.size:Nat):Int)=4294967296 from rfl];split<;>omega
theorem mJ{b:LB}{k:Nat}(h:k<b.length):Af b (k:Int)=some (b.getD k 0):=by
 rw[Dy h];simp[B4,h]
theorem LY(c:UInt8):(Ah c:Int32)=Int32.ofInt (c.toNat:Int):=rfl
theorem vL{v:Nat}(k:Nat)(hk:k<=32)(h:v<2147483648):Dp (Int32.ofInt (v:Int)) k=Int32.ofInt ((v*2^k:Nat):Int):=by
 have e:Dp (Int32.ofInt (v:Int)) k=Int32.ofInt ((Int32.ofInt (v:Int)).toInt*2^min k 32):=rfl;rw[e,jX F0 F0,T! hk];simp
theorem eF{v w i:Nat}(hv:v<2^i)(hw:w*2^i<2147483648)(hi:i<=31):pO (Int32.ofInt (v:Int)) (Int32.ofInt ((w*2^i:Nat):Int))=Int32.ofInt ((v+w*2^i:Nat):Int):=by
 have hv2:v<2147483648:=E5 hv (show 2^i<=2^31 from IV F0 hi);have e:pO (Int32.ofInt (v:Int)) (Int32.ofInt ((w*2^i:Nat):Int))=Int32.ofInt ((BitVec.ofInt 32 (Int32.ofInt (v:Int)).toInt|||BitVec.ofInt 32 (Int32.ofInt ((w*2^i:Nat):Int)).toInt).toNat:Int):=rfl;rw[e,jX F0 F0,jX F0 F0,bB,VC,VC];have a1:((v:Int) %((2^32:Nat):Int)).toNat=v:=F0
 have a2:(((w*2^i:Nat):Int) %((2^32:Nat):Int)).toNat=w*2^i:=F0
 rw[a1,a2,Nat.or_comm,I! w,<-VU hv,VF]
theorem Afg(w:Nat)(h:w<2147483648):pO (0:Int32) (Int32.ofInt (w:Int))=Int32.ofInt (w:Int):=by
 have:=eF (v:=0) (w:=w) (i:=0) F8 (by simpa using h) F0;simpa using this
theorem carry{v k:Nat}(hk:k<=31)(h:v*2^k<4294967296)(hv:v<2147483648):Cl (Dp (Int32.ofInt (v:Int)) k) k=Int32.ofInt ((if v*2^k<2147483648 then((v*2^k:Nat):Int)else((v*2^k:Nat):Int)-4294967296).fdiv (2^k)):=by
 rw[vL k F0 hv];have e:∀x:Int32,Cl x k=Int32.ofInt (x.toInt.fdiv (2^min k 32)):=λ_=>rfl;have hX:(Int32.ofInt ((v*2^k:Nat):Int)).toInt=if v*2^k<2147483648 then((v*2^k:Nat):Int)else((v*2^k:Nat):Int)-4294967296:=by
  rw[XX,bO,show((Int32.size:Nat):Int)=4294967296 from rfl];generalize v*2^k=X at*
  split<;>split<;>omega
 rw[e,T! F0,hX]
theorem sx2(b:LB)(a:Nat):sx 2 b a=if Oh b a+256*Oh b (a+1)<32768 then((Oh b a+256*Oh b (a+1):Nat):Int)else((Oh b a+256*Oh b (a+1):Nat):Int)-65536:=rfl
theorem sx3(b:LB)(a:Nat):sx 3 b a=if Oh b a+256*Oh b (a+1)+65536*Oh b (a+2)<8388608 then((Oh b a+256*Oh b (a+1)+65536*Oh b (a+2):Nat):Int)else((Oh b a+256*Oh b (a+1)+65536*Oh b (a+2):Nat):Int)-16777216:=rfl
variable (b:LB)
theorem Azb(bk:Int->LX->Option (LX×Int))(a:Nat)(acc:LX)(h:a+1<=b.length)(hl:b.length<=100000)(ha:acc.length<=100000)(j25:Int->LX->Int32->Int->Option (LX×Int))(j30:LX->Option (LX×Int)):
  Fg (Hw bk 8 b) j25 j30 8 b (a:Int) acc=bk ((a+1:Nat):Int) (acc++[Int32.ofInt (sx 1 b a)]):=by
 have hb:=uA b a;have e:Ap (Ah (b.getD a 0):Int32) (128:Int32)=Int32.ofInt (sx 1 b a):=by
  have e1:Ap (Ah (b.getD a 0):Int32) (128:Int32)=Int32.ofInt ((Int32.ofInt ((b.getD a 0).toNat:Int)).toInt-(128:Int32).toInt):=rfl;rw[e1,jX F0 (by have:=(b.getD a 0).toNat_lt;omega)];rfl
 have q8:Ej (8:Int) 8=1:=F4
 rw[Fg,A7 F6,A7 cP,mJ F0,Aa,e,Bi F5,Aa,Hw,Tp,q8,Aj];rfl
theorem Auu(bk:Int->LX->Option (LX×Int))(a:Nat)(acc:LX)(h:a+2<=b.length)(hl:b.length<=100000)(ha:acc.length<=100000)(j28:Int->LX->Option (LX×Int))(j30:LX->Option (LX×Int)):
  Fg j28 (Jz bk 16 b) j30 16 b (a:Int) acc=bk ((a+2:Nat):Int) (acc++[Int32.ofInt (sx 2 b a)]):=by
 have h0:=uA b a;have h1:=uA b (a+1);have q:Ej (16:Int) 8=2:=F4
 have hF:Ay=(Ay-3)+1+1+1:=by have:=Bc;omega
 have z0:(GI.toZ (Cm (8:Int) 0)).toNat=0:=F4
 have z1:(GI.toZ (Cm (8:Int) 1)).toNat=8:=F4
 have z16:(GI.toZ (Ap (32:Int) 16)).toNat=16:=F4
 have s0:Dp (Int32.ofInt (Oh b a:Int)) 0=Int32.ofInt (Oh b a:Int):=by have:=vL (v:=Oh b a) 0 F0 F0;simpa using this
 have s1:Dp (Int32.ofInt (Oh b (a+1):Int)) 8=Int32.ofInt ((Oh b (a+1)*2^8:Nat):Int):=vL 8 F0 F0;have o1:=eF (v:=Oh b a) (w:=Oh b (a+1)) (i:=8) (by simpa using h0) F0 F0;have c:=carry (v:=Oh b a+Oh b (a+1)*2^8) (k:=16) F0 F0 F0;rw[Fg,A7 F6,A4 (by rw[Dh];decide),Jz,hF,El,Fe,q,A7 F4,show Ae (a:Int) 0=((a:Nat):Int) by rw[Aj];omega,mJ F0,Aa,Bt F4,Aa,z0,
  LY,show((b.getD a 0).toNat:Int)=(Oh b a:Int)from rfl,s0,Afg _ F0,show Ae (0:Int) 1=1 by decide,
  El,Fe,q,A7 F4,show Ae (a:Int) 1=((a+1:Nat):Int) by rw[Aj];omega,mJ F0,Aa,Bt F4,Aa,z1,
  LY,show((b.getD (a+1) 0).toNat:Int)=(Oh b (a+1):Int)from rfl,s1,o1,show Ae (1:Int) 1=2 by decide,
  El,Fe,q,A4 F4,Tu,CT,Bt F4,Aa,Aa,z16,c,Bi F5,Aa,Hw,Tp,q,Aj]
 have e:((if(Oh b a+Oh b (a+1)*2^8)*2^16<2147483648 then(((Oh b a+Oh b (a+1)*2^8)*2^16:Nat):Int)else(((Oh b a+Oh b (a+1)*2^8)*2^16:Nat):Int)-4294967296).fdiv (2^16))=sx 2 b a:=by
  rw[T9 _ F0,sx2];split<;>split<;>omega
 rw[e];rfl
theorem Av5(bk:Int->LX->Option (LX×Int))(a:Nat)(acc:LX)(h:a+3<=b.length)(hl:b.length<=100000)(ha:acc.length<=100000)(j28:Int->LX->Option (LX×Int))(j30:LX->Option (LX×Int)):
  Fg j28 (Jz bk 24 b) j30 24 b (a:Int) acc=bk ((a+3:Nat):Int) (acc++[Int32.ofInt (sx 3 b a)]):=by
 have h0:=uA b a;have h1:=uA b (a+1);have h2:=uA b (a+2);have q:Ej (24:Int) 8=3:=F4
 have hF:Ay=(Ay-4)+1+1+1+1:=by have:=Bc;omega
 have z0:(GI.toZ (Cm (8:Int) 0)).toNat=0:=F4
 have z1:(GI.toZ (Cm (8:Int) 1)).toNat=8:=F4
 have z2:(GI.toZ (Cm (8:Int) 2)).toNat=16:=F4
 have z8:(GI.toZ (Ap (32:Int) 24)).toNat=8:=F4
 have s0:Dp (Int32.ofInt (Oh b a:Int)) 0=Int32.ofInt (Oh b a:Int):=by have:=vL (v:=Oh b a) 0 F0 F0;simpa using this
 have s1:Dp (Int32.ofInt (Oh b (a+1):Int)) 8=Int32.ofInt ((Oh b (a+1)*2^8:Nat):Int):=vL 8 F0 F0;have s2:Dp (Int32.ofInt (Oh b (a+2):Int)) 16=Int32.ofInt ((Oh b (a+2)*2^16:Nat):Int):=vL 16 F0 F0;have o1:=eF (v:=Oh b a) (w:=Oh b (a+1)) (i:=8) (by simpa using h0) F0 F0;have o2:=eF (v:=Oh b a+Oh b (a+1)*2^8) (w:=Oh b (a+2)) (i:=16) F0 F0 F0;have c:=carry (v:=Oh b a+Oh b (a+1)*2^8+Oh b (a+2)*2^16) (k:=8) F0 F0 F0;rw[Fg,A7 F6,A4 (by rw[Dh];decide),Jz,hF,El,Fe,q,A7 F4,show Ae (a:Int) 0=((a:Nat):Int) by rw[Aj];omega,mJ F0,Aa,Bt F4,Aa,z0,
  LY,show((b.getD a 0).toNat:Int)=(Oh b a:Int)from rfl,s0,Afg _ F0,show Ae (0:Int) 1=1 by decide,
  El,Fe,q,A7 F4,show Ae (a:Int) 1=((a+1:Nat):Int) by rw[Aj];omega,mJ F0,Aa,Bt F4,Aa,z1,
  LY,show((b.getD (a+1) 0).toNat:Int)=(Oh b (a+1):Int)from rfl,s1,o1,show Ae (1:Int) 1=2 by decide,
  El,Fe,q,A7 F4,show Ae (a:Int) 2=((a+2:Nat):Int) by rw[Aj];omega,mJ F0,Aa,Bt F4,Aa,z2,
  LY,show((b.getD (a+2) 0).toNat:Int)=(Oh b (a+2):Int)from rfl,s2,o2,show Ae (2:Int) 1=3 by decide,
  El,Fe,q,A4 F4,Tu,CT,Bt F4,Aa,Aa,z8,c,Bi F5,Aa,Hw,Tp,q,Aj]
 have e:((if(Oh b a+Oh b (a+1)*2^8+Oh b (a+2)*2^16)*2^8<2147483648 then(((Oh b a+Oh b (a+1)*2^8+Oh b (a+2)*2^16)*2^8:Nat):Int)else(((Oh b a+Oh b (a+1)*2^8+Oh b (a+2)*2^16)*2^8:Nat):Int)-4294967296).fdiv (2^8))=sx 3 b a:=by
  rw[T9 _ F0,sx3];split<;>split<;>omega
 rw[e];rfl
theorem Aoz(bits:Int)(n m:Nat)(hn:1<=n)(hm:b.length=m*n)(hl:b.length<=100000)(step:∀(q a:Nat) (acc:LX),a+n<=b.length->acc.length<=100000->Dx bits b (q+1) (a:Int) acc=Dx bits b q ((a+n:Nat):Int) (acc++[Int32.ofInt (sx n b a)])):
  ∀(j x q:Nat),x+j=m->j<q->Dx bits b q ((x*n:Nat):Int) (iM n x b)=some (iM n m b,0)
 |0,x,q+1,hx,_=>by
  obtain rfl:x=m:=F0
  rw[Dx,Fg,A4 F6];rfl
 |j+1,x,q+1,hx,hq=>by
  have h1:(x+1)*n<=m*n:=C2 n F0;rw[B5,R3]at h1;have h2:m<=m*n:=mg m hn;rw[step q (x*n) _ F0 (by rw[uD];omega),<-An6,show x*n+n=(x+1)*n by rw[B5,R3]];exact Aoz bits n m hn hm hl step j (x+1) q F0 F0
theorem Aze{bits:Int}(h:Cy bits)(hl:b.length<=100000)(q a:Nat)(acc:LX)(ha:a+wB bits<=b.length)(hc:acc.length<=100000):
  Dx bits b (q+1) (a:Int) acc=Dx bits b q ((a+wB bits:Nat):Int) (acc++[Int32.ofInt (sx (wB bits) b a)]):=by
 rw[Dx];obtain rfl|rfl|rfl:=h
 ·exact Azb b _ a acc ha hl hc _ _
 ·exact Auu b _ a acc ha hl hc _ _
 ·exact Av5 b _ a acc ha hl hc _ _
theorem Ark{bits:Int}(h:Cy bits){m:Nat}(hm:b.length=m*wB bits)(h4:m<=4000):Od bits b=some (iM (wB bits) m b,0):=by
 have hn:=nX bits;have hl:b.length<=12000:=by rw[hm];exact P8 h4 hn.2
 rw[Od,EX,e_ h,Aa];simp only;rw[A4 DZ,gX h,Bt M_,Aa];have hr:Me (Ad b) (wB bits:Int)=0:=by rw[Ad,JG,hm,TC];rfl
 have hq:Ej (Ad b) (wB bits:Int)=(m:Int):=by rw[Ad,IG,hm,eT _ F0]
 rw[A4 (by rw[Bj,hr];simp),Aa,hq,A4 Q9,RL];have:=Aoz b bits (wB bits) m F0 hm F0 (λq a acc ha hc=>Aze b h F0 q a acc ha hc) m 0 Ay F0 B7;simpa [iM]using this
end Go.Pl
namespace Go.Pl
open Go Go.Lv
theorem Aum{w:Nat}(hw:Cy (w:Int)):8*wB (w:Int)=w/\w<=24:=by
 have h:w=8\/w=16\/w=24:=by unfold Cy at hw;omega
 rcases h with rfl|rfl|rfl<;>exact⟨rfl,F0⟩
theorem uB{t c w:Nat}(ht:t<=4000)(hc:c<=6)(hw:Cy (w:Int)):Ej (Cm (Cm (t:Int) (c:Int)) (w:Int)) 8=((t*(c*wB (w:Int)):Nat):Int):=by
 obtain⟨h1,h2⟩:=Aum hw;have e1:(t:Int)*(c:Int)=((t*c:Nat):Int):=by simp
 have b1:t*c<=4000*6:=P8 ht hc;have b2:t*c*w<=24000*24:=P8 b1 h2;rw[Gk (a:=(t:Int)) (by rw[e1];omega) (by rw[e1];omega),e1,Gk UZ UZ,<-U1,show(8:Int)=((8:Nat):Int)from rfl,IG];congr 1;generalize wB (w:Int)=W at*
 subst h1;rw[Nat.mul_left_comm,zZ _ F0,N9]
theorem uS(z:Int):(u8 z).toNat=(z %256).toNat:=by
 have:(z %256).toNat<256:=F0
 rw[u8,S8,B3 F0]
theorem Q8{bits:Int}(h:Cy bits):∀(l:LX) (i j:Nat),i<l.length->j<wB bits-> (By bits l).getD (i*wB bits+j) 0=(XL bits (l.getD i 0).toInt).getD j 0
 |[],i,j,hi,_=>by simp at hi
 |x::l,0,j,_,hj=>by
  have h1:=uO h x.toInt;have e:By bits (x::l)=XL bits x.toInt++By bits l:=by simp[By]
  rw[e,Xn,K1,B4,B4,I9 F0];rfl
 |x::l,i+1,j,hi,hj=>by
  have h1:=uO h x.toInt;have e:By bits (x::l)=XL bits x.toInt++By bits l:=by simp[By]
  have ih:=Q8 h l i j (by simpa using hi) hj;have e2:(i+1)*wB bits+j=(XL bits x.toInt).length+(i*wB bits+j):=by rw[B5,R3,h1];omega
  rw[e,e2,B4,SF F0,YM,<-B4,ih];rfl
theorem Asg{bits:Int}(h:Cy bits)(l:LX)(hr:Z5 bits l)(i:Nat)(hi:i<l.length):Int32.ofInt (sx (wB bits) (By bits l) (i*wB bits))=l.getD i 0:=by
 have hm:l.getD i 0∈l:=by rw[B4,C? hi];exact N5 hi
 have hv:=hr _ hm;have g:∀j,j<wB bits->Oh (By bits l) (i*wB bits+j)=((XL bits (l.getD i 0).toInt).getD j 0).toNat:=λj hj=>by rw[Oh,Q8 h l i j hi hj]
 generalize l.getD i 0=x at*
 have key:sx (wB bits) (By bits l) (i*wB bits)=x.toInt:=by
  generalize hA:i*wB bits=a at*
  obtain rfl|rfl|rfl:=h
  ·have g0:=g 0 F4;have e1:(XL 8 x.toInt).getD 0 0=u8 (x.toInt+128):=rfl;rw[SJ,e1,uS]at g0;simp only[hB]at hv;simp at hv;have e2:wB 8=1:=rfl;rw[e2,sx,A7 rfl,g0];omega
  ·have g0:=g 0 F4;have g1:=g 1 F4;have e0:(XL 16 x.toInt).getD 0 0=u8 x.toInt:=rfl;have e1:(XL 16 x.toInt).getD 1 0=u8 (x.toInt/256):=rfl;rw[SJ,e0,uS]at g0;rw[e1,uS]at g1;simp only[hB]at hv;simp at hv;have e2:wB 16=2:=rfl;rw[e2,sx2,g0,g1];split<;>omega
  ·have g0:=g 0 F4;have g1:=g 1 F4;have g2:=g 2 F4;have e0:(XL 24 x.toInt).getD 0 0=u8 x.toInt:=rfl;have e1:(XL 24 x.toInt).getD 1 0=u8 (x.toInt/256):=rfl;have e3:(XL 24 x.toInt).getD 2 0=u8 (x.toInt/65536):=rfl;rw[SJ,e0,uS]at g0;rw[e1,uS]at g1;rw[e3,uS]at g2;simp only[hB]at hv;simp at hv;have e2:wB 24=3:=rfl;rw[e2,sx3,g0,g1,g2];split<;>omega
 rw[key];simp
theorem S!{bits:Int}(h:Cy bits)(l:LX)(hr:Z5 bits l):iM (wB bits) l.length (By bits l)=l:=by
 refine U4 (uD _ _ _) λi h1 h2=>?_;have:=Asg h l hr i h2;simp only[iM,Wv,aB];rw[this,B4,C? h2];rfl
theorem O0{seg p:LB}(hs:seg.length=8)(hp:p.length<=64):Rq seg p=some (seg==Uy (GV p).toNat 8,0):=by
 rw[Rq,Ao1 p hp,Aa];simp only;rw[A4 (by rw[Bj,Bj,Ad,Ad,Bw,hs];simp),Ij,Aa]
theorem uH(b p:LB)(m c w h o q n g y ab:Int)(k:LI):CK b p m c w h o q n g y ab k 0=CU b p m c w h o q n g y ab k:=by
 rw[CK,MB,A4 DZ]
theorem Anc(l:LI)(b p:LB)(m c w h o q n g:Int)(k:LI)(hl:l.length<=1000)(h5:∀x∈l,5<=x)(A:Int)(hA:0<=A)(hb:A+l.sum<=1000000):∀(j i z:Nat),i+j=l.length->j<z->Pq l b p m c w h o q n g k z (i:Int) (A+(l.take i).sum)=PC b p l m c w h o q n g (A+l.sum) k
 |0,i,z+1,hi,_=>by
  rw[Pq,CF,A4 F6,show i=l.length by omega,NI]
 |j+1,i,z+1,hi,hz=>by
  have hlt:i<l.length:=F0
  have b1:=Kh h5 i;have b2:=Kh h5 (i+1);have e:=Of hlt;have ih:=Anc l b p m c w h o q n g k hl h5 A hA hb j (i+1) z F0 F0;rw[e,<-oI]at ih;rw[Pq,CF,A7 F6,Dy hlt,Aa,Aa,Aj,Aj];exact ih
def Bal(b:LB):LI:=Bb (Ak (f3 (hdr b))) (f4 (hdr b))
theorem oG{p:Prop}(h:p:=by simp[Bj,Ag,Be];omega):p:=h
theorem B_{ch:Nat}{bits:Int}(hb:Cy bits)(h1:1<=ch)(h6:ch<=6):Fv (ch:Int) bits=some 0:=by
 have hr:∃x y,Qn bits=some (x,y,0):=⟨_,_,e_ hb⟩;obtain⟨x,y,hr⟩:=hr;rw[Fv,hr,Aa];simp only;rw[A4 oG]
abbrev P6':=Int×Int×Int×LX×LI×Int
def ZZ(e:Int):P6':=(0,0,0,[],[],e)
theorem iS{c r n:Nat}(h:WC c r n=true):1<= (Bb (Ak r) n).length/\ (Bb (Ak r) n).length<=1000:=by
 simp only[WC,B2]at h;rw[jP];exact⟨Nat.le_add_left _ _,h.2⟩
theorem yt(g:Nat):∀K:Nat,(List.replicate K (g:Int)).sum=((K*g:Nat):Int)
 |0=>by simp
 |K+1=>by
  rw[V9,T0,yt g K,VG];omega
theorem kT{g n:Nat}(hn:1<=n):(Bb g n).sum=(n:Int):=by
 have h:=WY (n-1) g;rw[Bb,nP,yt];simp only[T0,cD];omega
theorem J':∀{l:LI},(∀x∈l,0<=x)->0<=l.sum
 |[],_=>by simp
 |x::l,h=>by
  have h1:=h x KM;have h2:=J' (l:=l) λy hy=>h y (H9 _ hy);rw[T0];omega
theorem tH{l:LI}(h:∀x∈l,0<=x)(i:Nat):0<= (l.take i).sum/\ (l.take i).sum<=l.sum:=by
 have h1:=J' (l:=l.take i) λx hx=>h x (aF hx);have h2:=J' (l:=l.drop i) λx hx=>h x (YX hx);have:=Ajs l i;omega
def ZR(c w:Nat)(fr:LI)(k:Nat):Int:=(((fr.take k).sum.toNat*(c*wB (w:Int)):Nat):Int)
section
variable {f c w r n:Nat} (h1:Nz f c w r n=true) (h2:WC c r n=true)
include h1 h2
theorem oZ:(∀x∈Bb (Ak r) n,0<=x)/\ (Bb (Ak r) n).sum=(n:Int)/\n<=4000:=by
 obtain⟨hc,hw,hr,hn,_⟩:=GX h1;have hfit:n<=4000/c:=by simp only[WC,B2]at h2;exact h2.1
 have hn4:n<=4000:=by have:=SW 4000 c;omega
 refine⟨λx hx=>?_,kT hn,hn4⟩;obtain⟨m,rfl,_⟩:=Ac8 (Iu r) hn hx;omega
theorem Ao9(k:Nat)(hk:k<= (Bb (Ak r) n).length):∀(j i q:Nat),i+j=k->j<q->Pe (k:Int) (f:Int) (c:Int) (w:Int) (r:Int) (n:Int) (Bb (Ak r) n) q (((Bb (Ak r) n).take i).sum) (i:Int)=some (ZR c w (Bb (Ak r) n) k,0)
 |0,i,q+1,hi,_=>by
  obtain⟨hc,hw,hr,hn,_⟩:=GX h1;obtain⟨g1,g2,g3⟩:=oZ h1 h2;have b:=tH g1 i;obtain rfl:i=k:=F0
  rw[Pe,BM,A4 T5,LZ,Aj5,ZR];have e:((Bb (Ak r) n).take i).sum=((((Bb (Ak r) n).take i).sum.toNat:Nat):Int):=F0
  rw[e,uB F0 hc.2 hw];rfl
 |j+1,i,q+1,hi,hq=>by
  obtain⟨g1,g2,g3⟩:=oZ h1 h2;have hK:=iS h2;have hlt:i<(Bb (Ak r) n).length:=F0
  have b1:=tH g1 i;have b2:=tH g1 (i+1);have e:=Of hlt;have ih:=Ao9 k hk j (i+1) q F0 F0;rw[e]at ih;rw[Pe,BM,A7 G4,Dy hlt,Aa,Aa,Aj,Aj];exact ih
theorem Ahd(k:Nat)(hk:k<= (Bb (Ak r) n).length):SC (f:Int) (c:Int) (w:Int) (r:Int) (n:Int) (k:Int)=some (ZR c w (Bb (Ak r) n) k,0):=by
 have hK:=iS h2;have h:=Ao9 h1 h2 k hk k 0 Ay F0 B7;rw[Ty,cD]at h;rw[SC,PW,Uc h1 h2,Aa];simp only;rw[A4 (by simp[Bj,Be,Ad];omega)];exact h
end
theorem mA{bits:Int}(h:Cy bits){l:LX}(hl:l.length<=4000)(hr:Z5 bits l):Bo bits l=some 0:=by
 have hh:=iC bits;have key:∀(j i q:Nat),i+j=l.length->j<q->Bl l (hB bits) q (i:Int)=some 0:=by
  intro j
  induction j with
  |zero=>
   intro i q hi hq;obtain⟨q,rfl⟩:∃k,q=k+1:=⟨q-1,F0⟩;rw[Bl,Dt,A4 F6];rfl
  |succ j ih=>
   intro i q hi hq;obtain⟨q,rfl⟩:∃k,q=k+1:=⟨q-1,F0⟩;have hx:=hr l[i] (N5 F0);rw[Bl,Dt,A7 F6,Dy,Aa,Aa,YV,jQ,Df F0 F0,Aj,Ag,Gf,A4 F5,A4 F5];exact ih (i+1) q F0 F0
 rw[Bo,Ee,yV h,Aa,A4 OU,A4 J5];exact key l.length 0 Ay F0 B7
theorem Abr(bits:Int)(a b:LX):By bits (a++b)=By bits a++By bits b:=by unfold By;rw[n?]
def fD{α:Type}(G:Nat->List α):Nat->Nat->List α
 |0,_=>[]
 |j+1,k=>G k++fD G j (k+1)
def Jh(bits:Int)(ch:Nat)(t x:LX):LU:=evl bits ch t (mx ch x) x.length
def DY(bits:Int)(ch:Nat)(t x:LX):LB:=Jg (Mm ch (Jh bits ch t x) x.length)
def Oy(bits:Int)(ch:Nat)(t x:LX):LB:=DY bits ch t x++Uy (Hq (DY bits ch t x)).toNat 4
theorem R? (bits:Int)(ch:Nat)(t x:LX)(h0:1<=x.length)(h4:x.length<=4000):1<= (DY bits ch t x).length/\ (DY bits ch t x).length<=40501:=by
 have h:=VX ch (Jh bits ch t x) x.length;obtain⟨k,hk⟩:∃k,x.length=k+1:=⟨x.length-1,F0⟩;have h1:1<= (Mm ch (Jh bits ch t x) x.length).length:=by
  rw[hk,Mm,A?];have hn:=D' ch ((Jh bits ch t x).take k);have:=WQ ((Jh bits ch t x).getD k 0) hn.1 hn.2;omega
 rw[DY,Te];omega
theorem sF(bits:Int)(ch:Nat)(t x:LX)(h0:1<=x.length)(h4:x.length<=4000):5<= (Oy bits ch t x).length/\ (Oy bits ch t x).length<=40505:=by
 have:=R? bits ch t x h0 h4;rw[Oy,A?,Bw];omega
theorem Aik(bits:Int)(ch:Nat)(t x:LX)(h0:1<=x.length)(h4:x.length<=4000):dP (Oy bits ch t x)=0/\ (Oy bits ch t x).take ((Oy bits ch t x).length-4)=DY bits ch t x:=by
 have h:=sF bits ch t x h0 h4;have hl:(Oy bits ch t x).length-4=(DY bits ch t x).length:=by rw[Oy,A?,Bw];omega
 have h1:(Oy bits ch t x).take ((Oy bits ch t x).length-4)=DY bits ch t x:=by rw[hl,Oy,c!]
 have h2:(Oy bits ch t x).drop ((Oy bits ch t x).length-4)=Uy (Hq (DY bits ch t x)).toNat 4:=by rw[hl,Oy,Tz]
 have hlt:=(Hq (DY bits ch t x)).toNat_lt;refine⟨?_,h1⟩;rw[dP,A4 F0,A4 F0,h1,h2,FV,B3 F0,A4 F8]
theorem Aow{bits:Int}{ch n:Nat}{t x:LX}(hb:Cy bits)(ht:t.length=16)(h1:1<=ch)(h6:ch<=6)(n1:1<=n)(n2:n<=4000/ch)(hx:x.length=n*ch)(hr:Z5 bits x):
  Hs (ch:Int) bits t (n:Int) (Oy bits ch t x)=some (x,0):=by
 have hn:n*ch<=4000:=by
  have:=C2 ch n2;have h2:=WY 4000 ch;omega
 have hq4:=su h1 h6;have hx1:1<=x.length:=by rw[hx];exact WA n1 h1
 generalize 4000/ch=mm at*
 have hlen:=sF bits ch t x hx1 F0;obtain⟨hs,htk⟩:=Aik bits ch t x hx1 F0;have hpl:=R? bits ch t x hx1 F0;have hVl:(Jh bits ch t x).length=x.length:=lP _ _ _ _ _;have hEl:=Te (Mm ch (Jh bits ch t x) x.length);have hvb:=At7 ch (Jh bits ch t x) (8*(DY bits ch t x).length) (by rw[hVl,DY,hEl];omega) (n*ch) 0 F0;rw[hVl]at hvb;have hvb':tX ch (DY bits ch t x) (8*(DY bits ch t x).length) (n*ch) 0 []=(Jh bits ch t x,(Mm ch (Jh bits ch t x) x.length).length,0):=hvb;have hz:Da (DY bits ch t x) (Mm ch (Jh bits ch t x) x.length).length (8*(DY bits ch t x).length-(Mm ch (Jh bits ch t x) x.length).length)=0:=by
  apply wF;intro k _;rw[DY,AH,X_ F0]
 have Ben:¬7<8*(DY bits ch t x).length-(Mm ch (Jh bits ch t x) x.length).length:=by rw[DY,hEl];omega
 have hge:(Mm ch (Jh bits ch t x) x.length).length<=8*(DY bits ch t x).length:=by rw[DY,hEl];omega
 have hm:(Jh bits ch t x).length %ch=0:=by rw[hVl,hx];exact TC n ch
 have hsm:smp bits ch t (Jh bits ch t x)=mx ch x:=by
  have:=Aqw bits ch t (mx ch x);rw[HQ]at this;exact this
 have e8:Cm (8:Int) (Ad (DY bits ch t x))=((8*(DY bits ch t x).length:Nat):Int):=by rw[Ad,Gk];omega
 have hp:=Apr (DY bits ch t x) F0;have hv:=values_eq hp h1 h6 hn;have hmx:=HQ ch x;rw[Hs,B_ hb h1 h6,Aa,A4 DZ,A4 G4,Bt M_,Aa,hq4,A4 Q9,Bea,hs,htk,A4 F8];simp only[Aa];rw[A4 F4,w_,A4 J5,Bm,Bi F5,Aa,Aa,Aa,O7,e8];simp only;rw[A4 F4,hv,hvb',A4 F8];simp only[Aa];generalize(Mm ch (Jh bits ch t x) x.length).length=at' at*
 generalize DY bits ch t x=p at*
 rw[A4 F4,Dv,show((8*p.length:Nat):Int)-(at':Int)=((8*p.length-at':Nat):Int) by omega,A4 T4,vH hp at' _ F0,A4 F0,Aa];simp only;rw[A4 (by rw[C9,Ut,hz];decide),Ajk hb ht h1 h6 F0,hsm,Kt,JS,Aqd ch _ h1 h6 (by rw[hmx,hx];exact TC n ch) F0,Au8 h1 (by rw[hx];exact TC n ch),Aa];simp only;rw[A4 F4,ON hb _ F0,mA hb F0 hr,Aa,A4 F4];rfl
theorem oh(p:LB)(b0:UInt64)(a0:Int):∀(j m q:Nat),m+j<=300000->j<=64->j<q->
  Np b0 a0 q (Ut p m j) (j:Int) (m:Int) (Tk p 0 m)=some (Tk p 0 (m+j),((m+j:Nat):Int),0)
 |0,m,q+1,_,_,_=>by
  rw[Np,KG,A4 ZK,aQ,At2];rfl
 |j+1,m,q+1,hm,hj,hq=>by
  have hroom:Np b0 a0 (q+1) (Ut p m (j+1)) ((j+1:Nat):Int) (m:Int) (Tk p 0 m)=KS (Np b0 a0 q) b0 a0 (Ut p m (j+1)) ((j+1:Nat):Int) (m:Int) (room p 0 m):=by
   rw[Np,KG,A7 ZK,yA m F0,room];by_cases h0:m %8=0
   ·rw[A7 (by rw[Dh,h0];rfl),Bi oL,Aa,A7 h0]
   ·rw[A4 OU,A4 h0]
  have hl:Ap (Ad (room p 0 m)) 1=((m/8:Nat):Int):=by
   rw[Ad,Pc,Dv];omega
  have e2:Fy ((j+1:Nat):Int) (Ap (8:Int) ((m %8:Nat):Int))=((min (j+1) (8-m %8):Nat):Int):=by
   rw[PO,Dv];omega
  rw[hroom,KS,Atm,yA m F0,e2,hl];generalize hT:min (j+1) (8-m %8)=T;have hT1:1<=T:=F0
  have hT8:m %8+T<=8:=F0
  have hg:Af (room p 0 m) ((m/8:Nat):Int)=some (UInt8.ofNat (Da p (0+8*(m/8)) (m %8))):=by
   rw[Dy ZI,wR]
  have z1:(GI.toZ ((m %8:Nat):Int)).toNat=m %8:=rfl;have z2:(GI.toZ ((T:Nat):Int)).toNat=T:=rfl;have hlt:=I8 p (0+8*(m/8)) (m %8+T) F0;have hadd:=GU p (m %8) T (0+8*(m/8));rw[show 0+8*(m/8)+m %8=m by omega]at hadd;have hbyte:(Ah (Ed (Ut p m (j+1)) (Ap (Dp (1:UInt64) T) (1:UInt64))):UInt8)=UInt8.ofNat (Da p m T):=by
   rw[bJ,yR _ F0,qT p m (j+1) T F0 hj]
  have hnew:pO (UInt8.ofNat (Da p (0+8*(m/8)) (m %8))) (Dp (UInt8.ofNat (Da p m T)) (m %8))=UInt8.ofNat (Da p (0+8*(m/8)) (m %8+T)):=by
   rw[or8 (Ng _ _ _) gN F0,hadd,I! (2^(m %8))]
  rw[hg,z1,z2,hbyte];simp only[Aa];rw[Bt SQ,Aa,Bt T4,Aa,hnew,FR _ ZI,Aa,K4 p 0 m T hT1 hT8,At3,Anr,yA m F0,e2,hT,Bt SQ,Aa,z2,oY p m (j+1) T F0 hj,Dv,Aj];have ih:=oh p b0 a0 (j+1-T) (m+T) q F0 F0 F0;rw[show m+T+(j+1-T)=m+(j+1) by omega]at ih;rw[<-ih,show((j+1:Nat):Int)-((T:Nat):Int)=((j+1-T:Nat):Int) by omega,show(m:Int)+((T:Nat):Int)=((m+T:Nat):Int) by omega]
theorem put_eq(p:LB)(m j:Nat)(hm:m+j<=300000)(hj:j<=63):OO (Tk p 0 m) (m:Int) (Ut p m j) (j:Int)=some (Tk p 0 (m+j),((m+j:Nat):Int),0):=by
 have hz:Bg (Cl (Ut p m j) (GI.toZ (j:Int)).toNat) 0=false:=by
  have:Cl (Ut p m j) j=0:=by
   apply UInt64.toNat_inj.1;rw[CE,Xi p m j F0,UU (Ng p j m)];rfl
  rw[show(GI.toZ (j:Int)).toNat=j from rfl,this];rfl
 have hl:=Iq p 0 m;have htw:VO (Tk p 0 m) (m:Int)=some (Tk p 0 m,(m:Int)):=by
  rw[VO,Bm,Bi F5,Aa,Aa];rfl
 rw[OO,gA,Vq (D6 p 0 m F0),Aa,A4 F4,A4 OK,A7 G4,Bt SQ,Aa,hz,A4 F4,Aj,A4 Q9,htw,Aa];exact oh p _ _ j m Ay hm F0 B7
theorem At.cat{p:LB}{a:Nat}{c d:List Bool}(h:At p a (c++d)):At p a c/\At p (a+c.length) d:=⟨h.left,h.right⟩
theorem Aby (p:LB):∀(q a:Nat),At p a (List.replicate q true)->Da p a q+1=2^q
 |0,a,_=>by rw[Da]
 |q+1,a,h=>by
  rw[V9]at h;obtain⟨h0,h1⟩:=h.cons;have:=Aby p q (a+1) h1;rw[Da,h0,L8,A7 rfl];omega
theorem xF{x:UInt64}{p:LB}{m n:Nat}(hn:n<=63)(h:x.toNat=Da p m n):x=Ut p m n:=by
 apply UInt64.toNat_inj.1;rw[h,Xi p m n F0]
theorem SK{n:Nat}(h:n<2^64):(UInt64.ofNat n).toNat=n:=by rw[P6];exact B3 h
theorem Arl{p:LB}{m q:Nat}(hq:q<=48)(hm:m+48<=300000)(h:At p m (List.replicate q true++(if q=48 then []else [false]))):
  RC (Tk p 0 m) (m:Int) (q:Int)=some (Tk p 0 (m+min (q+1) 48),((m+min (q+1) 48:Nat):Int),0):=by
 have h1:=h.left;have hv:=Aby p q m h1;have Beo:2^q<=2^48:=IV F0 hq;have hval:Da p m (min (q+1) 48)+1=2^q:=by
  by_cases h48:q=48
  ·subst h48;exact hv
  ·rw[A4 h48]at h;have h2:=h.right;rw[S6]at h2;have h0:=h2.cons.1;rw[show min (q+1) 48=q+1 by omega,vS,h0];simpa using hv
 have hx:(Ap (Dp (1:UInt64) q) (1:UInt64)).toNat=Da p m (min (q+1) 48):=by
  have e1:(Dp (1:UInt64) q).toNat=2^q:=by rw[OI];show 1*2^q %_=_;rw[R3];exact B3 F0
  have hpos:0<2^q:=U7 F0;rw[Aty,UInt64.toNat_sub_of_le _ _ (by rw[UInt64.le_iff_toNat_le,e1];exact hpos),e1]
  show 2^q-1=_;omega
 rw[RC,Vq (D6 p 0 m F0),Aa,A4 F4,cW,A4 OK,Aa];simp only;have e2:Fy (Ae (q:Int) 1) 48=((min (q+1) 48:Nat):Int):=by rw[PO,Aj];omega
 rw[A4 F4,Bt SQ,Aa,e2,show(GI.toZ (q:Int)).toNat=q from rfl,xF F0 hx,put_eq p m _ F0 F0,Aa]
theorem Alm{p:LB}{m l:Nat}{v:UInt32}(hl:l<=24)(hm:m+81<=300000)(h:At p m (MV l v.toNat)):
  aI (Tk p 0 m) (m:Int) v (l:Int)=some (Tk p 0 (m+(MV l v.toNat).length),((m+(MV l v.toNat).length:Nat):Int),0):=by
 have hvl:=v.toNat_lt;have hz:(GI.toZ (l:Int)).toNat=l:=rfl;have hlp:2^l<=2^24:=IV F0 hl;have hpos:0<2^l:=U7 F0;have Bb6:Vh v (l:Int)=some (decide (48<=v.toNat/2^l)):=by
  rw[Vh,Bt SQ,Aa,hz,sX,OH];rfl
 rw[aI,An2,Vq (D6 p 0 m F0),Aa,A4 F4,A4 OK,Bt SQ,Aa,Aa,Bb6,Aa];rw[MV]at h⊢;by_cases h48:48<=v.toNat/2^l
 ·rw[A7 h48]at h⊢;obtain⟨h1,h2⟩:=h.cat;rw[S6]at h2;have hval:=ES p 32 (m+48) v.toNat h2;rw[B3 F0]at hval;have hu:=Arl (p:=p) (m:=m) (q:=48) (C4 _) F0 (by rw[A7 rfl,F_];exact h1);rw[A7 (by simpa using h48),TQ,UO,show(48:Int)=((48:Nat):Int)from rfl,hu,Aa];simp only;rw[A4 F4,Fo,xF (x:=UInt64.ofNat v.toNat) (p:=p) (m:=m+48) (n:=32) F0 (by rw[SK F0,hval]),show(32:Int)=((32:Nat):Int)from rfl,show m+min (48+1) 48=m+48 by omega,put_eq p (m+48) 32 F0 F0,Aa,A?,S6,Qf,K7]
 ·rw[A4 h48]at h⊢;generalize hq:v.toNat/2^l=q at*
  obtain⟨h1,h2⟩:=h.cat;rw[S6]at h2;obtain⟨h3,h4⟩:=h2.cons;have hval:=ES p l (m+q+1) (v.toNat %2^l) h4;rw[cH]at hval;have hqa:At p m (List.replicate q true++[false]):=by
   have:List.replicate q true++(false::eK (v.toNat %2^l) l)=(List.replicate q true++[false])++eK (v.toNat %2^l) l:=by simp
   rw[this]at h;exact h.left
  have hu:=Arl (p:=p) (m:=m) (q:=q) F0 F0 (by rw[A4 F0];exact hqa);have hgq:(Ah (Cl v l):Int)=(q:Int):=by rw[Ac2,OH,hq]
  have hrest:(Ah (Ed v (Ap (Dp (1:UInt32) l) 1)):UInt64)=Ut p (m+q+1) l:=by
   apply xF F0;have e1:(Dp (1:UInt32) l).toNat=2^l:=by rw[gL];show 1*2^l %_=_;rw[R3];exact B3 F0
   have e2:(Ap (Dp (1:UInt32) l) (1:UInt32)).toNat=2^l-1:=by
    rw[H?,mY _ _ (by rw[mZ,e1];exact hpos),e1];rfl
   have e3:(Ed v (Ap (Dp (1:UInt32) l) 1)).toNat=v.toNat %2^l:=by
    rw[N6,fJ,e2,Zy]
   rw[Fo,SK (by rw[e3];have:=Sf v.toNat hpos;omega),e3,hval]
  rw[A4 (by simpa using h48),TQ,UO,hz,hgq,hu,Aa];simp only;rw[A4 F4,hrest,show m+min (q+1) 48=m+q+1 by omega,put_eq p (m+q+1) l F0 F0,Aa,A?,S6,B6,Qf,show m+q+1+l=m+(q+(l+1)) by omega]
theorem Aky{k l:Nat}{s t:UInt64}(h:okD k l s t)(v:UInt32):cV [] 0 (k:Int) (l:Int) s t v=
  some (Jg (Og k l v),((Og k l v).length:Int),((kS k (KO s (mo v)):Nat):Int),((lK l t k v:Nat):Int),KO s (mo v),lT t k v,0):=by
 obtain⟨h1,h2,h3,h4⟩:=h;have hvl:=v.toNat_lt;have hAt:At (Jg (Og k l v)) 0 (Og k l v):=λi hi=>by rw[K1,AH]
 have hlen:=WQ v h1 h2;have hfull:Tk (Jg (Og k l v)) 0 (Og k l v).length=Jg (Og k l v):=by
  apply qI (by rw[Iq,Te]);intro i hi;rw[tY,K1,AH];by_cases hlt:i<(Og k l v).length
  ·rw[A7 hlt]
  ·rw[A4 hlt,X_ F0]
 generalize hP:Jg (Og k l v)=P at*
 have h0:Tk P 0 0=[]:=rfl;have zF:∀(x:Int) (y:UInt64) (aj ai:Int),Xj v (k:Int) s ai P x y=some (P,ai,((kS k (KO s (mo v)):Nat):Int),x,KO s (mo v),y,0):=by
  intro x y aj ai;rw[Xj,TP,Fo,YG,cu k h1];rw[An3,TE,PL,DO,Fo,YG];rfl
 have hp7:∀ai:Int,UP v (k:Int) (l:Int) s t 0 ai P=some (P,ai,((kS k (KO s (mo v)):Nat):Int),((lK l t k v:Nat):Int),KO s (mo v),lT t k v,0):=by
  intro ai;rw[UP,TV,A4 F4,M8 k l s t h1,Aa];by_cases hv:v.toNat<2^k
  ·rw[A7 hv];simp only;rw[A4 ZJ,zF _ _ 0,lK,A7 hv,lT,A7 hv]
  ·rw[A4 hv];simp only;rw[A7 cP,Fo,YG,cu l h2 _ (λx=>Xj v (k:Int) s ai P x (KO t (UInt64.ofNat (oK k v).toNat))),zF _ _ 0,lK,A4 hv,lT,A4 hv];rfl
 rw[cV,UG,show Ib [] 0=some 0 from rfl,Aa,A4 F4,v! ⟨h1,h2,h3,h4⟩,Aa,A4 F4,Amn,TL,M8 k l s t h1,Aa];have hput:=put_eq P 0 1 F0 F0;rw[h0,K1,show((0:Nat):Int)=0 from rfl,show((1:Nat):Int)=1 from rfl]at hput;by_cases hv:v.toNat<2^k
 ·have hc:Og k l v=false::eK v.toNat k:=by rw[Og,A7 hv]
  rw[hc]at hAt hfull;obtain⟨b0,b1⟩:=hAt.cons;have hval:=ES P k 1 v.toNat b1;rw[B3 hv]at hval;have hz:(Ah (0:Int):UInt64)=Ut P 0 1:=xF F0 (by rw[sJ,b0];rfl);rw[A7 hv];simp only;rw[hz,hput,Aa];simp only;rw[A7 F4,Fo,xF (x:=UInt64.ofNat v.toNat) (p:=P) (m:=1) (n:=k) F0 (by rw[SK F0,hval]),show(1:Int)=((1:Nat):Int)from rfl,put_eq P 1 k F0 F0,Aa];simp only;rw[B6,Qf,VF k 1]at hfull;rw[hfull,hp7,hc,B6,Qf,VF k 1]
 ·have hc:Og k l v=true::MV l (v.toNat-2^k):=by rw[Og,A4 hv]
  rw[hc]at hAt hfull;obtain⟨b0,b1⟩:=hAt.cons;have hsub:=Nat.sub_le v.toNat (2^k);have hlv:(oK k v).toNat=v.toNat-2^k:=by rw[oK,cQ F0]
  have hz:(Ah (1:Int):UInt64)=Ut P 0 1:=xF F0 (by rw[sJ,b0];rfl);have hr:=Alm (p:=P) (m:=1) (l:=l) (v:=oK k v) h2 F0 (by rw[hlv];exact b1);rw[hlv,show((1:Nat):Int)=1 from rfl]at hr;rw[A4 hv];simp only;rw[hz,hput,Aa];simp only;rw[A4 F4,A7 F4,hr,Aa];simp only;rw[B6,VF _ 1]at hfull;rw[hfull,hp7,hc,B6,VF _ 1]
section
variable (ch:Nat) (x:LX)
theorem QO{at' i:Nat}(ha:at' %ch=0)(hi:i<ch)(h:at'+i<x.length):(mx ch x).getD (at'+i) 0=mxV (λi=>x.getD (at'+i) 0) ch i:=by
 have hb:(at'+i) %ch=i:=by rw[Nat.add_mod,ha,K1,cH,B3 hi]
 rw[w? h,hb,show at'+i-i=at' by omega]
theorem pS(bk:Int->LX->Option (LX×Int))(at':Nat)(h1:1<=ch)(h6:ch<=6)(hm:at' %ch=0)(hl:at'+ch<=x.length)(hl2:x.length<=4000):∀(j i q:Nat),i+j=ch-1->j<q->
  AN bk (ch:Int) (at':Int) q (i:Int) (wV (λk=>decide (k<at'+i)) (mx ch x) x)=bk ((at'+ch:Nat):Int) (wV (λk=>decide (k<at'+ch)) (mx ch x) x)
 |j,i,0,_,h=>absurd h (U0 _)
 |0,i,q+1,hi,_=>by
  have hlen:=HQ ch x;have e1:Ap (Ae (at':Int) (ch:Int)-(at':Int)) 1=((ch-1:Nat):Int):=by rw[Aj,Dv];omega
  have e2:Ae (at':Int) (ch:Int)-(at':Int)=(ch:Int):=by rw[Aj];omega
  have e4:Ae (at':Int) (ch:Int)=((at'+ch:Nat):Int):=by rw[Aj];omega
  rw[AN,RF,e1,A4 G4,lE,Aw3,e1,e2];obtain rfl:i=ch-1:=F0
  by_cases h2:1<ch
  ·have e3:Ap ((ch-1:Nat):Int) 1=((ch-2:Nat):Int):=by rw[Dv];omega
   have hv:Ap (x.getD (at'+(ch-1)) 0) (Ej ((mx ch x).getD (at'+(ch-2)) 0) 2)=(mx ch x).getD (at'+(ch-1)) 0:=by
    rw[QO ch x hm F0 F0,QO ch x hm F0 F0,mxV,mxV,A7 F0,A4 F0,A7 h2,WX,show ch-2+1=ch-1 by omega]
   rw[A7 Q9,nZ F0,Aa,e3,nZ F0,Aa,
    show(at':Int)+((ch-1:Nat):Int)=((at'+(ch-1):Nat):Int) by omega,show(at':Int)+((ch-2:Nat):Int)=((at'+(ch-2):Nat):Int) by omega,
    KK F0,Aa,KK F0,Aa,Aa,A4 F8,A7 F5,hv,rL F0,Aa,iU,iA,e4]
   congr 1;apply KX;intro k _;rw[N4];simp;omega
  ·obtain rfl:ch=1:=F0
   have hlast:x.getD at' 0=(mx 1 x).getD at' 0:=by
    have:=QO 1 x (i:=0) hm F0 F0;rw[SJ]at this;rw[this,mxV,A4 F0,A4 F0];rfl
   rw[A4 ZK,iU,iA,e4];congr 1;apply U4 (by rw[KT,KT]);intro k g1 g2;rw[Uk,Uk];by_cases hk:k<at'
   ·rw[A7 F5,A7 F5]
   ·by_cases hk2:k=at'
    ·subst hk2;rw[A4 F8,A7 F8];exact hlast
    ·rw[A4 F5,A4 F5]
 |j+1,i,q+1,hi,hq=>by
  have hlen:=HQ ch x;have e1:Ap (Ae (at':Int) (ch:Int)-(at':Int)) 1=((ch-1:Nat):Int):=by rw[Aj,Dv];omega
  have e2:Ae (at':Int) (ch:Int)-(at':Int)=(ch:Int):=by rw[Aj];omega
  have e3:Ae (i:Int) 1=((i+1:Nat):Int):=by rw[Aj];omega
  have hv:Ap (x.getD (at'+(i+1)) 0) (x.getD (at'+i) 0)=(mx ch x).getD (at'+i) 0:=by
   rw[QO ch x hm F0 F0,mxV,A7 F0,WX]
  rw[AN,RF,e1,A7 G4,e2,e3,nZ F0,Aa,nZ F0,Aa,
   show(at':Int)+((i+1:Nat):Int)=((at'+(i+1):Nat):Int) by omega,show(at':Int)+(i:Int)=((at'+i:Nat):Int) by omega,
   KK F0,Aa,KK F0,Aa,Aa,A4 F8,A4 F8,hv,rL F0,Aa]
  have ih:=pS bk at' h1 h6 hm hl hl2 j (i+1) q F0 F0;rw[<-ih];congr 1;apply KX;intro k _;rw[N4];simp;omega
theorem Avp(h1:1<=ch)(h6:ch<=6)(hm:x.length %ch=0)(hl2:x.length<=4000):∀(j at' q:Nat),at' %ch=0->at'<=x.length->x.length-at'<=j->j<q->
  AG (ch:Int) q (at':Int) (wV (λk=>decide (k<at')) (mx ch x) x)=some (mx ch x,0)
 |j,at',0,_,_,_,h=>absurd h (U0 _)
 |j,at',q+1,ha,hle,hj,hq=>by
  have hlen:=HQ ch x;have hl:Ad (wV (λk=>decide (k<at')) (mx ch x) x)=(x.length:Int):=by rw[Ad,KT,hlen]
  rw[AG,kU,hl];by_cases h:at'<x.length
  ·have hb:=P7 ha hm h;obtain⟨j,rfl⟩:∃k,j=k+1:=⟨j-1,F0⟩;have e4:Ae (at':Int) (ch:Int)=((at'+ch:Nat):Int):=by rw[Aj];omega
   have hi:=pS ch x (AG (ch:Int) q) at' h1 h6 ha hb hl2 (ch-1) 0 Ay F0 B7;have hrest:=Avp h1 h6 hm hl2 j (at'+ch) q (by rw[nW,ha]) hb F0 F0;rw[SJ]at hi;rw[A7 G4,show ZW (x.length:Int) (at':Int) (Ae (at':Int) (ch:Int))=some () by rw[e4,ZW,nZ];omega,Aa];exact KU hi hrest
  ·rw[A4 G4,zy (λk hk=>by simp;omega)];rfl
theorem Ai1(h1:1<=ch)(h6:ch<=6)(hm:x.length %ch=0)(hl2:x.length<=4000):D8 (ch:Int) x=some (mx ch x,0):=by
 have hlen:=HQ ch x;have h:=Avp ch x h1 h6 hm hl2 x.length 0 Ay F8 F0 F0 B7;rw[D8,pP,Asj ch x h1 h6 hm hl2,Aa,A4 DZ,Db,Bi F5,Aa,Aa,O7,Avh];rw[H3 hlen.symm (λk _=>by simp)]at h;exact h
end
theorem Al1(a:Int32):mN a=some (iT a):=by
 have h:=I5 a;have hc:(Ah a:UInt32)=UInt32.ofNat (a.toInt %4294967296).toNat:=rfl;have hs:(Cl a (GI.toZ (31:UInt64)).toNat)=if 0<=a.toInt then(0:Int32)else -1:=by
  have e:Cl a 31=Int32.ofInt (a.toInt.fdiv (2^31)):=rfl;rw[show(GI.toZ (31:UInt64)).toNat=31 from rfl,e];by_cases h0:0<=a.toInt
  ·rw[A7 h0,show a.toInt.fdiv (2^31)=0 by rw[T9 _ F4];omega];rfl
  ·rw[A4 h0,show a.toInt.fdiv (2^31)= -1 by rw[T9 _ F4];omega];rfl
 rw[mN,hs,hc,iT];congr 1;have hsh:(Dp (UInt32.ofNat (a.toInt %4294967296).toNat) (GI.toZ (1:UInt64)).toNat).toNat=2*(a.toInt %4294967296).toNat %4294967296:=by
  rw[show(GI.toZ (1:UInt64)).toNat=1 from rfl,gL,QJ,B3 (show(a.toInt %4294967296).toNat<2^32 by omega)];omega
 by_cases h0:0<=a.toInt
 ·rw[A7 h0,A7 h0,show(Ah (0:Int32):UInt32)=0 from rfl];apply UInt32.toNat_inj.1;rw[show∀z:UInt32,Wr z (0:UInt32)=z^^^0 from λz=>by rw[sT],aM,hsh,QJ,B3 (show 2*a.toInt.toNat<2^32 by omega)]
  show _^^^0=_;rw[Nat.xor_zero];omega
 ·rw[A4 h0,A4 h0,show(Ah (-1:Int32):UInt32)=4294967295 from rfl];apply UInt32.toNat_inj.1;rw[show∀z:UInt32,Wr z (4294967295:UInt32)=z^^^4294967295 from λz=>by rw[sT],aM,hsh,QJ,B3 (show 2*(-a.toInt-1).toNat+1<2^32 by omega)]
  show _^^^4294967295=_;have key:∀n:Nat,n<4294967296->n^^^4294967295=4294967295-n:=by
   intro n hn;have:=fR (x:=BitVec.ofNat 32 n);rw[<-BitVec.xor_allOnes,fI,BitVec.toNat_ofNat,B3 F0]at this;simpa using this
  rw[key _ F0];omega
theorem Aoh{bits:Int}(h:Cy bits){t p:LX}(hF:OkF (sB bits) t p)(last x:Int32):
  Ta bits last (sB bits) t p x=some (C3 bits (last,t,p) x,bits,x,sB bits,G! t p (C3 bits (last,t,p) x),(x-gs (shB bits) last)::p.take 15,0):=by
 rw[Ta,K9 h,Aa,A4 DZ,vZ h,Aa];simp only;rw[WX,RQ,K! hF,Aa];simp only;rw[A4 DZ,WX,PD,Amm hF,Aa];simp only;rw[qw (s:=sB bits) (t:=G! t p _) (p:=p) ⟨hF.1,RO _ _ _,hF.2.2⟩,Aa,Aa];rfl
theorem ZN{p:Prop}(h:p:=by rw[Dh,Ad,VM];omega):p:=h
theorem gQ{p:Prop}(h:p:=by rw[e64];omega):p:=h
theorem I4(bits:Int)(ch:Nat)(t x:LX):(Jh bits ch t x).length=x.length:=lP _ _ _ _ _
theorem Al6{bits:Int}{ch:Nat}{t x:LX}{i:Nat}(h:i<x.length):(Jh bits ch t x).getD i 0=iT (C3 bits (cst bits ch t (Jh bits ch t x) (i %ch) i) ((mx ch x).getD i 0)):=by
 obtain⟨w,hw⟩:=wz bits ch t (mx ch x) (x.length-(i+1)) (i+1);rw[show i+1+(x.length-(i+1))=x.length by omega,evl,C0]at hw;have hli:=lP bits ch t (mx ch x) i;have hw':Jh bits ch t x=_:=hw;have hg:(Jh bits ch t x).getD i 0=iT (C3 bits (cst bits ch t (evl bits ch t (mx ch x) i) (i %ch) i) ((mx ch x).getD i 0)):=by
  rw[hw',B4,SF F0,hli,Nat.sub_self];rfl
 have hc:cst bits ch t (Jh bits ch t x) (i %ch) i=cst bits ch t (evl bits ch t (mx ch x) i) (i %ch) i:=by rw[hw',rM _ _ _ _ _ _ _ F0]
 rw[hg,hc]
section
variable {bits:Int} {ch:Nat} {t x:LX} (hb:Cy bits) (ht:t.length=16) (h1:1<=ch) (h6:ch<=6) (hx1:1<=x.length) (hx4:x.length<=4000) (hm:x.length %ch=0)
include hb ht h1 h6 hx1 hx4 hm
omit ht in
theorem Aur(hr:Z5 bits x):GC (ch:Int) bits x=some 0:=by
 rw[GC,B_ hb h1 h6,Aa,A4 F4,ON hb x hx4,mA hb hx4 hr,Aa,A4 F4,A4 ZN,Bt M_,Aa,Ad,JG,hm,A4 F4]
omit hm in
theorem Ape:∀(j i q:Nat),i+j=x.length->j<q->
  It (mx ch x) (ch:Int) bits q (i:Int) (cts bits ch t (Jh bits ch t x) i) ((Jh bits ch t x).take i)=some (Jh bits ch t x,0)
 |j,i,0,_,h=>absurd h (U0 _)
 |0,i,q+1,hi,_=>by
  have hl:=HQ ch x;have hV:=I4 bits ch t x;rw[It,Rb,A4 F6,J0 F0];rfl
 |j+1,i,q+1,hi,hq=>by
  have hl:=HQ ch x;have hV:=I4 bits ch t x;have hc:i %ch<6:=E5 (Sf _ F0) h6;have hok:=jF bits ch ht (Jh bits ch t x) (i %ch) i;have hs:=qV (bits:=bits) (ch:=ch) (t:=t) (v:=Jh bits ch t x) (i:=i) hc rfl;have hg:=Al6 (bits:=bits) (ch:=ch) (t:=t) (x:=x) (i:=i) F0;have ih:=Ape j (i+1) q F0 F0;have htk:(Jh bits ch t x).take i++[(Jh bits ch t x).getD i 0]=(Jh bits ch t x).take (i+1):=by
   have:(Jh bits ch t x).getD i 0=(Jh bits ch t x)[i]' F0:=by rw[B4,C? F0];rfl
   rw[this,Gb F0]
  have hfw:=Aoh hb hok (cst bits ch t (Jh bits ch t x) (i %ch) i).1 ((mx ch x).getD i 0);rw[It,Rb,A7 F6,g32 F0,Aa,Aa,Bt M_,Aa,JG,tR hc,Aa,Aa];refine KU (congrArg (λo=>Option.bind o _) hfw) ?_;rw[Aa];simp only;rw[A4 F4];have hst:((bits,(mx ch x).getD i 0,(sB bits,G! (cst bits ch t (Jh bits ch t x) (i %ch) i).2.1 (cst bits ch t (Jh bits ch t x) (i %ch) i).2.2 (C3 bits (cst bits ch t (Jh bits ch t x) (i %ch) i) ((mx ch x).getD i 0)),((mx ch x).getD i 0-gs (shB bits) (cst bits ch t (Jh bits ch t x) (i %ch) i).1)::(cst bits ch t (Jh bits ch t x) (i %ch) i).2.2.take 15,()),()):CL)=toC bits (W! bits (cst bits ch t (Jh bits ch t x) (i %ch) i) (jS ((Jh bits ch t x).getD i 0))):=by
   rw[hg,xG,toC,W!,Ak1];simp only;rw[C3,SV]
  refine KU (congrArg (λo=>Option.bind o _) ((congrArg (λz=>Pn (cts bits ch t (Jh bits ch t x) i) ((i %ch:Nat):Int) z) hst).trans hs)) ?_;rw[Aa,Al1,Aa];have hg2:iT (C3 bits ((cst bits ch t (Jh bits ch t x) (i %ch) i).1,(cst bits ch t (Jh bits ch t x) (i %ch) i).2.1,(cst bits ch t (Jh bits ch t x) (i %ch) i).2.2) ((mx ch x).getD i 0))=(Jh bits ch t x).getD i 0:=hg.symm;rw[hg2,Bi (by rw[HH];simp;omega),Aa,htk,Aj];exact ih
theorem Adn(hr:Z5 bits x):BJ (ch:Int) bits t x=some (Jh bits ch t x,0):=by
 have hl:=HQ ch x;have h:=Ape hb ht h1 h6 hx1 hx4 x.length 0 Ay F0 B7;have e:Ay=(Ay-7)+1+1+1+1+1+1+1:=by have:=Bc;omega
 have hs:BE (ch:Int) bits t (mx ch x) 0 (List.replicate 6 ((0:Int),(0:Int32),((0:Int),(List.replicate 16 (0:Int32)),(List.replicate 16 (0:Int32)),()),()))=QS (ch:Int) bits (mx ch x) (cts bits ch t (Jh bits ch t x) 0):=by
  rw[BE,e];obtain rfl|rfl|rfl:=hb<;>rfl
 rw[BJ,DB,Aur hb h1 h6 hx1 hx4 hm hr,Aa,A4 F4,Ai1 ch x h1 h6 hm hx4,Aa];simp only;rw[A4 F4];refine KU hs ?_;exact h
end
theorem Acn(ch:Nat):DC=some (sts ch []):=by
 have e:Ay=(Ay-7)+1+1+1+1+1+1+1:=by have:=Bc;omega
 rw[DC,BU,QY,e];rfl
theorem Aie(c:List Bool){n:Nat}(h:n<=c.length):Tk (Jg c) 0 n=Jg (c.take n):=by
 have hl:(c.take n).length=n:=by rw[HH];omega
 apply qI (by rw[Iq,Te,hl]);intro i hi;rw[tY,K1,AH,AH];by_cases hlt:i<n
 ·rw[A7 hlt,tb,tb,B4,B4,SI,A7 hlt]
 ·rw[A4 hlt,X_ F0]
theorem Aux(a:UInt8){k:Nat}(hk:k<8):Ed (Cl a k) (1:UInt8)=UInt8.ofNat (a.toNat/2^k %2):=by
 apply UInt8.toNat_inj.1;rw[Y',fS,E0,S8]
 show _&&&1=_;rw[nA];generalize a.toNat/2^k=X;omega
theorem Ab5 (E code:List Bool)(hE:E.length+code.length<=330000)(bk:Int->List (Int×Int×UInt64×UInt64×Unit)->Int->LB->Br)(V:LU)(b f g:Int)(k:List (Int×Int×UInt64×UInt64×Unit)):∀(j o q:Nat),o+j=code.length->j<q->
  Fm bk V b f (code.length:Int) g k (Jg code) q (o:Int) ((E.length+o:Nat):Int) (Tk (Jg (E++code)) 0 (E.length+o))=bk (Ae g 1) k ((E.length+code.length:Nat):Int) (Jg (E++code))
 |j,o,0,_,h=>absurd h (U0 _)
 |0,o,q+1,ho,_=>by
  obtain rfl:o=code.length:=F0
  rw[Fm,Rc,A4 T5,Zf,NU,Aie _ WE,J0 WE]
 |j+1,o,q+1,ho,hq=>by
  generalize hP:Jg (E++code)=P;have hPo:Nj P (E.length+o)=Nj (Jg code) o:=by rw[<-hP,AH,AH,k_]
  have ih:=Ab5 E code hE bk V b f g k j (o+1) q F0 F0;rw[hP,<-K7]at ih;generalize hn:E.length+o=n at*
  have hq8:Ej (n:Int) 8=((n/8:Nat):Int):=by rw[show(8:Int)=((8:Nat):Int)from rfl,IG]
  have hr8:Me (n:Int) 8=((n %8:Nat):Int):=by rw[show(8:Int)=((8:Nat):Int)from rfl,JG]
  have hqo:Ej (o:Int) 8=((o/8:Nat):Int):=by rw[show(8:Int)=((8:Nat):Int)from rfl,IG]
  have hro:Me (o:Int) 8=((o %8:Nat):Int):=by rw[show(8:Int)=((8:Nat):Int)from rfl,JG]
  have hroom:Fm bk V b f (code.length:Int) g k (Jg code) (q+1) (o:Int) (n:Int) (Tk P 0 n)=Rr (Fm bk V b f (code.length:Int) g k (Jg code) q) (code.length:Int) V g b f k (Jg code) (o:Int) (n:Int) (room P 0 n):=by
   rw[Fm,Rc,A7 G4,hr8,room];by_cases h0:n %8=0
   ·rw[A7 (by rw[Dh,h0];rfl),Bi oL,Aa,A7 h0]
   ·rw[A4 OU,A4 h0]
  have hcl:=Te code;have hgm:Af (Jg code) ((o/8:Nat):Int)=some ((Jg code).getD (o/8) 0):=by
   rw[Dy,B4,C? F0];rfl
  have hg:Af (room P 0 n) ((n/8:Nat):Int)=some (UInt8.ofNat (Da P (0+8*(n/8)) (n %8))):=by
   rw[Dy ZI,wR]
  have hbit:Ed (Cl ((Jg code).getD (o/8) 0) (o %8)) (1:UInt8)=UInt8.ofNat (Nj P n):=by
   rw[Aux _ F0,hPo,Nj]
  have hlt:=I8 P (0+8*(n/8)) (n %8+1) F0;have hsn:=vS P (0+8*(n/8)) (n %8);rw[show 0+8*(n/8)+n %8=n by omega]at hsn;have hnew:pO (UInt8.ofNat (Da P (0+8*(n/8)) (n %8))) (Dp (UInt8.ofNat (Nj P n)) (n %8))=UInt8.ofNat (Da P (0+8*(n/8)) (n %8+1)):=by
   rw[or8 (Ng _ _ _) gN F0,hsn,I! (2^(n %8))]
  rw[hroom,Rr,LJ,hqo,hro,hq8,hr8,hgm,Aa,Aa,Bt T4,Aa,hg,Aa,Bt T4,Aa,Aa,Aa,
   show(GI.toZ ((o %8:Nat):Int)).toNat=o %8 from rfl,show(GI.toZ ((n %8:Nat):Int)).toNat=n %8 from rfl,hbit,hnew,FR _ ZI,Aa,K4 P 0 n 1 F0 F0,PK,PB,Aj,Aj]
  exact ih
theorem Ba0(l m:LB)(h:l.length+m.length<=1000000):Dj [l,m]=some (l++m):=by
 have hF:Ay=(Ay-3)+1+1+1:=by have:=Bc;omega
 rw[Dj,Md,Ab2];have g0:Af [l,m] (0:Int)=some l:=rfl;have g1:Af [l,m] (1:Int)=some m:=rfl;have l2:Ad [l,m]=2:=rfl;have h3:Fi [l,m] []=some (l++m):=by
  rw[Fi,Hm,Hk,hF,Ch,Dm,l2,A7 F4,g0,Aa,Bi F5,Aa,O7,show Ae (0:Int) 1=1 by decide,
   Ch,Dm,l2,A7 F4,g1,Aa,Bi,Aa,show Ae (1:Int) 1=2 by decide,Ch,Dm,l2,A4 F4]
  rfl
 rw[hF,Cq,Ds,l2,A7 F4,g0,Aa,Aj SM SM,A4 Y!,show Ae (0:Int) 1=1 by decide,
  Cq,Ds,l2,A7 F4,g1,Aa,Aj SM SM,A4 ZM,show Ae (1:Int) 1=2 by decide,
  Cq,Ds,l2,A4 F4,Fh,Hl,A4 ZM,Kx,Hn]
 have z:Ap (0:Int) 0=0:=F4
 have n0:(0:Int)+Ad l+Ad m=((l.length+m.length:Nat):Int):=by simp[Ad]
 rw[z,n0,Dv,Int.sub_zero];by_cases hp:0<l.length+m.length
 ·rw[A7 Q9,show ZW (0:Int) 0 0=some ()from rfl,Aa,E7,Aa,Bi F5,Aa];rw[show ZW (Ad ([]++List.replicate ((l.length+m.length:Nat):Int).toNat (0:UInt8))) 0 0=some () by rw[ZW,Bt];simp[Ad];omega,Aa];simp only[QL,fZ,ZC,Ty];exact h3
 ·rw[A4 Q9];exact h3
theorem pz(bits:Int)(ch:Nat)(h1:1<=ch)(h6:ch<=6)(V:LU)(hV:V.length<=4000):∀(j i q:Nat),i+j=V.length->j<q->
  Gz V (ch:Int) bits q (i:Int) (sts ch (V.take i)) ((Mm ch V i).length:Int) (Jg (Mm ch V i))=some (Jg (Mm ch V V.length)++Uy (Hq (Jg (Mm ch V V.length))).toNat 4,0)
 |j,i,0,_,h=>absurd h (U0 _)
 |0,i,q+1,hi,_=>by
  obtain rfl:i=V.length:=F0
  have hel:=VX ch V V.length;have hpl:=Te (Mm ch V V.length);have hlt:=(Hq (Jg (Mm ch V V.length))).toNat_lt;rw[Gz,Rp,A4 Y!,Yo,OW,uY _ F0,Aa];simp only;have e64:(UInt64.ofNat (Hq (Jg (Mm ch V V.length))).toNat).toNat=(Hq (Jg (Mm ch V V.length))).toNat:=SK F0;rw[A4 F4,Fo,show(4:Int)=((4:Nat):Int)from rfl,OD _ 4 F0 F0 gQ,Aa];simp only;rw[A4 F4,e64,Ba0 _ _ WG,Aa]
 |j+1,i,q+1,hi,hq=>by
  have hc:i %ch<6:=E5 (Sf _ F0) h6;have hvl:(V.take i).length=i:=by rw[HH];omega
  have hel:=VX ch V i;have hk:=D' ch (V.take i);have hcl:=WQ (V.getD i 0) hk.1 hk.2;have ih:=pz bits ch h1 h6 V hV j (i+1) q F0 F0;have hvi:V.getD i 0=V[i]' F0:=by rw[B4,C? F0];rfl
  have htk:V.take i++[V.getD i 0]=V.take (i+1):=by rw[hvi,Gb F0]
  have hst:=Y_ (ch:=ch) (v:=V.take i) hc;have hset:=rH (ch:=ch) (v:=V.take i) (V.getD i 0) hc (by rw[hvl]);have Bb7:h! ch (V.take i) (i %ch) (V.take i).length=now ch (V.take i):=Aso (by rw[hvl]);rw[Bb7]at hst hset;rw[htk]at hset;have hdp:=Aky (k:=(now ch (V.take i)).1) (l:=(now ch (V.take i)).2.1) (s:=(now ch (V.take i)).2.2.1) (t:=(now ch (V.take i)).2.2.2) (G9 ch (V.take i) _ _) (V.getD i 0);have hpc:=Ab5 (Mm ch V i) (Og (now ch (V.take i)).1 (now ch (V.take i)).2.1 (V.getD i 0)) F0 (Gz V (ch:Int) bits q) V (ch:Int) bits (i:Int) (sts ch (V.take (i+1))) (Og (now ch (V.take i)).1 (now ch (V.take i)).2.1 (V.getD i 0)).length 0 Ay F0 B7;rw[show(Mm ch V i).length+0=(Mm ch V i).length from rfl,Aie _ WE,c!,show((0:Nat):Int)=0 from rfl]at hpc;rw[Gz,Rp,A7 F6,Avv F0,Aa,Aa,Bt M_,Aa,JG,hst,Aa,Aa];refine KU (congrArg (λo=>Option.bind o _) hdp) ?_;rw[Aa];simp only;rw[A4 F4,Aa,Aa];refine KU (congrArg (λo=>Option.bind o _) hset) ?_;rw[Aa];refine KU hpc ?_;rw[Aj];rw[Mm,A?]at ih;exact ih
theorem Apb{bits:Int}{ch:Nat}{t x:LX}(hb:Cy bits)(ht:t.length=16)(h1:1<=ch)(h6:ch<=6)(hx1:1<=x.length)(hx4:x.length<=4000)(hm:x.length %ch=0)(hr:Z5 bits x):
  Uh (ch:Int) bits t x=some (Oy bits ch t x,0):=by
 have hV:=I4 bits ch t x;have h:=pz bits ch h1 h6 (Jh bits ch t x) F0 (Jh bits ch t x).length 0 Ay F0 B7;have e0:Jg (Mm ch (Jh bits ch t x) 0)=[]:=by simp[Mm,Jg]
 have e1:((Mm ch (Jh bits ch t x) 0).length:Int)=0:=rfl;rw[e0,e1,Ty,hV,show((0:Nat):Int)=0 from rfl]at h;rw[Uh,CA,Adn hb ht h1 h6 hx1 hx4 hm hr,Aa];simp only;rw[A4 F4,Acn ch,Aa,Oy,DY,MX];exact h
theorem Av9{r:Nat}(h1:1<=r)(h:r<=1048576):Nk (r:Int)=some ((Ak r:Int),0):=by
 have hv:=Ak6 h;have e:Cm (r:Int) 256=Cm 256 (r:Int):=by rw[Gk,Gk];omega
 rw[Nk,A4 OK,e];have hq:0<=Ej (Cm 256 (r:Int)) 245:=by
  have e2:Cm 256 (r:Int)=((256*r:Nat):Int):=by rw[Gk];omega
  rw[e2,show(245:Int)=((245:Nat):Int)from rfl,IG];omega
 rw[wu]at hv;by_cases hz:Ej (Cm 256 (r:Int)) 245=0
 ·rw[A7 (by rw[Dh];simpa using hz)];rw[hz]at hv;have:(1:Int)=(Ak r:Int):=F0
  rw[this]
 ·rw[A4 (by rw[Dh];simpa using hz)];have:Ej (Cm 256 (r:Int)) 245=(Ak r:Int):=F0
  rw[this]
theorem oM{p:Prop}(h:p:=by simp[Bj,Ag];omega):p:=h
theorem cK{p:Prop}(h:p:=by rw[Dh,VM];omega):p:=h
theorem ZP{p:Prop}(h:p:=by simp[Bj]):p:=h
structure ClipOk (c w r n:Nat) (x:LX):Prop where
 ch:1<=c/\c<=6
 bits:Cy (w:Int)
 rate:1<=r/\r<=1048576
 cnt:1<=n/\n<=4000/c
 len:x.length=n*c
 fr:(n-1)/Ak r+1<=1000
 rng:Z5 (w:Int) x
theorem ClipOk.le{c w r n:Nat}{x:LX}(h:ClipOk c w r n x):n<=4000/\n*c<=4000/\1<=x.length/\x.length<=4000:=by
 have h1:=C2 c h.cnt.2;have h2:=WY 4000 c;have h3:=SW 4000 c;have h4:=WA h.cnt.1 h.ch.1;have h5:=h.len;have:=h.cnt;omega
theorem ClipOk.w3{c w r n:Nat}{x:LX}(h:ClipOk c w r n x):w=8\/w=16\/w=24:=by
 have:=h.bits;unfold Cy at this;omega
theorem ClipOk.shape{c w r n:Nat}{x:LX}(h:ClipOk c w r n x)(f:Nat)(hf:f=1\/f=2):Nz f c w r n=true:=by
 have:=h.w3;have:=h.ch;have:=h.rate;have:=h.cnt;simp only[Nz,B2];omega
theorem ClipOk.fit{c w r n:Nat}{x:LX}(h:ClipOk c w r n x):WC c r n=true:=by
 have:=h.cnt;have:=h.fr;simp only[WC,B2];omega
theorem Ayr{bits:Int}(h:Cy bits){l:LX}(hl:l.length<=4000):Bo bits l=some 0\/Bo bits l=some 16:=by
 have hh:=iC bits;have key:∀(j i q:Nat),i+j=l.length->j<q->Bl l (hB bits) q (i:Int)=some 0\/Bl l (hB bits) q (i:Int)=some 16:=by
  intro j
  induction j with
  |zero=>
   intro i q hi hq;obtain⟨q,rfl⟩:∃q',q=q'+1:=⟨q-1,F0⟩;rw[Bl,Dt,A4 F6];exact .inl rfl
  |succ j ih=>
   intro i q hi hq;obtain⟨q,rfl⟩:∃q',q=q'+1:=⟨q-1,F0⟩;have ih:=ih (i+1) q F0 F0;have hi1:Ae (i:Int) 1=((i+1:Nat):Int):=by rw[Aj];omega
   rw[Bl,Dt,A7 F6,Dy,Aa,Aa,hi1];split
   ·exact .inr rfl
   ·split
    ·exact .inr rfl
    ·exact ih
 have hk:=key l.length 0 Ay F0 B7;rw[Bo,Ee,yV h,Aa,A4 OU,A4 J5];exact hk
theorem sU{bits:Int}(h:¬Cy bits):Ka bits=some 0/\Qn bits=some (0,0,2):=by
 unfold Cy at h;constructor
 ·rw[Ka,A4 cK,A4 cK,A4 cK]
 ·have e:(geq bits 24)=false:=by rw[Dh,beq_eq_false_iff_ne];omega
  rw[Qn,Afp,A4 cK,A4 cK,e,Aks,Agj,A4 F4]
theorem wO{r:Nat}(h:r<=1048576):∀(j n q:Nat) (acc:LI),n<=4000->n<=j->j<q->acc.length+n<=10000->
  Ie (Ak r:Int) q (n:Int) acc=some (if 1000<(acc++(if n=0 then []else Bb (Ak r) n)).length then([],4)else(acc++(if n=0 then []else Bb (Ak r) n),0))
 |j,n,0,acc,_,_,h,_=>absurd h (U0 _)
 |j,n,q+1,acc,hn,hj,hq,ha=>by
  have hp:=Iu r;by_cases h0:n=0
  ·subst h0;rw[A7 rfl,F_,Ie,Oo,A4 ZK,Wh,JV,Be,Ad];by_cases hk:1000<acc.length
   ·rw[A7 hk,A7 F5]
   ·rw[A4 hk,A4 F5]
  ·obtain⟨j,rfl⟩:∃j',j=j'+1:=⟨j-1,F0⟩;rw[Ie,Oo,A7 Q9,Bi F5,Aa,PO];by_cases hs:n<=Ak r
   ·rw[show min (n:Int) (Ak r:Int)=(n:Int) by omega,Dv,fZ];have ih:=wO h j 0 q (acc++[(n:Int)]) F0 F0 F0 F5;rw[A7 rfl,F_]at ih;rw[A4 h0,Bcd hs F0];exact ih
   ·rw[show min (n:Int) (Ak r:Int)=(Ak r:Int) by omega,Dv,show(n:Int)-(Ak r:Int)=((n-Ak r:Nat):Int) by omega];have e:acc++Bb (Ak r) n=(acc++[(Ak r:Int)])++Bb (Ak r) (n-Ak r):=by rw[Bgq hp (show Ak r<n by omega)];simp
    have ih:=wO h j (n-Ak r) q (acc++[(Ak r:Int)]) F0 F0 F0 F5;rw[A4 (show ¬n-Ak r=0 by omega),<-e]at ih;rw[A4 h0];exact ih
theorem Abu(C W R:Int)(x:LX)(hlen:x.length<4611686018427387904):(Ct C W R x=some 8/\Fa C W R x=some 8)\/
  (∃c w r n:Nat,C=(c:Int)/\W=(w:Int)/\R=(r:Int)/\ClipOk c w r n x/\Ct C W R x=some 0/\Fa C W R x=some 0):=by
 have X9:∀e:Int,e≠0->Cn C W x=some e->Ct C W R x=some 8:=by
  intro e he h;rw[Ct,Gy,Aa];simp only;rw[h,Aa,A7 (by rw[Bj];simpa using he)]
 by_cases hC:C<1
 ·refine .inl ⟨X9 2 F4 ?_,?_⟩
  ·rw[Cn,Eo,A7 OK,Aa,A7 F4]
  ·rw[Fa,A7 (by rw[Ag];simpa using hC)]
 obtain⟨c,rfl⟩:=R9 (show 0<=C by omega);have hc1:1<=c:=F0
 have hq:Ej (Ad x) (c:Int)=((x.length/c:Nat):Int):=by rw[Ad,IG]
 have hr0:Me (Ad x) (c:Int)=((x.length %c:Nat):Int):=by rw[Ad,JG]
 have ZZ:(∀m:Nat,x.length=m*c->FN (c:Int) W R x (m:Int)=some 8)->Fa (c:Int) W R x=some 8:=by
  intro h;rw[Fa,A4 (by rw[Ag];simpa using hC),Bt M_,Aa,hr0];by_cases hm:x.length %c=0
  ·have hx:x.length=x.length/c*c:=by have:=X! x.length c;rw[hm,I!]at this;omega
   rw[hm,A4 F4,Aa,hq,h _ hx,Aa,A7 F4]
  ·rw[A7 M_]
 by_cases h6:6<c
 ·refine .inl ⟨X9 2 F4 ?_,ZZ λm hm=>?_⟩
  ·rw[Cn,Eo,A7 OK,Aa,A7 F4]
  ·rw[FN,OR,Aa];simp only;have:Fv (c:Int) W=some 2:=by
    rw[Fv];by_cases hb:Cy W
    ·rw[e_ hb,Aa];simp only;rw[A7 oG]
    ·rw[(sU hb).2,Aa];simp only;rw[A7 ZP]
   rw[this,Aa,A7 ZP]
 by_cases hb:Cy W
 rotate_left
 ·refine .inl ⟨X9 2 F4 ?_,ZZ λm hm=>?_⟩
  ·rw[Cn,Eo,A4 OK,(sU hb).1,Aa,A7 F4,Aa,A7 F4]
  ·rw[FN,OR,Aa];simp only;have:Fv (c:Int) W=some 2:=by
    rw[Fv,(sU hb).2,Aa];simp only;rw[A7 ZP]
   rw[this,Aa,A7 ZP]
 have hhB:=iC W;have e20:Eo (c:Int) W=some 0:=by
  rw[Eo,A4 OK,yV hb,Aa,A4 OU]
 have hq4:=su hc1 (show c<=6 by omega);have ecf:=B_ hb hc1 (show c<=6 by omega);have dY:∀m:Nat,FN (c:Int) W R x (m:Int)=if m<1\/4000/c<m then some 8 else Option.bind (Hr R (m:Int)) λy=>if(Bg y.2 0)=true then some 8 else some 0:=by
  intro m;rw[FN,OR,Aa];simp only;rw[ecf,Aa];by_cases hm:m<1
  ·rw[A7 oM,A7 (.inl hm)]
  ·rw[A4 oM,Bt M_,Aa,hq4];by_cases hm2:4000/c<m
   ·rw[A7 (by rw[Be,B2,gt_iff_lt,Int.ofNat_lt];exact hm2),A7 (.inr hm2)]
   ·rw[A4 (by rw[Be,B2,gt_iff_lt,Int.ofNat_lt];exact hm2),A4 F0]
 by_cases hx4:4000<x.length
 ·refine .inl ⟨X9 4 F4 ?_,ZZ λm hm=>?_⟩
  ·have:Bo W x=some 4:=by
    rw[Bo,Ee,yV hb,Aa,A4 OU,A7 J5]
   rw[Cn,e20,Aa,A4 F4,this,Aa,A7 F4,Aa]
  ·rw[dY,A7];refine .inr ?_;rw[Nat.div_lt_iff_lt_mul F0];omega
 have hx4:x.length<=4000:=F0
 have hsame:=ON hb x hx4;rcases Ayr hb hx4 with h18|h18
 rotate_left
 ·refine .inl ⟨X9 16 F4 ?_,?_⟩
  ·rw[Cn,e20,Aa,A4 F4,h18,Aa,A7 F4,Aa]
  ·rw[Fa,A4 (by rw[Ag];simpa using hC),Bt M_,Aa,hr0];by_cases hm:x.length %c=0
   ·rw[hm,A4 F4,Aa,hq,dY];split
    ·rw[Aa,A7 F4]
    ·rename_i hh;by_cases hR:1<=R/\R<=1048576
     ·obtain⟨r,rfl⟩:=R9 (show 0<=R by omega);have hd:=SW x.length c;rw[cI F0 F0 F0 F0,Aa];split
      ·rw[A7 F4,Aa,A7 F4]
      ·rw[A4 ZP,Aa,A4 F4,hsame,h18,Aa,A7 F4]
     ·rw[Hr,Lc,A7 OK,Aa];simp only;rw[A7 F4,Aa];simp only;rw[A7 F4,Aa,A7 F4]
   ·rw[A7 M_]
 by_cases hx1:x.length<1
 ·refine .inl ⟨X9 2 F4 ?_,ZZ λm hm=>?_⟩
  ·rw[Cn,e20,Aa,A4 F4,h18,Aa,A4 F4,A7 F6]
  ·have h0:m*c=0:=F0
   have:m=0:=by rcases Nat.mul_eq_zero.1 h0 with h|h<;>omega
   rw[dY,A7 (.inl F0)]
 have hA:x.length %c=0->Cn (c:Int) W x=some 0:=by
  intro hm;rw[Cn,e20,Aa,A4 F4,h18,Aa,A4 F4,A4 F6,Bt M_,Aa,hr0,hm,A4 F4]
 by_cases hm:x.length %c=0
 rotate_left
 ·refine .inl ⟨X9 2 F4 ?_,?_⟩
  ·rw[Cn,e20,Aa,A4 F4,h18,Aa,A4 F4,A4 F6,Bt M_,Aa,hr0,A7 Q9]
  ·rw[Fa,A4 (by rw[Ag];simpa using hC),Bt M_,Aa,hr0,A7 M_]
 have hxn:x.length=x.length/c*c:=by have:=X! x.length c;rw[hm,I!]at this;omega
 generalize hN:x.length/c=n at*
 have hn1:1<=n:=by
  by_cases h0:n=0
  ·rw[h0]at hxn;omega
  ·omega
 have hn4:n<=4000/c:=by rw[<-hN];exact nM hx4
 have hn4':n<=4000:=Xm hn4 (SW _ _);have e21:Rs (c:Int) W (n:Int)=some 0:=by
  rw[Rs,e20,Aa,A4 oM,Bt M_,Aa,hq4,A4 (by rw[Be,B2,gt_iff_lt,Int.ofNat_lt];omega)]
 have wY:∀z e:Int,Iy R (n:Int)=some (z,e)->Ct (c:Int) W R x=some (if e=0 then 0 else 8):=by
  intro z e hz;rw[Ct,Gy,Aa];simp only;rw[hA hm,Aa,A4 F4,Bt M_,Aa,hq,CO,Gy,Aa];simp only;rw[e21,Aa,A4 F4,hz,Aa,Aa,Dh];by_cases he:e=0
  ·subst he;rfl
  ·rw[A4 he,A7 (by simpa using he)]
 have vk:Fa (c:Int) W R x=Option.bind (Option.bind (Hr R (n:Int)) λy=>if(Bg y.2 0)=true then some 8 else some 0) λg=>if(Bg g 0)=true then some g else some 0:=by
  rw[Fa,A4 (by rw[Ag];simpa using hC),Bt M_,Aa,hr0,hm,A4 F4,Aa,hq,dY,A4 F0,hsame,h18];rfl
 by_cases hR:1<=R/\R<=1048576
 rotate_left
 ·refine .inl ⟨?_,?_⟩
  ·refine wY 0 2 ?_;rw[Iy,Vu,Ot,Nk,A7 OK,Aa];simp only;rw[A7 ZP,Aa];rfl
  ·rw[vk,Hr,Lc,A7 OK,Aa];simp only;rw[A7 F4,Aa];simp only;rw[A7 F4,Aa,A7 F4]
 obtain⟨r,rfl⟩:=R9 (show 0<=R by omega);have hl:=wO (r:=r) F0 n n Ay [] hn4' (C4 _) B7 F5;rw[A4 (show ¬n=0 by omega),O7,jP]at hl;have hcount:∃z:Int,Iy (r:Int) (n:Int)=some (z,if 1000<(n-1)/Ak r+1 then 4 else 0):=by
  rw[Iy,Vu,Ot,Av9 F0 F0,Aa];simp only;rw[A4 oG,KA,hl,Aa];split<;>exact⟨_,rfl⟩
 obtain⟨z,hz⟩:=hcount;have h24:=wY z _ hz;rw[cI F0 F0 hn1 hn4',Aa]at vk;by_cases hk:1000<(n-1)/Ak r+1
 ·rw[A7 hk]at h24 vk;exact .inl ⟨h24,vk⟩
 ·rw[A4 hk]at h24 vk;have hw:∃w:Nat,W=(w:Int):=by
   rcases hb with rfl|rfl|rfl
   ·exact⟨8,rfl⟩
   ·exact⟨16,rfl⟩
   ·exact⟨24,rfl⟩
  obtain⟨w,rfl⟩:=hw;exact .inr ⟨c,w,r,n,rfl,rfl,rfl,⟨⟨hc1,F0⟩,hb,F0,⟨hn1,hn4⟩,hxn,F0,Ao4 hb hx4 h18⟩,h24,vk⟩
theorem Ahw(C W R:Int){x:LX}(h:4000<x.length):Ct C W R x=some 8:=by
 have key:∃e:Int,e≠0/\Cn C W x=some e:=by
  rw[Cn,Eo];by_cases h1:((Cx C 1)||(Eg C 6))=true
  ·rw[A7 h1,Aa,A7 F4];exact⟨2,F4,rfl⟩
  ·rw[A4 h1];by_cases hb:Cy W
   ·have hh:=iC W;have h18:Bo W x=some 4:=by
     rw[Bo,Ee,yV hb,Aa,A4 OU,A7 J5]
    rw[yV hb,Aa,A4 OU,Aa,A4 F4,h18,Aa,A7 F4,Aa];exact⟨4,F4,rfl⟩
   ·rw[(sU hb).1,Aa,A7 F4,Aa,A7 F4];exact⟨2,F4,rfl⟩
 obtain⟨e,he,h1⟩:=key;rw[Ct,Gy,Aa];simp only;rw[h1,Aa,A7 (by rw[Bj];simpa using he)]
theorem Azz (C W R:Int)(x:LX):(Ct C W R x=some 8/\ (x.length<4611686018427387904->Fa C W R x=some 8))\/
  (∃c w r n:Nat,C=(c:Int)/\W=(w:Int)/\R=(r:Int)/\ClipOk c w r n x/\Ct C W R x=some 0/\Fa C W R x=some 0):=by
 by_cases hx:x.length<4611686018427387904
 ·rcases Abu C W R x hx with⟨h1,h2⟩|h
  ·exact .inl ⟨h1,λ_=>h2⟩
  ·exact .inr h
 ·exact .inl ⟨Ahw C W R F0,λh=>absurd h hx⟩
theorem XF{p:Prop}(h:p:=by rw[SH];omega):p:=h
theorem gS{p:Prop}(h:p:=by simp[Bw,Qp]):p:=h
def vQ(f c w r n:Nat):LB:=Qp++Uy f 2++Uy c 2++Uy w 2++Uy r 4++Uy n 4
def KN(f c w r n:Nat):LB:=vQ f c w r n++Uy (Hq (vQ f c w r n)).toNat 4
theorem YY(f c w r n:Nat):(vQ f c w r n).length=18:=by simp only[vQ,Qp,A?,Bw];rfl
theorem aA(f c w r n:Nat):(KN f c w r n).length=22:=by rw[KN,A?,YY,Bw]
theorem y!(b f g h k:Int)(m v w q:Nat)(a:LB)(hm:m<5)(hv:Af ([b,f,g,h,k]:LI) (m:Int)=some (v:Int))(hw:Af ([2,2,2,4,4]:LI) (m:Int)=some (w:Int))(h1:1<=w)(h8:w<=8)(hlt:v<256^w)(h64:v<18446744073709551616)(ha:a.length<=100):
  Kl b f g h k (q+1) (m:Int) a=Kl b f g h k q ((m+1:Nat):Int) (a++Uy v w):=by
 have e64:(UInt64.ofNat v).toNat=v:=SK F0;have hi1:Ae (m:Int) 1=((m+1:Nat):Int):=by rw[Aj];omega
 rw[Kl,Yc,A7 G4,hv,Aa,hw,Aa,KY,OD _ w h1 h8 (by rw[e64];exact hlt),Aa];simp only;rw[Bi WG,Aa,hi1,e64]
theorem Bhj{f c w r n:Nat}(h1:Nz f c w r n=true)(h2:WC c r n=true):KL (f:Int) (c:Int) (w:Int) (r:Int) (n:Int)=some (KN f c w r n,0):=by
 have hs:(f=1\/f=2)/\ (1<=c/\c<=6)/\ (w=8\/w=16\/w=24)/\ (1<=r/\r<=1048576)/\1<=n:=by simpa only[Nz,B2]using h1
 have hn:n<=4000:=by
  simp only[WC,B2]at h2;have:=SW 4000 c;omega
 have hck:Qu (f:Int) (c:Int) (w:Int) (r:Int) (n:Int)=some 0:=by
  rw[Qu,gM,Aa,h1,A4 F4,wN h1,Aa,h2,A4 F4]
 have hF:Ay=(Ay-6)+1+1+1+1+1+1:=by have:=Bc;omega
 have hlt:=(Hq (vQ f c w r n)).toNat_lt;have e64:(UInt64.ofNat (Hq (vQ f c w r n)).toNat).toNat=(Hq (vQ f c w r n)).toNat:=SK F0;have hfin:Yg (vQ f c w r n)=some (KN f c w r n,0):=by
  rw[Yg,Aer,uY _ (by rw[YY];omega),Aa];simp only;rw[Fo,show(4:Int)=((4:Nat):Int)from rfl,OD _ 4 F0 F0 gQ,Aa];simp only;rw[Bi (by rw[YY,Bw];omega),Aa,e64];rfl
 rw[KL,HR,hck,Aa,A4 F4,Aem,hF];have s0:=y! (f:Int) (c:Int) (w:Int) (r:Int) (n:Int) 0 f 2 ((Ay-6)+1+1+1+1+1) Qp F0 rfl rfl F0 F0 F0 F0 F4;have s1:=y! (f:Int) (c:Int) (w:Int) (r:Int) (n:Int) 1 c 2 ((Ay-6)+1+1+1+1) (Qp++Uy f 2) F0 rfl rfl F0 F0 F0 F0 gS;have s2:=y! (f:Int) (c:Int) (w:Int) (r:Int) (n:Int) 2 w 2 ((Ay-6)+1+1+1) (Qp++Uy f 2++Uy c 2) F0 rfl rfl F0 F0 F0 F0 gS;have s3:=y! (f:Int) (c:Int) (w:Int) (r:Int) (n:Int) 3 r 4 ((Ay-6)+1+1) (Qp++Uy f 2++Uy c 2++Uy w 2) F0 rfl rfl F0 F0 F0 F0 gS;have s4:=y! (f:Int) (c:Int) (w:Int) (r:Int) (n:Int) 4 n 4 ((Ay-6)+1) (Qp++Uy f 2++Uy c 2++Uy w 2++Uy r 4) F0 rfl rfl F0 F0 F0 F0 gS;refine s0.trans (s1.trans (s2.trans (s3.trans (s4.trans ?_))));rw[Kl,Yc,A4 F4];exact hfin
def QH(l:LI):LB:=l.flatMap λx=>Uy x.toNat 4
def bI(l:LI):LB:=QH l++Uy (Hq (QH l)).toNat 4
theorem HD(l:LI):(QH l).length=4*l.length:=by
 induction l with
 |nil=>rfl
 |cons x l ih=>rw[QH,eW,A?,Bw,show(l.flatMap λx=>Uy x.toNat 4)=QH l from rfl,ih,B6];omega
theorem UX(l:LI):(bI l).length=4*l.length+4:=by rw[bI,A?,HD,Bw]
theorem Aht(l:LI)(x:Int):QH (l++[x])=QH l++Uy x.toNat 4:=by simp[QH]
theorem Av2(l:LI)(hl:l.length<=1000)(h5:∀x∈l,5<=x/\x<=100000):∀(j i q:Nat),i+j=l.length->j<q->Pp l q (i:Int) (QH (l.take i))=some (bI l,0)
 |j,i,0,_,h=>absurd h (U0 _)
 |0,i,q+1,hi,_=>by
  have hlt:=(Hq (QH l)).toNat_lt;have e64:(UInt64.ofNat (Hq (QH l)).toNat).toNat=(Hq (QH l)).toNat:=SK F0;rw[Pp,DG,A4 F6,J0 F0,IC,Af0,uY _ (by rw[HD];omega),Aa];simp only;rw[Fo,show(4:Int)=((4:Nat):Int)from rfl,OD _ 4 F0 F0 gQ,Aa];simp only;rw[Bi (by rw[HD,Bw];omega),Aa,e64];rfl
 |j+1,i,q+1,hi,hq=>by
  have ih:=Av2 l hl h5 j (i+1) q F0 F0;obtain⟨x5,x6⟩:=h5 l[i] (N5 _);obtain⟨v,hv⟩:=R9 (show 0<=l[i] by omega);have e64:(UInt64.ofNat v).toNat=v:=SK F0;have hi1:Ae (i:Int) 1=((i+1:Nat):Int):=by rw[Aj];omega
  rw[Pp,DG,A7 F6,Dy,Aa,hv,KY,show(4:Int)=((4:Nat):Int)from rfl,OD _ 4 F0 F0 gQ,Aa];simp only;rw[Bi (by rw[HD,Bw,HH];omega),Aa,JH,Af7,hi1,e64];rw[Gb F0,Aht,hv,C']at ih;exact ih
theorem Bej(l:LI):HB l=some (if cR l=true then(bI l,0)else([],8)):=by
 rw[HB,OP,MA,Aa];by_cases h:cR l=true
 ·rw[A7 h,A7 h,A4 F4];simp only[cR,A9,B2]at h;obtain⟨⟨h1,h2⟩,h3⟩:=h;have h4:=(bZ l 100000 F0).1 h3;have h6:=E_ h4.1;have hl:=Av2 l h2 (λx hx=>⟨h4.1 x hx,by have:=h6 x hx;omega⟩) l.length 0 Ay F0 B7;exact hl
 ·rw[A4 h,A4 h,A7 F4]
def Gt(c:Nat):LX->LI->List LX
 |_,[]=>[]
 |x,m::l=>x.take (m.toNat*c)::Gt c (x.drop (m.toNat*c)) l
theorem PY(c:Nat):∀(l:LI) (x:LX),(Gt c x l).length=l.length
 |[],x=>rfl
 |m::l,x=>by rw[Gt,B6,B6,PY c l]
theorem Avw(c:Nat):∀(l:LI) (x:LX),(∀m∈l,0<=m)->x.length=l.sum.toNat*c-> (Gt c x l).flatten=x
 |[],x,_,h=>by
  have:x=[]:=VT (by simpa using h);rw[this];rfl
 |m::l,x,h0,h=>by
  have hm:=h0 m KM;have hl:0<=l.sum:=by
   have:∀l:LI,(∀m∈l,0<=m)->0<=l.sum:=by
    intro l
    induction l with
    |nil=>intro _;simp
    |cons a l ih=>intro h;have:=ih (λm hm=>h m (H9 _ hm));have:=h a KM;rw[T0];omega
   exact this l λm hm=>h0 m (H9 _ hm)
  rw[T0,show(m+l.sum).toNat=m.toNat+l.sum.toNat by omega,B5]at h;have ih:=Avw c l (x.drop (m.toNat*c)) (λm hm=>h0 m (H9 _ hm)) XF;rw[Gt,VL,ih,WW]
theorem dC(c:Nat)(h1:1<=c):∀(l:LI) (x:LX),(∀m∈l,1<=m)->x.length=l.sum.toNat*c->∀y∈Gt c x l,1<=y.length/\y.length<=x.length/\y.length %c=0/\∀v∈y,v∈x
 |[],x,_,_=>λy hy=>by simp[Gt]at hy
 |m::l,x,hm,hx=>by
  have hm1:=hm m KM;have hl:0<=l.sum:=by
   have:∀l:LI,(∀m∈l,1<=m)->0<=l.sum:=by
    intro l
    induction l with
    |nil=>intro _;simp
    |cons a l ih=>intro h;have:=ih (λm hm=>h m (H9 _ hm));have:=h a KM;rw[T0];omega
   exact this l λm hm'=>hm m (H9 _ hm')
  rw[T0,show(m+l.sum).toNat=m.toNat+l.sum.toNat by omega,B5]at hx;have hpos:1<=m.toNat*c:=WA F0 h1;intro y hy;rw[Gt,VQ]at hy;rcases hy with rfl|hy
  ·have hlen:(x.take (m.toNat*c)).length=m.toNat*c:=by rw[HH];omega
   rw[hlen];exact⟨hpos,F0,TC _ _,λv hv=>aF hv⟩
  ·obtain⟨a1,a2,a3,a4⟩:=dC c h1 l (x.drop (m.toNat*c)) (λm hm'=>hm m (H9 _ hm')) XF y hy;rw[SH]at a2;exact⟨a1,F0,a3,λv hv=>YX (a4 v hv)⟩
theorem K5(bits:Int)(ch:Nat)(t x:LX)(h0:1<=x.length)(h4:x.length<=4000):5<= (Oy bits ch t x).length/\ (Oy bits ch t x).length<=15*x.length:=by
 have h5:=sF bits ch t x h0 h4;have h:=VX ch (Jh bits ch t x) x.length;refine⟨h5.1,?_⟩;rw[Oy,A?,Bw,DY,Te];omega
def Cc(fs:List LB):LI:=fs.map λf=>(f.length:Int)
theorem Ht(fs:List LB):(Cc fs).length=fs.length:=by rw[Cc,U5]
theorem ND:∀fs:List LB,(Cc fs).sum=(fs.flatten.length:Int)
 |[]=>rfl
 |f::fs=>by rw[Cc,IZ,T0,VL,A?,show(fs.map λf=>(f.length:Int))=Cc fs from rfl,ND fs];omega
theorem vI(bits:Int)(ch:Nat)(t:LX):∀ys:List LX,(∀y∈ys,1<=y.length/\y.length<=4000)-> ((ys.map (Oy bits ch t)).flatten).length<=15*ys.flatten.length
 |[],_=>by simp
 |y::ys,h=>by
  have ih:=vI bits ch t ys λy hy=>h y (H9 _ hy);obtain⟨h1,h4⟩:=h y KM;have:=(K5 bits ch t y h1 h4).2;rw[IZ,VL,VL,A?,A?];omega
def Gh(p:LB):Nat:=if p=[]then 1 else 2
def To(p:LB):LB:=if p=[]then []else Uy (GV p).toNat 8
theorem CJ(p:LB):Gh p=1\/Gh p=2:=by unfold Gh;split<;>simp
theorem jH(p:LB):(To p).length=if Gh p=2 then 8 else 0:=by
 unfold To Gh;by_cases h:p=[]
 ·rw[A7 h,A7 h];rfl
 ·rw[A4 h,A4 h,Bw];rfl
def JB(c r n:Nat)(x:LX):List LX:=Gt c x (Bb (Ak r) n)
def Oi(c w r n:Nat)(x:LX)(p:LB):List LB:=(JB c r n x).map (Oy (w:Int) c (Ud p))
def Ey(c w r n:Nat)(x:LX)(p:LB):LB:=KN (Gh p) c w r n++(To p++(bI (Cc (Oi c w r n x p))++(Oi c w r n x p).flatten))
theorem HA{g n:Nat}(hg:1<=g)(h1:1<=n):∀m∈Bb g n,1<=m:=by
 intro m hm;rw[Bb,fC,List.mem_replicate,f?]at hm;have h:=WY (n-1) g;rcases hm with⟨_,rfl⟩|rfl
 ·omega
 ·omega
section
variable {c w r n:Nat} {x:LX} (h:ClipOk c w r n x)
include h
theorem ClipOk.sum:(Bb (Ak r) n).sum=(n:Int):=kT h.cnt.1
omit h in
theorem rY:(JB c r n x).length=(Bb (Ak r) n).length:=PY _ _ _
theorem mW:(JB c r n x).flatten=x:=by
 refine Avw _ _ _ (λm hm=>?_) ?_
 ·have:=HA (Iu r) h.cnt.1 m hm;omega
 ·rw[h.sum,h.len,C']
theorem iG:∀y∈JB c r n x,1<=y.length/\y.length<=4000/\y.length %c=0/\Z5 (w:Int) y:=by
 intro y hy;obtain⟨a1,a2,a3,a4⟩:=dC c h.ch.1 _ _ (HA (Iu r) h.cnt.1) (by rw[h.sum,h.len,C']) y hy;have:=h.le;exact⟨a1,F0,a3,λv hv=>h.rng v (a4 v hv)⟩
omit h in
theorem lZ(p:LB):(Oi c w r n x p).length=(Bb (Ak r) n).length:=by rw[Oi,U5];exact PY _ _ _
theorem nk(p:LB):1<= (Oi c w r n x p).length/\ (Oi c w r n x p).length<=1000:=by
 rw[lZ,jP];exact⟨Nat.le_add_left _ _,h.fr⟩
theorem M? (p:LB):((Oi c w r n x p).flatten).length<=15*x.length:=by
 have:=vI (w:Int) c (Ud p) (JB c r n x) λy hy=>⟨(iG h y hy).1,(iG h y hy).2.1⟩;rw[mW h]at this;exact this
theorem Ank(p:LB):∀f∈Oi c w r n x p,5<=f.length:=by
 intro f hf;rw[Oi,g!]at hf;obtain⟨y,hy,rfl⟩:=hf;exact(K5 _ _ _ _ (iG h y hy).1 (iG h y hy).2.1).1
theorem sV(p:LB):cR (Cc (Oi c w r n x p))=true:=by
 have h1:=nk h p;have h2:=M? h p;have h3:=h.le;simp only[cR,A9,B2];rw[bZ _ _ F0,Ht,ND];refine⟨F0,λz hz=>?_,F0⟩;rw[Cc,g!]at hz;obtain⟨f,hf,rfl⟩:=hz;have:=Ank h p f hf;omega
omit h in
theorem vY(p:LB):(Ey c w r n x p).length=22+(if Gh p=2 then 8 else 0)+(4*(Oi c w r n x p).length+4)+(Oi c w r n x p).flatten.length:=by
 rw[Ey,A?,A?,A?,aA,jH,UX,Ht];omega
theorem Anp(p:LB):(Ey c w r n x p).length<=34+4*(Oi c w r n x p).length+15*x.length:=by
 have h1:=vY (c:=c) (w:=w) (r:=r) (n:=n) (x:=x) p;have h2:=M? h p;split at h1<;>omega
theorem mB(p:LB):(Ey c w r n x p).length<=64034:=by
 have:=Anp h p;have:=nk h p;have:=h.le;omega
end
theorem gT{p:Prop}(h:p:=by simp[Qp,Bw]):p:=h
theorem GN{a m z:LB}{i k:Nat}(hi:a.length=i)(hk:m.length=k):part (a++(m++z)) i k=m:=by
 subst hi hk;rw[part,List.take_append,J0 F0,List.drop_left',YM,VI (C4 _),NI];rfl
theorem AL(f c w r n:Nat)(z:LB):KN f c w r n++z=Qp++(Uy f 2++(Uy c 2++(Uy w 2++(Uy r 4++(Uy n 4++(Uy (Hq (vQ f c w r n)).toNat 4++z)))))):=by
 simp only[KN,vQ,C0]
theorem Ajm{f c w r n:Nat}(h1:Nz f c w r n=true)(h2:WC c r n=true)(z:LB):PA (KN f c w r n++z)=((f:Int),(c:Int),(w:Int),(r:Int),(n:Int),0):=by
 have hs:(f=1\/f=2)/\ (1<=c/\c<=6)/\ (w=8\/w=16\/w=24)/\ (1<=r/\r<=1048576)/\1<=n:=by simpa only[Nz,B2]using h1
 have hn:n<=4000:=by
  simp only[WC,B2]at h2;have:=SW 4000 c;omega
 have hlen:22<= (KN f c w r n++z).length:=by rw[A?,aA];omega
 have m4:min 4 (KN f c w r n++z).length=4:=F0
 have e4:(KN f c w r n++z).take 4=Qp:=by rw[AL];rfl
 have e18:(KN f c w r n++z).take 18=vQ f c w r n:=by
  rw[KN,C0,VI (by rw[YY];omega),J0 (by rw[YY];omega)]
 have hlt:=(Hq (vQ f c w r n)).toNat_lt;have p18:part (KN f c w r n++z) 18 4=Uy (Hq (vQ f c w r n)).toNat 4:=by
  rw[KN,C0];exact GN (YY _ _ _ _ _) (Bw _ _)
 have q0:f0 (KN f c w r n++z)=f:=by
  rw[f0,AL,GN (a:=Qp) (i:=4) (k:=2) rfl (Bw _ _),FV];omega
 have q1:f1 (KN f c w r n++z)=c:=by
  rw[f1,AL,<-C0,GN gT (Bw _ _),FV];omega
 have q2:f2 (KN f c w r n++z)=w:=by
  rw[f2,AL,<-C0,<-C0,GN gT (Bw _ _),FV];omega
 have q3:f3 (KN f c w r n++z)=r:=by
  rw[f3,AL,<-C0,<-C0,<-C0,GN gT (Bw _ _),FV];omega
 have q4:f4 (KN f c w r n++z)=n:=by
  rw[f4,AL,<-C0,<-C0,<-C0,<-C0,GN gT (Bw _ _),FV];omega
 have h:=rs6 (b:=KN f c w r n++z) (by rw[m4,e4];rfl) F0 (by rw[e18,p18,FV];omega) (by rw[q0,q1,q2,q3,q4];exact h1) (by rw[q1,q3,q4];exact h2);rw[q0,q1,q2,q3,q4]at h;exact h
theorem Alr(l:LI)(z:LB){i:Nat}(hi:i<l.length):part (QH l++z) (4*i) 4=Uy (l[i]).toNat 4:=by
 have hs:QH l=QH (l.take i)++(Uy (l[i]).toNat 4++QH (l.drop (i+1))):=by
  conv=>lhs;rw[<-WW i l,drop_cons hi]
  rw[QH,QH,QH,n?,eW]
 rw[hs,C0,C0];exact GN (by rw[HD,HH];omega) (Bw _ _)
theorem Ahp{l:LI}(ht:cR l=true)(z:LB):Zw (bI l++z) l.length=(l,0):=by
 have h:=ht;simp only[cR,A9,B2]at h;obtain⟨hn,h3⟩:=h;have h4:=(bZ l 100000 F0).1 h3;have h6:=E_ h4.1;have hlt:=(Hq (QH l)).toNat_lt;have e1:(bI l++z).take (4*l.length)=QH l:=by
  rw[bI,C0,VI (by rw[HD];omega),J0 (by rw[HD];omega)]
 have e2:part (bI l++z) (4*l.length) 4=Uy (Hq (QH l)).toNat 4:=by
  rw[bI,C0];exact GN (HD _) (Bw _ _)
 have e3:WV (bI l++z) l.length=l:=by
  apply U4
  ·rw[kX]
  ·intro i h1 h2;have hx:=h4.1 l[i] (N5 _);have hy:=h6 l[i] (N5 _);simp only[WV,Wv,aB];rw[bI,C0,Alr l _ h2,FV];omega
 rw[ss4 hn (by rw[A?,UX];omega) (by rw[e1,e2,FV];omega),e3,A7 ht]
theorem Avk{b:LB}(h:b.take 4=Qp):wE b=(0,0):=by
 have h4:4<=b.length:=by
  have:=congrArg List.length h;rw[HH]at this;simp only[Qp,B6,V5]at this;omega
 have h3:b.take 3≠ [73,68,51]:=by
  intro e;have:(b.take 4).take 3=[73,68,51]:=by rw[nU];exact e
  rw[h]at this;exact absurd this F4
 have h8:b.take 8≠APE:=by
  intro e;have:(b.take 8).take 4=Qp:=by rw[nU];exact h
  rw[e]at this;exact absurd this F4
 have hs:Nr b=(0,6):=by
  have h1:kN b=(0,6):=by rw[kN,A7 (by intro hh;exact h3 hh.2)]
  rw[Nr,h1,A4 F4,fa1 (by intro hh;exact h8 hh.2)]
 rw[wE,Zk,Qv,W?,hs];rfl
theorem Av8:∀{l:LI},(∀x∈l,0<=x)->∀k,0<= (l.take k).sum
 |[],_,k=>by simp
 |x::l,h,0=>by simp
 |x::l,h,k+1=>by
  have:=Av8 (l:=l) (λy hy=>h y (H9 _ hy)) k;have:=h x KM;rw[nN,T0];omega
theorem Atn(fs:List LB)(k:Nat):(Cc fs).take k=Cc (fs.take k):=by rw[Cc,Cc,List.map_take]
theorem Avs{b z:LB}{A:Nat}{fs:List LB}(hd:b.drop A=fs.flatten++z){k:Nat}(hk:k<fs.length):XP b A (Cc fs) k=fs[k]:=by
 have e0:fs.flatten=(fs.take k).flatten++(fs[k]++(fs.drop (k+1)).flatten):=by
  conv=>lhs;rw[<-WW k fs,drop_cons hk]
  rw[Z1,VL]
 have s1:((Cc fs).take k).sum=((fs.take k).flatten.length:Int):=by rw[Atn,ND]
 have s2:((Cc fs).take (k+1)).sum=((fs.take k).flatten.length+fs[k].length:Nat):=by rw[Atn,ND,Gb hk,Z1];simp
 rw[XP,s1,s2,show((A:Int)+((fs.take k).flatten.length+fs[k].length:Nat)).toNat=A+((fs.take k).flatten.length+fs[k].length) by omega,show((A:Int)+((fs.take k).flatten.length:Int)).toNat=A+(fs.take k).flatten.length by omega,
  aK,<-UW,hd,e0,C0,Tz,Nat.add_sub_add_left,YM,C0,c!]
theorem qF:S_ []=(0,0):=rfl
theorem pI(c:Nat)(h1:1<=c):∀(l:LI) (x:LX),(∀m∈l,1<=m)->x.length=l.sum.toNat*c->∀(k:Nat) (hk:k<l.length) (hk':k<(Gt c x l).length),(Gt c x l)[k].length=l[k].toNat*c
 |[],x,_,_=>λk hk=>absurd hk (U0 _)
 |m::l,x,hm,hx=>by
  have hm1:=hm m KM;have hl:0<=l.sum:=by
   have:=Av8 (l:=l) (λy hy=>by have:=hm y (H9 _ hy);omega) l.length;rw[NI]at this;exact this
  rw[T0,show(m+l.sum).toNat=m.toNat+l.sum.toNat by omega,B5]at hx;intro k hk hk';cases k with
  |zero=>simp only[Gt,List.getElem_cons_zero,HH];omega
  |succ k=>
   simp only[Gt,List.getElem_cons_succ];exact pI c h1 l (x.drop (m.toNat*c)) (λm hm'=>hm m (H9 _ hm')) XF k (by simpa using hk) _
structure FileOf (c w r n:Nat) (x:LX) (p:LB) (T:Nat) (fs:List LB) (z b:LB):Prop where
 clip:ClipOk c w r n x
 pass:p.length<=64
 front:wE b=((T:Int),0)
 le:b.length<=100000
 lens:Cc fs=Cc (Oi c w r n x p)
 form:b.drop T=KN (Gh p) c w r n++(To p++(bI (Cc (Oi c w r n x p))++(fs.flatten++z)))
def ZX(T:Nat)(p:LB)(K:Nat):Nat:=T+22+(if Gh p=2 then 8 else 0)+4*K+4
section
variable {c w r n:Nat} {x:LX} {p:LB} {T:Nat} {fs:List LB} {z b:LB} (h:FileOf c w r n x p T fs z b)
include h
theorem FileOf.cnt:fs.length=(Oi c w r n x p).length:=by
 have:=congrArg List.length h.lens;rw[Ht,Ht]at this;exact this
theorem FileOf.Axv:b.drop (ZX T p fs.length)=fs.flatten++z:=by
 have hd:=h.form;rw[<-h.lens]at hd;have e:ZX T p fs.length=T+(22+((if Gh p=2 then 8 else 0)+(4*fs.length+4))):=by unfold ZX;omega
 have e2:4*fs.length+4=(bI (Cc fs)).length:=by rw[UX,Ht]
 rw[e,<-UW,hd,<-UW]
 conv=>lhs;rw[<-aA (Gh p) c w r n,Tz,<-UW,<-jH p,Tz,e2,Tz]
theorem FileOf.mom{k:Nat}(hk:k<fs.length):∃(m:Nat) (hk':k<(JB c r n x).length),Af (Bb (Ak r) n) (k:Int)=some (m:Int)/\1<=m/\m<=4000/c/\ ((JB c r n x)[k]).length=m*c/\Z5 (w:Int) (JB c r n x)[k]/\ (Oi c w r n x p)[k]'(by rw[<-h.cnt];exact hk)=Oy (w:Int) c (Ud p) (JB c r n x)[k]:=by
 have hc:=h.clip;have hlen:fs.length=(Bb (Ak r) n).length:=by rw[h.cnt];exact lZ p
 have hkf:k<(Bb (Ak r) n).length:=F0
 have hk':k<(JB c r n x).length:=by rw[rY];exact hkf
 have hm1:=HA (Iu r) hc.cnt.1 _ (N5 hkf);obtain⟨m,hm⟩:=R9 (show 0<= (Bb (Ak r) n)[k] by omega);have hg:=pI c hc.ch.1 _ x (HA (Iu r) hc.cnt.1) (by rw[hc.sum,hc.len,C']) k hkf hk';rw[hm,C']at hg;have hmem:=iG hc _ (N5 hk');have hx:=dC c hc.ch.1 _ x (HA (Iu r) hc.cnt.1) (by rw[hc.sum,hc.len,C']) _ (N5 hk');have hg':((JB c r n x)[k]).length=m*c:=hg;refine⟨m,hk',by rw[Dy hkf,hm],F0,?_,hg',hmem.2.2.2,?_⟩
 ·have h1:=hx.2.1;have h2:m*c<=n*c:=by rw[<-hg',<-hc.len];exact h1
  have h3:m<=n:=Nat.le_of_mul_le_mul_right h2 hc.ch.1;exact Xm h3 hc.cnt.2
 ·simp only[Oi,Wv]
end
theorem Ajx{c w r n:Nat}{x:LX}(h:ClipOk c w r n x){p:LB}(hp:p.length<=64):FileOf c w r n x p 0 (Oi c w r n x p) [] (Ey c w r n x p):=by
 refine⟨h,hp,Avk ?_,by have:=mB h p;omega,rfl,by rw[F_];rfl⟩;rw[Ey,AL];rfl
theorem Aa0:∀(ys:List LX) (G:Nat->LX) (k:Nat),(∀i,i<ys.length->G (k+i)=ys.getD i [])->fD G ys.length k=ys.flatten
 |[],G,k,_=>rfl
 |y::ys,G,k,h=>by
  have h0:=h 0 F8;have ih:=Aa0 ys G (k+1) (λi hi=>by have:=h (i+1) F5;rw[show k+1+i=k+(i+1) by omega,this];simp);rw[B6,fD,ih,VL,show k=k+0 from rfl,h0];rfl
theorem lL{o p:LB}{f c w r n:Int}{g:LI}{a:Int}{x:LB}{u:Bool}{v:Int}(hp:p.length<=100000)(hg:g.length<=2000)(hx:x.length<=13000000):Fb o p f c w r n g a x u v=some (o,p,f,c,w,r,n,g,a,x,u,v):=by
 rw[Fb,Nb,Bi F5,Aa,Aa,Nb,Bi F5,Aa,Aa,Jv,Bi F5,Aa,Aa];rfl
variable {o s p:LB} {f c w r n:Int} {g:LI} {a:Int} {x:LB} {e:Int}
end Go.Pl
namespace Go.Pl
open Go Go.Lv
end Go.Pl
namespace Go.Pl
open Go Go.Lv
end Go.Pl
namespace Go.Pl
open Go Go.Lv
end Go.Pl
namespace Go.Pl
open Go Go.Lv
end Go.Pl
namespace Go.Pl
open Go Go.Lv
theorem Acf{w:Nat}(hw:Cy (w:Int)){X:LX}(hl:X.length<=4000)(hr:Z5 (w:Int) X):Ik (w:Int) X=some (By (w:Int) X,0):=Ac1 hw hl (mA hw hl hr)
theorem uU(w:Nat)(ys:List LX):∀(j k:Nat),k+j<=ys.length->fD (λi=>By (w:Int) (ys.getD i [])) j k=By (w:Int) ((ys.drop k).take j).flatten
 |0,k,_=>by simp[fD,By]
 |j+1,k,h=>by
  have e:ys.getD k []=ys[k]:=by rw[B4,C? F0];rfl
  rw[fD,uU w ys j (k+1) F0,drop_cons (show k<ys.length by omega),nN,VL,Abr,e]
structure Fl (b p:LB) (f c w r n A:Nat) (l:LI) (y:Nat->LX):Prop where
 prog:Nh b p=some ((f:Int),(c:Int),(w:Int),(r:Int),(n:Int),(A:Int),l,0)
 pass:p.length<=64
 file:b.length<=100000
 shape:Nz f c w r n=true
 fit:WC c r n=true
 len:l.length=(Bb (Ak r) n).length
 some1:1<=l.length/\l.length<=1000
 five:∀x∈l,5<=x
 sum:l.sum<=100000
 end':(A:Int)+l.sum=b.length
 frm:∀k,k<l.length->∃m:Nat,Af (Bb (Ak r) n) (k:Int)=some (m:Int)/\1<=m/\m*c<=4000/\Hs (c:Int) (w:Int) (Ud p) (m:Int) (XP b A l k)=some (y k,0)/\ (y k).length=m*c/\Z5 (w:Int) (y k)
section
variable {b p:LB} {f c w r n A:Nat} {l:LI} {y:Nat->LX} (o:Fl b p f c w r n A l y)
include o
theorem Fl.bytes{k:Nat}(hk:k<l.length):Ik (w:Int) (y k)=some (By (w:Int) (y k),0)/\ (By (w:Int) (y k)).length<=12000:=by
 obtain⟨hc,hw,hr,hn,_⟩:=GX o.shape;obtain⟨m,h1,h2,h3,h4,h5,h6⟩:=o.frm k hk;have:=bR (w:Int) (y k);exact⟨Acf hw F0 h6,F0⟩
theorem Fl.frq:∀(j k q:Nat) (acc:LB),k+j=l.length->j<q->acc.length<=12000*k->
  Mz b (Bb (Ak r) n) (A:Int) l.sum (f:Int) (c:Int) (w:Int) (r:Int) (n:Int) (Ud p) l (zJ l (l.length+1)) q (k:Int) acc=some (acc++fD (λi=>By (w:Int) (y i)) j k,0)
 |0,k,q+1,acc,hk,_,_=>by
  have hend:=o.end';have dZ:=o.file;have b1:=Kh o.five l.length;rw[NI]at b1;rw[Mz,Xr,A4 (by rw[Ag,Ad,<-o.len];simp;omega),HY,Afi,Aj,Ja,Aa,fQ _ XF,Aa,U? F0,qF];simp only;rw[A4 F4,fD,F_]
 |j+1,k,q+1,acc,hk,hq,hacc=>by
  obtain⟨hc,hw,hr,hn,_⟩:=GX o.shape;have hend:=o.end';have dZ:=o.file;have hs1:=o.some1;obtain⟨m,hm,h2,h3,h4,h5,h6⟩:=o.frm k F0;obtain⟨hb,hbl⟩:=o.bytes (k:=k) F0;have b1:=Kh o.five k;have b2:=Kh o.five (k+1);have e2:=Of (l:=l) (i:=k) F0;have hsl:=o.five l[k] (N5 _);have hle:(l.take (k+1)).sum<=l.sum:=b2.2;have e1:Ae (k:Int) 1=((k+1:Nat):Int):=by rw[Aj];omega
  have ih:=Fl.frq j (k+1) q (acc++By (w:Int) (y k)) F0 F0 WE;rw[Mz,Xr,A7 (by rw[Ag,Ad,<-o.len];simp;omega),e1,K2 l F0,K2 l F0];simp only[Aa];rw[IW,Ael,Aj (a:=(A:Int)) (b:=(l.take (k+1)).sum) F0 F0,Aj,Ad,A4 (by rw[Be,B2];omega),hm];simp only[Aa];rw[OT,Aa,show(b.take ((A:Int)+(l.take (k+1)).sum).toNat).drop ((A:Int)+(l.take k).sum).toNat=XP b A l k from rfl,h4,Aa];simp only;rw[Afd,Aey,A4 F4,hb,Aa];simp only;rw[HW,Afb,A4 F4,Bi,Aa,Af8,Af1,e1,ih,fD,C0]
theorem Fl.Azj:Ug b p 0=some (fD (λi=>By (w:Int) (y i)) l.length 0,0):=by
 have hs1:=o.some1;have e1:Af (zJ l (l.length+1)) (Ad (Bb (Ak r) n))=some l.sum:=by rw[Ad,<-o.len,K2 l F0,NI]
 rw[Ug,MY,o.prog,Aa];simp only;rw[A4 F4,Uc o.shape o.fit,Aa];simp only;rw[A4 F4,Apo hs1.2 o.five o.sum hs1.1,Aa];simp only;rw[A4 F4,WN p o.pass,Aa];simp only;rw[A4 F4,e1,Aa,Aa,Af6,IA,A4 F4,A4 (by rw[Ad,<-o.len];simp only[Ag,Gf,R!,B2];omega)];exact o.frq l.length 0 Ay [] F0 B7 F8
end
section
variable {b p:LB} {f c w r n A:Nat} {l:LI} {y:Nat->LX} (o:Fl b p f c w r n A l y)
include o
theorem Fl.cpq(a1 a2 a3 a4:Int):∀(j k q:Nat) (acc:LX),k+j=l.length->j<q->acc.length<=4000*k->
  Pw b l (f:Int) (c:Int) (w:Int) (r:Int) (n:Int) a1 a2 a3 (A:Int) a4 (Ud p) (Bb (Ak r) n) q ((A:Int)+(l.take k).sum) (k:Int) acc=some ((c:Int),(w:Int),(r:Int),acc++fD y j k,0)
 |0,k,q+1,acc,hk,_,_=>by
  have hend:=o.end';have dZ:=o.file;have b1:=Kh o.five l.length;obtain rfl:k=l.length:=F0
  rw[NI]at b1⊢;rw[Pw,DT,A4 Y!,NZ,Alg,Ja,Aa,fQ _ XF,Aa,U? F0,qF];simp only;rw[A4 F4,fD,F_]
 |j+1,k,q+1,acc,hk,hq,hacc=>by
  have hend:=o.end';have dZ:=o.file;have hs1:=o.some1;have b1:=Kh o.five k;have b2:=Kh o.five (k+1);have hkl:k<l.length:=F0
  have e2:=Of hkl;have h5:=o.five l[k] (N5 _);obtain⟨m,hm,g2,g3,g4,g5,g6⟩:=o.frm k hkl;have ih:=Fl.cpq a1 a2 a3 a4 j (k+1) q (acc++y k) F0 F0 WE;rw[Pw,DT,A7 F6,Dy hkl,Aa,Aa,Aj (a:=(A:Int)+(l.take k).sum) F0 F0,oI,<-e2,Ad,A4 (by rw[Ag,B2];omega),hm];simp only[Aa];rw[OT,Aa,show(b.take ((A:Int)+(l.take (k+1)).sum).toNat).drop ((A:Int)+(l.take k).sum).toNat=XP b A l k from rfl,g4,Aa];simp only;rw[QC,Afo,A4 F4,Bi,Aa,Aj (a:=(A:Int)+(l.take k).sum) F0 F0,oI,<-e2,Aj];rw[fD,<-C0];exact ih
end
theorem cN{c w r n:Nat}{x:LX}(h:ClipOk c w r n x){p:LB}(hp:p.length<=64):
  (Ey c w r n x p).drop 22=To p++(bI (Cc (Oi c w r n x p))++(Oi c w r n x p).flatten)/\ (Ey c w r n x p).drop (22+(To p).length)=bI (Cc (Oi c w r n x p))++(Oi c w r n x p).flatten/\PA (Ey c w r n x p)=((Gh p:Int),(c:Int),(w:Int),(r:Int),(n:Int),0)/\wE (Ey c w r n x p)=(0,0)/\ (Ey c w r n x p).length<=64034/\Zw (bI (Cc (Oi c w r n x p))++(Oi c w r n x p).flatten) (Bb (Ak r) n).length=(Cc (Oi c w r n x p),0)/\ (Ey c w r n x p).length=22+(To p).length+(4*(Oi c w r n x p).length+4)+(Oi c w r n x p).flatten.length:=by
 have hl:(Cc (Oi c w r n x p)).length=(Bb (Ak r) n).length:=by rw[Ht];exact lZ p
 have ht:=sV h p;have d22:(Ey c w r n x p).drop 22=To p++(bI (Cc (Oi c w r n x p))++(Oi c w r n x p).flatten):=by
  rw[Ey,<-aA (Gh p) c w r n,Tz]
 refine⟨d22,?_,?_,Avk ?_,mB h p,?_,?_⟩
 ·rw[<-UW,d22,Tz]
 ·rw[Ey];exact Ajm (h.shape _ (CJ p)) h.fit _
 ·rw[Ey,AL];rfl
 ·rw[<-hl];exact Ahp ht _
 ·rw[vY,jH]
theorem cF{c w r n:Nat}{x:LX}(h:ClipOk c w r n x){p:LB}(hp:p.length<=64):Fl (Ey c w r n x p) p (Gh p) c w r n (22+(To p).length+4*(Oi c w r n x p).length+4) (Cc (Oi c w r n x p)) (λk=>(JB c r n x).getD k []):=by
 obtain⟨d22,dA,hread,hfr,hle,hsk,hlen⟩:=cN h hp;have hl:(Cc (Oi c w r n x p)).length=(Bb (Ak r) n).length:=by rw[Ht];exact lZ p
 have hK:=nk h p;have h1:=h.shape _ (CJ p);have h2:=h.fit;have ht:=sV h p;have hlk:=Ht (Oi c w r n x p);have hok:(∀z∈Cc (Oi c w r n x p),5<=z)/\ (Cc (Oi c w r n x p)).sum<=100000:=by
  have hq:=ht;simp only[cR,A9,B2]at hq;exact(bZ _ _ F4).1 hq.2
 have hA:22+(To p).length+4*(Oi c w r n x p).length+4=ZX 0 p (Oi c w r n x p).length:=by unfold ZX;rw[jH]
 have hd:=(Ajx h hp).Axv;rw[<-hA,F_]at hd;refine⟨?_,hp,F0,h1,h2,hl,by rw[hlk];exact hK,hok.1,hok.2,?_,?_⟩
 ·have e22:Ae (0:Int) 22=((22:Nat):Int):=F4
  have e30:Ae ((22:Nat):Int) 8=((30:Nat):Int):=F4
  rw[Nh,Aga,A4 J5,A4 J5,NS _ F0,hfr,Aa];simp only;rw[A4 F4,Ja,Aa,ZC,W?,xC _ F0,Aa,hread];simp only;rw[A4 F4];by_cases h0:p=[]
  ·have e1:Gh p=1:=by rw[Gh,A7 h0]
   have e2:To p=[]:=by rw[To,A7 h0]
   have tp:=Ak0 (f:=Gh p) h1 h2 (Ey c w r n x p) F0 22 (by rw[hlen];omega);rw[e2]at dA;simp only[V5,SJ]at dA;rw[dA,hsk]at tp;rw[A4 (by rw[h0];decide),A4 (by rw[h0];decide),e22,tp,A4 F8,e2,<-hl,hlk];rfl
  ·have e1:Gh p=2:=by rw[Gh,A4 h0]
   have hne:(p !=([]:LB))=true:=by simpa using h0
   have hne2:(p==([]:LB))=false:=by simpa using h0
   have hdg:To p=Uy (GV p).toNat 8:=by rw[To,A4 h0]
   have e2:(To p).length=8:=by rw[hdg,Bw]
   have hseg:((Ey c w r n x p).take 30).drop 22=Uy (GV p).toNat 8:=by
    rw[aK,d22,hdg,VI WG,J0 WG]
   have tp:=Ak0 (f:=Gh p) h1 h2 (Ey c w r n x p) F0 30 (by rw[hlen,e2];omega);rw[e2]at dA;rw[dA,hsk]at tp;rw[A4 (by rw[hne2,e1];decide),A7 hne,e22,e30,A4 (by rw[Ag,Ad,hlen,e2];simp;omega),OT F0 F0 (by rw[hlen,e2];omega),Aa,C',C',hseg,O0 (Bw _ _) hp,Aa];simp only;rw[A4 F4,A4 F8,tp,A4 F8,e2,<-hl,hlk]
 ·rw[ND,hlen];omega
 ·intro k hk;rw[hlk]at hk;obtain⟨m,hk',g1,g2,g3,g4,g5,g6⟩:=(Ajx h hp).mom hk;have e:(JB c r n x).getD k []=(JB c r n x)[k]:=by rw[B4,C? hk'];rfl
  have hmc:m*c<=4000:=by
   have:=C2 c g3;have:=WY 4000 c;omega
  refine⟨m,g1,g2,hmc,?_,by rw[e];exact g4,by rw[e];exact g5⟩;rw[Avs (z:=[]) (by rw[hd,F_]) hk,g6,e];exact Aow h.bits (pY p) h.ch.1 h.ch.2 g2 g3 g4 g5
theorem Avc{c w r n:Nat}{x:LX}(h:ClipOk c w r n x){p:LB}(hp:p.length<=64):OQ (Ey c w r n x p) p=some ((c:Int),(w:Int),(r:Int),x,0):=by
 obtain⟨d22,dA,hread,hfr,hle,hsk,hlen⟩:=cN h hp;have o:=cF h hp;have hl:(Cc (Oi c w r n x p)).length=(Bb (Ak r) n).length:=by rw[Ht];exact lZ p
 have hlk:=Ht (Oi c w r n x p);have hK:=nk h p;have h1:=h.shape _ (CJ p);have h2:=h.fit;have e22:Ae (0:Int) 22=((22:Nat):Int):=F4
 have e30:Ae ((22:Nat):Int) 8=((30:Nat):Int):=F4
 have hy:fD (λk=>(JB c r n x).getD k []) (Cc (Oi c w r n x p)).length 0=x:=by
  have:=Aa0 (JB c r n x) (λk=>(JB c r n x).getD k []) 0 (λi _=>by rw[K1]);rw[hl,<-rY,this,mW h]
 have body:∀(q d:Int) (T:Nat),T=22+(To p).length->CU (Ey c w r n x p) p (Gh p:Int) (c:Int) (w:Int) (r:Int) (n:Int) q d (T:Int) 0 0 (Bb (Ak r) n)=some ((c:Int),(w:Int),(r:Int),x,0):=λq d T hT=>by
  have e3:Ae (Ae (T:Int) (Cm 4 (Ad (Cc (Oi c w r n x p))))) 4=((22+(To p).length+4*(Oi c w r n x p).length+4:Nat):Int):=by
   rw[Ad,hlk,i? _ _ F0 F0,hT]
  have hv:=Anc (Cc (Oi c w r n x p)) (Ey c w r n x p) p (Gh p) c w r n q d T (Bb (Ak r) n) F0 o.five ((22+(To p).length+4*(Oi c w r n x p).length+4:Nat):Int) F0 (by have:=o.sum;omega) (Cc (Oi c w r n x p)).length 0 Ay F0 B7;have hloop:=o.cpq q d T ((22+(To p).length+4*(Oi c w r n x p).length+4:Nat)+(Cc (Oi c w r n x p)).sum) (Cc (Oi c w r n x p)).length 0 Ay [] F0 B7 F8;rw[Ty,cD,Int.add_zero]at hv hloop;rw[O7,hy]at hloop;rw[CU,OE,A4 (by rw[Ag,Ad,hlen];simp;omega),Ja,Aa,C',hT,dA,Ad,vP _ _ (by have:=congrArg List.length dA;rw[SH]at this;omega),Aa,hsk];simp only;rw[Ajf,PU,A4 F4,<-hT,e3];refine KU hv ?_;rw[PC,PR,e3,DU,Up,A4 F4,WN p hp,Aa];exact hloop
 rw[OQ,UK,A4 J5,gY,A4 J5,NS _ F0,hfr,Aa];simp only;rw[A4 F4,Ja,Aa,ZC,W?,xC _ F0,Aa,hread];simp only;rw[A4 F4,Uc h1 h2,Aa,e22,e30];simp only;by_cases h0:p=[]
 ·have e1:Gh p=1:=by rw[Gh,A7 h0]
  have e2:To p=[]:=by rw[To,A7 h0]
  have:=body 0 ((22:Nat):Int) 22 (by rw[e2];rfl);rw[A4 (by rw[e1];decide),Aa];simp only;rw[A4 F4,A4 (by rw[e1,h0];decide),A7 (by rw[e1];decide),uH];exact this
 ·have e1:Gh p=2:=by rw[Gh,A4 h0]
  have hne2:(p==([]:LB))=false:=by simpa using h0
  have hdg:To p=Uy (GV p).toNat 8:=by rw[To,A4 h0]
  have e2:(To p).length=8:=by rw[hdg,Bw]
  have hseg:((Ey c w r n x p).take 30).drop 22=Uy (GV p).toNat 8:=by
   rw[aK,d22,hdg,VI WG,J0 WG]
  have:=body 0 ((22:Nat):Int) 30 (by rw[e2]);rw[A7 (by rw[e1];decide),Aa];simp only;rw[A4 F4,A4 (by rw[hne2,e1];decide),A4 (by rw[e1];decide),A4 (by rw[Ag,Ad,hlen,e2];simp;omega),OT F0 F0 (by rw[hlen,e2];omega),Aa,C',C',hseg,O0 (Bw _ _) hp,Aa];simp only;rw[A4 F8,uH];exact this
theorem wX{t z:LB}{i:Nat}(h:i<t.length):Oh (t++z) i=Oh t i:=by
 rw[Oh,Oh,B4,B4,I9 h]
theorem mQ(t:LB)(a i:Nat):Oh (t.drop a) i=Oh t (a+i):=by
 rw[Oh,Oh,B4,B4,VA]
theorem Avf{w:Nat}(hw:Cy (w:Int)){t z:LB}{a:Nat}(h:a+wB (w:Int)<=t.length):sx (wB (w:Int)) (t++z) a=sx (wB (w:Int)) t a:=by
 rcases hw with hw|hw|hw
 ·rw[hw]at h⊢;have e:wB 8=1:=rfl;rw[e]at h⊢;rw[sx,sx,A7 rfl,A7 rfl,wX F0]
 ·rw[hw]at h⊢;have e:wB 16=2:=rfl;rw[e]at h⊢;rw[sx2,sx2,wX F0,wX F0]
 ·rw[hw]at h⊢;have e:wB 24=3:=rfl;rw[e]at h⊢;rw[sx3,sx3,wX F0,wX F0,wX F0]
theorem Asl{w:Nat}(hw:Cy (w:Int))(t:LB)(a b:Nat):sx (wB (w:Int)) (t.drop a) b=sx (wB (w:Int)) t (a+b):=by
 rcases hw with hw|hw|hw
 ·rw[hw,show wB 8=1 from rfl,sx,sx,A7 rfl,A7 rfl,mQ]
 ·rw[hw,show wB 16=2 from rfl,sx2,sx2,mQ,mQ];rfl
 ·rw[hw,show wB 24=3 from rfl,sx3,sx3,mQ,mQ,mQ];rfl
theorem sw{w:Nat}(hw:Cy (w:Int)){t z:LB}{m:Nat}(h:m*wB (w:Int)<=t.length):iM (wB (w:Int)) m (t++z)=iM (wB (w:Int)) m t:=by
 rw[iM,iM];apply Z0;intro x hx;have hx:=List.mem_range.1 hx;have h2:(x+1)*wB (w:Int)<=m*wB (w:Int):=C2 _ hx;rw[B5,R3]at h2;rw[Avf hw F0]
theorem Aru{w:Nat}(hw:Cy (w:Int))(t:LB)(m j:Nat):iM (wB (w:Int)) (m+j) t=iM (wB (w:Int)) m t++iM (wB (w:Int)) j (t.drop (m*wB (w:Int))):=by
 rw[iM,iM,iM,List.range_add,Tx,ZE];congr 1;apply Z0;intro x hx
 show Int32.ofInt (sx (wB (w:Int)) t ((m+x)*wB (w:Int)))=_;rw[Asl hw,B5]
theorem Aus{w:Nat}(hw:Cy (w:Int))(t:LB)(a:Nat): -(hB (w:Int))<=sx (wB (w:Int)) t a/\sx (wB (w:Int)) t a<hB (w:Int):=by
 have b0:=uA t a;have b1:=uA t (a+1);have b2:=uA t (a+2);rcases hw with hw|hw|hw
 ·rw[hw,show wB 8=1 from rfl,show hB 8=128 from rfl,sx,A7 rfl];omega
 ·rw[hw,show wB 16=2 from rfl,show hB 16=32768 from rfl,sx2];split<;>omega
 ·rw[hw,show wB 24=3 from rfl,show hB 24=8388608 from rfl,sx3];split<;>omega
theorem sI{w:Nat}(hw:Cy (w:Int))(m:Nat)(t:LB):Z5 (w:Int) (iM (wB (w:Int)) m t):=by
 intro x hx;rw[iM,g!]at hx;obtain⟨k,_,rfl⟩:=hx;have h:=Aus hw t (k*wB (w:Int));have hh:=iC (w:Int);rw[jX F0 F0];exact h
theorem mK(c L:Nat):∀(k:Nat) (x y:LX),k*(L*c)<=x.length->Gt c (x++y) (List.replicate k (L:Int))=Gt c x (List.replicate k (L:Int))
 |0,x,y,_=>rfl
 |k+1,x,y,h=>by
  rw[B5,R3]at h;rw[V9,Gt,Gt,C',VI F0,YL F0,mK c L k _ y XF]
theorem wC(c:Nat):∀(l m:LI) (x:LX),(∀z∈l,0<=z)->Gt c x (l++m)=Gt c x l++Gt c (x.drop (l.sum.toNat*c)) m
 |[],m,x,_=>by simp[Gt]
 |z::l,m,x,h=>by
  have hz:=h z KM;have hl:0<=l.sum:=J' λy hy=>h y (H9 _ hy);rw[SU,Gt,Gt,wC c l m _ (λy hy=>h y (H9 _ hy)),SU,UW,T0,show(z+l.sum).toNat=z.toNat+l.sum.toNat by omega,B5]
theorem u!(k L:Nat):∀z∈List.replicate k (L:Int),0<=z:=λz hz=>by rw[(List.mem_replicate.1 hz).2];omega
theorem R6(k L c:Nat):(List.replicate k (L:Int)).sum.toNat*c=k*(L*c):=by rw[yt,C',N9]
theorem Acr(c L k:Nat)(x:LX)(h:x.length=(k+1)*(L*c)):Gt c x (List.replicate (k+1) (L:Int))=Gt c x (List.replicate k (L:Int))++[x.drop (k*(L*c))]:=by
 rw[List.replicate_succ',wC c _ _ _ (u! k L),R6,Gt,Gt,C',J0 (by rw[SH,h,B5];omega)]
theorem XC{p:Prop}(h:p:=by rw[B5,R3];omega):p:=h
structure EncOk (c w r:Nat) (p:LB):Prop where
 ch:1<=c/\c<=6
 bits:Cy (w:Int)
 rate:1<=r/\r<=1048576
 pass:p.length<=64
def qL(c w:Nat):Nat:=c*wB (w:Int)
def nE(c w:Nat)(t:LB):Nat:=t.length/qL c w
def XE(c w:Nat)(t:LB):LX:=iM (wB (w:Int)) (nE c w t*c) t
def RE(c w:Nat)(t:LB):LB:=t.drop (nE c w t*qL c w)
def kE(c w r:Nat)(t:LB):Nat:=nE c w t/Ak r
def SE(c w r:Nat)(t:LB):LX:=(XE c w t).drop (kE c w r t*(Ak r*c))
def FE(c w r:Nat)(p t:LB):List LB:=(Gt c (XE c w t) (List.replicate (kE c w r t) (Ak r:Int))).map (Oy (w:Int) c (Ud p))
def HE(c r n:Nat):Prop:=n*c<=4000/\ (n=0\/ (n-1)/Ak r+1<=1000)
instance(c r n:Nat):Decidable (HE c r n):=by unfold HE;exact inferInstance
theorem HE.mono{c r n m:Nat}(h:HE c r n)(hm:m<=n):HE c r m:=by
 obtain⟨h1,h2⟩:=h;have h3:=C2 c hm;have h4:(m-1)/Ak r<= (n-1)/Ak r:=nM F0;refine⟨F0,?_⟩;omega
section
variable {c w r:Nat} {p:LB} (h:EncOk c w r p) (t:LB)
include h
theorem uQ:1<=qL c w/\qL c w<=18:=by
 have h1:=nX (w:Int);have h2:=h.ch;have h3:=WA (show 0<c by omega) (show 0<wB (w:Int) by omega);have h4:c*wB (w:Int)<=6*3:=P8 h2.2 h1.2;unfold qL;omega
theorem rW:DD (c:Int) (w:Int)=some (qL c w:Int):=by
 have h2:=h.ch;have hw3:w=8\/w=16\/w=24:=by have:=h.bits;unfold Cy at this;omega
 rcases hw3 with rfl|rfl|rfl
 ·show some (Ej (Cm (c:Int) (8:Int)) 8)=_;rw[Gk,show(c:Int)*8=((c*8:Nat):Int) by omega,show(8:Int)=((8:Nat):Int)from rfl,IG,qL,show wB ((8:Nat):Int)=1 from rfl];congr 2;omega
 ·show some (Ej (Cm (c:Int) (16:Int)) 8)=_;rw[Gk,show(c:Int)*16=((c*16:Nat):Int) by omega,show(8:Int)=((8:Nat):Int)from rfl,IG,qL,show wB ((16:Nat):Int)=2 from rfl];congr 2;omega
 ·show some (Ej (Cm (c:Int) (24:Int)) 8)=_;rw[Gk,show(c:Int)*24=((c*24:Nat):Int) by omega,show(8:Int)=((8:Nat):Int)from rfl,IG,qL,show wB ((24:Nat):Int)=3 from rfl];congr 2;omega
theorem N? :t.length=nE c w t*qL c w+(RE c w t).length/\ (RE c w t).length<qL c w:=by
 have hs:=uQ h;have h1:=X! t.length (qL c w);have h2:=Sf t.length (show 0<qL c w by omega);rw[I!]at h1;have e:(RE c w t).length=t.length-nE c w t*qL c w:=by rw[RE,SH]
 have e2:nE c w t*qL c w=t.length/qL c w*qL c w:=rfl;omega
omit h in
theorem oW:(XE c w t).length=nE c w t*c:=uD _ _ _
theorem G_:Z5 (w:Int) (XE c w t):=sI h.bits _ _
theorem qz:nE c w t=kE c w r t*Ak r+nE c w t %Ak r/\nE c w t %Ak r<Ak r:=by
 have _:=h;have hp:=Iu r;have h1:=X! (nE c w t) (Ak r);rw[I!]at h1;exact⟨h1.symm,Sf _ F0⟩
theorem qE:(SE c w r t).length=nE c w t %Ak r*c:=by
 have h1:=(qz h t).1;rw[SE,SH,oW]
 conv=>lhs;rw[h1]
 rw[B5,<-N9,YM]
omit h in
theorem K6:(FE c w r p t).length=kE c w r t:=by rw[FE,U5,PY,S6]
theorem yI(b:UInt8)(hl:(RE c w t).length+1<qL c w):nE c w (t++[b])=nE c w t/\XE c w (t++[b])=XE c w t/\RE c w (t++[b])=RE c w t++[b]:=by
 have h1:=N? h t;have hs:=uQ h;have hn:nE c w (t++[b])=nE c w t:=by
  rw[nE,A?,Ul];exact Wt F0 XC
 refine⟨hn,?_,?_⟩
 ·rw[XE,hn,XE];exact sw h.bits (by
   have e:nE c w t*c*wB (w:Int)=nE c w t*qL c w:=by rw[qL,N9]
   rw[e];omega)
 ·rw[RE,hn,RE,YL F0]
theorem yB(b:UInt8)(hl:¬(RE c w t).length+1<qL c w):(RE c w t).length+1=qL c w/\nE c w (t++[b])=nE c w t+1/\XE c w (t++[b])=XE c w t++iM (wB (w:Int)) c (RE c w t++[b])/\RE c w (t++[b])=[]:=by
 have h1:=N? h t;have hs:=uQ h;have hn:nE c w (t++[b])=nE c w t+1:=by
  rw[nE,A?,Ul];exact Wt XC (by rw[B5,B5,R3];omega)
 have e:nE c w t*c*wB (w:Int)=nE c w t*qL c w:=by rw[qL,N9]
 refine⟨F0,hn,?_,?_⟩
 ·rw[XE,hn,B5,R3,Aru h.bits,sw h.bits (by rw[e];omega),e,YL F0];rfl
 ·rw[RE,hn,U?];rw[A?,Ul,B5,R3];omega
theorem yh:kE c w r t*(Ak r*c)<= (XE c w t).length:=by
 have h1:=(qz h t).1;rw[oW]
 conv=>rhs;rw[h1]
 rw[B5,<-N9];omega
theorem Axx{b:UInt8}(hl:(RE c w t).length+1<qL c w):kE c w r (t++[b])=kE c w r t/\SE c w r (t++[b])=SE c w r t/\FE c w r p (t++[b])=FE c w r p t:=by
 obtain⟨h1,h2,h3⟩:=yI h t b hl;have hk:kE c w r (t++[b])=kE c w r t:=by rw[kE,h1,kE]
 exact⟨hk,by rw[SE,hk,h2,SE],by rw[FE,hk,h2,FE]⟩
theorem Ax5{b:UInt8}(hl:¬(RE c w t).length+1<qL c w):
  ((SE c w r t++iM (wB (w:Int)) c (RE c w t++[b])).length<Ak r*c->kE c w r (t++[b])=kE c w r t/\SE c w r (t++[b])=SE c w r t++iM (wB (w:Int)) c (RE c w t++[b])/\FE c w r p (t++[b])=FE c w r p t)/\
  (¬(SE c w r t++iM (wB (w:Int)) c (RE c w t++[b])).length<Ak r*c-> (SE c w r t++iM (wB (w:Int)) c (RE c w t++[b])).length=Ak r*c/\kE c w r (t++[b])=kE c w r t+1/\SE c w r (t++[b])=[]/\FE c w r p (t++[b])=FE c w r p t++[Oy (w:Int) c (Ud p) (SE c w r t++iM (wB (w:Int)) c (RE c w t++[b]))]):=by
 obtain⟨_,h1,h2,h3⟩:=yB h t b hl;obtain⟨d1,d2⟩:=qz h t;have hsl:=qE h t;have hc:=h.ch;have hp:=Iu r;have hdk:=yh h t;have hlen:(SE c w r t++iM (wB (w:Int)) c (RE c w t++[b])).length=(nE c w t %Ak r+1)*c:=by rw[A?,hsl,uD,B5,R3]
 rw[hlen];constructor
 ·intro hlt;have hlt2:nE c w t %Ak r+1<Ak r:=Nat.lt_of_mul_lt_mul_right hlt;have hk:kE c w r (t++[b])=kE c w r t:=by
   rw[kE,h1];exact Wt F0 XC
  refine⟨hk,?_,?_⟩
  ·rw[SE,hk,h2,YL hdk,SE]
  ·rw[FE,hk,h2,mK c (Ak r) _ _ _ hdk,FE]
 ·intro hge;have Beu:Ak r<=nE c w t %Ak r+1:=by
   refine Nat.le_of_not_lt λhh=>hge ?_;exact zO hh hc.1
  have heq:nE c w t %Ak r+1=Ak r:=F0
  have hk:kE c w r (t++[b])=kE c w r t+1:=by
   rw[kE,h1];exact Wt XC (by rw[B5,B5,R3];omega)
  have hXl:(XE c w (t++[b])).length=(kE c w r t+1)*(Ak r*c):=by
   rw[oW,h1,<-N9];congr 1;rw[B5,R3];omega
  refine⟨by rw[heq],hk,?_,?_⟩
  ·rw[SE,hk,<-hXl,YU]
  ·rw[FE,hk,Acr c (Ak r) _ _ hXl,Tx,h2,mK c (Ak r) _ _ _ hdk,YL hdk,FE];rfl
theorem uK(hR:HE c r (nE c w t)):∀f∈FE c w r p t,5<=f.length/\f.length<= (81*(Ak r*c)+7)/8+4:=by
 intro f hf;obtain⟨y,hy,rfl⟩:=List.mem_map.1 hf;have hx:(XE c w t).take (kE c w r t*(Ak r*c))++(XE c w t).drop (kE c w r t*(Ak r*c))=XE c w t:=WW _ _;have hdk:=yh h t;have hpr:=mK c (Ak r) (kE c w r t) ((XE c w t).take (kE c w r t*(Ak r*c))) ((XE c w t).drop (kE c w r t*(Ak r*c))) gO;rw[hx]at hpr;rw[hpr]at hy;have hp:=Iu r;obtain⟨k,hk,hk2⟩:=mh hy;have hl1:∀z∈List.replicate (kE c w r t) (Ak r:Int),1<=z:=λz hz=>by rw[(List.mem_replicate.1 hz).2];omega
 have hlx:((XE c w t).take (kE c w r t*(Ak r*c))).length=(List.replicate (kE c w r t) (Ak r:Int)).sum.toNat*c:=by rw[R6,HH];omega
 have hg:=pI c h.ch.1 _ _ hl1 hlx k (by rw[PY]at hk;exact hk) hk;rw[hk2,List.getElem_replicate,C']at hg;obtain⟨a1,a2,_,_⟩:=dC c h.ch.1 _ _ hl1 hlx y hy;have hle:y.length<=4000:=by
  have:=hR.1;have h2:((XE c w t).take (kE c w r t*(Ak r*c))).length<= (XE c w t).length:=by rw[HH];omega
  rw[oW]at h2;omega
 have h5:=sF (w:Int) c (Ud p) y a1 hle;have he:=VX c (Jh (w:Int) c (Ud p) y) y.length;refine⟨h5.1,?_⟩;rw[Oy,A?,Bw,DY,Te,<-hg];omega
omit h in
theorem Ane(b:List LB)(f a M:Int)(hM:Ae (Ej (Ae (Cm (Cm 81 f) a) 7) 8) 4=M)(hb:b.length<=100000)(hm:∀y∈b,5<=y.length/\ (y.length:Int)<=M):∀(j i q:Nat),i+j=b.length->j<q->If b f a q (i:Int)=some true
 |j,i,0,_,h=>absurd h (U0 _)
 |0,i,q+1,hi,_=>by
  rw[If,Oj,A4 F6];rfl
 |j+1,i,q+1,hi,hq=>by
  have ih:=Ane b f a M hM hb hm j (i+1) q F0 F0;have hy:=hm b[i] (N5 _);have hi1:Ae (i:Int) 1=((i+1:Nat):Int):=by rw[Aj];omega
  rw[If,Oj,A7 F6,Dy,Aa,Wi,JO,hM,A4 (by simp[Ag,Be,Ad];omega),JX,JZ,hi1];exact ih
theorem Ao8:Xk (c:Int) (w:Int) (r:Int) p=some ((Ak r:Int),true):=by
 have hp:=h.pass;rw[Xk,mR h.rate.1 h.rate.2,Aa];simp only;rw[B_ h.bits h.ch.1 h.ch.2,Aa];simp[Dh,yH,Ad];omega
theorem xN(hR:HE c r (nE c w t))(p' m' n':LB)(u:Bool)(v k o:Int):Sp (c:Int) k o p' m' (SE c w r t) (FE c w r p t) n' u v (Ak r:Int)=some (nE c w t:Int):=by
 have hc:=h.ch;obtain⟨d1,d2⟩:=qz h t;have hsl:=qE h t;have hlt:=YQ h.rate.2;have hn:nE c w t<=4000:=by
  have:=hR.1;have:nE c w t*1<=nE c w t*c:=XV _ hc.1;omega
 have e1:Cm (Ad (FE c w r p t)) (Ak r:Int)=((kE c w r t*Ak r:Nat):Int):=by
  rw[Ad,K6,Gk UZ UZ,<-U1]
 have e2:Ej (Ad (SE c w r t)) (c:Int)=((nE c w t %Ak r:Nat):Int):=by
  rw[Ad,hsl,IG (by
   have:nE c w t %Ak r*c<=nE c w t*c:=C2 _ (Xq _ _);have:=hR.1;omega),eT _ F0]
 rw[Sp,Bt M_,Aa,e1,e2,Aj];congr 1;omega
theorem Ahm(hR:HE c r (nE c w t)):GJ (c:Int) (w:Int) (r:Int) p (RE c w t) (SE c w r t) (FE c w r p t) [] false 0=some 0:=by
 have hc:=h.ch;have hw:=h.bits;obtain⟨d1,d2⟩:=qz h t;have hsl:=qE h t;have htl:=N? h t;have hlt:=YQ h.rate.2;have hp:=Iu r;have hfl:=K6 (c:=c) (w:=w) (r:=r) (p:=p) t;have hn4:=hR.1;have hmod:nE c w t %Ak r*c<=nE c w t*c:=C2 _ (Xq _ _);have hn:nE c w t<=4000:=by
  have:nE c w t*1<=nE c w t*c:=XV _ hc.1;omega
 have hfr:kE c w r t+(if 0<nE c w t %Ak r then 1 else 0)<=1000:=by
  rcases hR.2 with h0|h0
  ·have:kE c w r t=0:=by rw[kE,h0];exact gD _
   rw[h0,Nat.zero_mod,this];decide
  ·generalize hq:Ak r=L at*
   have hk:kE c w r t=nE c w t/L:=by rw[kE,hq]
   by_cases hz:0<nE c w t %L
   ·rw[A7 hz];have:(nE c w t-1)/L=kE c w r t:=Wt F0 XC;omega
   ·rw[A4 hz];by_cases hk0:kE c w r t=0
    ·omega
    ·obtain⟨k',hk'⟩:∃k',kE c w r t=k'+1:=⟨kE c w r t-1,F0⟩;rw[hk',B5,R3]at d1;have:(nE c w t-1)/L=k':=Wt F0 XC;omega
 have hcnt:=xN h t hR p (RE c w t) [] false 0 (w:Int) (r:Int);have hin:Z5 (w:Int) (SE c w r t):=λv hv=>G_ h t v (YX hv);have hwc:Ni (w:Int) (SE c w r t)=some 0:=by rw[ON hw _ F0,mA hw F0 hin]
 have hroom:∀k:Int,k<=1000->Ro (c:Int) (w:Int) (r:Int) p (RE c w t) (SE c w r t) (FE c w r p t) [] false 0 k (nE c w t:Int)=some true:=by
  intro k hk;rw[Ro,Gk UZ UZ,<-U1];simp[yH];omega
 have hLc:Ak r*c<=1100000*6:=P8 F0 hc.2;have hM:Ae (Ej (Ae (Cm (Cm 81 (Ak r:Int)) (c:Int)) 7) 8) 4=(((81*(Ak r*c)+7)/8+4:Nat):Int):=by
  have e1:Cm 81 (Ak r:Int)=((81*Ak r:Nat):Int):=by rw[Gk];omega
  have e2:Cm ((81*Ak r:Nat):Int) (c:Int)=((81*(Ak r*c):Nat):Int):=by
   rw[Gk (by rw[<-U1,N9];omega) (by rw[<-U1,N9];omega),<-U1,N9]
  rw[e1,e2,Aj (a:=((81*(Ak r*c):Nat):Int)) (b:=7) F0 F0,show((81*(Ak r*c):Nat):Int)+7=((81*(Ak r*c)+7:Nat):Int) by omega,show(8:Int)=((8:Nat):Int)from rfl,IG,Aj];omega
 have hloop:=Ane (FE c w r p t) (Ak r:Int) (c:Int) _ hM F0 (λy hy=>by
  have:=uK h t hR y hy;omega) (FE c w r p t).length 0 Ay F0 B7
 have Az6:Yd (c:Int) (w:Int) (r:Int) p (RE c w t) (SE c w r t) (FE c w r p t) [] false 0 (Ak r:Int)=some true:=by
  have Bb9:Ej (Ad (SE c w r t)) (c:Int)=((nE c w t %Ak r:Nat):Int):=by
   rw[Ad,hsl,IG,eT _ F0]
  have Bca:Me (Ad (SE c w r t)) (c:Int)=0:=by rw[Ad,hsl,JG,TC];rfl
  have hkk:kE c w r t<=1000:=by split at hfr<;>omega
  rw[Yd,Yq,A4 F4,rW h,Aa,A4 (by rw[Gf,Ad];simp;omega),Bt M_,Aa,Bca,A4 F4,Aa,Bb9,A4 (by simp[Gf,Be,Ad,hfl];omega),Wd,Wp,hwc,Aa,A4 F4];by_cases hz:0<nE c w t %Ak r
  ·rw[A7 hz]at hfr;have hpos:=WA hz (show 0<c by omega);rw[A7 J5,Wl,Oq,hcnt,Aa,Ad,hfl,Aj,hroom _ F0,Aa,A4 F4,Wc,Ok,Wf];exact hloop
  ·have h0:nE c w t %Ak r=0:=F0
   rw[h0,Xn]at hsl;rw[A4 (by rw[Be,Ad];simp only[B2];omega),Wl,Oq,hcnt,Aa,Ad,hfl,hroom _ F0,Aa,A4 F4,Wc,Ok,Wf];exact hloop
 rw[GJ,Ao8 h,Aa];simp only;rw[A4 F4,A4 F4,A4 F4,Az6,Aa,A4 F4]
end
theorem Amc(a:List LB)(ha:∀y∈a,y.length<=17179869184)(w:List LB)(hw:w.length=a.length)(ha2:a.length<=100000)(b f g:Int)(h:LB)(k:Bool)(m:Int)(n:LB)(o:LX)(p:LB):∀(j i q:Nat),i+j=a.length->j<q->Mw w a b f g h k m n o p q (i:Int) a=some (b,f,g,h,n,o,a,p,k,m)
 |j,i,0,_,h=>absurd h (U0 _)
 |0,i,q+1,hi,_=>by
  have hc:JT w a=a:=by rw[JT,hw,NI,U? F0,F_]
  rw[Mw,Xu,hc,A4 F6];rfl
 |j+1,i,q+1,hi,hq=>by
  have ih:=Amc a ha w hw ha2 b f g h k m n o p j (i+1) q F0 F0;have hc:JT w a=a:=by rw[JT,hw,NI,U? F0,F_]
  have hi1:Ae (i:Int) 1=((i+1:Nat):Int):=by rw[Aj];omega
  have hy:=ha a[i] (N5 _);rw[Mw,Xu,hc,A7 F6,Dy,Aa,Aa,Bm,Bi (by simpa using hy),Aa,Aa,Aa,O7,FR _ F0,Aa,List.set_getElem_self,hi1];exact ih
theorem Ajy{a:List LB}(ha:∀y∈a,y.length<=17179869184)(ha2:a.length<=100000)(b f g:Int)(h:LB){x:LB}{s:LX}{z:LB}(hx:x.length<=17179869184)(hs:s.length<=17179869184)(hz:z.length<=17179869184)(k:Bool)(m:Int):KB b f g h x s a z k m=some (b,f,g,h,x,s,a,z,k,m):=by
 have hl:=Amc a ha (List.replicate a.length []) (by rw[S6]) ha2 b f g h k m x s z a.length 0 Ay F0 B7;have hc:JT (List.replicate a.length []) a=a:=by rw[JT,S6,NI,U? (by rw[S6];omega),F_]
 rw[KB,ID,Bm,Bi (by simpa using hx),Aa,Aa,Db,Bi (by simpa using hs),Aa,Aa,Bm,Bi (by simpa using hz),Aa,Aa,Aeo,HV,E7 SM SM,Aa,Bt ZJ,Aa];simp only[O7,Ad,C',hc];exact hl
section
variable {c w r:Nat} {p:LB} (h:EncOk c w r p)
include h
theorem Ade(t:LB)(hR:HE c r (nE c w t)):Xe (c:Int) (w:Int) (r:Int) p (RE c w t) (SE c w r t) (FE c w r p t) [] false 0=some ((c:Int),(w:Int),(r:Int),p,RE c w t,SE c w r t,FE c w r p t,[],false,0,(Ak r:Int),0):=by
 have h1:=N? h t;have hs:=uQ h;have hsl:=qE h t;have hfl:=K6 (c:=c) (w:=w) (r:=r) (p:=p) t;have hn4:=hR.1;have hmod:nE c w t %Ak r*c<=nE c w t*c:=C2 _ (Xq _ _);have hn:nE c w t<=4000:=by
  have:nE c w t*1<=nE c w t*c:=XV _ h.ch.1;omega
 have hk:kE c w r t<=nE c w t:=SW _ _;have hlt:=YQ h.rate.2;have hLc:Ak r*c<=1100000*6:=P8 F0 h.ch.2;have htw:=Ajy (a:=FE c w r p t) (λy hy=>by have:=uK h t hR y hy;omega) F0 (c:Int) (w:Int) (r:Int) p (x:=RE c w t) (s:=SE c w r t) (z:=[]) F0 F0 F8 false 0;rw[Xe,Ab9,Ahm h t hR,Aa,A4 F4,mR h.rate.1 h.rate.2,Aa];simp only;rw[A4 F4,A4 F4,Acw,Aec,htw,Aa]
abbrev Ban:=Int×Int×Int×LB×LB×LX×(List LB)×LB×Bool×Int×Int
def ZV(c w r:Nat)(p t:LB):Ban:=if HE c r (nE c w t)then((c:Int),(w:Int),(r:Int),p,RE c w t,SE c w r t,FE c w r p t,[],false,0,0)else((c:Int),(w:Int),(r:Int),p,[],[],[],[],false,18,18)
theorem Am0(t b:LB)(hb:b.length<=1000000):∀(j u q:Nat) (T:LB),u+j=b.length->j<q->T=t++b.take u->HE c r (nE c w T)->Hh (qL c w:Int) b (c:Int) (w:Int) (r:Int) p false 0 (Ak r:Int) [] q (u:Int) (RE c w T) (SE c w r T) (FE c w r p T)=some (ZV c w r p (t++b))
 |j,u,0,T,_,h,_,_=>absurd h (U0 _)
 |0,u,q+1,T,hu,_,hT,hR=>by
  rw[J0 F0]at hT;rw[Hh,Vo,A4 F6,EZ,Abc,ZV,<-hT,A7 hR]
 |j+1,u,q+1,T,hu,hq,hT,hR=>by
  have hc:=h.ch;have hs:=uQ h;have hu1:Ae (u:Int) 1=((u+1:Nat):Int):=by rw[Aj];omega
  have hT':T++[b[u]' F0]=t++b.take (u+1):=by rw[hT,Gb F0,C0]
  have hpre:(T++[b[u]' F0]).length<= (t++b).length:=by rw[hT',A?,A?,HH];omega
  have hmono:nE c w (T++[b[u]' F0])<=nE c w (t++b):=nM hpre;have hgd:Af b (u:Int)=some (b[u]' F0):=Dy;generalize b[u]' F0=d at hT' hpre hmono hgd⊢;have ih:=Am0 t b hb j (u+1) q (T++[d]) F0 F0 hT';have htl:=N? h T;have hsl:=qE h T;have hfl:=K6 (c:=c) (w:=w) (r:=r) (p:=p) T;have hn4:=hR.1;have hmod:nE c w T %Ak r*c<=nE c w T*c:=C2 _ (Xq _ _);have hn:nE c w T<=4000:=by
   have:nE c w T*1<=nE c w T*c:=XV _ hc.1;omega
  have hk:kE c w r T<=nE c w T:=SW _ _;have hlt:=YQ h.rate.2;rw[Hh,Vo,A7 F6,hgd,Aa,Bi F5,Aa];by_cases hlt1:(RE c w T).length+1<qL c w
  ·obtain⟨m1,m2,m3⟩:=yI h T d hlt1;obtain⟨g1,g2,g3⟩:=Axx h T (b:=d) hlt1;rw[m1,m3,g2,g3]at ih;rw[A7 (by rw[Ag,Ad,A?,Ul];simp;omega),Ln,Uz,hu1];exact ih hR
  ·obtain⟨m0,m1,m2,m3⟩:=yB h T d hlt1;obtain⟨g1,g2⟩:=Ax5 h T (b:=d) hlt1;have hcnt:=xN h T hR p (RE c w T++[d]) [] false 0 (w:Int) (r:Int);have hroom:Ro (c:Int) (w:Int) (r:Int) p (RE c w T++[d]) (SE c w r T) (FE c w r p T) [] false 0 (Ae (Ad (FE c w r p T)) 1) (Ae (nE c w T:Int) 1)=some (decide ((kE c w r T:Int)+1<=1000)&&decide ((((nE c w T+1)*c:Nat):Int)<=4000)):=by
    have hle:(nE c w T+1)*c<=4001*6:=P8 F0 hc.2;rw[Ro,Ad,hfl,Aj,Aj,show(nE c w T:Int)+1=((nE c w T+1:Nat):Int) by omega,Gk UZ UZ,<-U1,yH,yH]
   rw[A4 (by rw[Ag,Ad,A?,Ul];simp;omega),hcnt,Aa,hroom,Aa];by_cases hok:kE c w r T+1<=1000/\ (nE c w T+1)*c<=4000
   ·have hR':HE c r (nE c w (T++[d])):=by rw[m1];exact⟨hok.2, .inr (by rw[nV];exact hok.1)⟩
    have ih:=ih hR';have Bcb:=Ark (RE c w T++[d]) h.bits (m:=c) (by rw[A?,Ul,m0];rfl) F0;have hLc:Ak r*c<=1100000*6:=P8 F0 hc.2;have hmul:Cm (Ak r:Int) (c:Int)=((Ak r*c:Nat):Int):=by rw[Gk UZ UZ,<-U1]
    rw[A4 (by rw[Q6 (show(kE c w r T:Int)+1<=1000 by omega),Q6 (show(((nE c w T+1)*c:Nat):Int)<=4000 by omega)];decide),EJ,Abe,Bcb,Aa];simp only;rw[A4 F4,Bi (by rw[uD];omega),Aa,hmul];by_cases hfull:(SE c w r T++iM (wB (w:Int)) c (RE c w T++[d])).length<Ak r*c
    ·obtain⟨k1,k2,k3⟩:=g1 hfull;rw[m3,k2,k3]at ih;rw[A7 (by rw[Ag,Ad];simp only[B2];omega),Hj,Vr,A4 F4,Ln,Uz,hu1];exact ih
    ·obtain⟨k0,k1,k2,k3⟩:=g2 hfull;rw[m3,k2,k3]at ih;have hXl:Ak r*c<=4000:=by
      have e:=hR'.1;have hlen:(XE c w (T++[d])).length=nE c w (T++[d])*c:=oW (T++[d]);have hdk:=yh (r:=r) h (T++[d]);rw[k1,B5,R3]at hdk;omega
     have hin:Z5 (w:Int) (SE c w r T++iM (wB (w:Int)) c (RE c w T++[d])):=by
      intro v hv;rw[fC]at hv;rcases hv with hv|hv
      ·exact G_ h T v (YX hv)
      ·exact sI h.bits _ _ v hv
     have hLp:=WA (Iu r) hc.1;have henc:=Apb (t:=Ud p) (x:=SE c w r T++iM (wB (w:Int)) c (RE c w T++[d])) h.bits (pY p) hc.1 hc.2 F0 F0 (by rw[k0];exact TC _ _) hin;rw[A4 (by rw[Ag,Ad];simp only[B2];omega),WN p h.pass,Aa];simp only;rw[A4 F4,henc,Aa];simp only;rw[A4 F4,Bi F5,Aa,Adp,Ad4,Hj,Vr,A4 F4,Ln,Uz,hu1];exact ih
   ·have hno:¬HE c r (nE c w (t++b)):=by
     intro hh;have:=hh.mono hmono;rw[m1]at this;obtain⟨z1,z2⟩:=this;apply hok;rw[nV]at z2;have hkE:kE c w r T=nE c w T/Ak r:=rfl;omega
    rw[A7 (by
     rw[O1,Bool.and_eq_false_iff,XU,XU];omega),Hj,Vr,A7 F4,Qt,Aa,ZV,A4 hno]
theorem Aoq(t b:LB)(hb:b.length<=1000000)(hR:HE c r (nE c w t)):KJ (c:Int) (w:Int) (r:Int) p (RE c w t) (SE c w r t) (FE c w r p t) [] false 0 b=some (ZV c w r p (t++b)):=by
 have hl:=Am0 h t b hb b.length 0 Ay t F0 B7 F8 hR;rw[KJ,IY,Ade h t hR,Aa];simp only;rw[A4 F4,rW h,Aa,Abf];exact hl
theorem Aql:SB (c:Int) (w:Int) (r:Int) p=some ((c:Int),(w:Int),(r:Int),p,RE c w [],SE c w r [],FE c w r p [],[],false,0,0):=by
 have h0:nE c w []=0:=gD _;have hk:kE c w r []=0:=by rw[kE,h0];exact gD _
 rw[SB,Ao8 h,Aa];simp only;rw[A4 F4,RE,SE,FE,XE,hk,h0];simp[iM,Gt]
omit h in
theorem Aio(c r:Nat):HE c r 0:=⟨F0, .inl rfl⟩
end
theorem O8(l:List LB)(hf:l.flatten.length<=1000000)(hl:l.length<=1000000)(v:LB)(hfin:Fh l (l.flatten.length:Int)=some v):∀(j i q:Nat),i+j=l.length->j<q->Cq l q (((l.take i).flatten.length:Nat):Int) (i:Int)=some v
 |j,i,0,_,h=>absurd h (U0 _)
 |0,i,q+1,hi,_=>by
  rw[Cq,Ds,A4 F6,J0 F0];exact hfin
 |j+1,i,q+1,hi,hq=>by
  have ih:=O8 l hf hl v hfin j (i+1) q F0 F0;have hi1:Ae (i:Int) 1=((i+1:Nat):Int):=by rw[Aj];omega
  have hsn:(l.take (i+1)).flatten=(l.take i).flatten++l[i]:=by rw[Gb F0,Z1];simp
  have hsp:l.flatten=(l.take (i+1)).flatten++(l.drop (i+1)).flatten:=by rw[<-Z1,WW]
  have hle:((l.take i).flatten).length+(l[i]).length<=1000000:=by
   rw[hsp,A?,hsn,A?]at hf;omega
  have hadd:Ae (((l.take i).flatten.length:Nat):Int) (Ad l[i])=(((l.take (i+1)).flatten.length:Nat):Int):=by
   rw[Ad,Aj,hsn,A?];omega
  rw[Cq,Ds,A7 F6,Dy,Aa,hadd,A4 (by rw[Ag];simp only[B2];omega),hi1];exact ih
theorem M1(l:List LB)(hf:l.flatten.length<=1000000)(hl:l.length<=1000000):∀(j i q:Nat),i+j=l.length->j<q->Ch l q (i:Int) (l.take i).flatten=some l.flatten
 |j,i,0,_,h=>absurd h (U0 _)
 |0,i,q+1,hi,_=>by
  rw[Ch,Dm,A4 F6,J0 F0];rfl
 |j+1,i,q+1,hi,hq=>by
  have ih:=M1 l hf hl j (i+1) q F0 F0;have hi1:Ae (i:Int) 1=((i+1:Nat):Int):=by rw[Aj];omega
  have hsn:(l.take (i+1)).flatten=(l.take i).flatten++l[i]:=by rw[Gb F0,Z1];simp
  have hsp:l.flatten=(l.take (i+1)).flatten++(l.drop (i+1)).flatten:=by rw[<-Z1,WW]
  have hle:((l.take i).flatten).length+(l[i]).length<=1000000:=by
   rw[hsp,A?,hsn,A?]at hf;omega
  rw[Ch,Dm,A7 F6,Dy,Aa,Bi,Aa,hi1,<-hsn];exact ih
theorem Abp(l:List LB)(hf:l.flatten.length<=1000000)(hl:l.length<=1000000):Dj l=some l.flatten:=by
 have h3:Fi l []=some l.flatten:=by
  rw[Fi,Hm,Hk];exact M1 l hf hl l.length 0 Ay F0 B7
 have h11:Fh l (l.flatten.length:Int)=some l.flatten:=by
  have z:Ap (0:Int) 0=0:=F4
  rw[Fh,Hl,A4 (by rw[Ag];simp only[B2];omega),Kx,Hn,z,Dv,Int.sub_zero];by_cases hp:0<l.flatten.length
  ·rw[A7 (by rw[Be];simp only[B2];omega),show ZW (0:Int) 0 0=some ()from rfl,Aa,E7,Aa,Bi (by simp only[V5,S6];omega),Aa];rw[show ZW (Ad ([]++List.replicate ((l.flatten.length:Nat):Int).toNat (0:UInt8))) 0 0=some () by rw[ZW,Bt];simp[Ad],Aa];simp only[QL,fZ,ZC,Ty];exact h3
  ·rw[A4 (by rw[Be];simp only[B2];omega)];exact h3
 have:=O8 l hf hl _ h11 l.length 0 Ay F0 B7;exact this
theorem Acu{p:LB}(hp:p.length<=64):GF p=some ((Gh p:Int),0):=by
 rw[GF,A4 J5,Gh];by_cases h:p=[]
 ·rw[A7 (by rw[Dh,Ad,h];rfl),A7 h];rfl
 ·have:p.length≠0:=λe=>h (VT e);rw[A4 ZN,A4 h];rfl
theorem Ab4(a:List LB)(ha:a.length<=100000)(f g h:Int)(b k:LB)(m:LX)(n:LB)(o:Bool)(p:Int)(u v:LB)(hfin:Se f g h b k m a n o p u (Cc a)=some (v,0)):∀(j i q:Nat),i+j=a.length->j<q->Mx a f g h b k m n o p u q (i:Int) (Cc (a.take i))=some (v,0)
 |j,i,0,_,h=>absurd h (U0 _)
 |0,i,q+1,hi,_=>by
  rw[Mx,Xt,A4 F6,J0 F0];exact hfin
 |j+1,i,q+1,hi,hq=>by
  have ih:=Ab4 a ha f g h b k m n o p u v hfin j (i+1) q F0 F0;have hi1:Ae (i:Int) 1=((i+1:Nat):Int):=by rw[Aj];omega
  have hll:(Cc (a.take i)).length=i:=by rw[Ht,HH];omega
  have hsn:Cc (a.take i)++[Ad a[i]]=Cc (a.take (i+1)):=by rw[Gb F0,Cc,Cc,Tx];rfl
  rw[Mx,Xt,A7 F6,Dy,Aa,Bi F5,Aa,hsn,hi1];exact ih
theorem Q? {c w r n:Nat}{x:LX}(h:ClipOk c w r n x){p:LB}(hp:p.length<=64)(k:LB)(m:LX)(n':LB)(o:Bool)(e:Int):KD (c:Int) (w:Int) (r:Int) p k m (Oi c w r n x p) n' o e (n:Int)=some (Ey c w r n x p,0):=by
 have hn:=nk h p;have hl:=mB h p;have hlen:=vY (c:=c) (w:=w) (r:=r) (n:=n) (x:=x) p;have hdl:=jH p;have hfin:Se (c:Int) (w:Int) (r:Int) p k m (Oi c w r n x p) n' o e (KN (Gh p) c w r n++To p) (Cc (Oi c w r n x p))=some (Ey c w r n x p,0):=by
  have hh:=aA (Gh p) c w r n;have ht:=UX (Cc (Oi c w r n x p));have hll:=Ht (Oi c w r n x p);rw[Se,Xy,Bej,A7 (sV h p),Aa];simp only;rw[A4 F4,Bi WE,Aa,Abp _ F0 F0,Aa,Bi (by rw[A?,A?];omega),Aa];simp[Ey]
 have hlp:=Ab4 (Oi c w r n x p) F0 (c:Int) (w:Int) (r:Int) p k m n' o e (KN (Gh p) c w r n++To p) _ hfin (Oi c w r n x p).length 0 Ay F0 B7;rw[KD,JC,Acu hp,Aa];simp only;rw[A4 F4,Bhj (h.shape _ (CJ p)) h.fit,Aa];simp only;rw[A4 F4];by_cases h0:p=[]
 ·have e2:To p=[]:=by rw[To,A7 h0]
  rw[e2,F_]at hlp;rw[A4 (by simp[h0]),JJ,Xs];exact hlp
 ·have e2:To p=Uy (GV p).toNat 8:=by rw[To,A4 h0]
  rw[e2]at hlp;rw[A7 (by simpa using h0),Ao1 p hp,Aa];simp only;rw[A4 F4,Bi (by rw[aA,Bw];omega),Aa,JJ,Xs];exact hlp
section
variable {c w r:Nat} {p:LB} (h:EncOk c w r p) (t:LB) (hR:HE c r (nE c w t))
include h hR
theorem Aml(h1:1<=nE c w t):ClipOk c w r (nE c w t) (XE c w t):=by
 have hc:=h.ch;refine⟨hc,h.bits,h.rate,⟨h1,?_⟩,oW t,?_,G_ h t⟩
 ·rw[Nat.le_div_iff_mul_le F0];exact hR.1
 ·rcases hR.2 with h0|h0
  ·omega
  ·exact h0
omit hR in
theorem Abq(h1:1<=nE c w t):Oi c w r (nE c w t) (XE c w t) p=FE c w r p t++(if SE c w r t=[]then []else [Oy (w:Int) c (Ud p) (SE c w r t)]):=by
 have hc:=h.ch;have hp:=Iu r;obtain⟨d1,d2⟩:=qz h t;have hsl:=qE h t;have key:JB c r (nE c w t) (XE c w t)=Gt c (XE c w t) (List.replicate (kE c w r t) (Ak r:Int))++(if SE c w r t=[]then []else [SE c w r t]):=by
  by_cases hz:nE c w t %Ak r=0
  ·have hS:SE c w r t=[]:=VT (by rw[hsl,hz,Xn]);rw[A7 hS,F_,JB];congr 1;rw[hz,SJ]at d1;have hk1:1<=kE c w r t:=by
    rcases a! (kE c w r t)with h0|h0
    ·rw[h0,Xn]at d1;omega
    ·exact h0
   obtain⟨k',hk'⟩:∃k',kE c w r t=k'+1:=⟨kE c w r t-1,F0⟩;have hd:(nE c w t-1)/Ak r=k':=by
    rw[hk',B5,R3]at d1;exact Wt F0 XC
   rw[Bb,hd,hk',List.replicate_succ'];congr 2;rw[hk',B5,R3]at d1;omega
  ·have hS:SE c w r t≠ []:=by
    intro e;have:=congrArg List.length e;rw[hsl,V5]at this;rcases Nat.mul_eq_zero.1 this with h0|h0<;>omega
   have hd:(nE c w t-1)/Ak r=kE c w r t:=Wt F0 XC;have hdk:=yh (r:=r) h t;rw[A4 hS,JB,Bb,hd,wC c _ _ _ (u! _ _),R6,Gt,Gt,C'];congr 2;rw[J0]
   ·rfl
   ·rw[SH,oW,<-N9,<-VP];exact C4 _
 rw[Oi,key,Tx,FE];congr 1;split<;>rfl
theorem Adb:BZ (c:Int) (w:Int) (r:Int) p (RE c w t) (SE c w r t) (FE c w r p t) [] false 0=
  some (if RE c w t≠ []\/nE c w t=0 then((c:Int),(w:Int),(r:Int),p,[],[],[],[],false,24,24)else((c:Int),(w:Int),(r:Int),p,[],[],[],Ey c w r (nE c w t) (XE c w t) p,true,0,0)):=by
 have hc:=h.ch;have hsl:=qE h t;have hfl:=K6 (c:=c) (w:=w) (r:=r) (p:=p) t;have hn4:=hR.1;have hmod:nE c w t %Ak r*c<=nE c w t*c:=C2 _ (Xq _ _);have hn:nE c w t<=4000:=by
  have:nE c w t*1<=nE c w t*c:=XV _ hc.1;omega
 have hk:kE c w r t<=nE c w t:=SW _ _;rw[BZ,Aa3,Ade h t hR,Aa];simp only;rw[A4 F4,xN h t hR,Aa];by_cases hbad:RE c w t≠ []\/nE c w t=0
 ·have hcond:((Eg (Ad (RE c w t)) 0)||(geq (nE c w t:Int) 0))=true:=by
   rcases hbad with h0|h0
   ·have:RE c w t≠ []:=h0;have hl:0<(RE c w t).length:=List.length_pos_iff.2 this;rw[Be,Ad,R!];left;simpa using hl
   ·rw[h0];simp[Dh]
  rw[A7 hbad,A7 hcond,Qt,Aa]
 ·have hR0:RE c w t=[]:=by
   by_cases h0:RE c w t=[]
   ·exact h0
   ·exact absurd (.inl h0) hbad
  have hn1:1<=nE c w t:=by
   rcases a! (nE c w t)with h0|h0
   ·exact absurd (.inr h0) hbad
   ·exact h0
  have hcl:=Aml h t hR hn1;have hfr:=Abq h t hn1;have hcond:¬(((Eg (Ad (RE c w t)) 0)||(geq (nE c w t:Int) 0))=true):=by rw[hR0];simp[Be,Dh,Ad];omega
  rw[A4 hbad,A4 hcond];by_cases hS:SE c w r t=[]
  ·rw[A7 hS,F_]at hfr;have hf:=Q? hcl h.pass (RE c w t) (SE c w r t) [] false 0;rw[hfr]at hf;rw[A4 (by rw[hS];decide),Tw,BQ,hf,Aa];simp only;rw[A4 F4]
  ·rw[A4 hS]at hfr;have hl:0<(SE c w r t).length:=List.length_pos_iff.2 hS;have hin:Z5 (w:Int) (SE c w r t):=λv hv=>G_ h t v (YX hv);have henc:=Apb (t:=Ud p) (x:=SE c w r t) h.bits (pY p) hc.1 hc.2 F0 F0 (by rw[hsl];exact TC _ _) hin;have hf:=Q? hcl h.pass (RE c w t) [] [] false 0;rw[hfr]at hf;rw[A7 (by rw[Be,Ad];simpa using hl),WN p h.pass,Aa];simp only;rw[A4 F4,henc,Aa];simp only;rw[A4 F4,Bi F5,Aa,RD,Aaa,A4 F4,Tw,BQ,hf,Aa];simp only;rw[A4 F4]
end
theorem Awg{w:Nat}(hw:Cy (w:Int)){X:LX}(hX:X.length<=4000)(hr:Z5 (w:Int) X):Od (w:Int) (By (w:Int) X)=some (X,0):=by
 have h:=Ark (By (w:Int) X) hw (m:=X.length) (Ux hw X) hX;rw[S! hw X hr]at h;exact h
theorem ClipOk.enc{c w r n:Nat}{x:LX}(h:ClipOk c w r n x){p:LB}(hp:p.length<=64):EncOk c w r p:=⟨h.ch,h.bits,h.rate,hp⟩
theorem Aoc{c w r n:Nat}{x:LX}(h:ClipOk c w r n x){p:LB}(hp:p.length<=64):nE c w (By (w:Int) x)=n/\XE c w (By (w:Int) x)=x/\RE c w (By (w:Int) x)=[]/\HE c r n:=by
 have he:=h.enc hp;have hs:=uQ he;have hbl:(By (w:Int) x).length=n*qL c w:=by rw[Ux h.bits,h.len,qL,N9]
 have hn:nE c w (By (w:Int) x)=n:=by rw[nE,hbl,eT _ F0]
 have hle:=h.le;refine⟨hn,?_,?_,hle.2.1, .inr h.fr⟩
 ·rw[XE,hn,<-h.len];exact S! h.bits x h.rng
 ·rw[RE,hn,<-hbl,YU]
theorem Ayo{c w r n:Nat}{x:LX}(h:ClipOk c w r n x)(hk:Fa (c:Int) (w:Int) (r:Int) x=some 0){p:LB}(hp:p.length<=64):Uf (c:Int) (w:Int) (r:Int) x p=some (Ey c w r n x p,0):=by
 have he:=h.enc hp;obtain⟨f1,f2,f3,f4⟩:=Aoc h hp;have hle:=h.le;have hbl:=bR (w:Int) x;have hf:=Aoq he [] (By (w:Int) x) F0 (by rw[show nE c w []=0 from gD _];exact Aio c r);rw[O7,ZV,f1,A7 f4]at hf;have hfin:=Adb he (By (w:Int) x) (by rw[f1];exact f4);rw[f1,f2,f3,A4 (by have:=h.cnt.1;simp;omega)]at hfin;rw[f3]at hf;rw[Uf,CC,hk,Aa,A4 F4,Acf h.bits F0 h.rng,Aa];simp only;rw[A4 F4,Aql he,Aa];simp only;rw[A4 F4,hf,Aa];simp only;rw[Aaf,QP,A4 F4,hfin,Aa];simp only;rw[RZ,Aa7,CW,Aab,A4 F4]
theorem Aw9{c w r n:Nat}{x:LX}(h:ClipOk c w r n x){p:LB}(hp:p.length<=64):Uo (Ey c w r n x p) p=some (0,0,0,((n*(c*wB (w:Int)):Nat):Int),0):=by
 have o:=cF h hp;have hs1:=o.some1;have hF:Ay=(Ay-1)+1:=by have:=Bc;omega
 have hg:=Ahd o.shape o.fit (Cc (Oi c w r n x p)).length (by rw[o.len];exact C4 _);have hsum:ZR c w (Bb (Ak r) n) (Cc (Oi c w r n x p)).length=((n*(c*wB (w:Int)):Nat):Int):=by
  rw[ZR,o.len,NI,kT h.cnt.1,C']
 rw[hsum]at hg;rw[Uo,QA,A4 J5,gP,Avc h hp,Aa,Aa,o.prog,Aa];simp only;rw[A4 F4,A4 F4,Afm,NQ,Afr,hF,AW,MJ,A7 F6,A7 F4,MI,Agd,Ad,hg];rfl
theorem Avd{c w r n:Nat}{x:LX}(h:ClipOk c w r n x){p:LB}(hp:p.length<=64):Ug (Ey c w r n x p) p 0=some (By (w:Int) x,0):=by
 have o:=cF h hp;have hl:=o.len;have:=uU w (JB c r n x) (JB c r n x).length 0 F0;rw[o.Azj,hl,<-rY,this,W?,NI,mW h]
theorem Ajj{a:LB}(h:8<=a.length):Rl a=some false:=by
 have hF:Ay=(Ay-3)+1+1+1:=by have:=Bc;omega
 rw[Rl,II,Afc,hF,My,Sg,A7 F4,show Af ([[73,68,51],[65,80,69,84,65,71,69,88]]:List LB) (0:Int)=some [73,68,51]from rfl,Aa,A4 ZM,show Ae (0:Int) 1=1 by decide,My,Sg,A7 F4,show Af ([[73,68,51],[65,80,69,84,65,71,69,88]]:List LB) (1:Int)=some [65,80,69,84,65,71,69,88]from rfl,Aa,A4 ZM,show Ae (1:Int) 1=2 by decide,My,Sg,A4 F4];rfl
theorem l_(bk:LB->Int->Int->Int->Int->Int->Int->LI->LB->Ar)(p:LB)(g:LB)(m o n r u h:Int)(k:LI)(v:LB):Fz bk p false 0 g m o n r u h false 0 k v=bk g m o n r u h k v:=by
 rw[Fz,FG,A4 F4,A4 F4]
section
variable {b p:LB} {f c w r n A:Nat} {l:LI} {y:Nat->LX} (o:Fl b p f c w r n A l y)
include o
theorem Fl.fdq:∀(j k q:Nat) (acc:LB),k+j=l.length->j<q->acc.length<=12000*k->
  Bh p false 0 q (b.drop ((A:Int)+(l.take k).sum).toNat) (f:Int) (c:Int) (w:Int) (r:Int) (n:Int) (k:Int) l acc=some (p,[],(f:Int),(c:Int),(w:Int),(r:Int),(n:Int),l,(l.length:Int),acc++fD (λi=>By (w:Int) (y i)) j k,false,0,0)
 |0,k,q+1,acc,hk,_,hacc=>by
  obtain⟨hc,hw,hr,hn,hf⟩:=GX o.shape;have hend:=o.end';have hs1:=o.some1;obtain rfl:k=l.length:=F0
  rw[NI,U? F0,Bh,Jb,A4 OU,A4 ZN,A4 Y!,A4 F4,FO,Adj,Fz,FG,A7 rfl,lL F8 F0 (by have:=hs1.2;omega),Aa,fD,F_]
 |j+1,k,q+1,acc,hk,hq,hacc=>by
  obtain⟨hc,hw,hr,hn,hf⟩:=GX o.shape;have hend:=o.end';have dZ:=o.file;have hs1:=o.some1;have hlen:=o.len;have b1:=Kh o.five k;have b2:=Kh o.five (k+1);have hkl:k<l.length:=F0
  have e2:=Of hkl;have h5:=o.five l[k] (N5 _);obtain⟨m,hm,g2,g3,g4,g5,g6⟩:=o.frm k hkl;obtain⟨hb,hbl⟩:=o.bytes hkl;have ih:=Fl.fdq j (k+1) q (acc++By (w:Int) (y k)) F0 F0 WE;have hseg:(b.drop ((A:Int)+(l.take k).sum).toNat).take l[k].toNat=XP b A l k:=by
   rw[XP,aK];congr 1;omega
  have hdr:(b.drop ((A:Int)+(l.take k).sum).toNat).drop l[k].toNat=b.drop ((A:Int)+(l.take (k+1)).sum).toNat:=by rw[UW];congr 1;omega
  have hIn:(b.drop ((A:Int)+(l.take k).sum).toNat).length=b.length-((A:Int)+(l.take k).sum).toNat:=SH;generalize b.drop ((A:Int)+(l.take k).sum).toNat=In at*
  rw[Bh,Jb,A4 OU,A4 ZN,A7 F6,Dy hkl,Aa,Aa,A4 F6,WN p o.pass,Aa];simp only;rw[A4 F4,Uc o.shape o.fit,Aa];simp only;rw[A4 (by rw[Ad,<-hlen];simp[Bj,Gf];omega),Ado,FD,hm,Aa,Yb,Aa,Aa,FY,Aa,hseg];simp only;rw[g4,Aa];simp only;rw[EN,Vv,A4 F4,hb,Aa];simp only;rw[A4 F4,Bi,Aa,Ja,Aa,Vk,Abd,l_,Aj,hdr,fD,<-C0];exact ih
end
set_option maxRecDepth 100000 in
theorem Ajh{p:LB}(hp:p.length<=64):Lh p [] 0 0 0 0 0 [] 0 [] false 0=some 0:=by
 rw[Lh,Pk,A4 J5];kernel_rfl
theorem Awh(e:Int):As e=some (false,e):=rfl
theorem Agb(p g:LB)(c w r n:Int):Pm (Gh p:Int) c w r n p=some 0:=by
 rw[Pm,Gh];by_cases h0:p=[]
 ·rw[A7 h0,A4 (by rw[h0];decide)]
 ·have hne2:(p==([]:LB))=false:=by simpa using h0
  rw[A4 h0,A4 (by rw[hne2];decide)]
section
variable {c w r n:Nat} {x:LX} (h:ClipOk c w r n x) {p:LB} (hp:p.length<=64)
include h hp
theorem Ahx(q:Nat)(hq:2<=q):∃q',q=q'+2/\Bh p false 0 q (Ey c w r n x p) 0 0 0 0 0 0 [] []=Bh p false 0 q' ((Ey c w r n x p).drop (22+(To p).length+4*(Oi c w r n x p).length+4)) (Gh p:Int) (c:Int) (w:Int) (r:Int) (n:Int) 0 (Cc (Oi c w r n x p)) []:=by
 obtain⟨q',rfl⟩:∃k,q=k+2:=⟨q-2,F0⟩;refine⟨q',rfl,?_⟩;obtain⟨d22,dA,hread,hfr,hle,hsk,hlen⟩:=cN h hp;have o:=cF h hp;have hK:=nk h p;have hlk:=Ht (Oi c w r n x p);have h1:=h.shape _ (CJ p);have e22:Ae (0:Int) 22=((22:Nat):Int):=F4
 have lu:=CJ p;have hl:(Cc (Oi c w r n x p)).length=(Bb (Ak r) n).length:=by rw[Ht];exact lZ p
 show Bh p false 0 ((q'+1)+1) _ 0 0 0 0 0 0 [] []=_;rw[Bh,Jb,A7 F4,NS _ F0,hfr,Aa];simp only;rw[A4 F4,A4 F4,Ja,Aa,ZC,W?,Ajj F0,Aa,A4 F4,Aa,xC _ F0,hread,Aa];simp only;rw[A4 F4,A4 F4,e22,Ja,Aa,C',EY,Ad7,Agb p p,Aa,Awh,Aa];simp only;rw[Vi,Acj,l_,Bh,Jb,A4 OU,A7 F4];have h24:∀(g:LB) (d:Nat),g.drop d=bI (Cc (Oi c w r n x p))++(Oi c w r n x p).flatten->g.length<=64034->d<=g.length->
   Vl (Bh p false 0 q') p false 0 g (Gh p:Int) (c:Int) (w:Int) (r:Int) (n:Int) 0 [] [] (d:Int)=Bh p false 0 q' (g.drop (d+4*(Oi c w r n x p).length+4)) (Gh p:Int) (c:Int) (w:Int) (r:Int) (n:Int) 0 (Cc (Oi c w r n x p)) []:=λg d hd hg hdl=>by
  have e3:Ae (Ae (d:Int) (Cm 4 (Ad (Cc (Oi c w r n x p))))) 4=((d+4*(Oi c w r n x p).length+4:Nat):Int):=by rw[Ad,hlk,i? _ _ F0 F0]
  have hgl:=congrArg List.length hd;rw[SH,A?,UX,hlk]at hgl;rw[Vl,Vn,Uc h1 h.fit,Aa];simp only;rw[A4 F4,Ja,Aa,C',hd,Ad,vP _ _ (by rw[A?,UX,hlk];omega),hsk,Aa];simp only;rw[A4 F4,A4 F4,e3,Ja,Aa,C',Pr,Adk,l_]
 by_cases h0:p=[]
 ·have e1:Gh p=1:=by rw[Gh,A7 h0]
  have e2:To p=[]:=by rw[To,A7 h0]
  have e3:(To p).length=0:=by rw[e2];rfl
  have t:=h24 ((Ey c w r n x p).drop 22) 0 (by rw[W?,d22,e2,O7]) XF F0;rw[UW]at t;rw[A4 (by rw[e1];decide)];refine t.trans ?_;rw[e3,show 22+(0+4*(Oi c w r n x p).length+4)=22+0+4*(Oi c w r n x p).length+4 by omega]
 ·have e1:Gh p=2:=by rw[Gh,A4 h0]
  have hdg:To p=Uy (GV p).toNat 8:=by rw[To,A4 h0]
  have e2:(To p).length=8:=by rw[hdg,Bw]
  have hseg:((Ey c w r n x p).drop 22).take 8=Uy (GV p).toNat 8:=by
   rw[d22,hdg,VI WG,J0 WG]
  have t:=h24 ((Ey c w r n x p).drop 22) 8 (by rw[UW,<-e2];exact dA) XF (by rw[SH,hlen];omega);rw[UW]at t;rw[A7 (by rw[e1];decide),A4 (by rw[Ag,Ad,SH,hlen];simp;omega),Adu,FT,Yb F0 (by rw[SH,hlen];omega),Aa,show(8:Int).toNat=8 from rfl,hseg,O0 (Bw _ _) hp,Aa];simp only;rw[Ads,FA,A4 F4,A4 F8];refine t.trans ?_;rw[e2,<-K7,<-K7]
theorem Au4:Jn p [] 0 0 0 0 0 [] 0 [] false 0 (Ey c w r n x p)=some (p,[],(Gh p:Int),(c:Int),(w:Int),(r:Int),(n:Int),Cc (Oi c w r n x p),((Cc (Oi c w r n x p)).length:Int),By (w:Int) x,false,0,0):=by
 obtain⟨d22,dA,hread,hfr,hle,hsk,hlen⟩:=cN h hp;have o:=cF h hp;have hs1:=o.some1;obtain⟨q',hq',hh⟩:=Ahx h hp Ay B7;have hl:=o.fdq (Cc (Oi c w r n x p)).length 0 q' [] F0 B7 F8;have hb:fD (λi=>By (w:Int) ((JB c r n x).getD i [])) (Cc (Oi c w r n x p)).length 0=By (w:Int) x:=by
  have:=uU w (JB c r n x) (JB c r n x).length 0 F0;rw[o.len,<-rY,this,W?,NI,mW h]
 rw[Ty,cD,Int.add_zero,C',O7,hb]at hl;rw[Jn,JD,Nu,Ajh hp,Aa,A4 F4,A4 F4,A4 F4,lL F8 F8 F8,Aa,Aa];simp only;rw[A4 F4,Bi F5,Aa,O7,Adg];exact hh.trans hl
end
end Go.Pl
namespace Go.Pl
open Go Go.Lv
variable{k:IntKind}
theorem vK{L:LI}{c w:Nat}(hc:c<=6)(hw:Cy (w:Int))(h0:∀z∈L,0<=z)(hs:L.sum<=4000)(hL:L.length<=1000)(o p:LB)(h k m:Int)(g:LI)(a:Int)(n:LB)(u:Bool)(v:Int):∀(j i q:Nat),i+j=L.length->j<q->
  Ms L o p h (c:Int) (w:Int) k m g a n u v q (((L.take i).sum.toNat*(c*wB (w:Int)):Nat):Int) (i:Int)=some (MQ (Ad n) ((L.sum.toNat*(c*wB (w:Int)):Nat):Int))
 |0,i,q+1,hi,_=>by
  rw[Ms,Xv,A4 F6,HK,Aej,J0 F0]
 |j+1,i,q+1,hi,hq=>by
  have hlt:i<L.length:=F0
  have b1:=tH h0 i;have b2:=tH h0 (i+1);have e:=Of hlt;have hz:=h0 L[i] (N5 _);obtain⟨t,ht⟩:=R9 hz;have hwb:=nX (w:Int);have hcw:c*wB (w:Int)<=18:=by
   have:=P8 hc hwb.2;omega
  have ih:=vK hc hw h0 hs hL o p h k m g a n u v j (i+1) q F0 F0;have e4:(L.take (i+1)).sum.toNat=(L.take i).sum.toNat+t:=F0
  rw[e4,B5]at ih;have hb:(L.take i).sum.toNat*(c*wB (w:Int))<=4000*18:=P8 F0 hcw;have hb2:t*(c*wB (w:Int))<=4000*18:=P8 F0 hcw;rw[Ms,Xv,A7 F6,Dy hlt,Aa,ht,uB F0 hc hw,Aj,Aj];exact ih
section
variable {c w r n:Nat} {x:LX} (h:ClipOk c w r n x) {p:LB} (hp:p.length<=64)
include h hp
theorem Aif:Lh p [] (Gh p:Int) (c:Int) (w:Int) (r:Int) (n:Int) (Cc (Oi c w r n x p)) ((Cc (Oi c w r n x p)).length:Int) (By (w:Int) x) false 0=some 0:=by
 have o:=cF h hp;have hs1:=o.some1;have lu:=CJ p;obtain⟨hc,hw,hr,hn,_⟩:=GX o.shape;have hfa:=oZ o.shape o.fit;have hxl:=Ux hw x;have hle:=h.le;have hwb:=nX (w:Int);have hK:=iS o.fit;have hxb:x.length*wB (w:Int)<=4000*3:=P8 hle.2.2.2 hwb.2;have hfl:=vK (L:=Bb (Ak r) n) hc.2 hw hfa.1 (by rw[hfa.2.1];omega) hK.2 p [] (Gh p:Int) (r:Int) (n:Int) (Cc (Oi c w r n x p)) ((Cc (Oi c w r n x p)).length:Int) (By (w:Int) x) false 0 (Bb (Ak r) n).length 0 Ay F0 B7;rw[Ty,cD,hfa.2.1,C',show((0:Int).toNat*(c*wB (w:Int)):Nat)=0 by simp]at hfl;have hgt:MQ (Ad (By (w:Int) x)) ((n*(c*wB (w:Int)):Nat):Int)=true:=by
  rw[Ad,hxl,h.len,N9,yH];simp
 rw[hgt]at hfl;have hfits:DQ p [] (Gh p:Int) (c:Int) (w:Int) (r:Int) (n:Int) (Cc (Oi c w r n x p)) ((Cc (Oi c w r n x p)).length:Int) (By (w:Int) x) false 0=some true:=by
  rw[DQ,HT,A4 OU,Uc o.shape o.fit,Aa];simp only;rw[A4 F4,Agb p p,Aa,A4 F4,Aff,IX,A4 ZN,MA,A7 (sV h p),Aa,A4 (by rw[Ad,Ad,<-o.len];simp only[Bj,Ag,Be,R!,B2];simp),Yb F0 (by rw[o.len];omega),Aa,C',o.len,NI,Afe,<-o.len];exact hfl
 rw[Lh,Pk,A4 J5,A7 F4,lL F8 F0 F0,Aa];simp only;rw[hfits,Aa,A7 rfl,A4 OU,A4 ZN,A4 Y!,A4 F4];rfl
theorem Al7:Qc p [] (Gh p:Int) (c:Int) (w:Int) (r:Int) (n:Int) (Cc (Oi c w r n x p)) ((Cc (Oi c w r n x p)).length:Int) (By (w:Int) x) false 0=some (p,[],0,0,0,0,0,[],0,By (w:Int) x,true,0,0):=by
 have o:=cF h hp;have hs1:=o.some1;have lu:=CJ p;obtain⟨hc,hw,hr,hn,_⟩:=GX o.shape;have hxl:=Ux hw x;have hle:=h.le;have hwb:=nX (w:Int);have hxb:x.length*wB (w:Int)<=4000*3:=P8 hle.2.2.2 hwb.2;rw[Qc,Nu,Aif h hp,Aa,A4 F4,A4 F4,A4 F4,lL F8 F0 F0,Aa,Aa];simp only;rw[A4 F4,OV,A4 OU,A4 (by rw[Ad];simp only[Ag,Dh,R!,B2,VM];omega),fQ _ F8,qF,Aa];simp only[Aa];rw[A4 F4]
theorem Ah7:Py (Ey c w r n x p) p=some ((c:Int),(w:Int),(r:Int),x,0):=by
 have lu:=CJ p;rw[Py,RU,A4 J5,Aa];simp only;rw[A4 F4,Au4 h hp,Aa];simp only;rw[A4 F4,Al7 h hp,Aa];simp only;rw[A4 F4,A4 OU,Awg h.bits h.le.2.2.2 h.rng,Aa];simp only;rw[A4 F4]
end
theorem oJ{p:Prop}(h:p:=by simp only[Ul];omega):p:=h
def aC{α:Type}(p:α->Prop)(l:List α):Prop:=∀x∈l,p x
def Nl(x:UInt8):Prop:=x≠10
theorem all_nil{α:Type}{p:α->Prop}:aC p []:=λ_ h=>by cases h
theorem O'{α:Type}{p:α->Prop}{l m:List α}(h:aC p l)(k:aC p m):aC p (l++m):=λx hx=>(List.mem_append.1 hx).elim (h x) (k x)
theorem jL{α:Type}{p:α->Prop}{a:α}(h:p a):aC p [a]:=λx hx=>by rw[f?]at hx;exact hx▸h
theorem all_cons{α:Type}{p:α->Prop}{a:α}{l:List α}(h:p a)(k:aC p l):aC p (a::l):=λx hx=>(List.mem_cons.1 hx).elim (λe=>e▸h) (k x)
theorem nlB{l:LB}(h:(l.all λx=>!(x==10))=true):aC Nl l:=λx hx e=>by
  have:=List.all_eq_true.1 h x hx;rw[e]at this;exact absurd this F4
theorem zlt{T:Type} [GI T k](a b:T):Cx a b=decide (GI.toZ a<GI.toZ b):=rfl
theorem zle{T:Type} [GI T k](a b:T):MQ a b=decide (GI.toZ a<=GI.toZ b):=rfl
theorem zgt{T:Type} [GI T k](a b:T):Eg a b=decide (GI.toZ b<GI.toZ a):=rfl
theorem zge{T:Type} [GI T k](a b:T):Ha a b=decide (GI.toZ b<=GI.toZ a):=rfl
theorem zeq{T:Type} [GI T k](a b:T):geq a b=decide (GI.toZ a=GI.toZ b):=rfl
theorem zne{T:Type} [GI T k](a b:T):Bg a b=decide (GI.toZ a≠GI.toZ b):=by
  unfold Bg;cases h:(GI.toZ a !=GI.toZ b)<;>simp_all
theorem zi(a:Int):GI.toZ a=a:=rfl
theorem z8(a:UInt8):GI.toZ a=(a.toNat:Int):=rfl
theorem Baj(a b:Int):Cm a b=wrap64 (a*b):=rfl
theorem XM(a b:Int):Ej a b=wrap64 (a.tdiv b):=rfl
theorem ztd{a:Int}(b:Int)(h:0<=a):a.tdiv b=a/b:=Zx h
theorem z15(a:UInt8):(Ed a 15).toNat<16:=by
  rw[Y',fS];have:a.toNat&&& (15:UInt8).toNat<= (15:UInt8).toNat:=Nat.and_le_right;have:(15:UInt8).toNat=15:=rfl;omega
theorem zn4(a:UInt8):(Cl a (GI.toZ (4:UInt64)).toNat).toNat<16:=by
  have e:(GI.toZ (4:UInt64)).toNat=4:=rfl;rw[e,E0];have:=a.toNat_lt;omega
theorem tB:(Ay:Int)=36893488147419103232:=rfl
variable {α β:Type} {o:Option α} {f:α->Option β} {P:α->Prop} {Q:β->Prop} {H:Prop}
theorem ind{p:Nat->Prop}(h:p 0)(hs:∀q,p q->p (q+1)):∀q,p q:=λq=>Nat.rec h hs q
def hd(n:UInt8):UInt8:=([48,49,50,51,52,53,54,55,56,57,97,98,99,100,101,102]:LB).getD n.toNat 0
def fO:LB->LB
  |[]=>[]
  |b::r=>hd (Cl b (GI.toZ (4:UInt64)).toNat)::hd (Ed b 15)::fO r
theorem W7(a:LB):(fO a).length=2*a.length:=by
  induction a with
  |nil=>rfl
  |cons x l ih=>simp only[fO,B6,ih];omega
theorem Akr(a b:LB):fO (a++b)=fO a++fO b:=by
  induction a with
  |nil=>rfl
  |cons x l ih=>simp only[SU,fO,ih]
theorem xZ(n:UInt8)(h:n.toNat<16):Nl (hd n):=by
  have:aC Nl [48,49,50,51,52,53,54,55,56,57,97,98,99,100,101,102]:=nlB F4;refine this _ ?_;unfold hd;rw[B4,C? (by simpa using h)];exact N5 _
theorem Aqx(a:LB):aC Nl (fO a):=by
  induction a with
  |nil=>exact all_nil
  |cons x l ih=>exact all_cons (xZ _ (zn4 _)) (all_cons (xZ _ (z15 _)) ih)
theorem vF(n:UInt8)(h:n.toNat<16):Af ([48,49,50,51,52,53,54,55,56,57,97,98,99,100,101,102]:LB) (GI.toZ n)=some (hd n):=by
  rw[z8];unfold Af hd;rw[A7 F0,C',B4,C? (by simpa using h)];rfl
theorem Bfv(a:LB)(ha:a.length<=12000000):∀(q i:Nat),i<=a.length/\a.length<i+q->Uv a q i (fO (a.take i))=some (fO a):=
 ind (λi hI=>by exfalso;omega) λq ih i hI=>by
  have hl:=W7 (a.take i);have hl':=W7 a;rw[HH]at hl;rw[Uv,OM];by_cases h:i<a.length
  · have hsn:a.take (i+1)=a.take i++[a[i]]:=by rw[zN h]
    have g1:Af a (i:Int)=some a[i]:=by unfold Af;rw[A7 F0,C',C? h]
    have e:fO (a.take (i+1))=fO (a.take i)++[hd (Cl a[i] (GI.toZ (4:UInt64)).toNat)]++[hd (Ed a[i] 15)]:=by
      rw[hsn,Akr,C0];rfl
    have k:=ih (i+1) ⟨F0,F0⟩;rw[e]at k;rw[A7 (by rw[zlt];exact Q6 (by show(i:Int)<Ad a;unfold Ad;omega)),g1,A8,vF _ (zn4 _),A8];unfold Bf wo;rw[A7 oJ,A8,vF _ (z15 _),A8,A7 (by simp only[A?,Ul];omega),A8,Aj];exact k
  · rw[A4 (by rw[zlt];simp only[zi,B2];unfold Ad;omega),J0 F0]
    unfold MM Agh Gi;rw[A7 (Q6 SM)];rfl
theorem Bcu(a:LB)(ha:a.length<=12000000):Gl a 0=some (fO a):=by
  unfold Gl LV;rw[A4 F4];exact Bfv a ha Ay 0 ⟨F0,by have:=tB;omega⟩
def GP:List LB->LB
  |[]=>[]
  |l::ls=>l++10::GP ls
def Ls(l:LB):Prop:=aC Nl l/\Ad l<=3000
theorem trim(l:LB)(hl:Ad l<=3000):Iz (l++[10]) [10]=some l:=by
  have e1:Ad (l++[10])=Ad l+1:=by unfold Ad;simp
  have h0:0<=Ad l:=by unfold Ad;omega
  have e2:Ad ([10]:LB)=1:=rfl;have c1:Cb (l++[10]) (Ad l) (Ad l+1)=some [10]:=by
    unfold Cb Ad;rw[A7 F5,show((l.length:Int)+1).toNat=(l++[10]).length by simp,NI];simp
  have c2:Cb (l++[10]) 0 (Ad l)=some l:=by
    unfold Cb Ad;rw[A7 F5];simp
  have e3:Ap (Ad l+1) 1=Ad l:=by rw[Dv];omega
  unfold Iz Io Ei;rw[e1,e2,e3,A7 (by rw[zge];exact Q6 (by show 1<=Ad l+1;omega)),c1,A8,A8,A7 F4,c2];rfl
theorem vO:∀(l s:LB),aC Nl l->Mf (l++10::s) 10=Ad l
  |[],s,_=>rfl
  |x::l,s,h=>by
    have hx:x≠10:=h x (KM ..);have ih:=vO l s λy hy=>h y (H9 _ hy);rw[SU,Mf,A4 (by simp[hx]),ih,A4 (by unfold Ad;simp)];unfold Ad;simp
theorem Atu:∀(ls:List LB) (q:Nat),aC Ls ls-> (GP ls).length<q->Wj q (GP ls)=ls.map (· ++[10])
  |[],q,_,h=>by
    cases q with
    |zero=>omega
    |succ q=>rfl
  |l::ls,q,h,hq=>by
    cases q with
    |zero=>omega
    |succ q=>
      have hl:=h l (KM ..);have i:=vO l (GP ls) hl.1;have ih:=Atu ls q (λx hx=>h x (H9 _ hx)) (by rw[GP]at hq;simp at hq;omega);have h0:0<=Ad l:=by unfold Ad;omega
      have e:GP (l::ls)=l++10::GP ls:=rfl;rw[e];cases hc:l++10::GP ls with
      |nil=>cases l<;>cases hc
      |cons c s=>
        rw[hc]at i;rw[Wj,i,A4 (by rw[zlt];simp only[zi,B2];omega),<-hc];have e1:(Ad l).toNat+1=(l++[10]).length:=by unfold Ad;simp
        have e2:l++10::GP ls=(l++[10])++GP ls:=by simp
        rw[e1,e2,c!,Tz,ih,IZ]
theorem An8:∀ls,aC Ls ls-> (GP ls).count 10=ls.length
  |[],_=>rfl
  |l::ls,h=>by
    have ih:=An8 ls λx hx=>h x (H9 _ hx);have:l.count 10=0:=List.count_eq_zero.2 λhm=>(h l (KM ..)).1 10 hm rfl;rw[GP,List.count_append,List.count_cons,this,ih,B6];simp
theorem Aca(ls:List LB)(h:ls≠ [])(hl:Ad (GP ls)<=3000):Ub (GP ls) [10]=some true:=by
  have e:∃s,GP ls=s++[10]:=by
    clear hl
    induction ls with
    |nil=>exact absurd rfl h
    |cons l ls ih=>
      cases ls with
      |nil=>exact⟨l,rfl⟩
      |cons m ls=>
        obtain⟨s,e⟩:=ih F8;exact⟨l++10::s,by rw[GP,e];simp⟩
  obtain⟨s,e⟩:=e;rw[e]at hl⊢;have e1:Ad (s++[10])=Ad s+1:=by unfold Ad;simp
  have h0:0<=Ad s:=by unfold Ad;omega
  have e2:Ad ([10]:LB)=1:=rfl;have c1:Cb (s++[10]) (Ad s) (Ad s+1)=some [10]:=by
    unfold Cb Ad;rw[A7 F5,show((s.length:Int)+1).toNat=(s++[10]).length by simp,NI];simp
  have e3:Ap (Ad s+1) 1=Ad s:=by rw[Dv];omega
  unfold Ub Ei;rw[e1,e2,e3,A7 (by rw[zge];exact Q6 (by show 1<=Ad s+1;omega)),c1,A8,A8];rfl
theorem Awx{ls:List LB}(h:ls≠ []):(GP ls !=([]:LB))=true:=by
  cases ls with
  |nil=>exact absurd rfl h
  |cons l ls=>rw[GP];cases l<;>rfl
theorem Aiu(ls:List LB)(h:aC Ls ls)(hl:Ad (GP ls)<=3000)(hn:ls.length<=40):Sy (GP ls)=some 0:=by
  have hc:strings_Count (GP ls) [10]=some (ls.length:Int):=by
    rw[<-An8 ls h];rfl
  unfold Sy Aba;rw[A4 (by rw[zgt];simp only[zi,B2];omega),hc,A8,A4 (by rw[zgt];simp only[zi,B2];omega)];unfold Ac3 Ac5;by_cases h0:ls=[]
  · subst h0;rfl
  · rw[A7 (Awx h0),Aca ls h0 hl]
    rfl
theorem GG{α:Type}{l:List α}{i:Nat}(h:i<l.length):Af l (i:Int)=some l[i]:=by
  unfold Af;rw[A7 F0,C',C? h]
theorem uF{α:Type}{i:Nat}{l:List α}(h:i<l.length):Cx (i:Int) (Ad l)=true:=by rw[zlt];exact Q6 (by simp only[zi];unfold Ad;omega)
theorem iH{α:Type}{i:Nat}{l:List α}(h:¬i<l.length):¬Cx (i:Int) (Ad l)=true:=by rw[zlt];simp only[zi,B2];unfold Ad;omega
theorem eq8(x y:UInt8):(geq x y=true)=(x=y):=by
  rw[zeq,B2,z8,z8];exact propext ⟨λh=>UInt8.toNat_inj.1 F0,λh=>by rw[h]⟩
theorem P0(a P l R:LB)(h:a=P++l++10::R)(hl:aC Nl l)(ha:a.length<=17179869184)(f:List LB)(hf:f.length<=1000000):∀(n q:Nat),n<=l.length->Cz a (q+n+1) P.length ((P.length+l.length-n:Nat):Int) f=Cz a q ((P.length+l.length+1:Nat):Int) ((P.length+l.length+1:Nat):Int) (f++[l])
  |0,q,hn=>by
    have e1:a.length=P.length+l.length+1+R.length:=by rw[h];simp;omega
    have e2:a[P.length+l.length]' F0=10:=by
      simp only[h];rw[zX F8];simp
    have e3:Cb a (P.length:Int) ((P.length+l.length:Nat):Int)=some l:=by
      unfold Cb;rw[A7 F0,C',C',h,VI F8,J0 F8,Tz]
    show Cz a (q+1) _ _ f=_;rw[Cz,Ir,bU,A7 (uF F0),GG F0,A8,e2,A7 (by rw[eq8]),e3,A8,Bi F5,A8,Aj];rfl
  |n+1,q,hn=>by
    have e1:a.length=P.length+l.length+1+R.length:=by rw[h];simp;omega
    have hi:P.length+l.length-(n+1)<a.length:=F0
    have e2:Nl a[P.length+l.length-(n+1)]:=by
      refine hl _ ?_;simp only[h];rw[List.getElem_append_left F5,zX F0];exact N5 _
    have ih:=P0 a P l R h hl ha f hf n q F0;have e4:Ae ((P.length+l.length-(n+1):Nat):Int) 1=((P.length+l.length-n:Nat):Int):=by rw[Aj];omega
    show Cz a ((q+n+1)+1) _ _ f=_;rw[Cz,Ir,A7 (uF hi),GG hi,A8,A4 (by rw[eq8];exact e2),e4];exact ih
theorem Auk(a:LB)(ha:a.length<=17179869184):∀(ls:List LB) (P:LB) (f:List LB) (q:Nat),a=P++GP ls->aC (aC Nl) ls-> (GP ls).length<q->f.length+ls.length<=1000000->Cz a q P.length P.length f=some (f++ls)
  |[],P,f,q,h,hl,hq,hf=>by
    cases q with
    |zero=>omega
    |succ q=>
      have e:a.length=P.length:=by rw[h];simp[GP]
      rw[Cz,Ir,A4 (iH F0)];simp[Tm,EE]
  |l::ls,P,f,q,h,hl,hq,hf=>by
    have e:(GP (l::ls)).length=l.length+(GP ls).length+1:=by rw[GP];simp;omega
    have h2:a=P++l++10::GP ls:=by rw[h,GP];simp
    have h3:a=(P++l++[10])++GP ls:=by rw[h2];simp
    simp only[B6]at hf;have k:=P0 a P l (GP ls) h2 (hl l (KM ..)) ha f F0 l.length (q-l.length-1) (C4 _);have ih:=Auk a ha ls (P++l++[10]) (f++[l]) (q-l.length-1) h3 (λx hx=>hl x (H9 _ hx)) F0 F5;rw[show q-l.length-1+l.length+1=q by omega,nV]at k;have e5:((P++l++[10]).length:Int)=((P.length+l.length+1:Nat):Int):=by simp;omega
    rw[e5]at ih;rw[k,ih];simp
theorem Ah2(ls:List LB)(hl:aC (aC Nl) ls)(h:(GP ls).length<=17179869184)(hn:ls.length<=1000000):Rt (GP ls)=some ls:=
  Auk (GP ls) h ls [] [] Ay rfl hl (by have:=tB;omega) F5
theorem O? :∀ls:List LB,ls≠ []-> (GP ls).getLast? =some 10
  |[],h=>absurd rfl h
  |[l],_=>by simp[GP]
  |l::m::ls,_=>by
    have ih:=O? (m::ls) F8;rw[GP,List.getLast?_append];have e:(10::GP (m::ls)).getLast? =some 10:=by
      rw[List.getLast?_cons,ih];rfl
    rw[e];rfl
theorem jI:∀(l s:LB),32∉l->Mf (l++32::s) 32=Ad l
  |[],s,_=>rfl
  |x::l,s,h=>by
    rw[VQ,not_or]at h;have ih:=jI l s h.2;rw[SU,Mf,A4 (by simp;exact λe=>h.1 e.symm),ih,A4 (by unfold Ad;simp)];unfold Ad;simp
theorem x_:∀(l:LB),32∉l->Mf l 32= -1
  |[],_=>rfl
  |x::l,h=>by
    rw[VQ,not_or]at h;rw[Mf,A4 (by simp;exact λe=>h.1 e.symm),x_ l h.2];rfl
theorem a_(f b w:LB)(hw:w≠ [])(hs:(32:UInt8)∉w)(hl:w.length<=3000):Bq f b w=Az f b [w]:=by
  unfold Bq wG Gi;rw[A7 (Q6 SM),A8,A8,Wk,x_ w hs,A7 F4,Fu,A4 (by simpa using hw),Bi F8,A8];rfl
theorem tW(f b w x:LB)(hw:w≠ [])(hs:(32:UInt8)∉w)(hx:x≠ [])(ht:(32:UInt8)∉x)(hl:w.length+x.length<=3000):Bq f b (w++32::x)=Az f b [w,x]:=by
  unfold Bq wG Gi;rw[A7 (Q6 (by unfold Ad;simp;omega)),A8,A8,Wk,jI w x hs,A4 (by rw[zlt];simp only[zi,B2];unfold Ad;omega)];have e1:(w++32::x).take (Ad w).toNat=w:=by unfold Ad;simp
  have e2:(w++32::x).drop ((Ad w).toNat+1)=x:=by
    rw[show w++32::x=(w++[32])++x by simp,show(Ad w).toNat+1=(w++[32]).length by unfold Ad;simp,Tz]
  have e3:(w++32::x).length=(w.length+x.length)+1:=by simp;omega
  rw[e1,e2,e3,Wk,x_ x ht,A7 F4,Fu,A4 (by simpa using hw),Bi F8,A8,Fu,A4 (by simpa using hx),Bi F8,A8];rfl
end Go.Pl
