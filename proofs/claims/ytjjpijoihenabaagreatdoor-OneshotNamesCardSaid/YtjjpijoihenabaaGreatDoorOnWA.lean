/- A part of a proof (see the text that ends in Proof). No conditions. -/
import Derived.Test.YtjjpijoihenabaaGreatDoorOnPA
set_option linter.unusedVariables false
set_option linter.unusedSimpArgs false
namespace Go.Lv
variable{a b:Int}{l:List UInt8}{n:Nat}{α:Type}
theorem Ak(h: -9223372036854775808<=a+b:=by omega)(h':a+b<=9223372036854775807:=by omega):Ad a b=a+b:=by rw[Bdr,De h h']
theorem Bu(h: -9223372036854775808<=a-b:=by omega)(h':a-b<=9223372036854775807:=by omega):Ap a b=a-b:=by rw[Bd4,De h h']
theorem Fo(h: -9223372036854775808<=a*b:=by omega)(h':a*b<=9223372036854775807:=by omega):Bg a b=a*b:=by rw[Asw,De h h']
theorem YI(c:UInt8):(Ae c:Int)=(c.toNat:Int):=by rw[Aux,De]<;>have:=c.toNat_lt<;>omega
theorem Bku(c:UInt32):(Ae c:Int)=(c.toNat:Int):=by rw[Aqp,De]<;>have:=c.toNat_lt<;>omega
theorem zK(c:UInt8):(Ae c:UInt64)=UInt64.ofNat c.toNat:=by simp only[Ae,GW,Ju]
theorem Ef(c:UInt32):(Ae c:UInt64)=UInt64.ofNat c.toNat:=by simp only[Ae,CB,Ju]
theorem bM(c:UInt64):(Ae c:UInt8)=UInt8.ofNat c.toNat:=by simp only[Ae,Lz,Qo]
theorem zU(c:UInt32):(Ae c:UInt8)=UInt8.ofNat c.toNat:=by simp only[Ae,CB,Qo]
theorem Ye(n:Nat):(Ae (n:Int):UInt64)=UInt64.ofNat n:=by simp only[Ae];exact Ju n
theorem zo(n:Nat):(Ae (n:Int):UInt32)=UInt32.ofNat n:=by simp only[Ae];exact Gn n
theorem Aug(n:Nat):(Ae (n:Int):UInt8)=UInt8.ofNat n:=by simp only[Ae];exact Qo n
theorem X7{c:UInt64}(h:c.toNat<9223372036854775808):(Ae c:Int)=(c.toNat:Int):=by rw[Aqi,De]<;>omega
theorem Anz:LIM=17179869184:=B6
theorem As:36893488147419103231<Au:=B6
theorem Bt{l:List α}(h:n<l.length:=by omega):Am l (n:Int)=some l[n]:=by simp[Am,h]
theorem Ww{l:List α}(x:α)(h:n<l.length):Nj l (n:Int) x=some (l.set n x):=by simp[Nj,h]
theorem Wi{l:List α}(h:0<=a:=by omega)(h1:a<=b:=by omega)(h2:b<=l.length:=by omega):Bm l a b=some ((l.take b.toNat).drop a.toNat):=by rw[Bm,B0 ⟨h,h1,h2⟩]
theorem Cb{l:List α}(h:0<=a:=by omega)(h1:a<=l.length:=by omega):Bm l a (Ac l)=some (l.drop a.toNat):=by
 unfold Ac;rw[Wi h h1 (Int.le_refl _),F!,ID]
theorem Dv{l:List α}(h:0<=b:=by omega)(h1:b<=l.length:=by omega):Bm l 0 b=some (l.take b.toNat):=by rw[Wi (Int.le_refl _) h h1];rfl
theorem Bi{l m:List α}(h:l.length+m.length<=17179869184:=by omega):Ds l m=some (l++m):=by rw[Ds,Anz,B0 h]
theorem oW{n:Int}{z:α}(h:0<=n:=by omega)(h':n<=17179869184:=by omega):og n z=some (List.replicate n.toNat z):=by rw[og,Anz,B0 ⟨h,h'⟩]
theorem Bl{b:Bool}(h:b=true):Is b=some ():=by rw[h];rfl
theorem Aa{β:Type}(a:α)(f:α->Option β):Option.bind (some a) f=f a:=rfl
theorem drop_cons{l:List α}(h:n<l.length):l.drop n=l[n]::l.drop (n+1):=tE h
theorem Ms{l:List α}(h:n<l.length):l.take (n+1)=l.take n++[l[n]]:=by rw[List.take_add_one,HS h];rfl
def Gf:List UInt8->Nat
 |[]=>0
 |x::r=>x.toNat+256*Gf r
theorem gW:∀l:List UInt8,Gf l<256^l.length
 |[]=>by simp[Gf]
 |x::r=>by
  have h:=gW r;have:=x.toNat_lt;simp only[Gf,G2,HG];omega
theorem Aea:∀l m:List UInt8,Gf (l++m)=Gf l+256^l.length*Gf m
 |[],m=>by simp[Gf]
 |x::r,m=>by
  simp only[Gf,MS,Aea r m,G2,HG,cT];rw[G? (256^r.length) 256,I0];omega
def xV(l:List UInt8):UInt64:=UInt64.ofNat (Gf l)
theorem Ax4(h:l.length<=8):Gf l<18446744073709551616:=by
 have h1:=gW l;have h2:256^l.length<=256^8:=G7 F0 h;exact HJ h1 (by simpa using h2)
theorem Aob(h:l.length<=4):Gf l<4294967296:=by
 have h1:=gW l;have h2:256^l.length<=256^4:=G7 F0 h;exact HJ h1 (by simpa using h2)
theorem eY(h:l.length<=8):(xV l).toNat=Gf l:=by
 rw[xV,H7,D0 (Ax4 h)]
theorem RB(h:l.length<=4):(Ae (xV l):Int)=(Gf l:Int):=by
 have:=Aob h;rw[X7]<;>rw[eY F0];omega
def Tm(n:Nat):Nat->List UInt8
 |0=>[]
 |w+1=>UInt8.ofNat n::Tm (n/256) w
theorem Cf:∀(w n:Nat),(Tm n w).length=w
 |0,_=>rfl
 |w+1,n=>by simp[Tm,Cf w]
theorem Agu:∀(w n:Nat),Tm n (w+1)=Tm n w++[UInt8.ofNat (n/256^w)]
 |0,n=>by simp[Tm]
 |w+1,n=>by
  rw[Tm,Agu w (n/256),Tm];simp[TH,HG,G?]
def Hx(p:List UInt8)(i:Nat):Nat:=(p.getD (i/8) 0).toNat/2^(i %8) %2
theorem EG(p:List UInt8)(i:Nat):Hx p i<2:=I7 _ F0
def Cg(p:List UInt8):Nat->Nat->Nat
 |_,0=>0
 |a,n+1=>Hx p a+2*Cg p (a+1) n
theorem Rl(p:List UInt8):∀(n a:Nat),Cg p a n<2^n
 |0,_=>by simp[Cg]
 |n+1,a=>by
  have:=Rl p n (a+1);have:=EG p a;rw[Cg,HG];omega
theorem SR(p:List UInt8):∀(m n a:Nat),Cg p a (m+n)=Cg p a m+2^m*Cg p (a+m) n
 |0,n,a=>by simp[Cg]
 |m+1,n,a=>by
  rw[show m+1+n=(m+n)+1 by omega,Cg,Cg,SR p m n (a+1),show a+1+m=a+(m+1) by omega,HG,cT,G? (2^m) 2,I0];omega
theorem J1(p:List UInt8)(a:Nat):Cg p a 1=Hx p a:=by simp[Cg]
theorem vP(p:List UInt8)(a n:Nat):Cg p a (n+1)=Cg p a n+2^n*Hx p (a+n):=by rw[SR p n 1 a,J1]
theorem jY(p:List UInt8)(a:Nat):∀t:Nat,a %8+t<=8->Cg p a t=(p.getD (a/8) 0).toNat/2^(a %8) %2^t
 |0,_=>by simp[Cg,lq]
 |t+1,h=>by
  have h1:(a+t)/8=a/8:=F0
  have h2:(a+t) %8=a %8+t:=F0
  rw[vP,jY p a t F0,Hx,h1,h2,Nat.mod_pow_succ,NZ,TH]
theorem S2{p:List UInt8}:∀(n a:Nat),(∀k,k<n->Hx p (a+k)=0)->Cg p a n=0
 |0,_,_=>rfl
 |n+1,a,h=>by
  have h0:=h 0 F0;rw[Cg,S2 n (a+1) λk hk=>by have:=h (k+1) F0;rwa [show a+1+k=a+(k+1) by omega]];rw[J6]at h0;omega
def okB(p:List UInt8)(n:Nat):Prop:=n<=330000/\p.length=(n+7)/8/\∀k,n<=k->k<8*p.length->Hx p k=0
def Sn(p:List UInt8)(a n:Nat):List UInt8:=(List.range ((n+7)/8)).map λj=>UInt8.ofNat (Cg p (a+8*j) (min 8 (n-8*j)))
theorem Km(p:List UInt8)(a n:Nat):(Sn p a n).length=(n+7)/8:=by simp[Sn]
theorem Agr(p:List UInt8):∀(n a k:Nat),k<n->Cg p a n/2^k %2=Hx p (a+k)
 |n+1,a,0,_=>by have:=EG p a;rw[Cg];simp;omega
 |n+1,a,k+1,h=>by
  have hb:=EG p a;have e:(Hx p a+2*Cg p (a+1) n)/2=Cg p (a+1) n:=F0
  rw[Cg,HG,G? (2^k) 2,<-TH,e,Agr p n (a+1) k F0,show a+1+k=a+(k+1) by omega]
theorem Aqq(p:List UInt8)(n a k:Nat)(h:n<=k):Cg p a n/2^k %2=0:=by
 have:=Rl p n a;rw[M3 (HJ this (G7 F0 h))]
theorem D8(p:List UInt8)(a n k:Nat):Hx (Sn p a n) k=if k<n then Hx p (a+k)else 0:=by
 rw[Hx];by_cases hj:k/8<(n+7)/8
 ·have e:(Sn p a n).getD (k/8) 0=UInt8.ofNat (Cg p (a+8*(k/8)) (min 8 (n-8*(k/8)))):=by
   rw[D9,HS (by rw[Km];exact hj)];simp[Sn]
  have hlt:Cg p (a+8*(k/8)) (min 8 (n-8*(k/8)))<256:=by
   have:=Rl p (min 8 (n-8*(k/8))) (a+8*(k/8));have h2:2^(min 8 (n-8*(k/8)))<=2^8:=G7 F0 F0;omega
  have hu:(UInt8.ofNat (Cg p (a+8*(k/8)) (min 8 (n-8*(k/8))))).toNat=Cg p (a+8*(k/8)) (min 8 (n-8*(k/8))):=by
   rw[HT];exact D0 hlt
  rw[e,hu];by_cases hk:k<n
  ·rw[B0 hk,Agr p _ _ _ F0,show a+8*(k/8)+k %8=a+k by omega]
  ·rw[B! hk,Aqq p _ _ _ F0]
 ·have e:(Sn p a n).getD (k/8) 0=0:=by
   rw[D9,P3 (by rw[Km];omega)];rfl
  rw[e,B! F0];simp
theorem G5(p:List UInt8)(a n:Nat)(h:n<=330000):okB (Sn p a n) n:=⟨h,Km p a n,λk hk _=>by rw[D8,B! F0]⟩
theorem Af0{p q:List UInt8}(hl:p.length=q.length)(h:∀k,k<8*p.length->Hx p k=Hx q k):p=q:=by
 apply J4 hl;intro i h1 h2;have hp:Cg p (8*i) 8=Cg q (8*i) 8:=by
  have key:∀(n a:Nat),a+n<=8*p.length->Cg p a n=Cg q a n:=by
   intro n
   induction n with
   |zero=>intros;rfl
   |succ n ih=>intro a ha;rw[Cg,Cg,h a F0,ih (a+1) F0]
  exact key 8 (8*i) F0
 rw[jY p _ 8 F0,jY q _ 8 F0]at hp;have e1:8*i/8=i:=F0
 have e2:8*i %8=0:=F0
 rw[e1,e2]at hp;have a1:p.getD i 0=p[i]:=by simp[D9,h1]
 have a2:q.getD i 0=q[i]:=by simp[D9,h2]
 rw[a1,a2]at hp;apply UInt8.toNat_inj.1;have:=p[i].toNat_lt;have:=q[i].toNat_lt;simp at hp;omega
end Go.Lv
namespace Go.Pl
open Go Go.Lv
variable{w:Int32}{α:Type}{s:UInt64}
theorem C2{p:Prop}(h:p:=by rw[Af,Ac];simp;omega):p:=h
theorem D2{p:Prop}(h:p:=by rw[Af];simp;omega):p:=h
theorem GZ{p:Prop}(h:p:=by rw[Ar];simp;omega):p:=h
theorem HM{p:Prop}(h:p:=by simp[Af,Aq];omega):p:=h
theorem I8{p:Prop}(h:p:=by rw[Eh];simp;omega):p:=h
theorem M!{p:Prop}(h:p:=by unfold Ac;omega):p:=h
theorem D1{p:Prop}(h:p:=by have:=As;omega):p:=h
theorem I?{p:Prop}(h:p:=by rw[Eh];simp):p:=h
theorem SL{p:Prop}(h:p:=by rw[Ar];simp):p:=h
theorem NG{p:Prop}(h:p:=by rw[Ar];rfl):p:=h
theorem Atx(b:LB)(hb:b.length<4611686018427387904):∀(j q:Nat),j<=b.length->j<q->Ra b q (xV (b.drop j)) ((j:Int)-1)=some (xV b)
 |0,q+1,_,_=>by
  rw[Ra,GV,B! I?];simp[Arj,Anl]
 |j+1,q+1,hj,hq=>by
  rw[Ra,GV,B0 I?,show((j+1:Nat):Int)-1=(j:Int) by omega,Bt,Aa,Bu];have h:Ad (Bg (256:UInt64) (xV (b.drop (j+1)))) (Ae b[j]:UInt64)=xV (b.drop j):=by
   rw[TJ,TC,zK,drop_cons (n:=j) F0,xV,xV,Gf,v?,kO];exact UInt64.add_comm _ _
  rw[h];exact Atx b hb j q F0 F0
theorem YR(b:LB)(hb:b.length<4611686018427387904):Er b=some (xV b):=by
 have h:=Atx b hb b.length Au (E1 _) D1;rw[Er,Apz,Aq2];have e:Ap (Ac b) 1=(b.length:Int)-1:=Bu M! M!;rw[e,<-h,MT];rfl
theorem Avw{n c:UInt64}{i:Nat}(hn:n.toNat<2^i)(hc:c.toNat*2^i<18446744073709551616):zT n (Dy c i)=UInt64.ofNat (n.toNat+c.toNat*2^i):=by
 rw[Bbc];apply UInt64.toNat_inj.1;rw[UInt64.toNat_or,cK,D0 hc,G?,Nat.or_comm,<-P! hn,H7,D0,N!,G?];have h:=P! hn c.toNat;have h2:2^i*c.toNat+n.toNat<2^64:=by
  rw[h];exact Nat.or_lt_two_pow (by rw[G?];simpa using hc) n.toNat_lt
 rw[N!];first|exact h2|(rw[G?];exact h2)
theorem Ach(b:LB)(hb:b.length<=8):∀(j i q:Nat),i+j=b.length->j<q->HC b q (xV (b.take i)) (i:Int)=some (xV b,0)
 |0,i,q+1,hi,_=>by
  rw[HC,dV,B! C2,show i=b.length by omega,ID];rfl
 |j+1,i,q+1,hi,hq=>by
  have hlt:i<b.length:=F0
  rw[HC,dV,B0 C2,Bt hlt,Aa,Fo,Bl I8,Aa,Ak];have h:zT (xV (b.take i)) (Dy (Ae b[i]:UInt64) (GI.toZ ((8:Int)*(i:Int))).toNat)=xV (b.take (i+1)):=by
   have e:(GI.toZ ((8:Int)*(i:Int))).toNat=8*i:=by show((8:Int)*(i:Int)).toNat=_;omega
   have e2:(2:Nat)^(8*i)=256^i:=by rw[lu]
   have h1:=gW (b.take i);rw[G!,J5 F0]at h1;have h3:=b[i].toNat_lt;have hle:(256:Nat)^(i+1)<=256^8:=G7 F0 F0;rw[HG]at hle;have h4:(Ae b[i]:UInt64).toNat=b[i].toNat:=by rw[zK,H7];omega
   have h5:b[i].toNat*256^i<18446744073709551616:=by
    have:b[i].toNat*256^i<256*256^i:=sY (by simpa using h3) (K0 F0);simp at hle;omega
   rw[e,Avw (by rw[eY B8,e2];exact h1) (by rw[h4,e2];exact h5),eY B8,h4,e2,Ms hlt];rw[xV,Aea];simp only[Gf,G!,J5 (Nat.le_of_lt hlt),Nat.mul_zero,J6];rw[G?]
  rw[h];exact Ach b hb j (i+1) q F0 F0
theorem Aii(b:LB)(h1:1<=b.length)(h2:b.length<=8):rO b=some (xV b,0):=by
 have h:=Ach b h2 b.length 0 Au F0 D1;rw[rO,uX,B! (by simp[Af,Aq,Ac];omega),Be3];exact h
def part(b:LB)(at' w:Nat):LB:=(b.take (at'+w)).drop at'
theorem Ff{b:LB}{a w:Nat}(h:a+w<=b.length:=by omega):(part b a w).length=w:=by simp[part];omega
theorem U6(b:LB)(a w:Nat)(h1:1<=w)(h2:w<=8)(h3:a+w<=b.length)(hb:b.length<4611686018427387904):WZ b (a:Int) (w:Int)=some (xV (part b a w),0):=by
 rw[WZ,B! HM,B! (by rw[Aq,Bu M! M!,Ac];simp;omega),Ak,Wi,Aa];rw[show((a:Int)+(w:Int)).toNat=a+w by omega,show(a:Int).toNat=a by omega];rw[Aii _ (by rw[show((b.take (a+w)).drop a).length=_ from Ff h3];exact h1) (by rw[show((b.take (a+w)).drop a).length=_ from Ff h3];exact h2),Aa];rfl
theorem Aox(w:Nat)(hw:w<=1000):∀(j i q:Nat) (n:UInt64) (acc:LB),i+j=w->j<q->acc.length+j<=1000000->Jr (w:Int) q n (i:Int) acc=some (acc++Tm n.toNat j)
 |0,i,q+1,n,acc,hi,_,_=>by
  rw[Jr,Vr,B! D2];simp[Aav,Ab2,Tm]
 |j+1,i,q+1,n,acc,hi,hq,ha=>by
  rw[Jr,Vr,B0 D2];have e:(Ae (GM n (256:UInt64)):UInt8)=UInt8.ofNat n.toNat:=by
   rw[bM,Aga];apply UInt8.toNat_inj.1;rw[HT,HT,uP]
   show n.toNat %256 %256=_;omega
  have e2:(Bo n (256:UInt64)).toNat=n.toNat/256:=by rw[M8,XD];rfl
  rw[Bi B8,Aa,Ak,e];have h:=Aox w hw j (i+1) q (Bo n 256) (acc++[UInt8.ofNat n.toNat]) F0 F0 B8;rw[e2]at h;rw[show((i:Int)+1)=((i+1:Nat):Int) by omega,h,Tm];simp
theorem Ajq(n:UInt64)(w:Nat)(hw:w<=1000):Fv n (w:Int)=some (Tm n.toNat w):=by
 rw[Fv,Ab8,Ab1];have h:=Aox w hw w 0 Au n [] F0 D1 B8;simpa using h
theorem vF{l m:List α}{x y:α}{i:Nat}(h:l.length=i):(l++x::m).set i y=l++y::m:=by subst h;simp
theorem xL(n:UInt64)(l4:LB)(w:Nat)(hl:l4.length=w)(hw:w<=8):∀(j i q:Nat),i+j=w->j<q->HW n l4 q (i:Int) (Tm n.toNat i++List.replicate j 0)=some (Tm n.toNat w,0)
 |0,i,q+1,hi,_=>by
  rw[HW,dQ,B! C2];obtain rfl:i=w:=F0
  simp[qR,Bdo]
 |j+1,i,q+1,hi,hq=>by
  have hlen:(Tm n.toNat i++List.replicate (j+1) 0).length=i+(j+1):=by simp[Cf]
  rw[HW,dQ,B0 C2,Fo,Bl I8,Aa,Bt (by rw[hlen];omega),Aa,Ww _ (by rw[hlen];omega),Aa,Ak];have e:(Ae (Cn n (GI.toZ ((8:Int)*(i:Int))).toNat):UInt8)=UInt8.ofNat (n.toNat/256^i):=by
   have e:(GI.toZ ((8:Int)*(i:Int))).toNat=8*i:=by show((8:Int)*(i:Int)).toNat=_;omega
   rw[e,bM,MM,lu]
  rw[e,MG,vF (Cf _ _)];have h:=xL n l4 w hl hw j (i+1) q F0 F0;rw[Agu]at h;simpa using h
theorem Bbn(n:UInt64)(w:Nat)(h1:1<=w)(h2:w<=8)(h:n.toNat<256^w):uy n (w:Int)=some true:=by
 rw[uy];by_cases h8:w=8
 ·subst h8;rw[B0 NG]
 ·rw[B! GZ,Fo,Bl I8,Aa];have e:(GI.toZ ((8:Int)*(w:Int))).toNat=8*w:=by show((8:Int)*(w:Int)).toNat=_;omega
  rw[e,sw];have:Cn n (8*w)=0:=by
   apply UInt64.toNat_inj.1;rw[MM,lu];exact M3 h
  rw[this];rfl
theorem bK(n:UInt64)(w:Nat)(h1:1<=w)(h2:w<=8)(h:n.toNat<256^w):Qi n (w:Int)=some (Tm n.toNat w,0):=by
 rw[Qi,sU,B! HM,Bbn n w h1 h2 h,Aa,B! B7,oW,Aa,Bl SL,Aa,Bdt];have h:=xL n (List.replicate (w:Int).toNat 0) w B7 h2 w 0 Au F0 D1;simpa [Tm]using h
theorem G6{p:Prop}(h:p:=by rw[Aq];simp;omega):p:=h
theorem D3{p:Prop}(h:p:=by rw[Aj];simp):p:=h
theorem kg(n:Nat)(h:n<4611686018427387904):Fb (n:Int) (7:Int)=((n %8:Nat):Int):=by
 have e:Fb (n:Int) (7:Int)=wrap64 ((BitVec.ofInt 64 (n:Int)&&&BitVec.ofInt 64 7).toNat:Int):=rfl;rw[e,bH,M1,M1];have h1:((n:Int) %((2^64:Nat):Int)).toNat=n:=F0
 have h2:((7:Int) %((2^64:Nat):Int)).toNat=2^3-1:=B6
 rw[h1,h2,WQ,De F0 F0]
theorem Bf4(n:Nat):OF (n:Int) (GI.toZ (3:UInt64)).toNat=((n/8:Nat):Int):=by
 have e:OF (n:Int) (GI.toZ (3:UInt64)).toNat=(n:Int).fdiv 8:=rfl;rw[e,KZ _ F0];omega
theorem Bhi{t:Nat}(h:t<=8):Ap (Dy (1:UInt8) t) (1:UInt8)=UInt8.ofNat (2^t-1):=by
 have:t=0\/t=1\/t=2\/t=3\/t=4\/t=5\/t=6\/t=7\/t=8:=F0
 rcases this with rfl|rfl|rfl|rfl|rfl|rfl|rfl|rfl|rfl<;>decide
theorem bitsOf(c:UInt8)(off t:Nat)(h:t<=8):(Fb (Cn c off) (Ap (Dy (1:UInt8) t) (1:UInt8))).toNat=c.toNat/2^off %2^t:=by
 have hp:2^t<=2^8:=G7 F0 h;rw[Bhi h,Amq,uC,pF,HT,D0 (by have:=K0 (n:=t) (show 0<2 by omega);omega),WQ]
theorem X!{p:LB}{k:Nat}(h:k<p.length):Am p (k:Int)=some (p.getD k 0):=by
 rw[Bt h];simp[D9,h]
def Rq(p:LB)(a n:Nat):UInt64:=UInt64.ofNat (Cg p a n)
theorem BI(p:LB)(a n:Nat)(h:n<=64):(Rq p a n).toNat=Cg p a n:=by
 have h1:=Rl p n a;have h2:2^n<=2^64:=G7 F0 h;rw[Rq,H7,D0 F0]
theorem Ahb(p:LB)(N:Int)(a n:Nat)(hn:n<=64)(ha:a+n<=8*p.length)(hp:p.length<=1000000):∀(j h q:Nat),h+j=n->j<q->SW (a:Int) (n:Int) p N q (Rq p a h) (h:Int)=some (Rq p a n)
 |j,h,q+1,hj,hq=>by
  rw[SW,tB];by_cases hlt:h<n
  ·have e1:Ad (a:Int) (h:Int)=((a+h:Nat):Int):=by rw[Ak];omega
   have e2:Fq (Ap (n:Int) (h:Int)) (Ap (8:Int) (((a+h) %8:Nat):Int))=((min (n-h) (8-(a+h) %8):Nat):Int):=by
    rw[IQ,Bu,Bu];omega
   have hm:(a+h)/8<p.length:=F0
   rw[B0 D2,e1,Bf4,X! hm,Aa,kg _ F0,Bl I8,Aa,e2,Bl I?,Aa,Bl I?,Aa];generalize hT:min (n-h) (8-(a+h) %8)=T;have hT8:T<=8:=F0
   have hT1:1<=T:=F0
   have hb:(a+h) %8+T<=8:=F0
   have hv:=jY p (a+h) T hb;have z1:(GI.toZ (((a+h) %8:Nat):Int)).toNat=(a+h) %8:=rfl;have z2:(GI.toZ ((T:Nat):Int)).toNat=T:=rfl;have z3:(GI.toZ ((h:Nat):Int)).toNat=h:=rfl;rw[z1,z2,z3];have hx:(Ae (Fb (Cn (p.getD ((a+h)/8) 0) ((a+h) %8)) (Ap (Dy (1:UInt8) T) (1:UInt8))):UInt64).toNat=Cg p (a+h) T:=by
    rw[zK,H7,bitsOf _ _ _ hT8,<-hv];have:=Rl p T (a+h);have h2:2^T<=2^8:=G7 F0 hT8;omega
   have hlt2:=Rl p (h+T) a;rw[SR]at hlt2;have h64:2^(h+T)<=2^64:=G7 F0 F0;have hor:zT (Rq p a h) (Dy (Ae (Fb (Cn (p.getD ((a+h)/8) 0) ((a+h) %8)) (Ap (Dy (1:UInt8) T) (1:UInt8))):UInt64) h)=Rq p a (h+T):=by
    rw[Avw (by rw[BI p a h F0];exact Rl p h a) (by rw[hx,G?];omega),hx,BI p a h F0,Rq,SR,G? (2^h)]
   rw[hor,Ak,show(h:Int)+((T:Nat):Int)=((h+T:Nat):Int) by omega];exact Ahb p N a n hn ha hp (j-T) (h+T) q F0 F0
  ·rw[B! D2,show h=n by omega];rfl
theorem get_eq(p:LB)(N:Int)(a n:Nat)(hn:n<=64)(ha:a+n<=8*p.length)(hp:p.length<=1000000):M7 p N (a:Int) (n:Int)=some (Rq p a n):=by
 have:=Ahb p N a n hn ha hp n 0 Au F0 D1;exact this
theorem CC{p:LB}{n:Nat}(h:okB p n):Le p (n:Int)=some 0:=by
 obtain⟨h1,h2,h3⟩:=h;have e7:Ad (n:Int) 7=((n+7:Nat):Int):=by rw[Ak];omega
 rw[Le,e7,Bf4,B! (by simp[Af,Aq,Aj,Ac,h2];omega),kg _ F0];by_cases hz:n %8=0
 ·rw[B! G6]
 ·have el:Ap (Ac p) 1=((p.length-1:Nat):Int):=by rw[Ac,Bu];omega
  rw[B0 G6,el,X! F0,Aa,Bl I8,Aa];have z:(GI.toZ ((n %8:Nat):Int)).toNat=n %8:=rfl;have hs:Cn (p.getD (p.length-1) 0) (n %8)=0:=by
   apply UInt8.toNat_inj.1;rw[pF];have hv:=jY p n (8-n %8) F0;have h0:Cg p n (8-n %8)=0:=S2 _ _ λk hk=>h3 _ F0 F0;rw[h0,show n/8=p.length-1 by omega]at hv;have hlt:(p.getD (p.length-1) 0).toNat/2^(n %8)<2^(8-n %8):=by
    have:=(p.getD (p.length-1) 0).toNat_lt;rw[Nat.div_lt_iff_lt_mul (K0 F0),<-NZ,show 8-n %8+n %8=8 by omega];simpa using this
   rw[D0 hlt]at hv;exact hv.symm
  rw[z,hs,B! (by rw[pZ];simp)]
theorem Y1{p:LB}{N:Nat}(h:okB p N)(a n:Nat)(hn:n<=64):LH p (N:Int) (a:Int) (n:Int)=some (if N<a+n then(0,24)else(Rq p a n,0)):=by
 obtain⟨h1,h2,h3⟩:=h;rw[LH,CC ⟨h1,h2,h3⟩,Aa,B! D3,B! HM,Bu];by_cases hl:N<a+n
 ·rw[B0 G6,B0 hl]
 ·rw[B! G6,get_eq p N a n hn F0 F0,Aa,B! hl]
theorem mO{p:Prop}(h:p:=by rw[Km];simp;omega):p:=h
theorem dD{p:Prop}(h:p:=by rw[G?];omega):p:=h
theorem Biy(c:Nat)(h:c<4611686018427387904):Bo (c:Int) (2:Int)=((c/2:Nat):Int):=by
 rw[UT,RK F0,De F0 F0];omega
theorem Bf5(c:Nat)(h:c<4611686018427387904):Bo (c:Int) (8:Int)=((c/8:Nat):Int):=by
 rw[UT,RK F0,De F0 F0];omega
theorem Z3(c:Nat):Gz (c:Int) (8:Int)=((c %8:Nat):Int):=by rw[Gz,aI F0];omega
theorem Bjk(c:Nat):Gz (c:Int) (2:Int)=((c %2:Nat):Int):=by rw[Gz,aI F0];omega
theorem Anm(i c:Nat)(hc:c<256):∀(j k q:Nat),k+j=i %8->j<q->Re (i:Int) q ((c/2^k:Nat):Int) (k:Int)=some (((c/2^(i %8) %2:Nat):Int))
 |0,k,q+1,hk,_=>by
  rw[Re,GH,Z3,B! D2,Ass,Asn,Bjk,show k=i %8 by omega]
 |j+1,k,q+1,hk,hq=>by
  have hle:c/2^k<=c:=HP _ _;rw[Re,GH,Z3,B0 D2,Biy _ F0,Ak,TH,<-HG];exact Anm i c hc j (k+1) q F0 F0
theorem Q9(p:LB)(N:Int)(i:Nat)(h:i/8<p.length)(hi:i<4611686018427387904):Om p N (i:Int)=some ((Hx p i:Nat):Int):=by
 have hc:=(p.getD (i/8) 0).toNat_lt;have:=Anm i (p.getD (i/8) 0).toNat (by simpa using hc) (i %8) 0 Au F0 D1;rw[Om,Asp,Bf5 _ hi,X! h,Aa,YI,Aso];simpa [Hx]using this
theorem Blw(p:LB)(N:Int)(a n:Nat)(ha:a+n<=8*p.length)(hp:p.length<=1000000):∀(j q:Nat),j<=n->j<q->Me (a:Int) p N q (Rq p (a+j) (n-j)) ((j:Int)-1)=some (Rq p a n)
 |0,q+1,_,_=>by
  rw[Me,Yr,B! I?];rfl
 |j+1,q+1,hj,hq=>by
  have hb:=EG p (a+j);rw[Me,Yr,show((j+1:Nat):Int)-1=(j:Int) by omega,B0 I?,Ak (a:=(a:Int)) F0 F0,show(a:Int)+(j:Int)=((a+j:Nat):Int) by omega,Q9 p N (a+j) F0 F0,Aa,Bu];have e:Ad (Bg (2:UInt64) (Rq p (a+(j+1)) (n-(j+1)))) (Ae ((Hx p (a+j):Nat):Int):UInt64)=Rq p (a+j) (n-j):=by
   rw[TJ,TC,Ye,Rq,Rq,show n-j=(n-(j+1))+1 by omega,Cg,show a+j+1=a+(j+1) by omega,v?,kO];exact UInt64.add_comm _ _
  rw[e];exact Blw p N a n ha hp j q F0 F0
theorem yR(p:LB)(N:Int)(a n:Nat)(ha:a+n<=8*p.length)(hp:p.length<=1000000):Wz p N (a:Int) (n:Int)=some (Rq p a n):=by
 have:=Blw p N a n ha hp n Au (E1 _) D1;have hz:Rq p (a+n) (n-n)=0:=by rw[kX];rfl
 rw[hz]at this;rw[Wz,Ae4,Adt,Bu];exact this
theorem Aos(bit:Int)(N:Nat)(l:LB):∀(j k q:Nat),k+j=N %8->j<q->Ph bit (N:Int) l q ((2^k:Nat):Int) (k:Int)=CY bit ((2^(N %8):Nat):Int) (N:Int) l
 |0,k,q+1,hk,_=>by
  rw[Ph,DY,Z3,B! D2,show k=N %8 by omega]
 |j+1,k,q+1,hk,hq=>by
  have hp:2^k<=2^8:=G7 F0 F0;have e:Bg ((2^k:Nat):Int) 2=((2^(k+1):Nat):Int):=by
   rw[HG];generalize 2^k=K at*
   rw[Fo];omega
  rw[Ph,DY,Z3,B0 D2,e,Ak];exact Aos bit N l j (k+1) q F0 F0
theorem d!(p:LB)(a n j:Nat)(h:j<(n+7)/8):(Sn p a n)[j]'(by rw[Km];exact h)=UInt8.ofNat (Cg p (a+8*j) (min 8 (n-8*j))):=by simp[Sn]
theorem O9(p:LB)(a t:Nat)(h:t<=8):Cg p a t<256:=by
 have h1:=Rl p t a;have h2:2^t<=2^8:=G7 F0 h;omega
def room(p:LB)(a n:Nat):LB:=if n %8=0 then Sn p a n++[0]else Sn p a n
theorem Qq(p:LB)(a n:Nat):(room p a n).length=n/8+1:=by
 rw[room];split<;>simp[Km]<;>omega
theorem Ai4(p:LB)(a n j:Nat)(h:j<n/8+1):(room p a n)[j]'(by rw[Qq];exact h)=UInt8.ofNat (Cg p (a+8*j) (min 8 (n-8*j))):=by
 have h0:(room p a n)[j]? =some (UInt8.ofNat (Cg p (a+8*j) (min 8 (n-8*j)))):=by
  rw[room];split
  ·by_cases hj:j<(n+7)/8
   ·rw[HQ (by rw[Km];exact hj),HS (by rw[Km];exact hj),d! p a n j hj]
   ·rw[JG (by rw[Km];omega),Km,show j-(n+7)/8=0 by omega,show n-8*j=0 by omega];rfl
  ·rw[HS (by rw[Km];omega),d! p a n j F0]
 rw[HS (by rw[Qq];exact h)]at h0;exact HE h0
theorem N5(p:LB)(a n T:Nat)(h1:1<=T)(h:n %8+T<=8):(room p a n).set (n/8) (UInt8.ofNat (Cg p (a+8*(n/8)) (n %8+T)))=Sn p a (n+T):=by
 apply J4 (by rw[NA,Qq,Km];omega);intro j g1 g2;rw[NA,Qq]at g1;rw[XG,d! p a (n+T) j (by rw[Km]at g2;exact g2)];split
 ·rename_i e;subst e;rw[show min 8 (n+T-8*(n/8))=n %8+T by omega]
 ·rw[Ai4 p a n j g1,show min 8 (n-8*j)=8 by omega,show min 8 (n+T-8*j)=8 by omega]
theorem vX(p:LB)(a n:Nat):(room p a n)[n/8]'(by rw[Qq];omega)=UInt8.ofNat (Cg p (a+8*(n/8)) (n %8)):=by
 rw[Ai4 p a n _ F0,show min 8 (n-8*(n/8))=n %8 by omega]
theorem As8(p:LB)(a n:Nat)(hn:n<=400000):BY (Sn p a n) (n:Int) ((Hx p (a+n):Nat):Int)=some (Sn p a (n+1),((n+1:Nat):Int)):=by
 have hb:=EG p (a+n);have hp:2^(n %8)<=2^7:=G7 F0 F0;have hroom:BY (Sn p a n) (n:Int) ((Hx p (a+n):Nat):Int)=DC ((Hx p (a+n):Nat):Int) (n:Int) (room p a n):=by
  rw[BY,Al0,Z3,room];by_cases h0:n %8=0
  ·rw[B0 (by rw[Ar,h0];rfl),Bi mO,Aa,B0 h0]
  ·rw[B! GZ,B! h0]
 have hl:=Aos ((Hx p (a+n):Nat):Int) n (room p a n) (n %8) 0 Au F0 D1;rw[hroom,DC,Alp,Akm];refine H9 hl ?_;have hg:Am (room p a n) ((n/8:Nat):Int)=some (UInt8.ofNat (Cg p (a+8*(n/8)) (n %8))):=by
  rw[Bt (by rw[Qq];omega),vX]
 have hlt:=O9 p (a+8*(n/8)) (n %8+1) F0;have hsn:=vP p (a+8*(n/8)) (n %8);rw[show a+8*(n/8)+n %8=a+n by omega]at hsn;have hm:Bg ((Hx p (a+n):Nat):Int) ((2^(n %8):Nat):Int)=((2^(n %8)*Hx p (a+n):Nat):Int):=by
  have hle:2^(n %8)*Hx p (a+n)<=2^7*1:=IP hp F0;rw[Asw,<-K7,De F0 dD,G?]
 have hx:Ad (UInt8.ofNat (Cg p (a+8*(n/8)) (n %8))) (Ae (((2^(n %8)*Hx p (a+n):Nat):Int)):UInt8)=UInt8.ofNat (Cg p (a+8*(n/8)) (n %8+1)):=by
  rw[Ba8,Aug,hsn,UInt8.ofNat_add]
 rw[CY,Akr,Bf5 _ F0,hg,Aa,Aa,Aa,hm,hx,Ww _ (by rw[Qq];omega),Aa,N5 p a n 1 F0 F0,Ak];rfl
theorem Adb(p:LB)(N:Int)(a n:Nat)(ha:a+n<=8*p.length)(hp:p.length<=1000000)(hn:n<=300000):∀(j m q:Nat),m+j=n->j<q->Jt ((a+n:Nat):Int) p N q ((a+m:Nat):Int) (m:Int) (Sn p a m)=some (Sn p a n,(n:Int))
 |0,m,q+1,hm,_=>by
  rw[Jt,Vq,B! D2,show m=n by omega];rfl
 |j+1,m,q+1,hm,hq=>by
  rw[Jt,Vq,B0 D2,Q9 p N (a+m) F0 F0,Aa,As8 p a m F0,Aa];simp only;rw[Ak];exact Adb p N a n ha hp hn j (m+1) q F0 F0
theorem Afx(p:LB)(N:Int)(a n:Nat)(ha:a+n<=8*p.length)(hp:p.length<=1000000)(hn:n<=300000):Aj2 p N (a:Int) ((a+n:Nat):Int)=some (Sn p a n,(n:Int)):=by
 have:=Adb p N a n ha hp hn n 0 Au F0 D1;exact this
theorem Y7{p:Prop}(h:p:=by rw[Qq];omega):p:=h
theorem M?{p:Prop}(h:p:=by rw[Aq];simp):p:=h
theorem Bc7{t:Nat}(h:t<=8):Ap (Dy (1:UInt64) t) (1:UInt64)=UInt64.ofNat (2^t-1):=by
 have:t=0\/t=1\/t=2\/t=3\/t=4\/t=5\/t=6\/t=7\/t=8:=F0
 rcases this with rfl|rfl|rfl|rfl|rfl|rfl|rfl|rfl|rfl<;>decide
theorem Bhb(v:UInt64){t:Nat}(h:t<=8):(Fb v (Ap (Dy (1:UInt64) t) (1:UInt64))).toNat=v.toNat %2^t:=by
 have hp:2^t<=2^8:=G7 F0 h;rw[Bc7 h,R!,kL,H7,D0 (by have:=K0 (n:=t) (show 0<2 by omega);omega),WQ]
theorem or8{v w i:Nat}(hv:v<2^i)(hw:w*2^i<256)(hi:i<8):zT (UInt8.ofNat v) (Dy (UInt8.ofNat w) i)=UInt8.ofNat (v+w*2^i):=by
 have hp:2^i<=2^8:=G7 F0 F0;have hpos:0<2^i:=K0 F0;have hw2:w<256:=NQ (jf w hpos) hw;rw[Bdl];apply UInt8.toNat_inj.1;have e1:(UInt8.ofNat v).toNat=v:=by rw[HT,D0 F0]
 have e2:(UInt8.ofNat w).toNat=w:=by rw[HT,D0 F0]
 rw[UInt8.toNat_or,Azv,e1,e2,D0 hw,G? w,Nat.or_comm,<-P! hv,HT,N! v];rw[G?]at hw;have hb:2^i*w+v<256:=by
  rw[P! hv];exact Nat.or_lt_two_pow (n:=8) hw F0
 rw[D0 hb]
theorem Ahe(p:LB)(a n T:Nat)(h:T<=n)(hn:n<=64):Cn (Rq p a n) T=Rq p (a+T) (n-T):=by
 apply UInt64.toNat_inj.1;rw[MM,BI p a n hn,BI p (a+T) (n-T) F0];have:=Rl p T a
 conv=>lhs;rw[show n=T+(n-T) by omega,SR,Nat.add_mul_div_left _ _ (K0 F0),M3 this,HL]
theorem Aiu(p:LB)(a n T:Nat)(h:T<=n)(hn:n<=64):(Rq p a n).toNat %2^T=Cg p a T:=by
 have:=Rl p T a;rw[BI p a n hn]
 conv=>lhs;rw[show n=T+(n-T) by omega,SR,Nat.add_mul_mod_self_left,D0 this]
theorem Aak(bk:Int->Int->LB->Option (LB×Int×Int))(to':Int)(p:LB)(N fr:Int)(r6:UInt64)(a:Nat):∀(j m q:Nat),m+j<=300000->j<=64->j<q->
  Sp bk to' p N fr r6 q (Rq p (a+m) j) (j:Int) (m:Int) (Sn p a m)=XI bk to' p N fr ((m+j:Nat):Int) (Sn p a (m+j))
 |0,m,q+1,_,_,_=>by
  rw[Sp,XR,B! M?];rfl
 |j+1,m,q+1,hm,hj,hq=>by
  have hroom:Sp bk to' p N fr r6 (q+1) (Rq p (a+m) (j+1)) ((j+1:Nat):Int) (m:Int) (Sn p a m)=XV (Sp bk to' p N fr r6 q) to' fr p N r6 (Rq p (a+m) (j+1)) ((j+1:Nat):Int) (m:Int) (room p a m):=by
   rw[Sp,XR,B0 M?,kg m F0,room];by_cases h0:m %8=0
   ·rw[B0 (by rw[Ar,h0];rfl),Bi mO,Aa,B0 h0]
   ·rw[B! GZ,B! h0]
  have hl:Ap (Ac (room p a m)) 1=((m/8:Nat):Int):=by
   rw[Ac,Qq,Bu];omega
  have e2:Fq ((j+1:Nat):Int) (Ap (8:Int) ((m %8:Nat):Int))=((min (j+1) (8-m %8):Nat):Int):=by
   rw[IQ,Bu];omega
  rw[hroom,XV,nW,kg m F0,e2,hl];generalize hT:min (j+1) (8-m %8)=T;have hT1:1<=T:=F0
  have hT8:m %8+T<=8:=F0
  have hg:Am (room p a m) ((m/8:Nat):Int)=some (UInt8.ofNat (Cg p (a+8*(m/8)) (m %8))):=by
   rw[Bt Y7,vX]
  have z1:(GI.toZ ((m %8:Nat):Int)).toNat=m %8:=rfl;have z2:(GI.toZ ((T:Nat):Int)).toNat=T:=rfl;have hlt:=O9 p (a+8*(m/8)) (m %8+T) F0;have hadd:=SR p (m %8) T (a+8*(m/8));rw[show a+8*(m/8)+m %8=a+m by omega]at hadd;have hbyte:(Ae (Fb (Rq p (a+m) (j+1)) (Ap (Dy (1:UInt64) T) (1:UInt64))):UInt8)=UInt8.ofNat (Cg p (a+m) T):=by
   rw[bM,Bhb _ F0,Aiu p (a+m) (j+1) T F0 hj]
  have hnew:zT (UInt8.ofNat (Cg p (a+8*(m/8)) (m %8))) (Dy (UInt8.ofNat (Cg p (a+m) T)) (m %8))=UInt8.ofNat (Cg p (a+8*(m/8)) (m %8+T)):=by
   rw[or8 (Rl _ _ _) dD F0,hadd,G? (2^(m %8))]
  rw[hg,z1,z2,hbyte];simp only[Aa];rw[Bl I?,Aa,Bl I8,Aa,hnew,Ww _ Y7,Aa,N5 p a m T hT1 hT8,mZ,Abf,kg m F0,e2,hT,Bl I?,Aa,z2,Ahe p (a+m) (j+1) T F0 hj,Bu,Ak];have ih:=Aak bk to' p N fr r6 a (j+1-T) (m+T) q F0 F0 F0;rw[show m+T+(j+1-T)=m+(j+1) by omega]at ih;rw[<-ih,show a+m+T=a+(m+T) by omega,show((j+1:Nat):Int)-((T:Nat):Int)=((j+1-T:Nat):Int) by omega,show(m:Int)+((T:Nat):Int)=((m+T:Nat):Int) by omega]
theorem Ag5(p:LB)(N:Int)(a n:Nat)(ha:a+n<=8*p.length)(hp:p.length<=1000000)(hn:n<=300000):∀(j m f q:Nat),(f=m\/n<=f/\m=n)->m+j=n->f<=n+64->j<q->BR ((a+n:Nat):Int) p N q ((a+f:Nat):Int) (m:Int) (Sn p a m)=some (Sn p a n,(n:Int),0)
 |j,m,f,q+1,hf,hm,hf2,hq=>by
  rw[BR,nA];by_cases hlt:f<n
  ·obtain rfl:f=m:=F0
   have e1:Fq (64:Int) (Ap ((a+n:Nat):Int) ((a+f:Nat):Int))=((min 64 (n-f):Nat):Int):=by
    rw[IQ,Bu];omega
   rw[B0 D2,e1,get_eq p N (a+f) _ F0 F0 hp,Aa,nC];have h1:=Aak (BR ((a+n:Nat):Int) p N q) ((a+n:Nat):Int) p N ((a+f:Nat):Int) (Rq p (a+f) (min 64 (n-f))) a (min 64 (n-f)) f Au F0 F0 D1;refine H9 h1 ?_;rw[XI,Abd,Ak,show((a+f:Nat):Int)+64=((a+(f+64):Nat):Int) by omega];exact Ag5 p N a n ha hp hn (j-min 64 (n-f)) (f+min 64 (n-f)) (f+64) q F0 F0 F0 F0
  ·rw[B! D2,lO,Ad2,show m=n by omega]
theorem Bdq{p:LB}{N:Nat}(h:okB p N)(a n:Nat)(ha:a+n<=N)(hn:n<=300000):sV p (N:Int) (a:Int) ((a+n:Nat):Int)=some (Sn p a n,(n:Int),0):=by
 obtain⟨h1,h2,h3⟩:=h;have:=Ag5 p N a n F0 F0 hn n 0 0 Au F0 F0 F0 D1;rw[sV,tG,CC ⟨h1,h2,h3⟩,Aa,B! D3,B! HM,Aa5];exact this
theorem TZ{p:Prop}(h:p:=by simp[Af];omega):p:=h
theorem I_{p:Prop}(h:p:=by rw[Af];simp):p:=h
def Hf(p:LB):Nat->Nat->Nat
 |_,0=>0
 |a,m+1=>if Hx p a=1 then 1+Hf p (a+1) m else 0
theorem dO(p:LB):∀(m a:Nat),Hf p a m<=m
 |0,_=>E1 _
 |m+1,a=>by rw[Hf];split<;>have:=dO p m (a+1)<;>omega
theorem Ahp(p:LB):∀(m a:Nat),∃s,Cg p a m+1=2^(Hf p a m+1)*s+2^Hf p a m/\ (Hf p a m=m->s=0)
 |0,a=>⟨0,by simp[Cg,Hf],λ_=>rfl⟩
 |m+1,a=>by
  have hb:=EG p a;obtain⟨s,h1,h2⟩:=Ahp p m (a+1);by_cases h:Hx p a=1
  ·refine⟨s,?_,λe=>h2 ?_⟩
   ·rw[Hf,B0 h,Cg,h,show 1+Hf p (a+1) m+1=(Hf p (a+1) m+1)+1 by omega,show 1+Hf p (a+1) m=Hf p (a+1) m+1 by omega,HG,HG (n:=2) (m:=Hf p (a+1) m)];rw[HG]at h1;generalize Cg p (a+1) m=V at*
    generalize 2^Hf p (a+1) m=W at*
    have e1:W*2*2*s=2*(W*2*s):=by rw[jo (W*2) 2 s,G?]
    omega
   ·rw[Hf,B0 h]at e;omega
  ·refine⟨Cg p (a+1) m,?_,λe=>?_⟩
   ·rw[Hf,B! h,Cg];simp;omega
   ·rw[Hf,B! h]at e;omega
theorem Ba3{n t s:Nat}(h:2^(t+1)*s+2^t<=2^n)(ht:t<n)(x:Nat)(hx:x=2^n-(2^(t+1)*s+2^t)):x&&& (2^(t+1)*s+2^t)=2^t:=by
 have hpos:0<2^t:=K0 F0;have hlt:2^t<2^(t+1):=by rw[HG];omega
 have e:x=2^n-((2^(t+1)*s+(2^t-1))+1):=by rw[hx];congr 1;omega
 apply jW;intro i;rw[bV,e,Nat.testBit_two_pow_sub_succ F0,Bny _ F0,Bny _ hlt];by_cases hi:i<t+1
 ·rw[B0 hi,B0 hi,Nat.testBit_two_pow_sub_one,WV];by_cases hit:t=i
  ·subst hit;simp;exact ht
  ·have:¬i=t:=λe=>hit e.symm;simp[hit]
 ·rw[B! hi,B! hi,WV];have:¬t=i:=F0
  simp[this]
theorem Awn(a:UInt64):(b! a).toNat=18446744073709551615-a.toNat:=by
 have h:=a.toNat_lt;have e:b! a=UInt64.ofNat (BitVec.ofInt 64 18446744073709551615^^^BitVec.ofInt 64 (a.toNat:Int)).toNat:=Ju _;have h1:BitVec.ofInt 64 (a.toNat:Int)=a.toBitVec:=e_ a;have h2:(BitVec.ofInt 64 18446744073709551615:BitVec 64)=BitVec.allOnes 64:=B6
 rw[e,H7,h1,h2,BitVec.allOnes_xor,kR];show(18446744073709551616-1-a.toNat) %18446744073709551616=18446744073709551615-a.toNat;omega
theorem Ava(a:UInt64):(G0 a).toNat=(18446744073709551616-a.toNat) %18446744073709551616:=by
 have h:=a.toNat_lt;have e:G0 a=UInt64.ofNat ((0-(a.toNat:Int)) %18446744073709551616).toNat:=oR _;rw[e,H7];show((0-(a.toNat:Int)) %18446744073709551616).toNat %18446744073709551616=_;omega
def Bg9:LB:=[0,1,56,2,57,49,28,3,61,58,42,50,38,29,17,4,62,47,59,36,45,43,51,22,53,39,33,30,24,18,12,5,63,55,48,27,60,41,37,16,46,35,44,21,52,32,23,11,54,26,40,15,34,20,31,10,25,14,19,9,13,8,7,6]
theorem Apw:∀t:Fin 64,Am Bg9 (GI.toZ (Cn (Bg (UInt64.ofNat (2^t.val)) (285870213051353865:UInt64)) (GI.toZ (58:UInt64)).toNat))=some (UInt8.ofNat t.val):=by decide +kernel
theorem Bgn(x:UInt64)(t s:Nat)(ht:t<64)(h:x.toNat+(2^(t+1)*s+2^t)=18446744073709551616):Ih x=some (t:Int):=by
 have hpos:0<2^t:=K0 F0;have hx:x.toNat=2^64-(2^(t+1)*s+2^t):=by show x.toNat=18446744073709551616-_;omega
 have hle:2^t<=2^63:=G7 F0 F0;have hne:x≠0:=by
  intro e;rw[e]at h;have h':2^t*(2*s+1)=2^64:=by
   rw[cT,SD,<-I0,<-HG]
   show _=18446744073709551616;simpa using h
  have h2:2^64=2^t*2^(64-t):=by rw[<-NZ];congr 1;omega
  rw[h2]at h';have h3:=Nat.eq_of_mul_eq_mul_left hpos h';rw[show 64-t=(63-t)+1 by omega,HG]at h3;omega
 have hx0:x.toNat≠0:=λe=>hne (UInt64.toNat_inj.1 e);have hl:Fb x (G0 x)=UInt64.ofNat (2^t):=by
  apply UInt64.toNat_inj.1;rw[R!,kL,Ava,show(18446744073709551616-x.toNat) %18446744073709551616=2^(t+1)*s+2^t by omega,Ba3 (n:=64) (by show _<=18446744073709551616;omega) ht _ hx,H7,D0];exact NQ hle B6
 have hb:=Apw ⟨t,ht⟩;rw[Ih,B! (by rw[sw];simpa using hne),hl];refine H9 (congrArg (λo=>Option.bind o λc=>some (Ae c:Int)) hb) ?_;rw[Aa,YI,HT,D0 (by show t<256;omega)]
theorem Bbe(p:LB)(a m:Nat)(hm:m<=48):Ih (b! (Rq p a m))=some ((Hf p a m:Nat):Int):=by
 obtain⟨s,h1,h2⟩:=Ahp p m a;have hle:=dO p m a;have hlt:=Rl p m a;have h48:2^m<=2^48:=G7 F0 hm;have hn:(b! (Rq p a m)).toNat=18446744073709551615-Cg p a m:=by rw[Awn,BI p a m F0]
 have h3:(281474976710656:Nat)=2^48:=rfl;refine Bgn _ (Hf p a m) s F0 ?_;rw[hn];omega
def unS(p:LB)(N a:Nat):Int×Int×Int:=
 if Hf p a (min 48 (N-a))<min 48 (N-a)then((Hf p a (min 48 (N-a)):Nat),((a+Hf p a (min 48 (N-a))+1:Nat):Int),0)else
 if Hf p a (min 48 (N-a))=48 then(48,((a+48:Nat):Int),0)else(0,0,24)
theorem Av6{p:LB}{N:Nat}(h:okB p N)(a:Nat)(ha:a<N):PR p (N:Int) (a:Int)=some (unS p N a):=by
 have hN:=h.1;have e1:Fq (48:Int) (Ap (N:Int) (a:Int))=((min 48 (N-a):Nat):Int):=by rw[IQ,Bu];omega
 have hle:=dO p (min 48 (N-a)) a;rw[PR,EL,CC h,Aa,B! D3,B! I_,B! I8,e1,Y1 h a _ F0,B! F0,Aa];simp only;rw[fO,gB,B! D3,Bbe p a _ F0,Aa,gE,fX,e1,unS];by_cases h1:Hf p a (min 48 (N-a))<min 48 (N-a)
 ·rw[B0 D2,B0 h1,Ak (a:=(a:Int)) F0 F0,show Ad (0:Int) 1=1 by decide,Ak];congr 3;omega
 ·rw[B! D2,B! h1,fY,fS];by_cases h2:Hf p a (min 48 (N-a))=48
  ·rw[B0 (by rw[Ar,h2];rfl),B0 h2,h2,Ak (a:=(a:Int)) F0 F0,Ak];congr 3;omega
  ·rw[B! GZ,B! h2];rfl
theorem xU(p:LB):∀(m a:Nat),Hf p a m<m->Hx p (a+Hf p a m)≠1
 |0,_,h=>by simp[Hf]at h
 |m+1,a,h=>by
  by_cases hb:Hx p a=1
  ·rw[Hf,B0 hb]at h⊢;have:=xU p m (a+1) F0;rwa [show a+(1+Hf p (a+1) m)=a+1+Hf p (a+1) m by omega]
  ·rw[Hf,B! hb];exact hb
theorem yB(p:LB):∀(m a k:Nat),k<Hf p a m->Hx p (a+k)=1
 |0,a,k,h=>by simp[Hf]at h
 |m+1,a,k,h=>by
  by_cases hb:Hx p a=1
  ·rw[Hf,B0 hb]at h;cases k with
   |zero=>exact hb
   |succ k=>
    have:=yB p m (a+1) k F0;rwa [show a+(k+1)=a+1+k by omega]
  ·rw[Hf,B! hb]at h;omega
def unR(p:LB)(N a:Nat):Int×Int:=if(unS p N a).2.2=0 then((unS p N a).1,(unS p N a).2.1)else(-1,0)
theorem Bkt{p:LB}{N:Nat}(h:okB p N)(a:Nat)(ha:a<N):∀(j k q:Nat),k+j=Hf p a (min 48 (N-a))->j<q->Ox (a:Int) p (N:Int) q (k:Int)=some (unR p N a)
 |0,k,q+1,hk,_=>by
  obtain⟨hN,hl,hz⟩:=h;have hle:=dO p (min 48 (N-a)) a;have hk':k=Hf p a (min 48 (N-a)):=F0
  have e1:Ad (a:Int) (k:Int)=((a+k:Nat):Int):=by rw[Ak];omega
  have hend:DX (a:Int) (k:Int) p (N:Int)=some (unR p N a):=by
   rw[DX,Als,e1];by_cases h48:k=48
   ·have hu:unS p N a=(48,((a+48:Nat):Int),0):=by rw[unS,<-hk',B! F0,B0 h48]
    rw[B0 (by rw[Ar,h48];rfl),unR,hu,h48];rfl
   ·rw[B! GZ];by_cases hN2:N<=a+k
    ·have hu:unS p N a=(0,0,24):=by rw[unS,<-hk',B! F0,B! h48]
     rw[B0 I8,unR,hu];rfl
    ·have hu:unS p N a=(((k:Nat):Int),((a+k+1:Nat):Int),0):=by rw[unS,<-hk',B0 F0]
     rw[B! I8,unR,hu,Ak];rfl
  rw[Ox,DP,e1];by_cases hc:a+k<N/\k<48
  ·have hb:=EG p (a+k);have hs:=xU p (min 48 (N-a)) a F0;rw[<-hk']at hs;rw[B0 TZ,Q9 p _ (a+k) F0 F0,Aa,B! GZ,hend]
  ·rw[B! TZ,hend]
 |j+1,k,q+1,hk,hq=>by
  obtain⟨hN,hl,hz⟩:=h;have hle:=dO p (min 48 (N-a)) a;have hb:=yB p (min 48 (N-a)) a k F0;have e1:Ad (a:Int) (k:Int)=((a+k:Nat):Int):=by rw[Ak];omega
  rw[Ox,DP,e1,B0 TZ,Q9 p _ (a+k) F0 F0,Aa,hb,B0 B6,Ak];exact Bkt ⟨hN,hl,hz⟩ a ha j (k+1) q F0 F0
theorem Aub{p:LB}{N:Nat}(h:okB p N)(a:Nat)(ha:a<N):Ay2 p (N:Int) (a:Int)=some (unR p N a):=by
 have hle:=dO p (min 48 (N-a)) a;have:=Bkt h a ha (Hf p a (min 48 (N-a))) 0 Au F0 D1;exact this
theorem Aus{p:LB}{N a:Nat}(h:Hf p a (min 48 (N-a))<min 48 (N-a)):unS p N a=(((Hf p a (min 48 (N-a)):Nat):Int),((a+Hf p a (min 48 (N-a))+1:Nat):Int),0):=by rw[unS,B0 h]
theorem Awa{p:LB}{N a:Nat}(h:¬Hf p a (min 48 (N-a))<min 48 (N-a))(h2:Hf p a (min 48 (N-a))=48):unS p N a=(48,((a+48:Nat):Int),0):=by rw[unS,B! h,B0 h2]
theorem Atq{p:LB}{N a:Nat}(h:¬Hf p a (min 48 (N-a))<min 48 (N-a))(h2:¬Hf p a (min 48 (N-a))=48):unS p N a=(0,0,24):=by rw[unS,B! h,B! h2]
theorem Aqb{p:LB}{N:Nat}(h:okB p N)(a:Nat)(ha:N<=a):PR p (N:Int) (a:Int)=some (0,0,24):=by
 rw[PR,EL,CC h,Aa,B! D3,B! I_,B0 I8]
def YU(p:LB)(N a k:Nat):UInt32×Int×Int:=
 if N<=a then(0,0,24)else
 if Hf p a (min 48 (N-a))<min 48 (N-a)then
  (if N<a+Hf p a (min 48 (N-a))+1+k then(0,0,24)else(UInt32.ofNat (Hf p a (min 48 (N-a))*2^k+Cg p (a+Hf p a (min 48 (N-a))+1) k),((a+Hf p a (min 48 (N-a))+1+k:Nat):Int),0))
 else if Hf p a (min 48 (N-a))=48 then
  (if N<a+48+32 then(0,0,24)else if Cg p (a+48) 32/2^k<48 then(0,0,12)else(UInt32.ofNat (Cg p (a+48) 32),((a+48+32:Nat):Int),0))
 else(0,0,24)
theorem I2{p:LB}{a n:Nat}(h:n<=32):(Ae (Rq p a n):UInt32)=UInt32.ofNat (Cg p a n):=by
 have e:(Ae (Rq p a n):UInt32)=UInt32.ofNat (Rq p a n).toNat:=by simp only[Ae,Lz,Gn]
 rw[e,BI p a n F0]
theorem dP{n:Nat}(h:n<4294967296):(UInt32.ofNat n).toNat=n:=by rw[HO];exact D0 h
theorem Ahl(p:LB)(a:Nat){n:Nat}(h:n<=32):Cg p a n<4294967296:=by
 have h1:=Rl p n a;have h2:2^n<=2^32:=G7 F0 h;omega
theorem Beq{q v k:Nat}(hq:q<48)(hv:v<2^k)(hk:k<=24):zT (Dy (Ae (q:Int):UInt32) k) (UInt32.ofNat v)=UInt32.ofNat (q*2^k+v):=by
 have hp:2^k<=2^24:=G7 F0 hk;have h1:q*2^k<=47*2^24:=IP F0 hp;rw[Azt];apply UInt32.toNat_inj.1;rw[UInt32.toNat_or,qH,zo,dP F0,dP (n:=v) F0,D0 F0,G? q,<-P! hv,dP dD]
theorem Azo{p:LB}{N:Nat}(h:okB p N)(a k:Nat)(hk:k<=24):wE p (N:Int) (a:Int) (k:Int)=some (YU p N a k):=by
 have hN:=h.1;rw[wE,mS,CC h,Aa,B! D3,B! HM];by_cases ha:N<=a
 ·rw[Aqb h a ha,Aa,YU,B0 ha];rfl
 have hle:=dO p (min 48 (N-a)) a;rw[Av6 h a F0,Aa];by_cases h1:Hf p a (min 48 (N-a))<min 48 (N-a)
 ·have hS:YU p N a k=if N<a+Hf p a (min 48 (N-a))+1+k then(0,0,24)else(UInt32.ofNat (Hf p a (min 48 (N-a))*2^k+Cg p (a+Hf p a (min 48 (N-a))+1) k),((a+Hf p a (min 48 (N-a))+1+k:Nat):Int),0):=by rw[YU,B! ha,B0 h1]
  rw[Aus h1,hS];generalize Hf p a (min 48 (N-a))=q at*
  simp only;rw[B! D3,B! GZ,YB,mL,Y1 h _ k F0,Aa];by_cases h2:N<a+q+1+k
  ·rw[B0 h2,B0 h2];rfl
  ·rw[B! h2,B! h2];simp only;have z:(GI.toZ (k:Int)).toNat=k:=rfl;rw[B! D3,B0 D2,Bl I?,Aa,z,I2 F0,Beq F0 (Rl _ _ _) hk,Ak];rfl
 ·by_cases h2:Hf p a (min 48 (N-a))=48
  ·have hS:YU p N a k=if N<a+48+32 then(0,0,24)else if Cg p (a+48) 32/2^k<48 then(0,0,12)else(UInt32.ofNat (Cg p (a+48) 32),((a+48+32:Nat):Int),0):=by rw[YU,B! ha,B! h1,B0 h2]
   have hg:=Y1 h (a+48) 32 F0;rw[Awa h1 h2,hS];simp only;rw[B! D3,B0 NG,YB,mL];refine H9 (congrArg (λo=>Option.bind o _) hg) ?_;rw[Aa];by_cases h3:N<a+48+32
   ·rw[B0 h3,B0 h3];rfl
   ·rw[B! h3,B! h3];simp only;have z:(GI.toZ (k:Int)).toNat=k:=rfl;have hv:=Ahl p (a+48) (n:=32) F0;rw[B! D3,B! I_,CO,Bl I?,Aa,Aa,z,I2 F0,Am6];have e:(decide ((48:UInt32).toNat<= (Cn (UInt32.ofNat (Cg p (a+48) 32)) k).toNat))=decide (¬Cg p (a+48) 32/2^k<48):=by
     rw[RT,dP hv];simp
    rw[e];by_cases h4:Cg p (a+48) 32/2^k<48
    ·rw[B0 (by simp[h4]),B0 h4]
    ·rw[B! B8,B! h4,Ak];rfl
  ·rw[Atq h1 h2,YU,B! ha,B! h1,B! h2];rfl
theorem Aa3(k:Nat)(hk:k<=63):∀(j i q:Nat),i+j=k->j<q->Md (k:Int) q (UInt64.ofNat (2^i)) (i:Int)=some (UInt64.ofNat (2^k))
 |0,i,q+1,hi,_=>by
  rw[Md,Yu,B! D2,show i=k by omega];rfl
 |j+1,i,q+1,hi,hq=>by
  have e:Bg (UInt64.ofNat (2^i)) (2:UInt64)=UInt64.ofNat (2^(i+1)):=by
   rw[TC,HG,kO];rfl
  rw[Md,Yu,B0 D2,Ak,e];exact Aa3 k hk j (i+1) q F0 F0
theorem TE(k:Nat)(hk:k<=63):Ho (k:Int)=some (UInt64.ofNat (2^k)):=
 Aa3 k hk k 0 Au F0 D1
theorem dJ{k:Nat}(hk:k<=63):(UInt64.ofNat (2^k)).toNat=2^k:=by
 have hp:2^k<=2^63:=G7 F0 hk;rw[H7,D0 F0]
theorem Ay3(v:UInt32)(k:Nat)(hk:k<=24):IS v (k:Int)=some ((min 48 (v.toNat/2^k):Nat):Int):=by
 have hpos:0<2^k:=K0 F0;have hv:=v.toNat_lt;rw[IS,TE k F0,Aa,Bl (by rw[XP];simp only[N1,ne_eq,<-RS,dJ (show k<=63 by omega)];simp),Aa];have e:(Bo (Ae v:UInt64) (UInt64.ofNat (2^k))).toNat=v.toNat/2^k:=by
  rw[M8,XD,Ef,dJ F0,H7,D0 F0]
 have hle:v.toNat/2^k<=v.toNat:=HP _ _;have e2:Fq (48:UInt64) (Bo (Ae v:UInt64) (UInt64.ofNat (2^k)))=UInt64.ofNat (min 48 (v.toNat/2^k)):=by
  apply UInt64.toNat_inj.1;rw[H7,D0 F0];show(if _ then _ else _:UInt64).toNat=_;rw[show(GI.toZ (Bo (Ae v:UInt64) (UInt64.ofNat (2^k))))=((v.toNat/2^k:Nat):Int) by rw[Lz,e],show GI.toZ (48:UInt64)=48 from rfl];split
  ·rw[e];omega
  ·show 48=_;omega
 rw[e2,X7 (by rw[H7,D0]<;>omega),H7,D0 F0]
theorem At7{p:LB}{N:Nat}(h:okB p N)(a k:Nat)(hk:k<=24):PM p (N:Int) (a:Int) (k:Int)=some (YU p N a k):=by
 obtain⟨hN,hl,hz⟩:=h;have h:okB p N:=⟨hN,hl,hz⟩;rw[PM,Akj];by_cases ha:N<=a
 ·rw[B0 I8,YU,B0 ha]
 have hle:=dO p (min 48 (N-a)) a;rw[B! I8,Aub h a F0,Aa,unR];by_cases h1:Hf p a (min 48 (N-a))<min 48 (N-a)
 ·have hS:YU p N a k=if N<a+Hf p a (min 48 (N-a))+1+k then(0,0,24)else(UInt32.ofNat (Hf p a (min 48 (N-a))*2^k+Cg p (a+Hf p a (min 48 (N-a))+1) k),((a+Hf p a (min 48 (N-a))+1+k:Nat):Int),0):=by rw[YU,B! ha,B0 h1]
  rw[Aus h1,hS];generalize Hf p a (min 48 (N-a))=q at*
  rw[B0 rfl];simp only;rw[B! GZ,DR,DH,Bu];by_cases h2:N<a+q+1+k
  ·rw[B0 TZ,B0 h2]
  ·have hp:2^k<=2^24:=G7 F0 hk;have hm:q*2^k<=47*2^24:=IP F0 hp;have hv:=Rl p k (a+q+1);have e:(Ae (Ad (Bg (Ae (q:Int):UInt64) (UInt64.ofNat (2^k))) (Rq p (a+q+1) k)):UInt32)=UInt32.ofNat (q*2^k+Cg p (a+q+1) k):=by
    have e1:Ad (Bg (Ae (q:Int):UInt64) (UInt64.ofNat (2^k))) (Rq p (a+q+1) k)=UInt64.ofNat (q*2^k+Cg p (a+q+1) k):=by
     rw[TJ,TC,Ye,Rq,v?,kO]
    rw[e1];have e2:∀x:UInt64,(Ae x:UInt32)=UInt32.ofNat x.toNat:=λx=>by simp only[Ae,Lz,Gn]
    rw[e2,H7,D0 F0]
   rw[B! TZ,B! h2,yR p _ _ k F0 F0,Aa,B0 D2,TE k F0,Aa,e,Ak];rfl
 ·by_cases h2:Hf p a (min 48 (N-a))=48
  ·have hS:YU p N a k=if N<a+48+32 then(0,0,24)else if Cg p (a+48) 32/2^k<48 then(0,0,12)else(UInt32.ofNat (Cg p (a+48) 32),((a+48+32:Nat):Int),0):=by rw[YU,B! ha,B! h1,B0 h2]
   rw[Awa h1 h2,hS,B0 rfl];simp only;rw[B0 NG,DR,DH,Bu];by_cases h3:N<a+48+32
   ·rw[B0 TZ,B0 h3]
   ·have hg:=yR p (N:Int) (a+48) 32 F0 F0;have hv:=Ahl p (a+48) (n:=32) F0;rw[B! TZ,B! h3];refine H9 (congrArg (λo=>Option.bind o _) hg) ?_;rw[Aa,B! I_,I2 F0,Ay3 _ k hk,Aa,dP hv];by_cases h4:Cg p (a+48) 32/2^k<48
    ·rw[B0 D2,B0 h4]
    ·rw[B! D2,B! h4,Ak];rfl
  ·rw[Atq h1 h2,YU,B! ha,B! h1,B! h2];have e:(if((0:Int),(0:Int),(24:Int)).2.2=0 then(((0:Int),(0:Int),(24:Int)).1,((0:Int),(0:Int),(24:Int)).2.1)else((-1:Int),(0:Int)))=(-1,0):=B6
   rw[e];rfl
theorem Bdh{p:LB}{N a k:Nat}{v:UInt32}{n:Int}(h:YU p N a k=(v,n,0)):(a:Int)<n/\n<=N:=by
 unfold YU at h;split at h
 ·simp at h
 split at h
 ·split at h
  ·simp at h
  ·simp only[D5]at h;omega
 ·split at h
  ·split at h
   ·simp at h
   ·split at h
    ·simp at h
    ·simp only[D5]at h;omega
  ·simp at h
def okD(k l:Nat)(s t:UInt64):Prop:=k<=24/\l<=24/\s.toNat<=68719476735/\t.toNat<=68719476735
theorem Aho(a b:UInt64)(h:a.toNat<=b.toNat):Fq a b=a:=by
 show(if _ then _ else _)=_;rw[Lz,Lz,B! F0]
theorem Aad(a:UInt64):geq a a=true:=by rw[sw];simp
theorem As2{k l:Nat}{t:UInt64}(h:okD k l s t):bN (k:Int) (l:Int) s t=some 0:=by
 obtain⟨h1,h2,h3,h4⟩:=h;have e1:Fq (wY (k:Int) 0) 24=(k:Int):=by rw[IQ,f?];omega
 have e2:Fq (wY (l:Int) 0) 24=(l:Int):=by rw[IQ,f?];omega
 have e3:Fq s (68719476735:UInt64)=s:=Aho _ _ (by simpa using h3);have e4:Fq t (68719476735:UInt64)=t:=Aho _ _ (by simpa using h4);have e5:∀a:Int,geq a a=true:=λa=>by rw[Ar];simp
 rw[bN,QW,gN,QP,fD,Bl4,e1,e2,e3,e4,e5,e5,Aad,Aad];rfl
def Zv(s n:UInt64):UInt64:=s+n-s/16
def kS(k:Nat)(s:UInt64):Nat:=if 0<k/\s.toNat<2^(k+4)then k-1 else if k<24/\2^(k+5)<s.toNat then k+1 else k
theorem Bcg{k:Nat}(h:k<=24)(s:UInt64):kS k s<=24:=by
 unfold kS;by_cases h1:0<k/\s.toNat<2^(k+4)
 ·rw[B0 h1];omega
 ·rw[B! h1];split<;>omega
theorem Am4{k:Nat}(h:¬(0<k/\s.toNat<2^(k+4))):(if k<24/\2^(k+5)<s.toNat then((k+1:Nat):Int)else(k:Int))=((kS k s:Nat):Int):=by
 rw[kS,B! h];split<;>rfl
theorem Am7{n:UInt64}(h:s.toNat<=68719476735)(hn:n.toNat<=4294967295):(Zv s n).toNat<=68719476735:=by
 have h1:=s.toNat_lt;have e:(s+n).toNat=s.toNat+n.toNat:=by rw[UInt64.toNat_add];omega
 have e2:(s/16).toNat=s.toNat/16:=by rw[XD];rfl
 rw[Zv,tM _ _ (by rw[tN,e,e2];omega),e,e2];omega
theorem hU(s n:UInt64):Ad s (Ap n (Cn s (GI.toZ (4:UInt64)).toNat))=Zv s n:=by
 have e:Cn s (GI.toZ (4:UInt64)).toNat=s/16:=by
  apply UInt64.toNat_inj.1;rw[MM,XD];rfl
 rw[e,TJ,N7,Zv,UInt64.sub_eq_add_neg,UInt64.sub_eq_add_neg,UInt64.add_assoc]
theorem Ani(s n:UInt64):Ap (Ad s n) (Bo s (16:UInt64))=Zv s n:=by rw[TJ,N7,M8,Zv]
theorem Bf7{k:Nat}(h:k<=24):(Dy (16:UInt64) k).toNat=2^(k+4):=by
 have hp:2^k<=2^24:=G7 F0 h;rw[cK,NZ]
 show 16*2^k %_=2^k*16;rw[D0 F0,G?]
theorem Be0{k:Nat}(h:k<=24):(Dy (32:UInt64) k).toNat=2^(k+5):=by
 have hp:2^k<=2^24:=G7 F0 h;rw[cK,NZ]
 show 32*2^k %_=2^k*32;rw[D0 F0,G?]
theorem Bb4{k:Nat}(h:0<k)(h2:s.toNat<2^(k+4)):kS k s=k-1:=by rw[kS,B0 ⟨h,h2⟩]
theorem Bcl{k:Nat}(h:¬(0<k/\s.toNat<2^(k+4)))(h2:k<24)(h3:2^(k+5)<s.toNat):kS k s=k+1:=by rw[kS,B! h,B0 ⟨h2,h3⟩]
theorem iD{k:Nat}(h:¬(0<k/\s.toNat<2^(k+4)))(h2:¬(k<24/\2^(k+5)<s.toNat)):kS k s=k:=by rw[kS,B! h,B! h2]
theorem iX(k:Nat)(hk:k<=24)(s:UInt64)(f:Int->Option α):
  (if(Ei (k:Int) (0:Int))=true then(
   Option.bind (Is (Mv (k:Int) (0:Int))) λ_=>
   if(Ck s (Dy (16:UInt64) (GI.toZ (k:Int)).toNat))=true then f (Ap (k:Int) (1:Int))
   else(if(Ck (k:Int) (24:Int))=true then(
    Option.bind (Is (Mv (k:Int) (0:Int))) λ_=>
    if(Ei s (Dy (32:UInt64) (GI.toZ (k:Int)).toNat))=true then f (Ad (k:Int) (1:Int))else f (k:Int))
    else f (k:Int)))
  else(if(Ck (k:Int) (24:Int))=true then(
    Option.bind (Is (Mv (k:Int) (0:Int))) λ_=>
    if(Ei s (Dy (32:UInt64) (GI.toZ (k:Int)).toNat))=true then f (Ad (k:Int) (1:Int))else f (k:Int))
    else f (k:Int)))=f ((kS k s:Nat):Int):=by
 have z:(GI.toZ (k:Int)).toNat=k:=rfl;rw[z,Bl I?];simp only[Aa];rw[um,dS,Bf7 hk,Be0 hk];by_cases h0:0<k
 ·rw[B0 G6];by_cases h1:s.toNat<2^(k+4)
  ·rw[B0 (by simp[h1]),Bb4 h0 h1,Bu];congr 1;omega
  ·rw[B! B8];by_cases h2:k<24
   ·rw[B0 D2];by_cases h3:2^(k+5)<s.toNat
    ·rw[B0 (by simp[h3]),Bcl (λh=>h1 h.2) h2 h3,Ak];rfl
    ·rw[B! B8,iD (λh=>h1 h.2) (λh=>h3 h.2)]
   ·rw[B! D2,iD (λh=>h1 h.2) (λh=>h2 h.1)]
 ·rw[B! G6];by_cases h2:k<24
  ·rw[B0 D2];by_cases h3:2^(k+5)<s.toNat
   ·rw[B0 (by simp[h3]),Bcl (λh=>h0 h.1) h2 h3,Ak];rfl
   ·rw[B! B8,iD (λh=>h0 h.1) (λh=>h3 h.2)]
  ·rw[B! D2,iD (λh=>h0 h.1) (λh=>h2 h.1)]
theorem Aol(k:Nat)(hk:k<=24)(s n:UInt64):Zi (k:Int) s n=some (((kS k (Zv s n):Nat):Int),Zv s n):=by
 have g1:Ad (k:Int) 4=((k+4:Nat):Int):=by rw[Ak];omega
 have g2:Ad (k:Int) 5=((k+5:Nat):Int):=by rw[Ak];omega
 have hp:Zy (k:Int) s n=some (if k<24/\2^(k+5)<(Zv s n).toNat then((k+1:Nat):Int)else(k:Int),Zv s n):=by
  rw[Zy,Ajx,g2,TE _ F0,Aa,Ani,dS,dJ F0];by_cases h2:k<24
  ·rw[B0 D2];by_cases h3:2^(k+5)<(Zv s n).toNat
   ·rw[B0 (by simp[h3]),B0 ⟨h2,h3⟩,Ak];rfl
   ·rw[B! B8,B! (λh=>h3 h.2)]
  ·rw[B! D2,B! (λh=>h2 h.1)]
 rw[Zi,Ah9,g1,TE _ F0,Aa,Ani,um,dJ F0,hp];by_cases h0:0<k
 ·rw[B0 G6];by_cases h1:(Zv s n).toNat<2^(k+4)
  ·rw[B0 (by simp[h1]),Bb4 h0 h1,Bu];congr 2;omega
  ·rw[B! B8,Am4 (λh=>h1 h.2)]
 ·rw[B! G6,Am4 (λh=>h0 h.1)]
def sj(v:UInt32):UInt64:=UInt64.ofNat v.toNat
theorem Auj(v:UInt32):(sj v).toNat<=4294967295:=by have:=v.toNat_lt;rw[sj,H7,D0 F0];omega
def oN(k:Nat)(v:UInt32):UInt32:=UInt32.ofNat (v.toNat-2^k)
def lK(l:Nat)(t:UInt64)(k:Nat)(v:UInt32):Nat:=if v.toNat<2^k then l else kS l (Zv t (sj (oN k v)))
def lT(t:UInt64)(k:Nat)(v:UInt32):UInt64:=if v.toNat<2^k then t else Zv t (sj (oN k v))
theorem Atd{k l:Nat}{t:UInt64}(h:okD k l s t)(v:UInt32):okD (kS k (Zv s (sj v))) (lK l t k v) (Zv s (sj v)) (lT t k v):=by
 obtain⟨h1,h2,h3,h4⟩:=h;refine⟨Bcg h1 _,?_,Am7 h3 (Auj v),?_⟩
 ·unfold lK;split; · exact h2
  exact Bcg h2 _
 ·unfold lT;split; · exact h4
  exact Am7 h4 (Auj _)
theorem Bd0(k l:Nat)(s t:UInt64)(hk:k<=24)(v:UInt32):PF (k:Int) (l:Int) s t v=some (decide (v.toNat<2^k)):=by
 have:=v.toNat_lt;rw[PF,TE k F0,Aa,um,dJ F0,Ef,H7,D0 F0]
theorem left_eq(k l:Nat)(s t:UInt64)(hk:k<=24)(v:UInt32)(h:¬v.toNat<2^k):KS (k:Int) (l:Int) s t v=some (oN k v):=by
 have:=v.toNat_lt;have e2:∀x:UInt64,(Ae x:UInt32)=UInt32.ofNat x.toNat:=λx=>by simp only[Ae,Lz,Gn]
 have e3:(UInt64.ofNat v.toNat).toNat=v.toNat:=by rw[H7,D0 F0]
 rw[KS,TE k F0,Aa,e2,N7,Ef,tM _ _ (by rw[tN,dJ F0,e3];omega),dJ F0,e3,oN]
theorem Arz{k l:Nat}{t:UInt64}(h:okD k l s t)(v:UInt32):CV (k:Int) (l:Int) s t v=some (((kS k (Zv s (sj v)):Nat):Int),((lK l t k v:Nat):Int),Zv s (sj v),lT t k v):=by
 obtain⟨h1,h2,h3,h4⟩:=h;have hp:∀(r1:Int) (r2:UInt64),Wk v (k:Int) (l:Int) s t r1 r2=some (((kS k (Zv s (sj v)):Nat):Int),r1,Zv s (sj v),r2):=by
  intro r1 r2;rw[Wk,Acu,Ef,Aol k h1,Aa];rfl
 rw[CV,Abt,Bd0 k l s t h1,Aa];by_cases hv:v.toNat<2^k
 ·rw[B! (by simp[hv]),hp,lK,B0 hv,lT,B0 hv]
 ·rw[B0 B8,left_eq k l s t h1 v hv,Aa,Ef,Aol l h2,Aa];simp only;rw[hp,lK,B! hv,lT,B! hv];rfl
theorem Q_(k l:Nat)(s t:UInt64)(hk:k<=24)(v:UInt32):PX (k:Int) (l:Int) s t v=some (if v.toNat<2^k then(0,v)else(1,oN k v)):=by
 have hp:2^k<=2^24:=G7 F0 hk;have hpos:0<2^k:=K0 F0;have hl:=v.toNat_lt;have z:(GI.toZ (k:Int)).toNat=k:=rfl;have e1:geq (Cn v k) (0:UInt32)=decide (v.toNat<2^k):=by
  rw[oM,F?];simp only[G3,<-kH,RT,D!]
  show _/_=0↔_;rw[Nat.div_eq_zero_iff];omega
 have e2:¬v.toNat<2^k->Ap v (Dy (1:UInt32) k)=oN k v:=by
  intro h;have e3:(Dy (1:UInt32) k).toNat=2^k:=by rw[qH];show 1*2^k %_=_;rw[D0 F0,IX]
  apply UInt32.toNat_inj.1;rw[D',t? _ _ (by rw[tA,e3];omega),e3,oN,dP F0]
 rw[PX,Bl I?,Aa,Aa,z,e1];by_cases h:v.toNat<2^k
 ·rw[B0 (by simp[h]),B0 h]
 ·rw[B! B8,B! h,e2 h]
abbrev Rd:=UInt32×Int×Int×Int×UInt64×UInt64×Int
theorem Bm2{k l:Nat}{t:UInt64}(h:okD k l s t)(v:UInt32)(r:Int):XQ (k:Int) (l:Int) s t v r=some (v,r,((kS k (Zv s (sj v)):Nat):Int),((lK l t k v:Nat):Int),Zv s (sj v),lT t k v,0):=by
 obtain⟨h1,h2,h3,h4⟩:=h;have hp:∀(x:Int) (y:UInt64),MI v r (k:Int) s x y=some (v,r,((kS k (Zv s (sj v)):Nat):Int),x,Zv s (sj v),y,0):=by
  intro x y;rw[MI,nP,Ef,hU,iX k h1];rw[lC,nF,fV,Bl2,Ef,hU];rfl
 rw[XQ,lP,Q_ k l s t h1,Aa];by_cases hv:v.toNat<2^k
 ·rw[B0 hv];simp only;rw[B! SL,hp,lK,B0 hv,lT,B0 hv]
 ·rw[B! hv];simp only;rw[B0 NG,Ef,hU,iX l h2 _ (λx=>MI v r (k:Int) s x (Zv t (UInt64.ofNat (oN k v).toNat))),hp,lK,B! hv,lT,B! hv];rfl
def gU(p:LB)(N a k l:Nat):UInt32×Int×Int:=
 if N<=a then(0,0,24)else
 if Hx p a=0 then(if N<a+1+k then(0,0,24)else(UInt32.ofNat (Cg p (a+1) k),((a+1+k:Nat):Int),0))else
 if(YU p N (a+1) l).2.2≠0 then(0,0,(YU p N (a+1) l).2.2)else
 if 4294967295<(YU p N (a+1) l).1.toNat+2^k then(0,0,12)else(UInt32.ofNat ((YU p N (a+1) l).1.toNat+2^k),(YU p N (a+1) l).2.1,0)
theorem Bed{p:LB}{N a k l:Nat}(h:(gU p N a k l).2.2=0):(a:Int)<(gU p N a k l).2.1/\ (gU p N a k l).2.1<=N:=by
 revert h
 unfold gU;split
 ·simp
 split
 ·split
  ·simp
  ·simp only;omega
 ·split
  ·intro h;contradiction
  ·rename_i h1;split
   ·simp
   ·intro _;have:=Bdh (p:=p) (N:=N) (a:=a+1) (k:=l) (v:=(YU p N (a+1) l).1) (n:=(YU p N (a+1) l).2.1) (by
     have e:(YU p N (a+1) l).2.2=0:=by simpa using h1
     rw[<-e])
    simp only;omega
theorem Azm{p:LB}{N:Nat}(h:okB p N)(a:Nat){k l:Nat}{t:UInt64}(hd:okD k l s t):PH p (N:Int) (a:Int) (k:Int) (l:Int) s t=
  some (if(gU p N a k l).2.2≠0 then(0,0,0,0,0,0,(gU p N a k l).2.2)else((gU p N a k l).1,(gU p N a k l).2.1,((kS k (Zv s (sj (gU p N a k l).1)):Nat):Int),((lK l t k (gU p N a k l).1:Nat):Int),Zv s (sj (gU p N a k l).1),lT t k (gU p N a k l).1,0)):=by
 obtain⟨h1,h2,h3,h4⟩:=hd;have hd:okD k l s t:=⟨h1,h2,h3,h4⟩;have hN:=h.1;have hg:=Y1 h a 1 F0;have hb:=EG p a;rw[PH,nZ,CC h,Aa,B! D3,As2 hd,Aa,B! D3,nV,lW];refine H9 (congrArg (λo=>Option.bind o _) hg) ?_;rw[Aa];by_cases ha:N<=a
 ·have hS:gU p N a k l=(0,0,24):=by rw[gU,B0 ha]
  rw[B0 F0,hS];rfl
 rw[B! F0];simp only;have e0:geq (Rq p a 1) (0:UInt64)=decide (Hx p a=0):=by
  rw[sw,F?];simp only[G3,<-RS,D!,BI p a 1 F0,J1];rfl
 have e1:Ad (a:Int) 1=((a+1:Nat):Int):=by rw[Ak];omega
 rw[B! D3,e0,e1];by_cases hz:Hx p a=0
 ·rw[B0 (by simp[hz]),Y1 h (a+1) k F0,Aa];by_cases h5:N<a+1+k
  ·have hS:gU p N a k l=(0,0,24):=by rw[gU,B! ha,B0 hz,B0 h5]
   rw[B0 h5,hS];rfl
  ·have hS:gU p N a k l=(UInt32.ofNat (Cg p (a+1) k),((a+1+k:Nat):Int),0):=by rw[gU,B! ha,B0 hz,B! h5]
   rw[B! h5,hS];simp only;rw[B! D3,Bm2 hd,I2 F0,Ak];rfl
 ·rw[B! (by simp[hz]),Azo h (a+1) l h2,Aa];have hp:2^k<=2^24:=G7 F0 h1;by_cases h5:(YU p N (a+1) l).2.2≠0
  ·have hS:gU p N a k l=(0,0,(YU p N (a+1) l).2.2):=by rw[gU,B! ha,B! hz,B0 h5]
   rw[hS];generalize YU p N (a+1) l=R at*
   obtain⟨v,n,e⟩:=R;simp only at*
   rw[B0 (by rw[Aj];simpa using h5),B0 h5]
  ·have hv:=(YU p N (a+1) l).1.toNat_lt;have z:(GI.toZ (k:Int)).toNat=k:=rfl;have e3:(Dy (1:UInt32) k).toNat=2^k:=by rw[qH];show 1*2^k %_=_;rw[D0 F0,IX]
   by_cases h6:4294967295<(YU p N (a+1) l).1.toNat+2^k
   ·have hS:gU p N a k l=(0,0,12):=by rw[gU,B! ha,B! hz,B! h5,B0 h6]
    rw[hS];generalize YU p N (a+1) l=R at*
    obtain⟨v,n,e⟩:=R;simp only at*
    rw[B! (by rw[Aj];simpa using h5),Bl I?,Aa,z,B0 (by rw[Am8,wm,vA,e3];simp;omega),B0 B6]
   ·have hS:gU p N a k l=(UInt32.ofNat ((YU p N (a+1) l).1.toNat+2^k),(YU p N (a+1) l).2.1,0):=by rw[gU,B! ha,B! hz,B! h5,B! h6]
    rw[hS];generalize YU p N (a+1) l=R at*
    obtain⟨v,n,e⟩:=R;simp only at*
    have e4:Ad v (Dy (1:UInt32) k)=UInt32.ofNat (v.toNat+2^k):=by
     apply UInt32.toNat_inj.1;rw[wm,vA,e3,dP F0,D0 F0]
    rw[B! (by rw[Aj];simpa using h5),Bl I?,Aa,z,B! (by rw[Am8,wm,vA,e3];simp;omega),e4,Bm2 hd];rfl
theorem Awq{p:LB}{N:Nat}(h:okB p N)(a:Nat)(k l:Nat)(s t:UInt64)(h1:k<=24)(h2:l<=24):PJ p (N:Int) (a:Int) (k:Int) (l:Int) s t=some (gU p N a k l):=by
 have hN:=h.1;have hl:=h.2.1;have hb:=EG p a;rw[PJ];by_cases ha:N<=a
 ·rw[B0 I8,gU,B0 ha]
 rw[B! I8,Q9 p _ a F0 F0,Aa,Bu (a:=(N:Int)) (b:=(a:Int)) F0 F0,Bu];have e1:Ad (a:Int) 1=((a+1:Nat):Int):=by rw[Ak];omega
 rw[e1];by_cases hz:Hx p a=0
 ·rw[B0 (by rw[Ar];simp[hz])];by_cases h5:N<a+1+k
  ·rw[B0 D2,gU,B! ha,B0 hz,B0 h5]
  ·rw[B! D2,yR p _ (a+1) k F0 F0,Aa,gU,B! ha,B0 hz,B! h5,I2 F0,Ak];rfl
 ·rw[B! GZ,At7 h (a+1) l h2,Aa];have hp:2^k<=2^24:=G7 F0 h1;have hv:=(YU p N (a+1) l).1.toNat_lt;have e2:∀x:UInt64,(Ae x:UInt32)=UInt32.ofNat x.toNat:=λx=>by simp only[Ae,Lz,Gn]
  by_cases h5:(YU p N (a+1) l).2.2≠0
  ·have hS:gU p N a k l=(0,0,(YU p N (a+1) l).2.2):=by rw[gU,B! ha,B! hz,B0 h5]
   rw[hS];generalize YU p N (a+1) l=R at*
   obtain⟨v,n,e⟩:=R;simp only at*
   rw[B0 (by rw[Aj];simpa using h5)]
  ·have hsum:∀v:UInt32,(Ad (Ae v:UInt64) (UInt64.ofNat (2^k))).toNat=v.toNat+2^k:=by
    intro v;have:=v.toNat_lt;have:=K0 (n:=k) (show 0<2 by omega);rw[TJ,UInt64.toNat_add,Ef,dJ F0,H7];omega
   by_cases h6:4294967295<(YU p N (a+1) l).1.toNat+2^k
   ·have hS:gU p N a k l=(0,0,12):=by rw[gU,B! ha,B! hz,B! h5,B0 h6]
    rw[hS];generalize YU p N (a+1) l=R at*
    obtain⟨v,n,e⟩:=R;simp only at*
    rw[B! (by rw[Aj];simpa using h5),TE k F0,Aa,B0 (by rw[dS,hsum];simpa using h6)]
   ·have hS:gU p N a k l=(UInt32.ofNat ((YU p N (a+1) l).1.toNat+2^k),(YU p N (a+1) l).2.1,0):=by rw[gU,B! ha,B! hz,B! h5,B! h6]
    rw[hS];generalize YU p N (a+1) l=R at*
    obtain⟨v,n,e⟩:=R;simp only at*
    rw[B! (by rw[Aj];simpa using h5),TE k F0,Aa,B! (by rw[dS,hsum];simpa using h6),e2,hsum]
theorem F_{p:Prop}(h:p:=by rw[Aj];simp;omega):p:=h
theorem KE{p:Prop}(h:p:=by rw[<-K7];omega):p:=h
abbrev DuN:=Nat×Nat×UInt64×UInt64
def okN(d:DuN):Prop:=okD d.1 d.2.1 d.2.2.1 d.2.2.2
def nxt(d:DuN)(v:UInt32):DuN:=(kS d.1 (Zv d.2.2.1 (sj v)),lK d.2.1 d.2.2.2 d.1 v,Zv d.2.2.1 (sj v),lT d.2.2.2 d.1 v)
def gX:DuN:=(10,10,16384,16384)
theorem Auu:okN gX:=⟨B6,B6,B6,B6⟩
theorem Beh{d:DuN}(h:okN d)(v:UInt32):okN (nxt d v):=Atd h v
abbrev DuL:=Int×Int×UInt64×UInt64×Unit
def toI(d:DuN):DuL:=((d.1:Int),(d.2.1:Int),d.2.2.1,d.2.2.2,())
def pV(ch:Nat)(v:LU)(c:Nat):Nat->DuN
 |0=>gX
 |m+1=>if m %ch=c then nxt (pV ch v c m) (v.getD m 0)else pV ch v c m
theorem sR(ch:Nat)(v:LU)(c:Nat):∀m,okN (pV ch v c m)
 |0=>Auu
 |m+1=>by rw[pV];split;exact Beh (sR ch v c m) _;exact sR ch v c m
theorem Aoq(ch:Nat)(v w:LU)(c:Nat):∀m,m<=v.length->pV ch (v++w) c m=pV ch v c m
 |0,_=>rfl
 |m+1,h=>by
  have e:(v++w).getD m 0=v.getD m 0:=by simp[D9,HQ (show m<v.length by omega)]
  rw[pV,pV,Aoq ch v w c m F0,e]
theorem oK(ch:Nat)(v:LU)(c:Nat):∀m,m<=c->c<ch->pV ch v c m=gX
 |0,_,_=>rfl
 |m+1,h,h2=>by rw[pV,B! (by rw[D0 F0];omega),oK ch v c m F0 h2]
theorem Aig(ch:Nat)(v:LU)(c i:Nat)(hi:i %ch=c)(hc:c<ch):∀j,j<ch->pV ch v c (i+1+j)=pV ch v c (i+1)
 |0,_=>rfl
 |j+1,h=>by
  have hne:(i+1+j) %ch≠c:=by
   intro e;have h1:(i+(1+j)) %ch=i %ch:=by rw[hi,<-e];congr 1;omega
   have h2:(1+j) %ch=0:=by
    have h3:=t! h1;rwa [P']at h3
   rw[D0 F0]at h2;omega
  rw[show i+1+(j+1)=(i+1+j)+1 by omega,pV,B! hne,Aig ch v c i hi hc j F0]
theorem Avh(ch:Nat)(v:LU)(c i:Nat)(hi:i %ch=c)(hc:c<ch):pV ch v c (i+ch)=nxt (pV ch v c i) (v.getD i 0):=by
 have h:=Aig ch v c i hi hc (ch-1) F0;rw[show i+1+(ch-1)=i+ch by omega]at h;rw[h,pV,B0 hi]
theorem N8{l:LU}{k:Nat}(h:k<l.length):Am l (k:Int)=some (l.getD k 0):=by
 rw[Bt h];simp[D9,h]
theorem JB(a b:Nat):Gz (a:Int) (b:Int)=((a %b:Nat):Int):=by rw[Gz,aI F0];omega
theorem Beo(ch:Nat)(v:LU)(hch:1<=ch)(sK:ch<=6)(hv:v.length<=4000):∀(j i q:Nat),i %ch=v.length %ch->i<=v.length->v.length-i<=j->j<q->
  Pq (ch:Int) v q (i:Int) ((pV ch v (v.length %ch) i).1:Int) ((pV ch v (v.length %ch) i).2.1:Int) (pV ch v (v.length %ch) i).2.2.1 (pV ch v (v.length %ch) i).2.2.2=
   some (((pV ch v (v.length %ch) v.length).1:Int),((pV ch v (v.length %ch) v.length).2.1:Int),(pV ch v (v.length %ch) v.length).2.2.1,(pV ch v (v.length %ch) v.length).2.2.2)
 |j,i,q+1,hi,hl,hj,hq=>by
  have hc:v.length %ch<ch:=I7 _ F0;rw[Pq,Acs];by_cases h:i<v.length
  ·have h1:=Arz (sR ch v (v.length %ch) i) (v.getD i 0);rw[B0 C2,N8 h,Aa,h1,Aa];have hle:i+ch<=v.length:=by
    have h2:=NW i ch;have h3:=NW v.length ch;rw[hi]at h2;have h4:ch*(i/ch)<ch*(v.length/ch):=F0
    have h5:=Nat.lt_of_mul_lt_mul_left h4;have h6:ch*(i/ch+1)<=ch*(v.length/ch):=RU _ h5;rw[cT]at h6;omega
   have ih:=Beo ch v hch sK hv (j-ch) (i+ch) q (by rw[XA];exact hi) hle F0 F0;rw[Avh ch v _ i hi hc]at ih;simp only;rw[Ak];exact ih
  ·rw[B! C2,show i=v.length by omega];rfl
theorem Aqz(ch:Nat)(v:LU)(hch:1<=ch)(sK:ch<=6)(hv:v.length<=4000):Ue (ch:Int) v=some (((pV ch v (v.length %ch) v.length).1:Int),((pV ch v (v.length %ch) v.length).2.1:Int),(pV ch v (v.length %ch) v.length).2.2.1,(pV ch v (v.length %ch) v.length).2.2.2):=by
 have hc:v.length %ch<ch:=I7 _ F0;have hle:v.length %ch<=v.length:=N0 _ _;have h:=Beo ch v hch sK hv v.length (v.length %ch) Au (by rw[Y4]) hle F0 D1;rw[oK ch v _ _ (E1 _) hc]at h;rw[Ue,Ac6,Qp,Aa];simp only;rw[Bl F_,Aa,Ac,JB];exact h
def now(ch:Nat)(v:LU):DuN:=pV ch v (v.length %ch) v.length
def P6(N a:Nat):Nat:=min 81 (N-a)
def Og(ch:Nat)(p:LB)(N a:Nat)(out:LU):UInt32×Int×Int:=gU (Sn p a (P6 N a)) (P6 N a) 0 (now ch out).1 (now ch out).2.1
def Xr(ch:Nat)(p:LB)(N:Nat):Nat->Nat->LU->LU×Nat×Int
 |0,a,out=>(out,a,0)
 |j+1,a,out=>if(Og ch p N a out).2.2≠0 then(out,a,(Og ch p N a out).2.2)else Xr ch p N j (a+(Og ch p N a out).2.1.toNat) (out++[(Og ch p N a out).1])
theorem vZ{ch:Nat}{p:LB}{N a:Nat}{out:LU}(h:(Og ch p N a out).2.2=0):0<(Og ch p N a out).2.1/\ (Og ch p N a out).2.1<=P6 N a:=by
 have:=Bed h;exact⟨this.1,this.2⟩
theorem zx{ch:Nat}{p:LB}{N a:Nat}{out:LU}(h:(Og ch p N a out).2.2=0):((a:Int)+(Og ch p N a out).2.1)=((a+(Og ch p N a out).2.1.toNat:Nat):Int):=by
 have:=vZ h;omega
def sts(ch:Nat)(v:LU):List DuL:=(List.range 6).map λc=>toI (pV ch v c v.length)
theorem oT{ch:Nat}{v:LU}{c:Nat}(h:c<6):Am (sts ch v) (c:Int)=some (toI (pV ch v c v.length)):=by
 rw[Bt (by simp[sts];exact h)];simp[sts]
theorem Aor{ch:Nat}{v:LU}{c:Nat}(x:UInt32)(h:c<6)(hc:c=v.length %ch):Nj (sts ch v) (c:Int) (toI (nxt (pV ch v c v.length) x))=some (sts ch (v++[x])):=by
 rw[Ww _ (by simp[sts];exact h)];congr 1;apply J4 (by simp[sts]);intro i h1 h2;rw[XG];simp only[sts,NB,NP];have e:(v++[x]).getD v.length 0=x:=by simp
 rw[CR,NO,pV,e,Aoq ch v [x] i v.length (E1 _)];by_cases hi:c=i
 ·subst hi;rw[B0 rfl,B0 hc.symm]
 ·rw[B! hi,B! F0]
theorem Bbd{ch:Nat}{v:LU}{c:Nat}(hc:c=v.length %ch):pV ch v c v.length=now ch v:=by rw[now,hc]
section
variable {p:LB} {N ch n:Nat}
theorem Aft(hp:okB p N)(h1:1<=ch)(h6:ch<=6)(hn:n*ch<=4000):∀(j a q:Nat) (out:LU),out.length+j=n*ch->j<q->a<=N->
  Qk (ch:Int) (n:Int) p (N:Int) q (a:Int) (out.length:Int) (sts ch out) out=
   some (if(Xr ch p N j a out).2.2≠0 then([],0,(Xr ch p N j a out).2.2)else((Xr ch p N j a out).1,((Xr ch p N j a out).2.1:Int),0))
 |j,a,q+1,out,hj,hq,ha=>by
  have hN:=hp.1;have hnn:n<=n*ch:=jf n F0;have em:Bg (n:Int) (ch:Int)=((n*ch:Nat):Int):=by rw[Fo KE KE,K7]
  rw[Qk,Xg,em];cases j with
  |zero=>
   rw[B! D2];rfl
  |succ j=>
   have hc:out.length %ch<6:=HJ (I7 _ F0) h6;have ew:Fq (Ad (a:Int) 81) (N:Int)=((a+P6 N a:Nat):Int):=by rw[IQ,Ak];unfold P6;omega
   have hw:a+P6 N a<=N:=by unfold P6;omega
   have hw2:P6 N a<=81:=by unfold P6;omega
   have hd:=Azm (G5 p a (P6 N a) F0) 0 (sR ch out (out.length %ch) out.length);have rD:gU (Sn p a (P6 N a)) (P6 N a) 0 (pV ch out (out.length %ch) out.length).1 (pV ch out (out.length %ch) out.length).2.1=Og ch p N a out:=rfl;rw[B0 D2,ew,Bdq hp a _ hw F0,Aa];simp only;rw[B! D3,Bl F_,Aa,JB,oT hc,Aa,Aa];refine H9 (congrArg (λo=>Option.bind o _) hd) ?_;rw[Aa,rD,Xr];by_cases he:(Og ch p N a out).2.2≠0
   ·rw[B0 he,B0 he];simp only;rw[Wn,Wm,B0 (by rw[Aj];simpa using he),B0 he]
   ·have he0:(Og ch p N a out).2.2=0:=by simpa using he
    have hok:=vZ he0;have hset:=Aor (ch:=ch) (v:=out) (Og ch p N a out).1 hc rfl;rw[B! he,B! he];simp only;rw[Wn,Wm,B! D3,Bl F_,Aa,JB,oT hc,Aa];refine H9 (congrArg (λo=>Option.bind o _) hset) ?_;rw[Aa,FR,Asa,Bi B8,Aa,Ak,Ak,zx he0];have ih:=Aft hp h1 h6 hn j (a+(Og ch p N a out).2.1.toNat) q (out++[(Og ch p N a out).1]) B8 F0 F0;rw[CR,NO]at ih;exact ih
theorem Apf{p:LB}(hN:N=8*p.length)(hN2:N<=330000)(h1:1<=ch)(h6:ch<=6)(hn:n*ch<=4000):∀(j a q:Nat) (out:LU),out.length+j=n*ch->j<q->a<=N->
  Gu (ch:Int) (n:Int) p q (a:Int) (out.length:Int) out=
   if(Xr ch p N j a out).2.2≠0 then some ((Xr ch p N j a out).1,(Xr ch p N j a out).2.2)else Yx ((Xr ch p N j a out).2.1:Int) p (Xr ch p N j a out).1
 |j,a,q+1,out,hj,hq,ha=>by
  have hnn:n<=n*ch:=jf n F0;have em:Bg (n:Int) (ch:Int)=((n*ch:Nat):Int):=by rw[Fo KE KE,K7]
  have e8:Bg (8:Int) (Ac p)=(N:Int):=by rw[Ac,Fo];omega
  rw[Gu,Aeh,em];cases j with
  |zero=>
   rw[B! D2];rfl
  |succ j=>
   have ew:Fq (Ad (a:Int) 81) (N:Int)=((a+P6 N a:Nat):Int):=by rw[IQ,Ak];unfold P6;omega
   have hw:a+P6 N a<=N:=by unfold P6;omega
   have hw2:P6 N a<=81:=by unfold P6;omega
   have hpre:(Option.bind Qp λ(r_4,r_5,r_6,r_7)=>
     if(Mv (out.length:Int) (ch:Int))=true then(
     Option.bind (Ue (ch:Int) out) λ(r_8,r_9,r_10,r_11)=>
     Mg (Gu (ch:Int) (n:Int) p q) (ch:Int) (n:Int) p (a:Int) (out.length:Int) out r_8 r_9 r_10 r_11)
     else Mg (Gu (ch:Int) (n:Int) p q) (ch:Int) (n:Int) p (a:Int) (out.length:Int) out r_4 r_5 r_6 r_7)=
     Mg (Gu (ch:Int) (n:Int) p q) (ch:Int) (n:Int) p (a:Int) (out.length:Int) out ((now ch out).1:Int) ((now ch out).2.1:Int) (now ch out).2.2.1 (now ch out).2.2.2:=by
    rw[Qp,Aa];by_cases hc:ch<=out.length
    ·simp only;rw[B0 I8,Aqz ch out h1 h6 F0,Aa];rfl
    ·have e:now ch out=gX:=by rw[now,D0 F0,oK ch out _ _ (E1 _) F0]
     simp only;rw[B! I8,e];rfl
   have hd:=Awq (G5 p a (P6 N a) F0) 0 (now ch out).1 (now ch out).2.1 (now ch out).2.2.1 (now ch out).2.2.2 (sR ch out _ _).1 (sR ch out _ _).2.1;have rD:gU (Sn p a (P6 N a)) (P6 N a) 0 (now ch out).1 (now ch out).2.1=Og ch p N a out:=rfl;rw[B0 D2,hpre,Mg,Ae6,e8,ew,Afx p (N:Int) a _ F0 F0 F0,Aa];simp only;refine H9 (congrArg (λo=>Option.bind o _) hd) ?_;rw[Aa,rD,Xr];by_cases he:(Og ch p N a out).2.2≠0
   ·rw[B0 he,B0 (by rw[Aj];simpa using he),B0 he]
   ·have he0:(Og ch p N a out).2.2=0:=by simpa using he
    have hok:=vZ he0;have ih:=Apf hN hN2 h1 h6 hn j (a+(Og ch p N a out).2.1.toNat) q (out++[(Og ch p N a out).1]) B8 F0 F0;have hx:=zx he0;rw[CR,NO]at ih;rw[B! he];generalize Og ch p N a out=R at*
    obtain⟨v,nx,e⟩:=R;simp only at*
    rw[B! (by rw[Aj];simpa using he),Bi B8,Aa,Ak,Ak,hx];exact ih
end
theorem rz{ch:Nat}{p:LB}{N:Nat}:∀(j a:Nat) (out:LU),a<=N-> (Xr ch p N j a out).2.1<=N/\ (Xr ch p N j a out).1.length<=out.length+j/\ ((Xr ch p N j a out).2.2=0-> (Xr ch p N j a out).1.length=out.length+j)
 |0,a,out,h=>⟨h,E1 _,λ_=>rfl⟩
 |j+1,a,out,h=>by
  rw[Xr];split
  ·rename_i he;exact⟨h,B7,λe=>absurd e he⟩
  ·rename_i he;have hok:=vZ (ch:=ch) (p:=p) (N:=N) (a:=a) (out:=out) (by simpa using he);have hw:a+P6 N a<=N:=by unfold P6;omega
   have ih:=rz (ch:=ch) (p:=p) (N:=N) j (a+(Og ch p N a out).2.1.toNat) (out++[(Og ch p N a out).1]) F0;rw[CR,NO]at ih;exact⟨ih.1,F0,λe=>by have:=ih.2.2 e;omega⟩
theorem Af4(ch n:Int)(b:LB)(N:Int):GR ch n b N 0 (List.replicate 6 ((0:Int),(0:Int),(0:UInt64),(0:UInt64),()))=FP ch n b N (List.replicate 6 ((10:Int),(10:Int),(16384:UInt64),(16384:UInt64),())):=by
 have e:Au=(Au-7)+1+1+1+1+1+1+1:=by have:=As;omega
 rw[GR,e];rfl
theorem values_eq{p:LB}{N ch n:Nat}(hp:okB p N)(h1:1<=ch)(h6:ch<=6)(hn:n*ch<=4000):KN (ch:Int) (n:Int) p (N:Int)=
  some (if(Xr ch p N (n*ch) 0 []).2.2≠0 then([],0,(Xr ch p N (n*ch) 0 []).2.2)else((Xr ch p N (n*ch) 0 []).1,((Xr ch p N (n*ch) 0 []).2.1:Int),0)):=by
 have h:=Aft hp h1 h6 hn (n*ch) 0 Au [] B7 D1 F0;rw[KN,KM,Af4];exact h
theorem yh(p:LB)(x:LU)(N:Nat)(hN:N=8*p.length)(hN2:N<=330000):∀(j a q:Nat),a+j=N->j<q->Mi p x q (a:Int)=some (x,if Cg p a j=0 then 0 else 12)
 |0,a,q+1,ha,_=>by
  have e8:Bg (8:Int) (Ac p)=(N:Int):=by rw[Ac,Fo];omega
  rw[Mi,Ym,e8,B! D2,Cg,B0 rfl];rfl
 |j+1,a,q+1,ha,hq=>by
  have e8:Bg (8:Int) (Ac p)=(N:Int):=by rw[Ac,Fo];omega
  have hb:=EG p a;rw[Mi,Ym,e8,B0 D2,Q9 p _ a F0 F0,Aa,Cg];by_cases h:Hx p a=0
  ·rw[B! (by rw[Aj];simp[h]),Ak,h];have ih:=yh p x N hN hN2 j (a+1) q F0 F0;rw[show((a:Int)+1)=((a+1:Nat):Int) by omega,ih];congr 2;by_cases hv:Cg p (a+1) j=0
   ·rw[B0 hv,B0 F0]
   ·rw[B! hv,B! F0]
  ·rw[B0 F_,B! F0]
theorem oE{p:LB}{N ch n:Nat}(hN:N=8*p.length)(hN2:N<=330000)(h1:1<=ch)(h6:ch<=6)(hn:n*ch<=4000):IV (ch:Int) (n:Int) p=
  some (if(Xr ch p N (n*ch) 0 []).2.2≠0 then((Xr ch p N (n*ch) 0 []).1,(Xr ch p N (n*ch) 0 []).2.2)else
   ((Xr ch p N (n*ch) 0 []).1,if 7<N-(Xr ch p N (n*ch) 0 []).2.1\/Cg p (Xr ch p N (n*ch) 0 []).2.1 (N-(Xr ch p N (n*ch) 0 []).2.1)≠0 then 12 else 0)):=by
 have h:=Apf hN hN2 h1 h6 hn (n*ch) 0 Au [] B7 D1 F0;have hat:=(rz (ch:=ch) (p:=p) (N:=N) (n*ch) 0 [] F0).1;have e8:Bg (8:Int) (Ac p)=(N:Int):=by rw[Ac,Fo];omega
 rw[IV,Aj8];refine H9 h ?_;generalize Xr ch p N (n*ch) 0 []=V at*
 obtain⟨v,a,e⟩:=V;simp only at*
 by_cases he:e≠0
 ·rw[B0 he,B0 he]
 ·rw[B! he,B! he,Yx,Adp,e8,Bu];by_cases h7:7<N-a
  ·rw[B0 G6,B0 (.inl h7)]
  ·rw[B! G6,Adv,yh p v N hN hN2 (N-a) a Au F0 D1];by_cases hv:Cg p a (N-a)=0
   ·rw[B0 hv,B! F0]
   ·rw[B! hv,B0 (.inr hv)]
theorem oz(n:Int):(GI.ofZ n:Int32)=Int32.ofInt n:=rfl
theorem eJ(a:Int32):GI.toZ a=a.toInt:=rfl
theorem iL(a b:Int32):Ad a b=a+b:=by
 rw[Ad,eJ,eJ,oz,uF,KA,KA]
theorem ZZ(a b:Int32):Ap a b=a-b:=by
 rw[Ap,eJ,eJ,oz,uH,KA,KA]
theorem Ana(a b:Int32):geq a b=(a==b):=by
 rw[geq,eJ,eJ,F?];simp[Int32.toInt_inj]
def lY(p:Nat->Bool)(a b:LX):LX:=(List.range a.length).map λk=>if p k=true then a.getD k 0 else b.getD k 0
section
variable {p q:Nat->Bool} {a b:LX}
theorem RA:(lY p a b).length=a.length:=by simp[lY]
theorem Ko{k:Nat}(h:k<a.length):a.getD k 0=a[k]:=by simp[D9,h]
theorem Wa{k:Nat}(h:k<(lY p a b).length):(lY p a b)[k]=if p k=true then a.getD k 0 else b.getD k 0:=by simp[lY]
theorem FG{k:Nat}(h:k<a.length):Am (lY p a b) (k:Int)=some (if p k=true then a.getD k 0 else b.getD k 0):=by
 rw[Bt (by rw[RA];exact h),Wa]
theorem Xw(h:∀k,k<a.length->p k=q k):lY p a b=lY q a b:=by
 apply TN;intro k hk;rw[h k (List.mem_range.1 hk)]
theorem nK{k:Nat}(h:k<a.length):Nj (lY p a b) (k:Int) (a.getD k 0)=some (lY (λj=>p j||decide (j=k)) a b):=by
 rw[Ww _ (by rw[RA];exact h)];congr 1;apply J4 (by simp[RA]);intro i h1 h2;rw[XG,Wa,Wa];by_cases hi:k=i
 ·subst hi;simp
 ·have:¬i=k:=λe=>hi e.symm;simp[hi,this]
theorem wG(h:∀k,k<a.length->p k=true):lY p a b=a:=by
 apply J4 (by simp[RA]);intro i h1 h2;rw[Wa,B0 (h i h2),Ko h2]
theorem qQ(hl:b.length=a.length)(h:∀k,k<a.length->p k=false):lY p a b=b:=by
 apply J4 (by simp[RA,hl]);intro i h1 h2;rw[Wa,h i F0];simp[D9,h2]
end
theorem Q!{p:Prop}(h:p:=by rw[Ar];decide):p:=h
theorem yc(a b:Int32):Bg a b=a*b:=by
 rw[Bg,eJ,eJ,oz,Int32.ofInt_mul,KA,KA]
theorem DO(a:Int32): -2147483648<=a.toInt/\a.toInt<2147483648:=⟨a.le_toInt,a.toInt_lt⟩
theorem Gm(a:Int32):(Ae a:Int)=a.toInt:=by
 have:=DO a
 show wrap64 a.toInt=_;rw[De]<;>omega
theorem YL(n:Int):(Ae n:Int32)=Int32.ofInt n:=rfl
theorem Ark(x:Int):Int32.ofInt (x %4294967296)=Int32.ofInt x:=by
 apply Int32.toInt_inj.1;rw[NR,NR];exact Int.emod_bmod x 4294967296
theorem uj(x:Int):Dw x=some (Int32.ofInt x):=by
 have e1:(Ae x:UInt64).toNat=(x %18446744073709551616).toNat:=by
  rw[Ahj,H7,D0 F0]
 have e2:(Ae (Ae x:UInt64):UInt32).toNat=(x %4294967296).toNat:=by
  have e:(Ae (Ae x:UInt64):UInt32)=UInt32.ofNat (Ae x:UInt64).toNat:=by simp only[Ae,Lz,Gn]
  rw[e,HO,e1];show(x %18446744073709551616).toNat %4294967296=_;omega
 have e3:(Ae (Ae (Ae x:UInt64):UInt32):Int32)=Int32.ofInt ((Ae (Ae x:UInt64):UInt32).toNat:Int):=rfl;rw[Dw,e3,e2,<-Ark x];congr 2;omega
theorem G4(a b:Int32):Dw (Ad (Ae a:Int) (Ae b:Int))=some (a+b):=by
 have:=DO a;have:=DO b;rw[Gm,Gm,Ak,uj,uF,KA,KA]
theorem Av5(a b:Int32):Dw (Bg (Ae a:Int) (Ae b:Int))=some (a*b):=by
 have ha:=DO a;have hb:=DO b;have h1: -9223372036854775808<=a.toInt*b.toInt/\a.toInt*b.toInt<=9223372036854775807:=by
  have h2:(a.toInt*b.toInt).natAbs<=2147483648*2147483648:=by
   rw[Int.natAbs_mul];exact IP F0 F0
  omega
 rw[Gm,Gm,Fo h1.1 h1.2,uj,Int32.ofInt_mul,KA,KA]
def OkF(s:Int)(t p:LX):Prop:=(s=9\/s=10)/\t.length=16/\p.length=16
theorem S5{s:Int}{t p:LX}(h:OkF s t p):PN s t p=some 0:=by
 obtain⟨rfl|rfl,_,_⟩:=h<;>rfl
theorem g32{l:LX}{k:Nat}(h:k<l.length):Am l (k:Int)=some (l.getD k 0):=by
 rw[Bt h];simp[D9,h]
def jC(t p:LX):Nat->Int32
 |0=>0
 |i+1=>jC t p i+t.getD i 0*p.getD i 0
def half(s:Int):Int32:=if s=9 then 256 else 512
def gF(s:Int)(t p:LX):Int32:=Int32.ofInt ((half s+jC t p 16).toInt.fdiv (if s=9 then 512 else 1024))
theorem yK{s:Int}{t p:LX}(h:OkF s t p):∀(j i q:Nat),i+j=16->j<q->Yd t s p q (half s+jC t p i) (i:Int)=some (gF s t p,0)
 |0,i,q+1,hi,_=>by
  obtain rfl:i=16:=F0
  have hs:=h.1;rw[Yd,QU,B! I_,fR,Blq,Bl I8,Aa];obtain rfl|rfl:=hs<;>rfl
 |j+1,i,q+1,hi,hq=>by
  obtain⟨hs,ht,hp⟩:=h;rw[Yd,QU,B0 D2,g32 F0,Aa,g32 F0,Aa,Aa,Ak (b:=1) F0 F0,iL,yc,Int32.add_assoc];exact yK ⟨hs,ht,hp⟩ j (i+1) q F0 F0
theorem Aht{s:Int}{t p:LX}(h:OkF s t p):aO s t p=some (gF s t p,0):=by
 have hs:=h.1;have h1:=yK h 16 0 Au F0 D1;have e:Dy (1:Int32) (GI.toZ (Ap s (1:Int))).toNat=half s+jC t p 0:=by
  obtain rfl|rfl:=hs<;>rfl
 rw[aO,fN,S5 h,Aa,B! D3,Bl (by rw[Eh,Bu];simp;omega),Aa,Blc,e];exact h1
theorem Abg {s:Int}{t p:LX}(ht:t.length=16)(hp:p.length=16){g:Int32}(hg:jC t p 16=g):∀(j i q:Nat),i+j=16->j<q->Pb s t p q (jC t p i).toInt (i:Int)=some g
 |0,i,q+1,hi,_=>by
  obtain rfl:i=16:=F0
  rw[Pb,CU,B! I_,Akl,Amb,YL,KA,hg]
 |j+1,i,q+1,hi,hq=>by
  have ih:=Abg (s:=s) ht hp hg j (i+1) q F0 F0;rw[jC]at ih;rw[Pb,CU,B0 D2,g32 F0,g32 F0,Aa,Aa,Aa,Aa,Av5,Aa,<-Gm (jC t p i),G4,Aa,Gm,Ak];exact ih
theorem Aup{s:Int}{t p:LX}(h:OkF s t p):Axv s t p=some (jC t p 16):=
 Abg h.2.1 h.2.2 rfl 16 0 Au F0 D1
theorem Ar4(x n:Int)(hn:n=512\/n=1024\/n=16\/n=32):(if x.tmod n<0 then x.tdiv n-1 else x.tdiv n)=x.fdiv n:=by
 have hs:n.sign=1:=by obtain rfl|rfl|rfl|rfl:=hn<;>rfl
 rw[kT,Int.tmod_eq_emod,hs,KZ _ F0];by_cases h:0<=x\/n∣x
 ·rw[B0 h,B0 h];obtain rfl|rfl|rfl|rfl:=hn<;>(rw[B! F0];omega)
 ·rw[B! h,B! h];obtain rfl|rfl|rfl|rfl:=hn<;>(rw[B0 F0];omega)
theorem Ajr (x n:Int)(hn:n=512\/n=1024\/n=16\/n=32)(h: -1000000000000<=x)(h':x<=1000000000000): -1000000000000<=x.tdiv n/\x.tdiv n<=1000000000000:=by
 have hs:n.sign=1:=by obtain rfl|rfl|rfl|rfl:=hn<;>rfl
 rw[kT,hs];by_cases h:0<=x\/n∣x
 ·rw[B0 h];obtain rfl|rfl|rfl|rfl:=hn<;>omega
 ·rw[B! h];obtain rfl|rfl|rfl|rfl:=hn<;>omega
theorem Bgq(x n:Int)(hn:n=512\/n=1024\/n=16\/n=32)(h: -1000000000000<=x)(h':x<=1000000000000):Bo x n=x.tdiv n:=by
 have:=Ajr x n hn h h';rw[UT,De F0 F0]
theorem Ah1(x n:Int)(hn:n=512\/n=1024\/n=16\/n=32)(h: -1000000000000<=x)(h':x<=1000000000000):
  (if(Ck (Gz x n) (0:Int))=true then some (Ae (Ap (Bo x n) (1:Int)):Int32)else some (Ae (Bo x n):Int32))=some (Int32.ofInt (x.fdiv n)):=by
 have hb:=Ajr x n hn h h';rw[Af,Gz,Bgq x n hn h h',Bu,YL,YL,<-Ar4 x n hn];by_cases hx:x.tmod n<0
 ·rw[B0 (by simpa using hx),B0 hx]
 ·rw[B! (by simpa using hx),B! hx]
theorem Ayu{s:Int}{t p:LX}(h:OkF s t p):KH s t p=some (gF s t p):=by
 obtain⟨hs,ht,hp⟩:=h;have h:OkF s t p:=⟨hs,ht,hp⟩;have hx:=DO (jC t p 16+half s);have key:∀n:Int,(n=512\/n=1024)-> (half s).toInt=n/2->gF s t p=Int32.ofInt ((half s+jC t p 16).toInt.fdiv n)->BF s t p n=some (gF s t p):=by
  intro n hn hh hg;have e2:Bo n (2:Int)=(half s).toInt:=by rw[hh];obtain rfl|rfl:=hn<;>rfl
  rw[BF,Afc,Aup h,Aa,e2,<-Gm (half s),G4,Aa,Bl F_,Aa,Aa,Gm,Ah1 _ n F0 F0 F0,hg,Int32.add_comm]
 rw[KH,Afj];obtain rfl|rfl:=hs
 ·rw[B0 NG];exact key 512 (.inl rfl) rfl rfl
 ·rw[B! Q!];exact key 1024 (.inr rfl) rfl rfl
def stp(i:Nat):Int32:=if i=0 then 4 else if i<4 then 2 else 1
def sg(x:Int32):Int32:=if x.toInt<0 then -1 else if 0<x.toInt then 1 else 0
def ou(t p:LX)(w:Int32):LX:=(List.range 16).map λi=>t.getD i 0+stp i*sg (p.getD i 0)*sg w
theorem FD(t p:LX)(w:Int32):(ou t p w).length=16:=by simp[ou]
theorem oX(t p:LX)(w:Int32){i:Nat}(h:i<16):(ou t p w).getD i 0=t.getD i 0+stp i*sg (p.getD i 0)*sg w:=by
 rw[Ko (by rw[FD];exact h)];simp[ou]
theorem step_eq(i:Nat):iQ (i:Int)=some (stp i):=by
 rw[iQ,stp];by_cases h:i=0
 ·rw[B0 (by rw[Ar];simp[h]),B0 h]
 ·rw[B! GZ,B! h];by_cases h2:i<4
  ·rw[B0 D2,B0 h2]
  ·rw[B! D2,B! h2]
theorem Aqv(i:Nat):MH (i:Int)=some (stp i):=by
 rw[MH,stp];by_cases h:i=0
 ·rw[B0 (by rw[Ar];simp[h]),B0 h]
 ·rw[B! GZ,B! h];by_cases h2:i<4
  ·rw[B0 (by rw[WU];simp;omega),B0 h2]
  ·rw[B! (by rw[WU];simp;omega),B! h2]
theorem eN(a b:Int32):Ck a b=decide (a.toInt<b.toInt):=rfl
theorem qA(a b:Int32):Ei a b=decide (b.toInt<a.toInt):=rfl
theorem sign_eq(x:Int32):Za x=some (sg x):=by
 rw[Za,sg,eN,qA,show(0:Int32).toInt=0 from rfl];by_cases h:x.toInt<0
 ·rw[B0 (by simpa using h),B0 h]
 ·rw[B! (by simpa using h),B! h];by_cases h2:0<x.toInt
  ·rw[B0 (by simpa using h2),B0 h2]
  ·rw[B! (by simpa using h2),B! h2]
theorem Anu:sg 0=0:=rfl
theorem toInt_ne{x:Int32}(h:x≠0):x.toInt≠0:=λe=>h (Int32.toInt_inj.1 (by rw[e];rfl))
theorem dX{x:Int32}(h:x.toInt<0):sg x= -1:=by rw[sg,B0 h]
theorem dY{x:Int32}(h:x≠0)(h2:¬x.toInt<0):sg x=1:=by
 have:=toInt_ne h;rw[sg,B! h2,B0 F0]
theorem wD(i:Nat):stp i=4\/stp i=2\/stp i=1:=by
 unfold stp;by_cases h:i=0
 ·rw[B0 h];exact .inl rfl
 ·rw[B! h];split;exact .inr (.inl rfl);exact .inr (.inr rfl)
theorem Aq6{x:Int32}(hx:x≠0)(hw:w≠0)(h:(x.toInt<0)=(w.toInt<0))(i:Nat):stp i*sg x*sg w=stp i:=by
 by_cases h1:x.toInt<0
 ·rw[dX h1,dX (by rw[<-h];exact h1)];obtain e|e|e:=wD i<;>rw[e]<;>decide
 ·rw[dY hx h1,dY hw (by rw[<-h];exact h1)];obtain e|e|e:=wD i<;>rw[e]<;>decide
theorem Aj1{x:Int32}(hx:x≠0)(hw:w≠0)(h:¬(x.toInt<0)=(w.toInt<0))(i:Nat)(a:Int32):a+stp i*sg x*sg w=a-stp i:=by
 have key:stp i*sg x*sg w=-stp i:=by
  by_cases h1:x.toInt<0
  ·have h2:¬w.toInt<0:=λh2=>h (propext ⟨λ_=>h2,λ_=>h1⟩);rw[dX h1,dY hw h2];obtain e|e|e:=wD i<;>rw[e]<;>decide
  ·have h2:w.toInt<0:=Decidable.by_contra λh2=>h (propext ⟨λh3=>absurd h3 h1,λh3=>absurd h3 h2⟩);rw[dY hx h1,dX h2];obtain e|e|e:=wD i<;>rw[e]<;>decide
 rw[key,Int32.sub_eq_add_neg]
def M6(i:Nat):Nat->Bool:=λj=>decide (j<i)
theorem e? {a b:LX}{i:Nat}(h:i<a.length):Nj (lY (M6 i) a b) (i:Int) (a.getD i 0)=some (lY (M6 (i+1)) a b):=by
 rw[nK h];congr 1;apply Xw;intro k _;rw[F?];simp only[M6,HV,D!];omega
theorem Aru{a b:LX}{i:Nat}(e:a.getD i 0=b.getD i 0):lY (M6 i) a b=lY (M6 (i+1)) a b:=by
 apply TN;intro k _;simp only[M6,D!];by_cases h1:k<i
 ·rw[B0 h1,B0 F0]
 ·by_cases h2:k=i
  ·subst h2;rw[B! h1,B0 F0,e]
  ·rw[B! h1,B! F0]
theorem Aip{a b:LX}{i:Nat}(h:i<a.length):Am (lY (M6 i) a b) (i:Int)=some (b.getD i 0):=by
 rw[FG h,B! (by simp[M6])]
theorem Acn{s:Int}{t p:LX}{w:Int32}(hw:w≠0)(ht:t.length=16)(hp:p.length=16):∀(j i q:Nat),i+j=16->j<q->Xu w p s q (i:Int) (lY (M6 i) (ou t p w) t)=some (s,ou t p w,p,0)
 |0,i,q+1,hi,_=>by
  obtain rfl:i=16:=F0
  rw[Xu,QV,B! I_,wG (λk hk=>by rw[FD]at hk;simpa [M6]using hk)];rfl
 |j+1,i,q+1,hi,hq=>by
  have hl:=FD t p w;have hg:=oX t p w (i:=i) F0;rw[Xu,QV,B0 D2,g32 F0,Aa,Ak (b:=1) F0 F0,Aip F0,step_eq];simp only[Aa];rw[iL,ZZ,Ana,eN,eN,show(0:Int32).toInt=0 from rfl];have ih:=Acn (s:=s) hw ht hp j (i+1) q F0 F0;by_cases hx:p.getD i 0=0
  ·rw[B0 (by rw[hx];rfl),Aru (by rw[hg,hx,Anu,lE,Int32.zero_mul,bD])];exact ih
  ·rw[B! (by simpa using hx)];by_cases hs:((p.getD i 0).toInt<0)=(w.toInt<0)
   ·rw[B0 (by rw[G3];simp only[hs]),show t.getD i 0+stp i=(ou t p w).getD i 0 by rw[hg,Aq6 hx hw hs],e? F0,Aa];exact ih
   ·rw[B! (by rw[G3,decide_eq_decide];exact λh=>hs (propext h)),show t.getD i 0-stp i=(ou t p w).getD i 0 by rw[hg,Aj1 hx hw hs],e? F0,Aa];exact ih
theorem Asz{t:LX}(p:LX)(ht:t.length=16):ou t p 0=t:=by
 apply J4 (by rw[FD,ht]);intro i h1 h2;have:=oX t p 0 (i:=i) F0;rw[Ko h1,Ko h2]at this;rw[this,Anu,lE,bD]
theorem Ahi{s:Int}{t p:LX}(h:OkF s t p)(w:Int32):oC s t p w=some (s,ou t p w,p,0):=by
 rw[oC,gD,S5 h,Aa,B! D3,Ana];by_cases hw:w=0
 ·rw[B0 (by simpa using hw),hw,Asz p h.2.1]
 ·have h1:=Acn (s:=s) hw h.2.1 h.2.2 16 0 Au F0 D1;rw[qQ (by rw[FD,h.2.1]) (λk _=>by simp[M6])]at h1;rw[B! (by simpa using hw)];exact h1
theorem Abr{s:Int}{t p:LX}{w:Int32}(ht:t.length=16)(hp:p.length=16):∀(j i q:Nat),i+j=16->j<q->Jw w s p q (i:Int) (lY (M6 i) (ou t p w) t)=some (s,ou t p w,p)
 |0,i,q+1,hi,_=>by
  obtain rfl:i=16:=F0
  rw[Jw,Ut,B! I_,wG (λk hk=>by rw[FD]at hk;simpa [M6]using hk)];rfl
 |j+1,i,q+1,hi,hq=>by
  have hl:=FD t p w;have hg:=oX t p w (i:=i) F0;rw[Jw,Ut,B0 D2,g32 (l:=p) F0,Ak (b:=1) F0 F0,Aip F0,Aqv,sign_eq w,Aa,Aa,Aa,Aa,Aa,sign_eq,Aa,Aa,Aa,iL,yc,yc,<-hg,e? F0,Aa];exact Abr ht hp j (i+1) q F0 F0
theorem Alw{s:Int}{t p:LX}(h:OkF s t p)(w:Int32):Afb s t p w=some (s,ou t p w,p):=by
 have h1:=Abr (s:=s) (w:=w) h.2.1 h.2.2 16 0 Au F0 D1;rw[qQ (by rw[FD,h.2.1]) (λk _=>by simp[M6])]at h1;exact h1
theorem Ay6{p:LX}(h:p.length=16):∃a0 a1 a2 a3 a4 a5 a6 a7 a8 a9 b0 b1 b2 b3 b4 b5,p=[a0,a1,a2,a3,a4,a5,a6,a7,a8,a9,b0,b1,b2,b3,b4,b5]:=by
 match p,h with
 |[a0,a1,a2,a3,a4,a5,a6,a7,a8,a9,b0,b1,b2,b3,b4,b5],_=>exact⟨a0,a1,a2,a3,a4,a5,a6,a7,a8,a9,b0,b1,b2,b3,b4,b5,rfl⟩
theorem Amo{s:Int}{t p:LX}(h:OkF s t p)(x:Int32):wP s t p x=some (s,t,x::p.take 15,0):=by
 obtain⟨hs,ht,hp⟩:=h;rw[wP,XW,S5 ⟨hs,ht,hp⟩,Aa,B! D3,show jB (16:Int) 1 16=some ()from rfl,Aa,show jB (16:Int) 0 16=some ()from rfl,Aa,mU,Aaf];obtain⟨a0,a1,a2,a3,a4,a5,a6,a7,a8,a9,b0,b1,b2,b3,b4,b5,rfl⟩:=Ay6 hp;rfl
def shf(p:LX)(i:Nat):LX:=(List.range 16).map λk=>if k<=i then p.getD k 0 else p.getD (k-1) 0
theorem FJ(p:LX)(i:Nat):(shf p i).length=16:=by simp[shf]
theorem Azw(p:LX)(i k:Nat)(h:k<16):(shf p i).getD k 0=if k<=i then p.getD k 0 else p.getD (k-1) 0:=by
 rw[Ko (by rw[FJ];exact h)];simp[shf]
theorem Az4(p:LX)(i:Nat)(h:i+1<16):Nj (shf p (i+1)) ((i+1:Nat):Int) (p.getD i 0)=some (shf p i):=by
 rw[Ww _ (by rw[FJ];exact h)];congr 1;apply J4 (by simp[FJ]);intro k h1 h2;rw[FJ]at h2;rw[XG];simp only[shf,NB,NP];by_cases hk:i+1=k
 ·subst hk;rw[B0 rfl,B! F0];rfl
 ·rw[B! hk];by_cases h3:k<=i
  ·rw[B0 F0,B0 h3]
  ·rw[B! F0,B! h3]
theorem Bek(s:Int)(t p:LX)(x:Int32)(hp:p.length=16):∀(i q:Nat),i<16->i<q->Ld x s t q (i:Int) (shf p i)=some (s,t,x::p.take 15)
 |0,q+1,_,_=>by
  have hg:Am (shf p 0) (0:Int)=some ((shf p 0).getD 0 0):=g32 (l:=shf p 0) (k:=0) (by rw[FJ];omega);have hset:Nj (shf p 0) (0:Int) x=some ((shf p 0).set 0 x):=Ww (l:=shf p 0) (n:=0) x (by rw[FJ];omega);rw[Ld,Xd,B! M?,Abj,Ac4,hg,Aa,hset,Aa];congr 3;apply J4 (by simp[FJ,hp]);intro k h1 h2;rw[NA,FJ]at h1;rw[XG];cases k with
  |zero=>rw[B0 rfl];rfl
  |succ k=>
   rw[B! F0];simp only[shf,NB,NP,List.getElem_cons_succ,jh];rw[B! F0,tS,Ko F0]
 |i+1,q+1,hi,hq=>by
  have hg:=g32 (l:=shf p (i+1)) (k:=i) (by rw[FJ];omega);rw[Azw p (i+1) i F0,B0 F0]at hg;have e1:Ap ((i+1:Nat):Int) (1:Int)=(i:Int):=by rw[Bu];omega
  have hg2:=g32 (l:=shf p (i+1)) (k:=i+1) (by rw[FJ];omega);rw[Ld,Xd,B0 M?,e1,hg,Aa,Aa,hg2,Aa,Az4 p i hi,Aa];exact Bek s t p x hp i q F0 F0
theorem Arl{s:Int}{t p:LX}(hp:p.length=16)(x:Int32):Aka s t p x=some (s,t,x::p.take 15):=by
 have h:=Bek s t p x hp 15 Au F0 D1;have e:shf p 15=p:=by
  apply J4 (by rw[FJ,hp]);intro k h1 h2;rw[FJ]at h1;simp only[shf,NB,NP];rw[B0 F0,Ko h2]
 rw[e]at h;exact h
theorem Att{s:Int}{t p:LX}(h:OkF s t p)(w x:Int32):OkF s (ou t p w) (x::p.take 15):=⟨h.1,FD _ _ _,by simp[h.2.2]⟩
theorem Bad{s:Int}{t p:LX}(h:OkF s t p)(y:Int32):uL s t p y=some (y+gF s t p,s,ou t p y,(y+gF s t p)::p.take 15,0):=by
 rw[uL,Aht h,Aa];simp only;rw[B! D3,iL,ZA,Ahi h,Aa];simp only;rw[Amo (s:=s) (t:=ou t p y) (p:=p) ⟨h.1,FD _ _ _,h.2.2⟩,Aa];rfl
theorem Apn{s:Int}{t p:LX}(h:OkF s t p)(y:Int32):AG s t p y=some (y+gF s t p,s,ou t p y,(y+gF s t p)::p.take 15):=by
 rw[AG,Ayu h,Aa,G4,Aa,Alw h,Aa];simp only;rw[Arl h.2.2,Aa]
def sB(bits:Int):Int:=if bits=16 then 9 else 10
def shB(bits:Int):Int:=if bits=8 then 4 else 5
def Bn(bits:Int):Prop:=bits=8\/bits=16\/bits=24
def gs(sh:Int)(last:Int32):Int32:=Ae (OF (Ap (Dy (Ae last:Int) sh.toNat) (Ae last)) sh.toNat)
theorem Bgy(bits:Int):sB bits=9\/sB bits=10:=by unfold sB;split<;>simp
theorem Az6(bits:Int):0<=shB bits:=by unfold shB;split<;>omega
theorem Bjg{bits:Int}(h:Bn bits)(t:LX):L6 bits t=some (sB bits,t,List.replicate 16 0,0):=by
 obtain rfl|rfl|rfl:=h<;>rfl
theorem Be8{bits:Int}(h:Bn bits):sL bits=some (shB bits,0):=by
 obtain rfl|rfl|rfl:=h<;>rfl
theorem Bdm{sh:Int}(h:0<=sh)(last:Int32):dE sh last=some (gs sh last):=by
 rw[dE,Bl (by rw[Eh];simpa using h),Aa,Aa];rfl
theorem Auz{bits:Int}(h:Bn bits)(last:Int32):AP bits last=some (gs (shB bits) last,0):=by
 rw[AP,Be8 h,Aa];simp only;rw[B! D3,Bdm (Az6 bits),Aa]
theorem Ad3 {bits:Int}(h:Bn bits)(last:Int32)(t p:LX):AO bits last (sB bits) t p=some 0:=by
 rw[AO,Bjg h,Aa];simp only;rw[B! (by rw[Aj,Aj];simp)]
theorem Aqe{bits:Int}(h:Bn bits){t p:LX}(hF:OkF (sB bits) t p)(last y:Int32):
  Oq bits last (sB bits) t p y=some (y+gF (sB bits) t p+gs (shB bits) last,bits,y+gF (sB bits) t p+gs (shB bits) last,sB bits,ou t p y,(y+gF (sB bits) t p)::p.take 15,0):=by
 rw[Oq,Ad3 h,Aa,B! D3,Auz h,Aa];simp only;rw[Bad hF,Aa];simp only;rw[iL]
theorem X0(sh:Int)(hs:sh=4\/sh=5)(last:Int32):Ui sh last=some (gs sh last):=by
 have hl:=DO last;have key:∀n:Int,n=16\/n=32->gs sh last=Int32.ofInt (((n-1)*last.toInt).fdiv n)->Wx last n=some (gs sh last):=by
  intro n hn hg;have e:Bg (Ap n (1:Int)) (Ae last:Int)=(n-1)*last.toInt:=by
   obtain rfl|rfl:=hn<;>(rw[Gm,Bu,Fo])
  rw[Wx,Abk,Bl F_,Aa,Aa,e,Ah1 _ n F0 (by obtain rfl|rfl:=hn<;>omega) (by obtain rfl|rfl:=hn<;>omega),hg]
 rw[Ui,Acw];obtain rfl|rfl:=hs
 ·rw[B! Q!];refine key 16 (.inl rfl) ?_;have e:Dy (Ae last:Int) (4:Int).toNat=last.toInt*16:=by
   rw[Gm];show wrap64 (last.toInt*2^4)=_;rw[De]<;>omega
  rw[gs,e,Gm,Bu,YL]
  show Int32.ofInt ((last.toInt*16-last.toInt).fdiv 16)=_;congr 2;omega
 ·rw[B0 NG];refine key 32 (.inr rfl) ?_;have e:Dy (Ae last:Int) (5:Int).toNat=last.toInt*32:=by
   rw[Gm];show wrap64 (last.toInt*2^5)=_;rw[De]<;>omega
  rw[gs,e,Gm,Bu,YL]
  show Int32.ofInt ((last.toInt*32-last.toInt).fdiv 32)=_;congr 2;omega
theorem Ase{bits:Int}(h:Bn bits){t p:LX}(hF:OkF (sB bits) t p)(last y:Int32):
  AA bits last (sB bits) t p y=some (y+gF (sB bits) t p+gs (shB bits) last,bits,y+gF (sB bits) t p+gs (shB bits) last,sB bits,ou t p y,(y+gF (sB bits) t p)::p.take 15):=by
 have hb:DL bits last (sB bits) t p=some (Ae (gs (shB bits) last):Int):=by
  rw[DL];obtain rfl|rfl|rfl:=h
  ·rw[B0 NG,X0 4 (.inl rfl),Aa];rfl
  ·rw[B! Q!,X0 5 (.inr rfl),Aa];rfl
  ·rw[B! Q!,X0 5 (.inr rfl),Aa];rfl
 rw[AA,Apn hF,Aa];simp only;rw[hb,Aa,G4,Aa]
theorem Bho{bits:Int}(h:Bn bits)(t:LX):Axq bits t=some (bits,0,sB bits,t,List.replicate 16 0,0):=by
 obtain rfl|rfl|rfl:=h<;>rfl
def RO(n:UInt32):Int32:=if n.toNat %2=0 then Int32.ofInt ((n.toNat/2:Nat):Int)else Int32.ofInt (-((n.toNat/2:Nat):Int)-1)
theorem Aid(a b:Int32):(BH a b).toBitVec=a.toBitVec^^^b.toBitVec:=by
 show(Int32.ofInt ((BitVec.ofInt 32 a.toBitVec.toInt^^^BitVec.ofInt 32 b.toBitVec.toInt).toNat:Int)).toBitVec=_;rw[BitVec.ofInt_toInt,BitVec.ofInt_toInt,u!,BitVec.ofInt_natCast,BitVec.ofNat_toNat,BitVec.setWidth_eq]
theorem Bhn(m:Nat)(h:m<2147483648):BH (Int32.ofInt (m:Int)) (Int32.ofInt (-1))=Int32.ofInt (-(m:Int)-1):=by
 apply Int32.toBitVec_inj.1;have e1:(Int32.ofInt (-1)).toBitVec=BitVec.allOnes 32:=B6
 rw[Aid,e1,BitVec.xor_allOnes,u!,u!];apply WS;rw[kR,M1,M1];omega
theorem Avf(n:UInt32):CN n=some (RO n):=by
 have hn:=n.toNat_lt;have e1:(Ae (Cn n (GI.toZ (1:UInt64)).toNat):Int32)=Int32.ofInt ((n.toNat/2:Nat):Int):=by
  show Int32.ofInt ((Cn n 1).toNat:Int)=_;rw[RT]
 have e2:(Ae (Fb n (1:UInt32)):Int32)=Int32.ofInt ((n.toNat %2:Nat):Int):=by
  show Int32.ofInt ((Fb n (1:UInt32)).toNat:Int)=_;rw[a_,kG]
  show Int32.ofInt ((n.toNat&&&1:Nat):Int)=_;rw[tU]
 rw[CN,e1,e2,RO];congr 1;by_cases h:n.toNat %2=0
 ·have e3:G0 (Int32.ofInt ((n.toNat %2:Nat):Int))=Int32.ofInt 0:=by rw[h];decide
  rw[B0 h,e3];apply Int32.toBitVec_inj.1;rw[Aid,show(Int32.ofInt 0).toBitVec=0#32 from rfl,BitVec.xor_zero]
 ·have e3:G0 (Int32.ofInt ((n.toNat %2:Nat):Int))=Int32.ofInt (-1):=by rw[show n.toNat %2=1 by omega];decide
  rw[B! h,e3,Bhn _ F0]
theorem Ay4(n:UInt32):JW n=some (RO n):=by
 have hn:=n.toNat_lt;have e1:geq (GM n (2:UInt32)) (0:UInt32)=decide (n.toNat %2=0):=by
  rw[oM,Af5,F?];simp only[G3,<-kH,uO,D!];rfl
 rw[JW,e1,RO];by_cases h:n.toNat %2=0
 ·rw[B0 (by simpa using h),B0 h,Agg];rfl
 ·have e2:(Ae n:Int)=(n.toNat:Int):=Bku n;rw[B! (by simpa using h),B! h,e2,Ak,d_,De F0 F0,UT,kT,YL];congr 2;rw[B0 (.inr F0),De F0 F0];omega
theorem E4{p:Prop}(h:p:=by rw[Aq,Ac];simp;omega):p:=h
theorem xS{c:Prop} [Decidable c](h:c):Is (decide c)=some ():=by rw[L8 h];rfl
def unV(f:Nat->Int32)(ch:Nat):Nat->Int32
 |0=>if 1<ch then f (ch-1)+Bo (f (ch-2)) (2:Int32)else f (ch-1)
 |j+1=>unV f ch j-f (ch-2-j)
def ug(ch:Nat)(m:LX):LX:=(List.range m.length).map λk=>unV (λi=>m.getD (k-k %ch+i) 0) ch (ch-1-k %ch)
theorem mT(ch:Nat)(m:LX):(ug ch m).length=m.length:=by simp[ug]
theorem M5{ch:Nat}{m:LX}{a i:Nat}(ha:a %ch=0)(hi:i<ch)(h:a+i<m.length):(ug ch m).getD (a+i) 0=unV (λi=>m.getD (a+i) 0) ch (ch-1-i):=by
 have hb:(a+i) %ch=i:=by rw[Nat.add_mod,ha,HL,Y4,D0 hi]
 rw[Ko (by rw[mT];exact h)];simp only[ug,NB,NP,hb];rw[show a+i-i=a by omega]
section
variable (ch:Nat) (m:LX)
theorem Agl(h1:1<=ch)(h6:ch<=6)(hm:m.length %ch=0)(hl2:m.length<=4000):jM (ch:Int) m=some 0:=by
 rw[jM,B! HM,B! E4,Bl F_,Aa,B!];rw[Aj,Gz,Ac,<-aT,hm];simp
theorem Bli(bk:Int->LX->Option (LX×Int))(at':Nat)(h1:1<=ch)(h6:ch<=6)(hm:at' %ch=0)(hl:at'+ch<=m.length)(hl2:m.length<=4000):∀(i q:Nat),i<=ch-1->i<q->
  CJ bk (ch:Int) (at':Int) q ((i:Int)-1) (lY (λk=>decide (k<at'\/ (at'+i<=k/\k<at'+ch))) (ug ch m) m)=bk ((at'+ch:Nat):Int) (lY (λk=>decide (k<at'+ch)) (ug ch m) m)
 |0,q+1,hi,_=>by
  have e4:Ad (at':Int) (ch:Int)=((at'+ch:Nat):Int):=by rw[Ak];omega
  rw[CJ,XM,B! I?,mQ,Aby,e4];congr 1;apply Xw;intro k _;rw[F?];simp;omega
 |i+1,q+1,hi,hq=>by
  have hlen:=mT ch m;have e2:Ad (at':Int) (ch:Int)-(at':Int)=(ch:Int):=by rw[Ak];omega
  have e3:Ad (i:Int) 1=((i+1:Nat):Int):=by rw[Ak];omega
  have hv:((ug ch m).getD (at'+(i+1)) 0-m.getD (at'+i) 0)=(ug ch m).getD (at'+i) 0:=by
   rw[M5 hm F0 F0,M5 hm F0 F0,show ch-1-i=(ch-1-(i+1))+1 by omega,unV,show ch-2-(ch-1-(i+1))=i by omega]
  rw[CJ,XM,show((i+1:Nat):Int)-1=(i:Int) by omega,B0 I?,e2,e3,xS F0,Aa,xS F0,Aa,
   show(at':Int)+((i+1:Nat):Int)=((at'+(i+1):Nat):Int) by omega,show(at':Int)+(i:Int)=((at'+i:Nat):Int) by omega,
   FG F0,Aa,FG F0,Aa,Aa,B0 B8,B! B8,ZZ,hv,nK F0,Aa,Bu]
  have ih:=Bli bk at' h1 h6 hm hl hl2 i q F0 F0;rw[<-ih];congr 1;apply Xw;intro k _;rw[F?];simp;omega
theorem K9{at' ch n:Nat}(ha:at' %ch=0)(hm:n %ch=0)(h:at'<n):at'+ch<=n:=by
 have d1:=NW at' ch;have d2:=NW n ch;rw[ha,J6]at d1;rw[hm,J6]at d2;have hlt:at'/ch<n/ch:=by
  rcases NC (at'/ch) (n/ch)with h'|h'
  ·exact h'
  ·have:=RU ch h';omega
 have:=RU ch (show at'/ch+1<=n/ch from hlt);rw[cT]at this;omega
theorem wo(h1:1<=ch)(h6:ch<=6)(hm:m.length %ch=0)(hl2:m.length<=4000):∀(j at' q:Nat),at' %ch=0->at'<=m.length->m.length-at'<=j->j<q->
  Wr (ch:Int) q (at':Int) (lY (λk=>decide (k<at')) (ug ch m) m)=some (ug ch m,0)
 |j,at',q+1,ha,hle,hj,hq=>by
  have hlen:=mT ch m;have hl:Ac (lY (λk=>decide (k<at')) (ug ch m) m)=(m.length:Int):=by rw[Ac,RA,hlen]
  rw[Wr,lI,hl];by_cases h:at'<m.length
  ·have hb:=K9 ha hm h;obtain⟨j,rfl⟩:∃k,j=k+1:=⟨j-1,F0⟩;have e1:Ap (Ad (at':Int) (ch:Int)-(at':Int)) 1=((ch-1:Nat):Int):=by rw[Ak,Bu];omega
   have e2:Ad (at':Int) (ch:Int)-(at':Int)=(ch:Int):=by rw[Ak];omega
   have e4:Ad (at':Int) (ch:Int)=((at'+ch:Nat):Int):=by rw[Ak];omega
   have hi:=Bli ch m (Wr (ch:Int) q) at' h1 h6 ha hb hl2 (ch-1) Au F0 D1;have hrest:=wo h1 h6 hm hl2 j (at'+ch) q (by rw[XA,ha]) hb F0 F0;have hstart:YA (Wr (ch:Int) q) (ch:Int) (at':Int) (lY (λk=>decide (k<at'\/ (at'+(ch-1)<=k/\k<at'+ch))) (ug ch m) m)=some (ug ch m,0):=by
    have e6:Ap ((ch-1:Nat):Int) 1=((ch-1:Nat):Int)-1:=Bu;rw[YA,lB,Aap,e1,e6];exact H9 hi hrest
   rw[B0 D2,show jB (m.length:Int) (at':Int) (Ad (at':Int) (ch:Int))=some () by rw[e4,jB,xS];omega,Aa,e1,e2];have hlast:=M5 (m:=m) ha (show ch-1<ch by omega) F0;rw[show ch-1-(ch-1)=0 by omega,unV]at hlast;by_cases hc:1<ch
   ·have e5:Ap ((ch-1:Nat):Int) 1=((ch-2:Nat):Int):=by rw[Bu];omega
    rw[B0 hc]at hlast;rw[B0 G6,xS F0,Aa,e5,xS F0,Aa,show(at':Int)+((ch-1:Nat):Int)=((at'+(ch-1):Nat):Int) by omega,show(at':Int)+((ch-2:Nat):Int)=((at'+(ch-2):Nat):Int) by omega,
     FG F0,Aa,FG F0,Aa,Aa,B! B7,B! B7,iL,<-hlast,nK F0,Aa]
    rw[<-hstart];congr 1;apply Xw;intro k _;rw[F?];simp;omega
   ·have hc1:ch=1:=F0
    rw[B! G6,<-hstart];congr 1;rw[B! hc]at hlast;apply TN;intro k hk;by_cases hk2:k=at'
    ·subst hk2;rw[B! B7,B0 B8];rw[show k+(ch-1)=k by omega]at hlast;exact hlast.symm
    ·by_cases hk3:k<at'
     ·rw[B0 B8,B0 B8]
     ·rw[B! B8,B! B8]
  ·rw[B! D2,wG (λk hk=>by simp;omega)];rfl
theorem Azd(h1:1<=ch)(h6:ch<=6)(hm:m.length %ch=0)(hl2:m.length<=4000):I3 (ch:Int) m=some (ug ch m,0):=by
 have hlen:=mT ch m;have h:=wo ch m h1 h6 hm hl2 m.length 0 Au B7 F0 F0 D1;rw[I3,uQ,Agl ch m h1 h6 hm hl2,Aa,B! D3,Dr,Bi B8,Aa,Aa,HB,Ac3];rw[qQ hlen.symm (λk _=>by simp)]at h;exact h
end
def X8(f:Nat->Int32)(ch:Nat):LX:=(List.range ch).map λi=>unV f ch (ch-1-i)
theorem jD(f:Nat->Int32)(ch:Nat):(X8 f ch).length=ch:=by simp[X8]
theorem O0(f:Nat->Int32){ch i:Nat}(h:i<ch):(X8 f ch).getD i 0=unV f ch (ch-1-i):=by
 rw[Ko (by rw[jD];exact h)];simp[X8]
theorem Awg(a b:Int32):Dw (Ap (Ae a:Int) (Ae b:Int))=some (a-b):=by
 have:=DO a;have:=DO b;rw[Gm,Gm,Bu,uj,uH,KA,KA]
theorem Arf(a b:Int32):Dw (Ad (Ae a:Int) (Bo (Ae b:Int) (2:Int)))=some (a+Bo b (2:Int32)):=by
 have:=DO a;have hb:=DO b;have hd: -2147483648<=b.toInt.tdiv 2/\b.toInt.tdiv 2<=2147483648:=by
  rw[kT,show Int.sign 2=1 from rfl];by_cases h:0<=b.toInt\/2∣b.toInt
  ·rw[B0 h];omega
  ·rw[B! h];omega
 have e:Bo b (2:Int32)=Int32.ofInt (b.toInt.tdiv 2):=rfl;rw[Gm,Gm,UT,De F0 F0,Ak,uj,uF,KA,e]
theorem Aat(seg z:LX)(ch:Nat)(h6:ch<=6)(hs:seg.length=ch)(hz:z.length=ch):∀(i q:Nat),i+1<=ch->i<q->
  Js seg q ((i:Int)-1) (lY (λk=>decide (i<=k)) (X8 (λi=>seg.getD i 0) ch) z)=some (X8 (λi=>seg.getD i 0) ch)
 |0,q+1,hi,_=>by
  rw[Js,Vn,B! I?,wG (λk hk=>by simp)];rfl
 |i+1,q+1,hi,hq=>by
  have hlen:=jD (λi=>seg.getD i 0) ch;have e3:Ad (i:Int) 1=((i+1:Nat):Int):=by rw[Ak];omega
  have hv:(X8 (λi=>seg.getD i 0) ch).getD (i+1) 0-seg.getD i 0=(X8 (λi=>seg.getD i 0) ch).getD i 0:=by
   rw[O0 _ F0,O0 _ F0,show ch-1-i=(ch-1-(i+1))+1 by omega,unV,show ch-2-(ch-1-(i+1))=i by omega]
  rw[Js,Vn,show((i+1:Nat):Int)-1=(i:Int) by omega,B0 I?,e3,FG F0,Aa,g32 F0,Aa,Aa,B0 B7,Awg,Aa,FG F0,Aa,hv,nK F0,Aa,Bu];have ih:=Aat seg z ch h6 hs hz i q F0 F0;rw[<-ih];congr 1;apply Xw;intro k _;rw[F?];simp;omega
theorem Aih{l:LX}{i:Nat}(v:Int32)(h:i<l.length):(l.set i v).getD i 0=v:=by
 rw[Ko (by rw[NA];exact h)];simp
theorem Ajt(seg:LX)(ch:Nat)(h1:1<=ch)(h6:ch<=6)(hs:seg.length=ch):BC seg=some (X8 (λi=>seg.getD i 0) ch):=by
 have hlen:=jD (λi=>seg.getD i 0) ch;have hzl:(List.replicate ch (0:Int32)).length=ch:=by simp
 have e1:Ap (Ac seg) 1=((ch-1:Nat):Int):=by rw[Ac,hs,Bu];omega
 have e2:Ap (Ac seg) 2=((ch-1:Nat):Int)-1:=by rw[Ac,hs,Bu];omega
 have hlast:=O0 (λi=>seg.getD i 0) (show ch-1<ch by omega);rw[show ch-1-(ch-1)=0 by omega,unV]at hlast;have hend:∀z:LX,z.length=ch->z.getD (ch-1) 0=(X8 (λi=>seg.getD i 0) ch).getD (ch-1) 0->Uw seg z=some (X8 (λi=>seg.getD i 0) ch):=by
  intro z hz hzl;have h:=Aat seg z ch h6 hs hz (ch-1) Au F0 D1;have e:lY (λk=>decide (ch-1<=k)) (X8 (λi=>seg.getD i 0) ch) z=z:=by
   apply J4 (by rw[RA,hlen,hz]);intro k k1 k2;rw[Wa];by_cases hk:ch-1<=k
   ·obtain rfl:k=ch-1:=F0
    rw[B0 B7,<-hzl,Ko k2]
   ·rw[B! (by simpa using hk),Ko k2]
  rw[e]at h;rw[Uw,Abh,e2];exact h
 rw[BC,Aax,Ac,hs,oW,Aa,Bl SL,Aa];rw[Ac,hs]at e1;rw[Ac,hs]at e2;have hz1:(List.replicate (Int.toNat (ch:Int)) (0:Int32)).length=ch:=by simp
 have hs1:=g32 (l:=seg) (k:=ch-1) F0;rw[e1,hs1,Aa,g32 F0,Aa,Ww _ F0,Aa];by_cases hc:1<ch
 ·rw[B0 hc]at hlast;have e3:((ch-1:Nat):Int)-1=((ch-2:Nat):Int):=F0
  have hs2:=g32 (l:=seg) (k:=ch-2) F0;rw[B0 G6,Aa,e2,e3,hs2,Aa,Arf,Aa,g32 (by rw[NA];omega),Aa,Ww _ (by rw[NA];omega),Aa];refine hend _ B7 ?_;rw[hlast,Aih _ (by rw[NA];omega)]
 ·rw[B! hc]at hlast;rw[B! G6];refine hend _ B7 ?_;rw[hlast,Aih _ F0]
theorem Baa(ch:Nat)(m:LX)(h1:1<=ch)(h6:ch<=6)(hm:m.length %ch=0)(hl2:m.length<=4000):Wl (ch:Int) m=some 0:=by
 rw[Wl,B! HM,B! E4,Bl F_,Aa,B!];rw[Aq,Gz,Ac,<-aT,hm];simp
theorem Aoz(ch:Nat)(m:LX)(h1:1<=ch)(h6:ch<=6)(hm:m.length %ch=0)(hl2:m.length<=4000):∀(j at' q:Nat),at' %ch=0->at'<=m.length->m.length-at'<=j->j<q->
  Sy (ch:Int) m q (at':Int) ((ug ch m).take at')=some (ug ch m,0)
 |j,at',q+1,ha,hle,hj,hq=>by
  have hlen:=mT ch m;rw[Sy,Ak0];by_cases h:at'<m.length
  ·have hb:=K9 ha hm h;have e4:Ad (at':Int) (ch:Int)=((at'+ch:Nat):Int):=by rw[Ak];omega
   have hrest:=Aoz ch m h1 h6 hm hl2 (j-1) (at'+ch) q (by rw[XA,ha]) hb F0 F0;have hseg:((m.take (at'+ch)).drop at').length=ch:=by simp;omega
   have htl:((ug ch m).take at').length=at':=by simp[hlen];omega
   rw[B0 C2,e4,Wi,Aa,show((at'+ch:Nat):Int).toNat=at'+ch from rfl,show(at':Int).toNat=at' from rfl,Ajt _ ch h1 h6 hseg,Aa,Bi (by rw[htl,jD];omega),Aa];have e:(ug ch m).take at'++X8 (λi=>((m.take (at'+ch)).drop at').getD i 0) ch=(ug ch m).take (at'+ch):=by
    apply J4 (by rw[CR,htl,jD,G!,hlen];omega);intro k k1 k2;rw[G!,hlen]at k2;rw[List.getElem_append,jh];by_cases hk:k<at'
    ·rw[dif_pos (by rw[htl];exact hk),jh]
    ·rw[dif_neg (by rw[htl];exact hk)];have hu:=M5 (m:=m) ha (show k-at'<ch by omega) F0;rw[show at'+(k-at')=k by omega,Ko F0]at hu;have hx:∀n,n<=ch->unV (λi=>((m.take (at'+ch)).drop at').getD i 0) ch n=unV (λi=>m.getD (at'+i) 0) ch n:=by
      have hf:∀i,i<ch-> ((m.take (at'+ch)).drop at').getD i 0=m.getD (at'+i) 0:=by
       intro i hi;rw[Ko F0,Ko F0];simp
      intro n
      induction n with
      |zero=>
       intro _;rw[unV,unV,hf _ F0];split
       ·rw[hf _ F0]
       ·rfl
      |succ n ih=>intro hn;rw[unV,unV,ih F0,hf _ F0]
     have hy:=O0 (λi=>((m.take (at'+ch)).drop at').getD i 0) (show k-at'<ch by omega);rw[Ko (by rw[jD];omega)]at hy;rw[hu,<-hx _ F0,<-hy];congr 1;rw[htl]
   rw[e];exact hrest
  ·rw[B! C2,IU F0];rfl
theorem Aq3(ch:Nat)(m:LX)(h1:1<=ch)(h6:ch<=6)(hm:m.length %ch=0)(hl2:m.length<=4000):JZ (ch:Int) m=some (ug ch m,0):=by
 have h:=Aoz ch m h1 h6 hm hl2 m.length 0 Au B7 F0 F0 D1;rw[JZ,Aff,Baa ch m h1 h6 hm hl2,Aa,B! D3];exact h
def pre{α:Type}(ch c:Nat)(f:α->Nat->α)(a0:α):Nat->α
 |0=>a0
 |m+1=>if m %ch=c then f (pre ch c f a0 m) m else pre ch c f a0 m
theorem Ao1{α:Type}(ch c:Nat)(f:α->Nat->α)(a0:α):∀m,m<=c->c<ch->pre ch c f a0 m=a0
 |0,_,_=>rfl
 |m+1,h,h2=>by rw[pre,B! (by rw[D0 F0];omega),Ao1 ch c f a0 m F0 h2]
theorem Afp{α:Type}(ch c i:Nat)(f:α->Nat->α)(a0:α)(hi:i %ch=c)(hc:c<ch):∀j,j<ch->pre ch c f a0 (i+1+j)=pre ch c f a0 (i+1)
 |0,_=>rfl
 |j+1,h=>by
  have hne:(i+1+j) %ch≠c:=by
   intro e;have h1:(i+(1+j)) %ch=i %ch:=by rw[hi,<-e];congr 1;omega
   have h2:(1+j) %ch=0:=by
    have h3:=t! h1;rwa [P']at h3
   rw[D0 F0]at h2;omega
  rw[show i+1+(j+1)=(i+1+j)+1 by omega,pre,B! hne,Afp ch c i f a0 hi hc j F0]
theorem Auo(ch c i:Nat)(f:α->Nat->α)(a0:α)(hi:i %ch=c)(hc:c<ch):pre ch c f a0 (i+ch)=f (pre ch c f a0 i) i:=by
 have h:=Afp ch c i f a0 hi hc (ch-1) F0;rw[show i+1+(ch-1)=i+ch by omega]at h;rw[h,pre,B0 hi]
abbrev CS:=Int32×LX×LX
def UC(bits:Int)(s:CS)(y:Int32):Int32:=y+gF (sB bits) s.2.1 s.2.2+gs (shB bits) s.1
def jy(bits:Int)(s:CS)(y:Int32):CS:=(UC bits s y,ou s.2.1 s.2.2 y,(y+gF (sB bits) s.2.1 s.2.2)::s.2.2.take 15)
def cst(bits:Int)(ch:Nat)(t:LX)(v:LU)(c:Nat):Nat->CS:=pre ch c (λs i=>jy bits s (RO (v.getD i 0))) (0,t,List.replicate 16 0)
def OkC(bits:Int)(s:CS):Prop:=OkF (sB bits) s.2.1 s.2.2
theorem eP(bits:Int)(ch:Nat){t:LX}(ht:t.length=16)(v:LU)(c:Nat):∀m,OkC bits (cst bits ch t v c m)
 |0=>⟨Bgy bits,ht,by simp[cst,pre]⟩
 |m+1=>by
  have ih:=eP bits ch ht v c m;rw[cst,pre];split
  ·exact Att ih _ _
  ·exact ih
def J7(bits:Int)(ch:Nat)(t:LX)(v:LU):LX:=(List.range v.length).map λi=>UC bits (cst bits ch t v (i %ch) i) (RO (v.getD i 0))
theorem nI(bits:Int)(ch:Nat)(t:LX)(v:LU):(J7 bits ch t v).length=v.length:=by simp[J7]
theorem pD(bits:Int)(ch:Nat)(t:LX)(v:LU){i:Nat}(h:i<v.length):(J7 bits ch t v).getD i 0=UC bits (cst bits ch t v (i %ch) i) (RO (v.getD i 0)):=by
 rw[Ko (by rw[nI];exact h)];simp[J7]
abbrev CL:=Int×Int32×(Int×LX×LX×Unit)×Unit
def toC(bits:Int)(s:CS):CL:=(bits,s.1,(sB bits,s.2.1,s.2.2,()),())
def cts(bits:Int)(ch:Nat)(t:LX)(v:LU)(i:Nat):List CL:=(List.range 6).map λc=>toC bits (cst bits ch t v c i)
theorem Aoo{bits:Int}{ch:Nat}{t:LX}{v:LU}{i c:Nat}(h:c<6):Am (cts bits ch t v i) (c:Int)=some (toC bits (cst bits ch t v c i)):=by
 rw[Bt (by simp[cts];exact h)];simp[cts]
theorem B_(bits:Int)(ch:Nat)(t:LX)(v:LU)(c m:Nat):cst bits ch t v c (m+1)=if m %ch=c then jy bits (cst bits ch t v c m) (RO (v.getD m 0))else cst bits ch t v c m:=rfl
theorem An3{bits:Int}{ch:Nat}{t:LX}{v:LU}{i c:Nat}(h:c<6)(hc:i %ch=c):Nj (cts bits ch t v i) (c:Int) (toC bits (jy bits (cst bits ch t v c i) (RO (v.getD i 0))))=some (cts bits ch t v (i+1)):=by
 rw[Ww _ (by simp[cts];exact h)];congr 1;apply J4 (by simp[cts]);intro k h1 h2;rw[XG];simp only[cts,NB,NP];by_cases hk:c=k
 ·subst hk;rw[B0 rfl,B_,B0 hc]
 ·rw[B! hk,B_,B! F0]
section
variable {bits:Int} {ch:Nat} {t:LX} {v:LU}
theorem Afz(hb:Bn bits)(ht:t.length=16)(h1:1<=ch)(h6:ch<=6)(hv:v.length<=4000):∀(j i q:Nat),i+j=v.length->j<q->
  Lj v (ch:Int) bits q (i:Int) (cts bits ch t v i) ((J7 bits ch t v).take i)=Pa (ch:Int) bits (J7 bits ch t v)
 |0,i,q+1,hi,_=>by
  rw[Lj,Oz,B! C2,IU (by rw[nI];omega)]
 |j+1,i,q+1,hi,hq=>by
  have hlen:=nI bits ch t v;have hc:i %ch<6:=HJ (I7 _ F0) h6;have hok:=eP bits ch ht v (i %ch) i;have hs:=An3 (bits:=bits) (ch:=ch) (t:=t) (v:=v) (i:=i) hc rfl;have hx:=pD bits ch t v (i:=i) F0;have hcb:=Aqe hb hok (cst bits ch t v (i %ch) i).1 (RO (v.getD i 0));have ih:=Afz hb ht h1 h6 hv j (i+1) q F0 F0;rw[Ms F0,<-Ko F0,hx]at ih;rw[Lj,Oz,B0 C2,N8 F0,Aa,Bl F_,Aa,JB,Aoo hc,Aa,Aa,Avf,Aa];refine H9 (congrArg (λo=>Option.bind o _) hcb) ?_;rw[Aa];simp only;rw[DJ,Al6,B! D3,JB];refine H9 (congrArg (λo=>Option.bind o _) hs) ?_;rw[Aa,Bi B8,Aa,Ak];exact ih
theorem Ar8(hb:Bn bits)(ht:t.length=16)(h1:1<=ch)(h6:ch<=6)(hv:v.length<=4000):Xm (ch:Int) bits t v=Pa (ch:Int) bits (J7 bits ch t v):=by
 have h:=Afz hb ht h1 h6 hv v.length 0 Au F0 D1;have e:Au=(Au-7)+1+1+1+1+1+1+1:=by have:=As;omega
 have hs:DN v (ch:Int) bits t 0 (List.replicate 6 ((0:Int),(0:Int32),((0:Int),(List.replicate 16 (0:Int32)),(List.replicate 16 (0:Int32)),()),()))=DV v (ch:Int) bits (cts bits ch t v 0):=by
  rw[DN,e];obtain rfl|rfl|rfl:=hb<;>rfl
 rw[Xm,GN,hs];exact h
theorem xu(bk:Int->LX->Option LX)(hb:Bn bits)(ht:t.length=16)(h1:1<=ch)(h6:ch<=6)(hv:v.length<=4000)(z:LX)(c:Nat)(hc:c<ch):∀(j i q:Nat),i %ch=c->v.length-i<=j->i<=5000->j<q->
  Oc bk v (ch:Int) bits t (c:Int) q (i:Int) (lY (λk=>decide (k %ch<c\/ (k %ch=c/\k<i))) (J7 bits ch t v) z) bits (cst bits ch t v c i).1 (sB bits) (cst bits ch t v c i).2.1 (cst bits ch t v c i).2.2=
   bk ((c+1:Nat):Int) (lY (λk=>decide (k %ch<c+1)) (J7 bits ch t v) z)
 |j,i,q+1,hi,hj,hi5,hq=>by
  have hlen:=nI bits ch t v;rw[Oc,Ab3];by_cases h:i<v.length
  ·have hok:=eP bits ch ht v c i;have hst:=Ase hb hok (cst bits ch t v c i).1 (RO (v.getD i 0));have hx:=pD bits ch t v (i:=i) h;rw[hi]at hx;have ih:=xu bk hb ht h1 h6 hv z c hc (j-1) (i+ch) q (by rw[XA];exact hi) F0 F0 F0;have C? :cst bits ch t v c (i+ch)=jy bits (cst bits ch t v c i) (RO (v.getD i 0)):=Auo ch c i _ _ hi hc;rw[C?]at ih;have hset:=nK (p:=λk=>decide (k %ch<c\/ (k %ch=c/\k<i))) (a:=J7 bits ch t v) (b:=z) (k:=i) F0;rw[hx]at hset;have Z!:lY (λj=>decide (j %ch<c\/ (j %ch=c/\j<i))||decide (j=i)) (J7 bits ch t v) z=lY (λk=>decide (k %ch<c\/ (k %ch=c/\k<i+ch))) (J7 bits ch t v) z:=by
    apply Xw;intro k _;rw[F?];simp only[HV,D!];constructor
    ·rintro((h1|h1)|h1)
     ·exact .inl h1
     ·exact .inr ⟨h1.1,F0⟩
     ·subst h1;exact .inr ⟨hi,F0⟩
    ·rintro(h1|⟨h1,h2⟩)
     ·exact .inl (.inl h1)
     ·by_cases h3:k<i
      ·exact .inl (.inr ⟨h1,h3⟩)
      ·refine .inr ?_;have h4:(i+(k-i)) %ch=i %ch:=by rw[show i+(k-i)=k by omega,h1,hi]
       have h5:=t! h4;rw[P',D0 F0]at h5;omega
   rw[Z!]at hset;rw[B0 C2,N8 h,Aa,Ay4,Aa];refine H9 (congrArg (λo=>Option.bind o _) hst) ?_;rw[Aa];simp only;rw[Ab9,Ab4,FG F0,Aa];refine H9 (congrArg (λo=>Option.bind o _) hset) ?_;rw[Aa,Aas,Aaz,Ak];exact ih
  ·rw[B! C2,Aay,Ab7,Ak];have Z!:lY (λk=>decide (k %ch<c\/ (k %ch=c/\k<i))) (J7 bits ch t v) z=lY (λk=>decide (k %ch<c+1)) (J7 bits ch t v) z:=by
    apply Xw;intro k hk;rw[F?];simp only[D!];omega
   rw[Z!];rfl
theorem za(hb:Bn bits)(ht:t.length=16)(h1:1<=ch)(h6:ch<=6)(hv:v.length<=4000)(z:LX):∀(j c q:Nat),c+j=ch->j<q->
  He v (ch:Int) bits t q (c:Int) (lY (λk=>decide (k %ch<c)) (J7 bits ch t v) z)=Uu (ch:Int) bits (J7 bits ch t v)
 |0,c,q+1,hc,_=>by
  rw[He,Uv,B! D2,wG (λk hk=>by have:=I7 k (show 0<ch by omega);simp;omega)]
 |j+1,c,q+1,hc,hq=>by
  have ih:=za hb ht h1 h6 hv z j (c+1) q F0 F0;have hin:=xu (He v (ch:Int) bits t q) hb ht h1 h6 hv z c F0 v.length c Au (D0 F0) F0 F0 D1;have h0:cst bits ch t v c c=(0,t,List.replicate 16 0):=Ao1 ch c _ _ c (E1 _) F0;rw[h0]at hin;have Z!:lY (λk=>decide (k %ch<c\/ (k %ch=c/\k<c))) (J7 bits ch t v) z=lY (λk=>decide (k %ch<c)) (J7 bits ch t v) z:=by
   apply Xw;intro k hk;have:=N0 k ch;rw[F?];simp only[D!];omega
  rw[Z!]at hin;rw[He,Uv,B0 D2,Bho hb,Aa];simp only;rw[Ab6];exact H9 hin ih
theorem xT(hb:Bn bits)(ht:t.length=16)(h1:1<=ch)(h6:ch<=6)(hv:v.length<=4000)(hm:v.length %ch=0):Ug (ch:Int) bits t v=some (ug ch (J7 bits ch t v)):=by
 have hlen:=nI bits ch t v;have h:=za hb ht h1 h6 hv (List.replicate v.length 0) ch 0 Au F0 D1;rw[qQ (by rw[hlen];simp) (λk _=>by simp)]at h;rw[Ug,Abw,Ac,oW,Aa,Bl SL,Aa,Abi];refine H9 h ?_;rw[Uu,Ab5,Aq3 ch _ h1 h6 (by rw[hlen];exact hm) F0,Aa]
end
def hB(bits:Int):Int:=if bits=8 then 128 else if bits=16 then 32768 else 8388608
theorem J_{bits:Int}(h:Bn bits):Tk bits=some (Int32.ofInt (-(hB bits)),Int32.ofInt (hB bits-1),0):=by
 obtain rfl|rfl|rfl:=h<;>decide
theorem WJ{bits:Int}(h:Bn bits):Lg bits=some (hB bits):=by
 obtain rfl|rfl|rfl:=h<;>rfl
theorem JH(bits:Int):0<hB bits/\hB bits<=8388608:=by
 unfold hB;split; · omega
 ·split<;>omega
theorem Aa0{bits:Int}(h:Bn bits)(l:LX)(hl:l.length<=4000):∀(j i q:Nat),i+j=l.length->j<q->
  Ur (Int32.ofInt (-(hB bits))) (Int32.ofInt (hB bits-1)) l q (i:Int)=Ba l (hB bits) q (i:Int)
 |0,i,q+1,hi,_=>by
  rw[Ur,IW,Ba,Cx,B! C2,B! C2];rfl
 |j+1,i,q+1,hi,hq=>by
  have hh:=JH bits;have ih:=Aa0 h l hl j (i+1) q F0 F0;have e1:(Int32.ofInt (-(hB bits))).toInt= -(hB bits):=by rw[NR,aL (by show -(4294967296/2:Int)<= _;omega) (by show _<(4294967296+1)/2;omega)]
  have e2:(Int32.ofInt (hB bits-1)).toInt=hB bits-1:=by rw[NR,aL (by show -(4294967296/2:Int)<= _;omega) (by show _<(4294967296+1)/2;omega)]
  rw[Ur,IW,Ba,Cx,B0 C2,B0 C2,g32 F0,Aa,Aa,Aa,Gm,d_,De F0 F0,Ak,eN,qA,e1,e2,Af,Eh];generalize(l.getD i 0).toInt=X;by_cases h1:X< -(hB bits)
  ·rw[B0 B8,B0 B8]
  ·rw[B! (c:=decide (X<0-hB bits)=true) B8];by_cases h2:hB bits<=X
   ·rw[B0 B8,B0 B8]
   ·rw[B! B8,B! B8];exact ih
theorem bC{bits:Int}(h:Bn bits)(l:LX)(hl:l.length<=4000):Sr bits l=Ay bits l:=by
 have hh:=JH bits;rw[Sr,aV,J_ h,Aa,Ay,Dx,WJ h,Aa];simp only;rw[B! D3,B! E4,B! GZ,B! E4];exact Aa0 h l hl l.length 0 Au F0 D1
theorem Al5{bits:Int}(h:Bn bits)(l:LX)(hl:l.length<=4000):∃e,Ay bits l=some e:=by
 have hh:=JH bits;have key:∀(j i q:Nat),i+j=l.length->j<q->∃e,Ba l (hB bits) q (i:Int)=some e:=by
  intro j
  induction j with
  |zero=>
   intro i q hi hq;obtain⟨q,rfl⟩:∃k,q=k+1:=⟨q-1,F0⟩;rw[Ba,Cx,B! C2];exact⟨_,rfl⟩
  |succ j ih=>
   intro i q hi hq;obtain⟨q,rfl⟩:∃k,q=k+1:=⟨q-1,F0⟩;rw[Ba,Cx,B0 C2,g32 F0,Aa,Aa,Ak];split
   ·exact⟨_,rfl⟩
   ·split
    ·exact⟨_,rfl⟩
    ·exact ih (i+1) q F0 F0
 obtain⟨e,he⟩:=key l.length 0 Au F0 D1;rw[Ay,Dx,WJ h,Aa,B! GZ,B! E4];exact⟨e,he⟩
theorem Abp{bits:Int}{ch:Nat}{t:LX}{v:LU}(hb:Bn bits)(ht:t.length=16)(h1:1<=ch)(h6:ch<=6)(hv:v.length<=4000)(hm:v.length %ch=0):
  ∃l e,Ug (ch:Int) bits t v=some l/\Uk (ch:Int) bits l=some (if e≠0 then([],e)else(l,0))/\Xm (ch:Int) bits t v=some (if e≠0 then([],e)else(l,0))/\Ay bits l=some e/\l.length=v.length:=by
 have hlen:=nI bits ch t v;have hul:=mT ch (J7 bits ch t v);obtain⟨e,he⟩:=Al5 hb (ug ch (J7 bits ch t v)) F0;refine⟨ug ch (J7 bits ch t v),e,xT hb ht h1 h6 hv hm,?_,?_,he,F0⟩
 ·rw[Uk,he,Aa];by_cases h:e=0
  ·rw[B! (by rw[Aj];simpa using h),B! (by simpa using h)]
  ·rw[B0 (by rw[Aj];simpa using h),B0 h]
 ·rw[Ar8 hb ht h1 h6 hv,Pa,Akc,Azd ch _ h1 h6 (by rw[hlen];exact hm) F0,Aa];simp only;rw[B! D3,bC hb _ F0,he,Aa];by_cases h:e=0
  ·rw[B! (by rw[Aj];simpa using h),B! (by simpa using h)]
  ·rw[B0 (by rw[Aj];simpa using h),B0 h]
def sE(s:Nat):Nat:=(s/2)^^^ (if s %2=1 then 3988292384 else 0)
theorem H? {s:Nat}(h:s<4294967296):sE s<4294967296:=by
 unfold sE;exact M2 (n:=32) B8 (by split<;>decide)
theorem Ag3(x y:Nat):(x^^^y)/2=(x/2)^^^ (y/2):=by
 have:=Bn0 (a:=x) (b:=y) (i:=1);simpa [Bod]using this
theorem Aq7(x y:Nat):sE (x^^^y)=sE x^^^sE y:=by
 have h:(x^^^y) %2=(x %2+y %2) %2:=by
  have:=Nat.xor_mod_two_eq_one (a:=x) (b:=y);have h1:(x^^^y) %2<2:=I7 _ F0;omega
 simp only[sE,Ag3,h];have hx:x %2=0\/x %2=1:=F0
 have hy:y %2=0\/y %2=1:=F0
 rcases hx with hx|hx<;>rcases hy with hy|hy<;>simp only[hx,hy]<;>simp
 ·rw[L7]
 ·rw[L7,TV (y/2),L7,TV 3988292384 (y/2)]
 ·rw[L7,TV 3988292384,L7,Nat.xor_self];simp
def CQ:Nat->Nat->Nat
 |0,s=>s
 |k+1,s=>CQ k (sE s)
theorem yg:∀(k x y:Nat),CQ k (x^^^y)=CQ k x^^^CQ k y
 |0,_,_=>rfl
 |k+1,x,y=>by rw[CQ,Aq7,yg k];rfl
theorem wu:∀(k h:Nat),CQ k (2^k*h)=h
 |0,h=>by simp[CQ]
 |k+1,h=>by
  have:sE (2^(k+1)*h)=2^k*h:=by
   rw[HG,G? (2^k) 2,I0,sE,B! F0,Bol _ F0];simp
  rw[CQ,this,wu k]
theorem zq:∀(k:Nat) {s:Nat},s<4294967296->CQ k s<4294967296
 |0,_,h=>h
 |k+1,_,h=>zq k (H? h)
def jr(s c:Nat):Nat:=CQ 8 (s^^^c)
theorem zk{s c:Nat}(h:s<4294967296)(hc:c<256):jr s c<4294967296:=zq 8 (M2 (n:=32) (by simpa using h) B8)
theorem Ag0{s c:Nat}(hc:c<256):jr s c=(s/256)^^^CQ 8 ((s %256)^^^c):=by
 have h:s=(2^8*(s/256))^^^ (s %256):=by
  have h1:s %256<2^8:=by simpa using I7 s (by omega:256>0)
  have:=P! h1 (s/256);have h2:2^8*(s/256)|||s %256=(2^8*(s/256))^^^ (s %256):=by
   apply jW;intro i;rw[XY,Nat.testBit_xor];by_cases hi:i<8
   ·have:(2^8*(s/256)).testBit i=false:=by rw[Bom];simp;omega
    rw[this];simp
   ·have:(s %256).testBit i=false:=Nat.testBit_lt_two_pow (HJ h1 (G7 F0 F0));rw[this];simp
  omega
 rw[jr]
 conv=>lhs;rw[h]
 rw[L7,yg,wu]
def WC(s:Nat)(l:LB):Nat:=l.foldl (λs c=>jr s c.toNat) s
def Ew(b:LB):UInt32:=4294967295-UInt32.ofNat (WC 4294967295 b)
theorem Ayy(s:UInt32)(c:Nat)(hc:c<256):LR s (Ae (GM (UInt8.ofNat c) (2:UInt8)):Int)=some (UInt32.ofNat (s.toNat/2^^^ (if(s.toNat^^^c) %2=1 then 3988292384 else 0))):=by
 have h1:(Ae (GM (UInt8.ofNat c) (2:UInt8)):Int)=((c %2:Nat):Int):=by
  rw[YI,Bat,UInt8.toNat_mod,HT];show((c %256 %2:Nat):Int)=_;omega
 have h2:geq (GM s (2:UInt32)) (1:UInt32)=decide (s.toNat %2=1):=by
  rw[oM,Af5,F?];simp only[G3,D!];rw[<-kH,uO];rfl
 have h3:Bo s (2:UInt32)=UInt32.ofNat (s.toNat/2):=by
  apply UInt32.toNat_inj.1;rw[Agg,UInt32.toNat_div,HO]
  show s.toNat/2=_;have:=s.toNat_lt;omega
 have h4:BH (Bo s (2:UInt32)) (3988292384:UInt32)=UInt32.ofNat (s.toNat/2^^^3988292384):=by
  apply UInt32.toNat_inj.1;rw[h3,iF,XC,HO,HO];have:=s.toNat_lt;rw[D0 (a:=s.toNat/2) F0,D0]
  ·rfl
  ·exact M2 (n:=32) F0 B6
 have hx:(s.toNat^^^c) %2=(s.toNat %2+c %2) %2:=by
  have:=Nat.xor_mod_two_eq_one (a:=s.toNat) (b:=c);have h1:(s.toNat^^^c) %2<2:=I7 _ F0;omega
 have hs:s.toNat %2=0\/s.toNat %2=1:=F0
 have hc2:c %2=0\/c %2=1:=F0
 rw[LR,Aev,h1,h2,hx];rcases hs with hs|hs<;>rcases hc2 with hc2|hc2<;>simp[hs,hc2,Ar,Afh,Aj3,iF,h3]
theorem Azx:∀(j i q:Nat) (s:UInt32) (c:Nat),i+j=8->j<q->c<2^j->Nl q s (UInt8.ofNat c) (i:Int)=some (UInt32.ofNat (CQ j (s.toNat^^^c)))
 |0,i,q+1,s,c,hi,_,hc=>by
  obtain rfl:i=8:=F0
  obtain rfl:c=0:=by simpa using hc
  rw[Nl,BD,B! I_,Ak8,Ajg,CQ];simp
 |j+1,i,q+1,s,c,hi,hq,hc=>by
  have hc8:c<256:=HJ hc (show 2^(j+1)<=2^8 from G7 F0 F0);rw[Nl,BD,B0 D2,Ayy s c hc8,Aa,Ak];have e:Bo (UInt8.ofNat c) (2:UInt8)=UInt8.ofNat (c/2):=by
   apply UInt8.toNat_inj.1;rw[Bab,UInt8.toNat_div,HT,HT]
   show c %256/2=_;omega
  rw[e];have h:=Azx j (i+1) q (UInt32.ofNat (s.toNat/2^^^ (if(s.toNat^^^c) %2=1 then 3988292384 else 0))) (c/2) F0 F0 (by rw[HG]at hc;omega);rw[show((i:Int)+1)=((i+1:Nat):Int) by omega,h,HO,CQ];congr 3;have:=s.toNat_lt;rw[D0,sE,Ag3,L7,L7,TV (c/2)];exact M2 (n:=32) F0 (by split<;>decide)
theorem Az7(s:UInt32)(c:UInt8):Avz s c=some (UInt32.ofNat (jr s.toNat c.toNat)):=by
 have h:=Azx 8 0 Au s c.toNat F0 D1 (by simpa using c.toNat_lt);rw[UInt8.ofNat_toNat]at h;exact h
theorem Bl9(b:LB)(hb:b.length<4611686018427387904):∀(j i q:Nat) (s:UInt32),i+j=b.length->j<q->Lb b q s (i:Int)=some (UInt32.ofNat (WC s.toNat (b.drop i)))
 |0,i,q+1,s,hi,_=>by
  rw[Lb,Wf,B! C2,show i=b.length by omega,MT];simp[Ad7,Ac9,WC]
 |j+1,i,q+1,s,hi,hq=>by
  have hlt:i<b.length:=F0
  rw[Lb,Wf,B0 C2,Bt hlt,Aa,Az7,Aa,Ak];have h:=Bl9 b hb j (i+1) q (UInt32.ofNat (jr s.toNat b[i].toNat)) F0 F0;rw[show((i:Int)+1)=((i+1:Nat):Int) by omega,h,drop_cons hlt,HO,D0 (zk s.toNat_lt b[i].toNat_lt)];rfl
theorem qY(b:LB)(hb:b.length<4611686018427387904):Xp b=some (Ew b):=by
 have h:=Bl9 b hb b.length 0 Au 4294967295 F0 D1;rw[Xp,Akf,Ac7,Acf,show((0:Int))=((0:Nat):Int)from rfl,h,Aa,D'];rfl
theorem Bav(c:UInt32):BH (Cn c (GI.toZ (1:UInt64)).toNat) (Bg (3988292384:UInt32) (Fb c (1:UInt32)))=UInt32.ofNat (sE c.toNat):=by
 apply UInt32.toNat_inj.1;have e:(GI.toZ (1:UInt64)).toNat=1:=rfl;have h1:(Cn c 1).toNat=c.toNat/2:=by rw[RT]
 have h2:(Bg (3988292384:UInt32) (Fb c (1:UInt32))).toNat=if c.toNat %2=1 then 3988292384 else 0:=by
  rw[Awt,a_,UInt32.toNat_mul,kG]
  show 3988292384*(c.toNat&&&1) %4294967296=_;rw[tU];have:c.toNat %2=0\/c.toNat %2=1:=F0
  rcases this with h|h<;>simp[h]
 rw[e,iF,XC,h1,h2,HO,D0 (H? c.toNat_lt)];rfl
theorem Afw(Je:Int->LU->Option (UInt32×Int))(s:UInt32)(b:LB)(x:Int)(t:LU):∀(j i q:Nat) (c:UInt32),i+j=8->j<q->
  Up Je s b x t q c (i:Int)=KD Je s b x (UInt32.ofNat (CQ j c.toNat)) t
 |0,i,q+1,c,hi,_=>by
  obtain rfl:i=8:=F0
  rw[Up,JN,B! I_,CQ,UInt32.ofNat_toNat]
 |j+1,i,q+1,c,hi,hq=>by
  rw[Up,JN,B0 D2,Bav,Ak,show((i:Int)+1)=((i+1:Nat):Int) by omega,Afw Je s b x t j (i+1) q _ F0 F0,HO,D0 (H? c.toNat_lt)];rfl
def tbl(n:Nat):LU:=(List.range n).map λi=>UInt32.ofNat (CQ 8 i)
theorem Ao3(s:UInt32)(b:LB):∀(j i q:Nat),i+j=256->j<q->Qn s b q (i:Int) (tbl i++List.replicate j 0)=KG s b (tbl 256)
 |0,i,q+1,hi,_=>by
  obtain rfl:i=256:=F0
  rw[Qn,MA,B! I_];simp
 |j+1,i,q+1,hi,hq=>by
  have hlen:(tbl i++List.replicate (j+1) 0).length=i+(j+1):=by simp[tbl]
  rw[Qn,MA,B0 D2,YW];have h:=Afw (Qn s b q) s b (i:Int) (tbl i++List.replicate (j+1) 0) 8 0 Au (Ae (i:Int)) F0 D1;rw[show((0:Int))=((0:Nat):Int)from rfl,h,KD,aG,Bt (by rw[hlen];omega),Aa,Ww _ (by rw[hlen];omega),Aa,bU,Bhr,Ak];have e:(Ae (i:Int):UInt32).toNat=i:=by rw[zo,HO,D0 F0]
  rw[e,MG,vF (by simp[tbl])];have h2:=Ao3 s b j (i+1) q F0 F0;have h3:tbl (i+1)=tbl i++[UInt32.ofNat (CQ 8 i)]:=by simp[tbl,bZ]
  rw[h3]at h2;rw[show((i:Int)+1)=((i+1:Nat):Int) by omega,<-h2];simp
theorem Azl{i:Nat}(h:i<256):Am (tbl 256) (i:Int)=some (UInt32.ofNat (CQ 8 i)):=by
 rw[Bt (by simpa [tbl]using h)];simp[tbl]
theorem Axa(s:UInt32)(c:UInt8):Am (tbl 256) (GI.toZ (BH (Ae s:UInt8) c))=some (UInt32.ofNat (CQ 8 ((s.toNat %256)^^^c.toNat))):=by
 have e:GI.toZ (BH (Ae s:UInt8) c)=(((s.toNat %256)^^^c.toNat:Nat):Int):=by
  rw[GW,Amv,uE,zU,HT]
 rw[e,Azl];exact M2 (n:=8) B8 (by simpa using c.toNat_lt)
theorem Aq4(s:UInt32)(c:UInt8):BH (Cn s (GI.toZ (8:UInt64)).toNat) (UInt32.ofNat (CQ 8 ((s.toNat %256)^^^c.toNat)))=UInt32.ofNat (jr s.toNat c.toNat):=by
 apply UInt32.toNat_inj.1;have hlt:CQ 8 ((s.toNat %256)^^^c.toNat)<4294967296:=zq 8 (M2 (n:=32) B8 (by have:=c.toNat_lt;simp;omega));have e:(GI.toZ (8:UInt64)).toNat=8:=rfl;rw[e,iF,XC,RT,HO,HO,D0 hlt,D0 (zk s.toNat_lt c.toNat_lt),Ag0 c.toNat_lt]
theorem Ah5(b:LB)(hb:b.length<4611686018427387904):∀(j i q:Nat) (s:UInt32),i+j=b.length->j<q->Vg b (tbl 256) q s (i:Int)=some (UInt32.ofNat (WC s.toNat (b.drop i)),0)
 |0,i,q+1,s,hi,_=>by
  rw[Vg,LZ,B! C2,show i=b.length by omega,MT];simp[ZI,Bic,WC]
 |j+1,i,q+1,s,hi,hq=>by
  have hlt:i<b.length:=F0
  rw[Vg,LZ,B0 C2,Bt hlt,Aa,Axa,Aa,Aa,Aq4,Ak];have h:=Ah5 b hb j (i+1) q (UInt32.ofNat (jr s.toNat b[i].toNat)) F0 F0;rw[show((i:Int)+1)=((i+1:Nat):Int) by omega,h,drop_cons hlt,HO,D0 (zk s.toNat_lt b[i].toNat_lt)];rfl
theorem Ayr(s:UInt32)(b:LB)(hb:b.length<=100000):nO s b=some (UInt32.ofNat (WC s.toNat b),0):=by
 have h:=Ao3 s b 256 0 Au F0 D1;have h2:=Ah5 b F0 b.length 0 Au s F0 D1;rw[nO,fW,B! E4,Bi5];refine H9 h ?_;rw[KG,ZM,ZO,ZX,Bj7];exact h2
theorem Auc(a:UInt32):b! a=4294967295-a:=by
 have h:=a.toNat_lt;have e:b! a=UInt32.ofNat (BitVec.ofInt 32 4294967295^^^BitVec.ofInt 32 (a.toNat:Int)).toNat:=Gn _;apply UInt32.toNat_inj.1;rw[e,HO,t? _ _ (by rw[tA];show a.toNat<=4294967295;omega)];have h1:BitVec.ofInt 32 (a.toNat:Int)=a.toBitVec:=g! a;have h2:(BitVec.ofInt 32 4294967295:BitVec 32)=BitVec.allOnes 32:=B6
 rw[h1,h2,BitVec.allOnes_xor,kR];show(4294967296-1-a.toNat) %4294967296=4294967295-a.toNat;omega
theorem T6(b:LB)(hb:b.length<=100000):BU b=some (Ew b,0):=by
 rw[BU,Ayr _ _ hb,Aa];simp only[Aj,Auc];rfl
theorem c_{p:Prop}(h:p:=by simp[Aj,Af,Aq];omega):p:=h
theorem TX{p:Prop}(h:p:=by simp[Aj,Af];omega):p:=h
theorem Amm:∀{l m:LB},l.length=m.length->Gf l=Gf m->l=m
 |[],[],_,_=>rfl
 |x::l,y::m,h,e=>by
  simp only[Gf]at e;have hx:=x.toNat_lt;have hy:=y.toNat_lt;have h1:x=y:=UInt8.toNat_inj.1 F0;rw[h1,Amm (l:=l) (m:=m) (by simpa using h) F0]
theorem FC:∀(w n:Nat),Gf (Tm n w)=n %256^w
 |0,n=>by simp[Tm,Gf,lq]
 |w+1,n=>by
  rw[Tm,Gf,FC w (n/256),HT,show(256:Nat)^(w+1)=256*256^w by rw[HG,G?],Nat.mod_mul]
def Vz(b:LB):Int:=
 if b.length<5 then 24 else if 41254<b.length then 4 else if(Ew (b.take (b.length-4))).toNat≠Gf (b.drop (b.length-4))then 22 else 0
theorem Ahy(b:LB):KR b=some (if Vz b≠0 then([],Vz b)else(b.take (b.length-4),0)):=by
 rw[KR];by_cases h1:b.length<5
 ·have hS:Vz b=24:=by rw[Vz,B0 h1]
  rw[B0 C2,hS];rfl
 rw[B! C2];by_cases h2:41254<b.length
 ·have hS:Vz b=4:=by rw[Vz,B! h1,B0 h2]
  rw[B0 E4,hS];rfl
 have e4:Ap (Ac b) 4=((b.length-4:Nat):Int):=by rw[Ac,Bu];omega
 have hd:(b.drop (b.length-4)).length=4:=by simp;omega
 rw[B! E4,e4,Dv,Aa,show((b.length-4:Nat):Int).toNat=b.length-4 from rfl,T6 _ B8,Aa];simp only;rw[B! D3,Cb,Aa,show((b.length-4:Nat):Int).toNat=b.length-4 from rfl,Aii _ F0 F0,Aa];have hne:Bd (xV (b.drop (b.length-4))) (Ae (Ew (b.take (b.length-4))):UInt64)=decide ((Ew (b.take (b.length-4))).toNat≠Gf (b.drop (b.length-4))):=by
  have hlt:=(Ew (b.take (b.length-4))).toNat_lt;rw[XP,F?];simp only[N1,ne_eq,<-RS,D!];rw[eY F0,Ef,H7,D0 F0];exact⟨λh e=>h e.symm,λh e=>h e.symm⟩
 simp only;rw[hne,Aa];by_cases h3:(Ew (b.take (b.length-4))).toNat≠Gf (b.drop (b.length-4))
 ·have hS:Vz b=22:=by rw[Vz,B! h1,B! h2,B0 h3]
  rw[B0 (by simp[h3]),hS];rfl
 ·have hS:Vz b=0:=by rw[Vz,B! h1,B! h2,B! h3]
  rw[B! (by rw[K5 h3];decide),hS];rfl
theorem Ard(b:LB)(hb:b.length<=1000000):DD b=some (b++Tm (Ew b).toNat 4):=by
 have h:∀k:Nat,(Ae (Cn (Ew b) k):UInt8)=UInt8.ofNat ((Ew b).toNat/2^k):=by
  intro k;rw[zU,RT]
 have h0:(Ae (Ew b):UInt8)=UInt8.ofNat (Ew b).toNat:=zU _;have h1:=h 8;have h2:=h 16;have h3:=h 24;rw[DD,qY b F0,Aa,Bi B8,Aa,Bi B8,Aa,h0,show(GI.toZ (8:UInt64)).toNat=8 from rfl,show(GI.toZ (16:UInt64)).toNat=16 from rfl,show(GI.toZ (24:UInt64)).toNat=24 from rfl,h1,h2,h3];simp only[Tm,TH,HB]
theorem zF(b:LB):Uh b=some (Vz b):=by
 rw[Uh];by_cases h1:b.length<5
 ·rw[B0 C2,Vz,B0 h1]
 rw[B! C2];by_cases h2:41254<b.length
 ·rw[B0 E4,Vz,B! h1,B0 h2]
 have e4:Ap (Ac b) 4=((b.length-4:Nat):Int):=by rw[Ac,Bu];omega
 have hd:(b.drop (b.length-4)).length=4:=by simp;omega
 rw[B! E4,e4,Dv,Aa,show((b.length-4:Nat):Int).toNat=b.length-4 from rfl,Ard _ B8,Aa];have hlt:=(Ew (b.take (b.length-4))).toNat_lt;have hiff:(b.take (b.length-4)++Tm (Ew (b.take (b.length-4))).toNat 4 !=b)=decide ((Ew (b.take (b.length-4))).toNat≠Gf (b.drop (b.length-4))):=by
  rw[F?];simp only[N1,ne_eq,D!];constructor
  ·intro h e;apply h;have:Tm (Ew (b.take (b.length-4))).toNat 4=b.drop (b.length-4):=Amm (by rw[Cf,hd]) (by rw[FC,D0 F0,e]);rw[this,N2]
  ·intro h e;apply h;have hx:Tm (Ew (b.take (b.length-4))).toNat 4=b.drop (b.length-4):=by
    have e2:b.take (b.length-4)++Tm (Ew (b.take (b.length-4))).toNat 4=b.take (b.length-4)++b.drop (b.length-4):=by rw[e,N2]
    exact List.append_cancel_left e2
   rw[<-hx,FC,D0 F0]
 rw[hiff];by_cases h3:(Ew (b.take (b.length-4))).toNat≠Gf (b.drop (b.length-4))
 ·rw[B0 (by simp[h3]),Vz,B! h1,B! h2,B0 h3]
 ·rw[B! (by rw[K5 h3];decide),Vz,B! h1,B! h2,B! h3]
theorem Aiy{b:LB}(h:Vz b=0):5<=b.length/\b.length<=41254:=by
 unfold Vz at h;split at h
 ·simp at h
 ·split at h
  ·simp at h
  ·omega
theorem D4{c:Nat}(h1:1<=c)(h6:c<=6):Bo (4000:Int) (c:Int)=((4000/c:Nat):Int):=by
 have:c=1\/c=2\/c=3\/c=4\/c=5\/c=6:=F0
 rcases this with rfl|rfl|rfl|rfl|rfl|rfl<;>rfl
theorem Ayb(p:LB)(h:p.length<=41250):okB p (8*p.length):=⟨F0,F0,λk h1 h2=>by omega⟩
theorem HN{bits:Int}{ch n:Nat}{t:LX}(b:LB)(hb:Bn bits)(ht:t.length=16)(h1:1<=ch)(h6:ch<=6)(n1:1<=n)(n2:n<=4000/ch):
  ∃l e,Kl (ch:Int) bits t (n:Int) b=some (l,e)/\Dq (ch:Int) bits t (n:Int) b=some (l,e)/\ (e=0->Ay bits l=some 0/\l.length<=4000/\l.length=n*ch)/\ (e≠0->l=[]):=by
 have hn:n*ch<=4000:=by
  have:=EK ch n2;have h2:=LK 4000 ch;omega
 have hq4:=D4 h1 h6;generalize 4000/ch=mm at*
 have hck:Gk (ch:Int) bits=some 0:=by
  have hr:∃x y,Tk bits=some (x,y,0):=⟨_,_,J_ hb⟩;obtain⟨x,y,hr⟩:=hr;rw[Gk,hr,Aa];simp only;rw[B! c_]
 have hh:=JH bits;have n? :Dm (ch:Int) bits (n:Int)=some 0:=by
  rw[Dm,Dc,B! HM,WJ hb,Aa,B! GZ,Aa,B! TX,Bl F_,Aa,hq4,B! G6]
 rw[Kl,Dq,Pv,hck,n?,Aa,Aa,B! D3,B! D2,Bl F_,Aa,hq4,B! G6,B! D3,Ahy,zF];by_cases hs:Vz b≠0
 ·rw[B0 hs];simp only[Aa];rw[B0 (by rw[Aj];simpa using hs),B0 (by rw[Aj];simpa using hs)];exact⟨[],Vz b,rfl,rfl,λe=>absurd e hs,λ_=>rfl⟩
 have hs0:Vz b=0:=by simpa using hs
 have hlen:=Aiy hs0;have e4:Ap (Ac b) 4=((b.length-4:Nat):Int):=by rw[Ac,Bu];omega
 rw[B! hs,hs0];simp only[Aa];rw[B! D3,B! D3,e4,Dv,Aa,show((b.length-4:Nat):Int).toNat=b.length-4 from rfl];have hpl:(b.take (b.length-4)).length=b.length-4:=by simp
 generalize b.take (b.length-4)=p at*
 have e8:Bg (8:Int) (Ac p)=((8*p.length:Nat):Int):=by rw[Ac,Fo];omega
 have hp:=Ayb p F0;have hv:=values_eq hp h1 h6 hn;have hr:=oE (N:=8*p.length) (p:=p) rfl F0 h1 h6 hn;have hat:=rz (ch:=ch) (p:=p) (N:=8*p.length) (n*ch) 0 [] F0;rw[pE,B! E4,Ca,Bi B8,Aa,Aa,Aa,HB,e8];simp only;rw[B! D3,hv,hr,Aa,Aa];generalize Xr ch p (8*p.length) (n*ch) 0 []=V at*
 obtain⟨v,at',e⟩:=V;simp only at*
 by_cases he:e≠0
 ·rw[B0 he,B0 he];simp only;rw[B0 (by rw[Aj];simpa using he),Hz,Ig,B0 (by rw[Aj];simpa using he)];exact⟨[],e,rfl,rfl,λh=>absurd h he,λ_=>rfl⟩
 have he0:e=0:=by simpa using he
 have hvl:=hat.2.2 he0;simp only[NU,HL]at hvl;rw[B! he,B! he];simp only;rw[B! D3,Bu,show((8*p.length:Nat):Int)-(at':Int)=((8*p.length-at':Nat):Int) by omega,Hz,Ig];by_cases h7:7<8*p.length-at'
 ·have hE:(if 7<8*p.length-at'\/Cg p at' (8*p.length-at')≠0 then(12:Int)else 0)=12:=B0 (.inl h7);rw[B0 I8,hE,B0 B6];exact⟨[],12,rfl,rfl,λh=>absurd h B6,λ_=>rfl⟩
 rw[B! I8,Y1 hp at' _ F0,B! F0,Aa];have hz:Bd (Rq p at' (8*p.length-at')) (0:UInt64)=decide (Cg p at' (8*p.length-at')≠0):=by
  rw[XP,F?];simp only[N1,ne_eq,<-RS,D!];rw[BI p _ _ F0];rfl
 simp only;rw[hz];by_cases hv0:Cg p at' (8*p.length-at')≠0
 ·have hE:(if 7<8*p.length-at'\/Cg p at' (8*p.length-at')≠0 then(12:Int)else 0)=12:=B0 (.inr hv0);rw[B0 (by simp[hv0]),hE,B0 B6];exact⟨[],12,rfl,rfl,λh=>absurd h B6,λ_=>rfl⟩
 have hm:v.length %ch=0:=by rw[hvl];exact KB n ch
 obtain⟨l,e,g1,g2,g3,g4,g5⟩:=Abp (v:=v) hb ht h1 h6 F0 hm;have hE:(if 7<8*p.length-at'\/Cg p at' (8*p.length-at')≠0 then(12:Int)else 0)=0:=B! F0;rw[B! (by rw[K5 hv0];decide),hE,B! B6,g1,g3,Aa,Aa,g2];by_cases hl:e≠0
 ·rw[B0 hl];exact⟨[],e,rfl,rfl,λh=>absurd h hl,λ_=>rfl⟩
 ·rw[B! hl];have hl0:e=0:=by simpa using hl
  exact⟨l,0,rfl,rfl,λ_=>⟨by rw[g4,hl0],F0,F0⟩,λe=>absurd rfl e⟩
theorem Ato(a b:Int32):a-(a-b)=b:=by
 apply Int32.toBitVec_inj.1;simp only[Int32.toBitVec_sub];apply WS;simp only[BitVec.toNat_sub];have:=a.toBitVec.isLt;have:=b.toBitVec.isLt;omega
theorem eD(a b:Int32):a-b+b=a:=by
 apply Int32.toBitVec_inj.1;simp only[Int32.toBitVec_sub,Int32.toBitVec_add];apply WS;simp only[BitVec.toNat_sub,BitVec.toNat_add];have:=a.toBitVec.isLt;have:=b.toBitVec.isLt;omega
def mxV(f:Nat->Int32)(ch i:Nat):Int32:=if i+1<ch then f (i+1)-f i else if 1<ch then f (ch-1)-Bo (f (ch-1)-f (ch-2)) (2:Int32)else f (ch-1)
theorem Avd{f g:Nat->Int32}{ch:Nat}(h1:1<=ch)(h:∀i,i<ch->f i=mxV g ch i):∀j,j<ch->unV f ch j=g (ch-1-j)
 |0,_=>by
  rw[unV];by_cases h2:1<ch
  ·rw[B0 h2,h (ch-1) F0,h (ch-2) F0,mxV,mxV,B! F0,B0 h2,B0 F0,show ch-2+1=ch-1 by omega,eD,cM]
  ·rw[B! h2,h (ch-1) F0,mxV,B! F0,B! h2,cM]
 |j+1,hj=>by
  rw[unV,Avd h1 h j F0,h (ch-2-j) F0,mxV,B0 F0,show ch-2-j+1=ch-1-j by omega,Ato];congr 1;omega
def mx(ch:Nat)(x:LX):LX:=(List.range x.length).map λk=>mxV (λi=>x.getD (k-k %ch+i) 0) ch (k %ch)
theorem UP(ch:Nat)(x:LX):(mx ch x).length=x.length:=by simp[mx]
theorem At5{ch:Nat}{x:LX}{k:Nat}(h:k<x.length):(mx ch x).getD k 0=mxV (λi=>x.getD (k-k %ch+i) 0) ch (k %ch):=by
 rw[Ko (by rw[UP];exact h)];simp[mx]
theorem Bez{ch:Nat}{x:LX}(h1:1<=ch)(hm:x.length %ch=0):ug ch (mx ch x)=x:=by
 apply J4 (by rw[mT,UP]);intro k hk1 hk2;have hr:=I7 k (show 0<ch by omega);have hle:=N0 k ch;have ha:(k-k %ch) %ch=0:=Nat.mod_eq_zero_of_dvd (Nat.dvd_sub_mod k);have hb:=K9 ha hm F0;have e:=M5 (m:=mx ch x) ha hr (by rw[UP];omega);rw[show k-k %ch+k %ch=k by omega]at e;rw[<-Ko hk1,<-Ko hk2,e];rw[Avd (g:=λi=>x.getD (k-k %ch+i) 0) h1 (λi hi=>?_) (ch-1-k %ch) F0]
 ·congr 1;omega
 ·rw[At5 F0];have h2:(k-k %ch+i) %ch=i:=by rw[Nat.add_mod,ha,HL,Y4,D0 hi]
  rw[h2,show k-k %ch+i-i=k-k %ch by omega]
def oY(x:Int32):UInt32:=UInt32.ofNat (if 0<=x.toInt then 2*x.toInt.toNat else 2*(-x.toInt-1).toNat+1)
theorem Au6(x:Int32):RO (oY x)=x:=by
 have h:=DO x;have e:(oY x).toNat=if 0<=x.toInt then 2*x.toInt.toNat else 2*(-x.toInt-1).toNat+1:=by
  rw[oY,HO];split<;>exact D0 F0
 rw[RO,e];by_cases h0:0<=x.toInt
 ·rw[B0 h0,B0 F0,show((2*x.toInt.toNat/2:Nat):Int)=x.toInt by omega,KA]
 ·rw[B! h0,B! F0,show -(((2*(-x.toInt-1).toNat+1)/2:Nat):Int)-1=x.toInt by omega,KA]
theorem wX{α:Type}(ch c:Nat)(f g:α->Nat->α)(a0:α):∀m:Nat,(∀i,i<m->∀a,f a i=g a i)->pre ch c f a0 m=pre ch c g a0 m
 |0,_=>rfl
 |m+1,h=>by
  rw[pre,pre,wX ch c f g a0 m λi hi=>h i F0,h m F0]
theorem An0(bits:Int)(ch:Nat)(t:LX)(v w:LU)(c i:Nat)(h:i<=v.length):cst bits ch t (v++w) c i=cst bits ch t v c i:=by
 unfold cst;apply wX;intro j hj a;have:(v++w).getD j 0=v.getD j 0:=by
  rw[D9,D9,HQ F0]
 rw[this]
def H0(bits:Int)(s:CS)(x:Int32):Int32:=x-gs (shB bits) s.1-gF (sB bits) s.2.1 s.2.2
theorem x?(bits:Int)(s:CS)(x:Int32):UC bits s (H0 bits s x)=x:=by
 rw[UC,H0,eD,eD]
def evl(bits:Int)(ch:Nat)(t m:LX):Nat->LU
 |0=>[]
 |i+1=>evl bits ch t m i++[oY (H0 bits (cst bits ch t (evl bits ch t m i) (i %ch) i) (m.getD i 0))]
theorem wL(bits:Int)(ch:Nat)(t m:LX):∀i,(evl bits ch t m i).length=i
 |0=>rfl
 |i+1=>by rw[evl,CR,wL bits ch t m i];rfl
theorem oh(bits:Int)(ch:Nat)(t m:LX):∀(j i:Nat),∃w,evl bits ch t m (i+j)=evl bits ch t m i++w
 |0,i=>⟨[],B7⟩
 |j+1,i=>by
  obtain⟨w,hw⟩:=oh bits ch t m j i;rw[<-I!,evl,hw];exact⟨_,E? _ _ _⟩
theorem Aya(bits:Int)(ch:Nat)(t m:LX):J7 bits ch t (evl bits ch t m m.length)=m:=by
 have hl:=wL bits ch t m m.length;apply J4 (by rw[nI,hl]);intro i h1 h2;rw[<-Ko h1,<-Ko h2,pD _ _ _ _ F0];obtain⟨w,hw⟩:=oh bits ch t m (m.length-(i+1)) (i+1);rw[show i+1+(m.length-(i+1))=m.length by omega,evl,E?]at hw;have hli:=wL bits ch t m i;rw[hw,An0 _ _ _ _ _ _ _ F0];have hg:(evl bits ch t m i++([oY (H0 bits (cst bits ch t (evl bits ch t m i) (i %ch) i) (m.getD i 0))]++w)).getD i 0=oY (H0 bits (cst bits ch t (evl bits ch t m i) (i %ch) i) (m.getD i 0)):=by
  rw[D9,JG F0,hli,kX];rfl
 rw[hg,Au6,x?]
theorem LG{p:Prop}(h:p:=by rw[CR];omega):p:=h
def tb(l:List Bool)(k:Nat):Nat:=if l.getD k false=true then 1 else 0
theorem Amk(b:Bool)(l:List Bool):tb (b::l) 0=if b=true then 1 else 0:=rfl
theorem Ang(b:Bool)(l:List Bool)(k:Nat):tb (b::l) (k+1)=tb l k:=by simp[tb]
theorem Anp{a b:List Bool}{k:Nat}(h:k<a.length):tb (a++b) k=tb a k:=by
 rw[tb,tb,D9,D9,HQ h]
theorem nU(a b:List Bool)(k:Nat):tb (a++b) (a.length+k)=tb b k:=by
 rw[tb,tb,D9,D9,JG F0,P']
theorem eT{l:List Bool}{k:Nat}(h:l.length<=k):tb l k=0:=by
 rw[tb,D9,P3 h];rfl
def At(p:LB)(a:Nat)(c:List Bool):Prop:=∀i,i<c.length->Hx p (a+i)=tb c i
theorem At.left{p:LB}{a:Nat}{c d:List Bool}(h:At p a (c++d)):At p a c:=λi hi=>by
 rw[h i LG,Anp hi]
theorem At.right{p:LB}{a:Nat}{c d:List Bool}(h:At p a (c++d)):At p (a+c.length) d:=λi hi=>by
 rw[I!,h (c.length+i) LG,nU]
theorem At.cons{p:LB}{a:Nat}{b:Bool}{c:List Bool}(h:At p a (b::c)):Hx p a=(if b=true then 1 else 0)/\At p (a+1) c:=by
 have h0:=h 0 B7;rw[J6,Amk]at h0;refine⟨h0,λi hi=>?_⟩;have:=h (i+1) B8;rw[Ang]at this;rw[show a+1+i=a+(i+1) by omega,this]
def oD:Nat->Nat->List Bool
 |_,0=>[]
 |v,n+1=>decide (v %2=1)::oD (v/2) n
theorem Sg:∀(v n:Nat),(oD v n).length=n
 |_,0=>rfl
 |v,n+1=>by rw[oD,G2,Sg (v/2) n]
theorem OU(p:LB):∀(n a v:Nat),At p a (oD v n)->Cg p a n=v %2^n
 |0,a,v,_=>by rw[Cg,Nat.pow_zero,lq]
 |n+1,a,v,h=>by
  rw[oD]at h;obtain⟨h0,h1⟩:=h.cons;rw[Cg,h0,OU p n (a+1) (v/2) h1,HG,G? (2^n) 2,Nat.mod_mul];have:=Nat.mod_two_eq_zero_or_one v;rcases this with e|e<;>simp[e]
theorem X'(p:LB):∀(q m a:Nat) (c:List Bool),At p a (List.replicate q true++c)->q<=m->Hf p a m=q+Hf p (a+q) (m-q)
 |0,m,a,c,h,hm=>by simp
 |q+1,m,a,c,h,hm=>by
  rw[MG,MS]at h;obtain⟨h0,h1⟩:=h.cons;obtain⟨m,rfl⟩:∃k,m=k+1:=⟨m-1,F0⟩;rw[Hf,B0 (by rw[h0];rfl),X' p q m (a+1) c h1 F0,show a+1+q=a+(q+1) by omega,show m+1-(q+1)=m-q by omega];omega
theorem Ayd{p:LB}{a m:Nat}(h:Hx p a=0):Hf p a m=0:=by
 cases m with
 |zero=>rfl
 |succ m=>rw[Hf,B! F0]
def ZJ(l v:Nat):List Bool:=if 48<=v/2^l then List.replicate 48 true++oD v 32 else List.replicate (v/2^l) true++(false::oD (v %2^l) l)
theorem Arh{l v:Nat}(hl:l<=24):1<= (ZJ l v).length/\ (ZJ l v).length<=80:=by
 rw[ZJ];generalize v/2^l=q;split
 ·rw[CR,HR,Sg];omega
 ·rw[CR,HR,G2,Sg];omega
theorem Api{p:LB}{N a l v:Nat}(hl:l<=24)(hv:v<2^32)(h:At p a (ZJ l v))(hN:a+(ZJ l v).length<=N):YU p N a l=(UInt32.ofNat v,((a+(ZJ l v).length:Nat):Int),0):=by
 rw[ZJ]at h hN⊢;by_cases h48:48<=v/2^l
 ·rw[B0 h48]at h hN⊢;rw[CR,HR,Sg]at hN⊢;have hm:min 48 (N-a)=48:=F0
  have ho:=X' p 48 48 a (oD v 32) h (E1 _);rw[kX,Hf,J6]at ho;have hr:=h.right;rw[HR]at hr;have hval:=OU p 32 (a+48) v hr;rw[D0 hv]at hval;rw[YU,B! F0,hm,ho,B! F0,B0 rfl,B! F0,hval,B! F0]
 ·rw[B! h48]at h hN⊢;rw[CR,HR,G2,Sg]at hN⊢;generalize hq:v/2^l=q at*
  have hr:=h.right;rw[HR]at hr;obtain⟨h0,h1⟩:=hr.cons;have hm:q<min 48 (N-a):=F0
  have ho:=X' p q (min 48 (N-a)) a _ h F0;rw[Ayd (a:=a+q) (m:=min 48 (N-a)-q) (by rw[h0];rfl),J6]at ho;have hval:=OU p l (a+q+1) (v %2^l) h1;rw[Y4]at hval;have hdm:=NW v (2^l);rw[hq,G?]at hdm;rw[YU,B! F0,ho,B0 hm,B! F0,hval,hdm,show a+q+1+l=a+(q+(l+1)) by omega]
def Rs(k l:Nat)(v:UInt32):List Bool:=if v.toNat<2^k then false::oD v.toNat k else true::ZJ l (v.toNat-2^k)
theorem iB{k l:Nat}(v:UInt32)(hk:k<=24)(hl:l<=24):1<= (Rs k l v).length/\ (Rs k l v).length<=81:=by
 have:=Arh (v:=v.toNat-2^k) hl;rw[Rs];split
 ·rw[G2,Sg];omega
 ·rw[G2];omega
theorem Arr{p:LB}{N a k l:Nat}{v:UInt32}(hk:k<=24)(hl:l<=24)(h:At p a (Rs k l v))(hN:a+(Rs k l v).length<=N):gU p N a k l=(v,((a+(Rs k l v).length:Nat):Int),0):=by
 have Bm9:=v.toNat_lt;have hof:UInt32.ofNat v.toNat=v:=by simp
 rw[Rs]at h hN⊢;by_cases hs:v.toNat<2^k
 ·rw[B0 hs]at h hN⊢;rw[G2,Sg]at hN⊢;obtain⟨h0,h1⟩:=h.cons;have hval:=OU p k (a+1) v.toNat h1;rw[D0 hs]at hval;rw[gU,B! F0,B0 (by rw[h0];rfl),B! F0,hval,hof,show a+1+k=a+(k+1) by omega]
 ·rw[B! hs]at h hN⊢;rw[G2]at hN⊢;obtain⟨h0,h1⟩:=h.cons;have hsub:=Nat.sub_le v.toNat (2^k);have hr:=Api hl (by omega:v.toNat-2^k<2^32) h1 (by omega:a+1+_<=N);have ht:(UInt32.ofNat (v.toNat-2^k)).toNat=v.toNat-2^k:=by rw[HO];exact D0 F0
  rw[gU,B! F0,B! (by rw[h0];decide),hr];simp only;rw[B! B6,ht,B! F0,show v.toNat-2^k+2^k=v.toNat by omega,hof,show a+1+(ZJ l (v.toNat-2^k)).length=a+((ZJ l (v.toNat-2^k)).length+1) by omega]
def bv:List Bool->Nat
 |[]=>0
 |b::r=>(if b=true then 1 else 0)+2*bv r
theorem Bco:∀l:List Bool,bv l<2^l.length
 |[]=>by decide
 |b::r=>by
  have:=Bco r;rw[bv,G2,HG];split<;>omega
theorem Avg:∀(l:List Bool) (k:Nat),bv l/2^k %2=tb l k
 |[],k=>by simp[bv,tb]
 |b::r,0=>by
  rw[bv,Amk,Nat.pow_zero,Nat.div_one];split<;>omega
 |b::r,k+1=>by
  have:((if b=true then 1 else 0)+2*bv r)/2=bv r:=by split<;>omega
  rw[bv,Ang,HG,G? (2^k) 2,<-TH,this,Avg r k]
def Nh(c:List Bool):LB:=(List.range ((c.length+7)/8)).map λj=>UInt8.ofNat (bv ((c.drop (8*j)).take 8))
theorem Uy(c:List Bool):(Nh c).length=(c.length+7)/8:=by simp[Nh]
theorem HK(c:List Bool)(i:Nat):Hx (Nh c) i=tb c i:=by
 rw[Hx];by_cases h:i/8<(c.length+7)/8
 ·have hg:(Nh c).getD (i/8) 0=UInt8.ofNat (bv ((c.drop (8*(i/8))).take 8)):=by
   rw[D9,HS (by rw[Uy];exact h)];simp[Nh]
  have hlt:=Bco ((c.drop (8*(i/8))).take 8);have hl8:((c.drop (8*(i/8))).take 8).length<=8:=by rw[G!];omega
  have hp:=G7 (show 0<2 by omega) hl8;have hn:(UInt8.ofNat (bv ((c.drop (8*(i/8))).take 8))).toNat=bv ((c.drop (8*(i/8))).take 8):=by
   rw[HT];exact D0 F0
  rw[hg,hn,Avg,tb,tb];have:((c.drop (8*(i/8))).take 8).getD (i %8) false=c.getD i false:=by
   rw[D9,D9,JL,B0 F0,N?,show 8*(i/8)+i %8=i by omega]
  rw[this]
 ·have hg:(Nh c).getD (i/8) 0=0:=by
   rw[D9,P3 (by rw[Uy];omega)];rfl
  rw[hg,eT F0];simp
def Rr(ch:Nat)(V:LU):Nat->List Bool
 |0=>[]
 |i+1=>Rr ch V i++Rs (now ch (V.take i)).1 (now ch (V.take i)).2.1 (V.getD i 0)
theorem wz(ch:Nat)(v:LU):(now ch v).1<=24/\ (now ch v).2.1<=24:=by
 have:=sR ch v (v.length %ch) v.length;exact⟨this.1,this.2.1⟩
theorem Ag8(ch:Nat)(V:LU):∀(j i:Nat),∃w,Rr ch V (i+j)=Rr ch V i++w
 |0,i=>⟨[],B7⟩
 |j+1,i=>by
  obtain⟨w,hw⟩:=Ag8 ch V j i;rw[<-I!,Rr,hw];exact⟨_,E? _ _ _⟩
theorem iG(ch:Nat)(V:LU):∀i,(Rr ch V i).length<=81*i
 |0=>by simp[Rr]
 |i+1=>by
  have h:=wz ch (V.take i);have:=iB (V.getD i 0) h.1 h.2;rw[Rr,CR];have:=iG ch V i;omega
theorem zf(ch:Nat)(V:LU)(N:Nat)(hN:(Rr ch V V.length).length<=N):∀(j i:Nat),i+j=V.length->Xr ch (Nh (Rr ch V V.length)) N j (Rr ch V i).length (V.take i)=(V,(Rr ch V V.length).length,0)
 |0,i,h=>by
  obtain rfl:i=V.length:=F0
  rw[Xr,ID]
 |j+1,i,h=>by
  obtain⟨w,hw⟩:=Ag8 ch V j (i+1);rw[show i+1+j=V.length by omega]at hw;have hk:=wz ch (V.take i);have hcl:=iB (V.getD i 0) hk.1 hk.2;have hAt:At (Nh (Rr ch V V.length)) (Rr ch V i).length (Rs (now ch (V.take i)).1 (now ch (V.take i)).2.1 (V.getD i 0)):=by
   intro m hm;rw[HK,hw,Rr,E?,nU,Anp hm]
  have hlen:(Rr ch V i).length+(Rs (now ch (V.take i)).1 (now ch (V.take i)).2.1 (V.getD i 0)).length<= (Rr ch V V.length).length:=by
   rw[hw,Rr,CR,CR];omega
  have ih:=zf ch V N hN j (i+1) F0;rw[Rr,CR]at ih;generalize Nh (Rr ch V V.length)=p at*
  generalize(Rr ch V i).length=a at*
  have hw2:(Rs (now ch (V.take i)).1 (now ch (V.take i)).2.1 (V.getD i 0)).length<=P6 N a:=by unfold P6;omega
  have hAt2:At (Sn p a (P6 N a)) 0 (Rs (now ch (V.take i)).1 (now ch (V.take i)).2.1 (V.getD i 0)):=by
   intro m hm;rw[HL,D8,B0 F0,hAt m hm]
  have hb:=Arr hk.1 hk.2 hAt2 (by omega:0+_<=P6 N a);have hcode:Og ch p N a (V.take i)=(V.getD i 0,((0+(Rs (now ch (V.take i)).1 (now ch (V.take i)).2.1 (V.getD i 0)).length:Nat):Int),0):=hb;rw[Xr,hcode];simp only;rw[B! B6,HL,F!];have ht:V.take i++[V.getD i 0]=V.take (i+1):=by
   have hg:V.getD i 0=V[i]:=by rw[D9,HS F0];rfl
   rw[hg,Ms F0]
  rw[ht];exact ih
def P64:Nat:=4823603603198064275
def VO(s:Nat):Nat:=(2*s %18446744073709551616)^^^ (s/9223372036854775808*P64)
theorem kM{s:Nat}(h:s<18446744073709551616):VO s<18446744073709551616:=by
 have h1:s/9223372036854775808=0\/s/9223372036854775808=1:=F0
 exact M2 (n:=64) (I7 _ B6) (by rcases h1 with e|e<;>rw[e]<;>decide)
theorem Ao6(x y:Nat):(x^^^y)/9223372036854775808=(x/9223372036854775808)^^^ (y/9223372036854775808):=by
 have:=Bn0 (a:=x) (b:=y) (i:=63);simpa [Bod]using this
theorem Anv(x y:Nat):2*(x^^^y) %18446744073709551616=(2*x %18446744073709551616)^^^ (2*y %18446744073709551616):=by
 have h1:=Boe (a:=x) (b:=y) (i:=1);have h2:=Nat.xor_mod_two_pow (a:=2*x) (b:=2*y) (n:=64);have e:2*(x^^^y)=(2*x)^^^ (2*y):=by simpa [Nat.shiftLeft_eq,G?]using h1
 rw[e];exact h2
theorem Azs{a b:Nat}(ha:a=0\/a=1)(hb:b=0\/b=1)(p:Nat):(a^^^b)*p=(a*p)^^^ (b*p):=by
 rcases ha with rfl|rfl<;>rcases hb with rfl|rfl<;>simp
theorem Biz(a b c d:Nat):(a^^^b)^^^ (c^^^d)=(a^^^c)^^^ (b^^^d):=by
 rw[L7,L7,<-L7 b c d,TV b c,L7 c b d]
theorem Akp{x y:Nat}(hx:x<18446744073709551616)(hy:y<18446744073709551616):VO (x^^^y)=VO x^^^VO y:=by
 rw[VO,VO,VO,Anv,Ao6,Azs F0 F0,Biz]
def Rz:Nat->Nat->Nat
 |0,s=>s
 |k+1,s=>Rz k (VO s)
theorem Q8:∀(k:Nat) {s:Nat},s<18446744073709551616->Rz k s<18446744073709551616
 |0,_,h=>h
 |k+1,_,h=>Q8 k (kM h)
theorem Blf:∀(k:Nat) {x y:Nat},x<18446744073709551616->y<18446744073709551616->Rz k (x^^^y)=Rz k x^^^Rz k y
 |0,_,_,_,_=>rfl
 |k+1,x,y,hx,hy=>by rw[Rz,Akp hx hy,Blf k (kM hx) (kM hy)];rfl
theorem Blj:∀(k h:Nat),2^k*h<18446744073709551616->Rz k h=2^k*h
 |0,h,_=>by simp[Rz]
 |k+1,h,hl=>by
  have hpos:0<2^k:=K0 F0;rw[HG,I0]at hl;have h2:2*h<18446744073709551616:=NQ (Nat.le_mul_of_pos_left _ hpos) hl;have:VO h=2*h:=by rw[VO,D0 h2,show h/9223372036854775808=0 by omega];simp
  rw[Rz,this,Blj k _ hl,HG,I0]
def tX(s c:Nat):Nat:=Rz 8 (s^^^ (c*72057594037927936))
theorem c56{c:Nat}(hc:c<256):c*72057594037927936<18446744073709551616:=F0
theorem U5{s c:Nat}(h:s<18446744073709551616)(hc:c<256):tX s c<18446744073709551616:=Q8 8 (M2 (n:=64) h (c56 hc))
theorem Azf(s:Nat):s=(s/72057594037927936*72057594037927936)^^^ (s %72057594037927936):=by
 have h1:s %72057594037927936<2^56:=I7 _ B6;have:=P! h1 (s/72057594037927936);have h2:2^56*(s/72057594037927936)|||s %72057594037927936=(2^56*(s/72057594037927936))^^^ (s %72057594037927936):=by
  apply jW;intro i;rw[XY,Nat.testBit_xor];by_cases hi:i<56
  ·have:(2^56*(s/72057594037927936)).testBit i=false:=by rw[Bom];simp;omega
   rw[this];simp
  ·have:(s %72057594037927936).testBit i=false:=Nat.testBit_lt_two_pow (HJ h1 (G7 F0 F0));rw[this];simp
 rw[G? (s/72057594037927936)]
 show s=(2^56*(s/72057594037927936))^^^ _;rw[<-h2,<-this];have:=NW s 72057594037927936
 show s=72057594037927936*_+_;omega
theorem Ap4(a c:Nat):(a^^^c)*72057594037927936=(a*72057594037927936)^^^ (c*72057594037927936):=by
 have h1:=Boe (a:=a) (b:=c) (i:=56);simpa [Nat.shiftLeft_eq]using h1
theorem Adf{s c:Nat}(h:s<18446744073709551616)(hc:c<256):tX s c=(256*s %18446744073709551616)^^^Rz 8 (((s/72057594037927936)^^^c)*72057594037927936):=by
 have hs:s/72057594037927936<2^8:=by show _<256;omega
 have hx:(s/72057594037927936)^^^c<256:=M2 (n:=8) hs (by simpa using hc);have hl:s %72057594037927936<72057594037927936:=I7 _ B6;rw[tX]
 conv=>lhs;rw[Azf s]
 rw[TV (s/72057594037927936*72057594037927936),L7,<-Ap4,Blf 8 F0 (c56 hx),Blj 8 _ (by show 256*_<_;omega)];congr 1
 show 256*(s %72057594037927936)=_;omega
def W_(s:Nat)(l:LB):Nat:=l.foldl (λs c=>tX s c.toNat) s
theorem s? {n:Nat}(h:n<18446744073709551616):(UInt64.ofNat n).toNat=n:=by rw[H7];exact D0 h
theorem Bcy(s:UInt64)(bit:Nat)(hb:bit=0\/bit=1):LV s (bit:Int)=some (UInt64.ofNat ((2*s.toNat %18446744073709551616)^^^ (((s.toNat/9223372036854775808)^^^bit)*P64))):=by
 have hs:=s.toNat_lt;have ht:s.toNat/9223372036854775808=0\/s.toNat/9223372036854775808=1:=F0
 have e1:(Bg s (2:UInt64)).toNat=2*s.toNat %18446744073709551616:=by
  rw[TC,UInt64.toNat_mul];show s.toNat*2 %_=_;rw[G?]
 have hlt:2*s.toNat %18446744073709551616<18446744073709551616:=I7 _ B6;have ey:BH (Bg s (2:UInt64)) (4823603603198064275:UInt64)=UInt64.ofNat ((2*s.toNat %18446744073709551616)^^^P64):=by
  apply UInt64.toNat_inj.1;rw[ze,kN,e1,s? (M2 (n:=64) hlt B6)];rfl
 have en:Bg s (2:UInt64)=UInt64.ofNat (2*s.toNat %18446744073709551616):=by
  apply UInt64.toNat_inj.1;rw[e1,s? hlt]
 have eg:Mv s (9223372036854775808:UInt64)=decide (s.toNat/9223372036854775808=1):=by
  rw[Ax9,decide_eq_decide]
  show 9223372036854775808<=s.toNat↔_;omega
 have hp:∀b:Bool,Zx s b=some (if b=true then UInt64.ofNat ((2*s.toNat %18446744073709551616)^^^P64)else UInt64.ofNat (2*s.toNat %18446744073709551616)):=by
  intro b;rw[Zx,Ajk,ey,en];cases b<;>rfl
 rw[LV,Ahh,hp,hp,eg];rcases hb with rfl|rfl<;>rcases ht with h|h<;>rw[h]<;>simp[Ar]
theorem Bep(c:UInt8):∀(j q:Nat) (s:UInt64),j<=8->j<q->Np c q s ((2^j/2:Nat):Int)=some (UInt64.ofNat (Rz j (s.toNat^^^ (c.toNat %2^j*2^(64-j)))))
 |0,q+1,s,_,_=>by
  rw[Np,BL,B! M?,Aey,Ajo];simp[Rz,lq]
 |j+1,q+1,s,hj,hq=>by
  have hc:=c.toNat_lt;have hs:=s.toNat_lt;have hj2:2^j<=2^7:=G7 F0 F0;have hpos:0<2^j:=K0 F0;have e1:2^(j+1)/2=2^j:=by rw[HG];omega
  have e2:Bo ((2^j:Nat):Int) 2=((2^j/2:Nat):Int):=by
   generalize 2^j=K at*
   rw[UT,RK F0,De F0 F0];omega
  have e3:Gz (Bo (Ae c:Int) ((2^j:Nat):Int)) (2:Int)=((c.toNat/2^j %2:Nat):Int):=by
   have hX:=HP c.toNat (2^j);rw[YI,UT,<-ku];generalize c.toNat/2^j=X at*
   rw[De F0 F0,Gz,aI F0];omega
  have hbit:c.toNat/2^j %2=0\/c.toNat/2^j %2=1:=F0
  rw[Np,BL,e1,B0 (by rw[Aq,D!];omega),Bl (by rw[Aj,N1];omega),Aa,e3,Bcy s _ hbit,Aa,e2,Bep c j q _ F0 F0];congr 2;rw[Rz];congr 1;have hx:c.toNat %2^(j+1)*2^(64-(j+1))=(c.toNat/2^j %2)*9223372036854775808+c.toNat %2^j*2^(63-j):=by
   have h63:(9223372036854775808:Nat)=2^j*2^(63-j):=by rw[<-NZ,show j+(63-j)=63 by omega]
   rw[Nat.mod_pow_succ,h63,show 64-(j+1)=63-j by omega,E9,N!,I0,Nat.mul_left_comm]
  have hr:c.toNat %2^j<2^j:=I7 _ hpos;have Bnb:c.toNat %2^j*2^(63-j)<9223372036854775808:=by
   have h63:(9223372036854775808:Nat)=2^j*2^(63-j):=by rw[<-NZ,show j+(63-j)=63 by omega]
   rw[h63];exact sY hr (K0 F0)
  have h64:c.toNat %2^j*2^(64-j)=2*(c.toNat %2^j*2^(63-j)):=by
   rw[show 64-j=(63-j)+1 by omega,HG,<-I0,G?]
  rw[hx,h64];generalize c.toNat %2^j*2^(63-j)=R at*
  generalize c.toNat/2^j %2=b at*
  have ht:s.toNat/9223372036854775808=0\/s.toNat/9223372036854775808=1:=F0
  have hp:((s.toNat/9223372036854775808^^^b)*P64)<18446744073709551616:=by
   rcases ht with h|h<;>rcases hbit with h2|h2<;>rw[h,h2]<;>decide
  rw[s? (M2 (n:=64) (I7 _ B6) hp),VO,Anv,Ao6,show(b*9223372036854775808+R)/9223372036854775808=b by omega,show 2*(b*9223372036854775808+R) %18446744073709551616=2*R by omega,L7,L7,TV (2*R)]
theorem Bc9(c:UInt8)(s:UInt64):Atu s c=some (UInt64.ofNat (tX s.toNat c.toNat)):=by
 have h:=Bep c 8 Au s (E1 _) D1;have hc:=c.toNat_lt;rw[D0 (show c.toNat<2^8 by simpa using hc)]at h;exact h
theorem Blm(b:LB)(hb:b.length<4611686018427387904):∀(j i q:Nat) (s:UInt64),i+j=b.length->j<q->La b q s (i:Int)=some (UInt64.ofNat (W_ s.toNat (b.drop i)))
 |0,i,q+1,s,hi,_=>by
  rw[La,Wq,B! C2,show i=b.length by omega,MT];simp[Aca,Ace,W_]
 |j+1,i,q+1,s,hi,hq=>by
  have hlt:i<b.length:=F0
  have hc:=b[i].toNat_lt;rw[La,Wq,B0 C2,Bt hlt,Aa,Bc9,Aa,Ak];have h:=Blm b hb j (i+1) q (UInt64.ofNat (tX s.toNat b[i].toNat)) F0 F0;rw[show((i:Int)+1)=((i+1:Nat):Int) by omega,h,drop_cons hlt,s? (U5 s.toNat_lt (by simpa using hc))];rfl
def Vx(b:LB):UInt64:=UInt64.ofNat (W_ 0 b)
theorem Ah4(b:LB)(hb:b.length<=100000):DB 0 b=some (Vx b):=
 Blm b F0 b.length 0 Au 0 F0 D1
theorem Akt(c:UInt64):BH (Dy c (GI.toZ (1:UInt64)).toNat) (Bg (4823603603198064275:UInt64) (Cn c (GI.toZ (63:UInt64)).toNat))=UInt64.ofNat (VO c.toNat):=by
 have hc:=c.toNat_lt;apply UInt64.toNat_inj.1;have h1:(Dy c (GI.toZ (1:UInt64)).toNat).toNat=2*c.toNat %18446744073709551616:=by
  rw[show(GI.toZ (1:UInt64)).toNat=1 from rfl,cK,G?]
 have h2:(Bg (4823603603198064275:UInt64) (Cn c (GI.toZ (63:UInt64)).toNat)).toNat=c.toNat/9223372036854775808*P64:=by
  rw[show(GI.toZ (63:UInt64)).toNat=63 from rfl,TC,UInt64.toNat_mul,MM]
  show 4823603603198064275*(c.toNat/9223372036854775808) %18446744073709551616=_;have h1:c.toNat/9223372036854775808=0\/c.toNat/9223372036854775808=1:=F0
  rcases h1 with e|e<;>rw[e]<;>decide
 rw[ze,kN,h1,h2,s? (kM hc)];rfl
theorem Ats(Je:Int->LQ->Option (UInt64×Int))(s:UInt64)(b:LB)(x:Int)(t:LQ):∀(j i q:Nat) (c:UInt64),i+j=8->j<q->
  Vo Je s b x t q c (i:Int)=JO Je s b x (UInt64.ofNat (Rz j c.toNat)) t
 |0,i,q+1,c,hi,_=>by
  obtain rfl:i=8:=F0
  rw[Vo,IN,B! I_,Rz,UInt64.ofNat_toNat]
 |j+1,i,q+1,c,hi,hq=>by
  rw[Vo,IN,B0 D2,Akt,Ak,show((i:Int)+1)=((i+1:Nat):Int) by omega,Ats Je s b x t j (i+1) q _ F0 F0,s? (kM c.toNat_lt)];rfl
def eW(n:Nat):LQ:=(List.range n).map λi=>UInt64.ofNat (Rz 8 (i*72057594037927936))
theorem Axo(s:UInt64)(b:LB):∀(j i q:Nat),i+j=256->j<q->Rb s b q (i:Int) (eW i++List.replicate j 0)=KT s b (eW 256)
 |0,i,q+1,hi,_=>by
  obtain rfl:i=256:=F0
  rw[Rb,KI,B! I_];simp
 |j+1,i,q+1,hi,hq=>by
  have hlen:(eW i++List.replicate (j+1) 0).length=i+(j+1):=by simp[eW]
  rw[Rb,KI,B0 D2,cE];have h:=Ats (Rb s b q) s b (i:Int) (eW i++List.replicate (j+1) 0) 8 0 Au (Dy (Ae (i:Int):UInt64) (GI.toZ (56:UInt64)).toNat) F0 D1;rw[show((0:Int))=((0:Nat):Int)from rfl,h,JO,ZG,Bt (by rw[hlen];omega),Aa,Ww _ (by rw[hlen];omega),Aa,ZN,Bh3,Ak];have e:(Dy (Ae (i:Int):UInt64) (GI.toZ (56:UInt64)).toNat).toNat=i*72057594037927936:=by
   rw[cK,Ye,s? F0]
   show i*72057594037927936 %18446744073709551616=_;omega
  rw[e,MG,vF (by simp[eW])];have h2:=Axo s b j (i+1) q F0 F0;have h3:eW (i+1)=eW i++[UInt64.ofNat (Rz 8 (i*72057594037927936))]:=by simp[eW,bZ]
  rw[h3]at h2;rw[show((i:Int)+1)=((i+1:Nat):Int) by omega,<-h2];simp
theorem Are{i:Nat}(h:i<256):Am (eW 256) (i:Int)=some (UInt64.ofNat (Rz 8 (i*72057594037927936))):=by
 rw[Bt (by simpa [eW]using h)];simp[eW]
theorem Ajb(s:UInt64)(c:UInt8):Am (eW 256) (GI.toZ (BH (Ae (Cn s (GI.toZ (56:UInt64)).toNat):UInt8) c))=some (UInt64.ofNat (Rz 8 (((s.toNat/72057594037927936)^^^c.toNat)*72057594037927936))):=by
 have hs:=s.toNat_lt;have e:GI.toZ (BH (Ae (Cn s (GI.toZ (56:UInt64)).toNat):UInt8) c)=(((s.toNat/72057594037927936)^^^c.toNat:Nat):Int):=by
  have e2:((Ae (Cn s (GI.toZ (56:UInt64)).toNat):UInt8)).toNat=s.toNat/72057594037927936:=by
   rw[bM,HT,MM]
   show s.toNat/72057594037927936 %256=_;omega
  rw[GW,Amv,uE,e2]
 rw[e,Are];exact M2 (n:=8) (by show _<256;omega) (by simpa using c.toNat_lt)
theorem Adh(s:UInt64)(c:UInt8):BH (Dy s (GI.toZ (8:UInt64)).toNat) (UInt64.ofNat (Rz 8 (((s.toNat/72057594037927936)^^^c.toNat)*72057594037927936)))=UInt64.ofNat (tX s.toNat c.toNat):=by
 have hs:=s.toNat_lt;have hc:c.toNat<256:=by simpa using c.toNat_lt
 apply UInt64.toNat_inj.1;have hlt:Rz 8 (((s.toNat/72057594037927936)^^^c.toNat)*72057594037927936)<18446744073709551616:=Q8 8 (c56 (M2 (n:=8) (by show _<256;omega) (by simpa using c.toNat_lt)));have e:(GI.toZ (8:UInt64)).toNat=8:=rfl;rw[e,ze,kN,cK,s? hlt,s? (U5 hs hc),Adf hs hc,G? s.toNat]
theorem Azj(b:LB)(s0:UInt64)(hb:b.length<4611686018427387904):∀(j i q:Nat) (s:UInt64),i+j=b.length->j<q->Uz b s0 (eW 256) q s (i:Int)=some (UInt64.ofNat (W_ s.toNat (b.drop i)),0)
 |0,i,q+1,s,hi,_=>by
  rw[Uz,KF,B! C2,show i=b.length by omega,MT];simp[aU,ZB,aJ,Bj8,W_]
 |j+1,i,q+1,s,hi,hq=>by
  have hlt:i<b.length:=F0
  have hc:=b[i].toNat_lt;rw[Uz,KF,B0 C2,Bt hlt,Aa,Ajb,Aa,Aa,Adh,Ak];have h:=Azj b s0 hb j (i+1) q (UInt64.ofNat (tX s.toNat b[i].toNat)) F0 F0;rw[show((i:Int)+1)=((i+1:Nat):Int) by omega,h,drop_cons hlt,s? (U5 s.toNat_lt (by simpa using hc))];rfl
theorem Aie(b:LB)(hb:b.length<=100000):iV b=some (Vx b,0):=by
 have h:=Axo 0 b 256 0 Au F0 D1;have h2:=Azj b 0 F0 b.length 0 Au 0 F0 D1;have hn:nB 0 b=some (Vx b,0):=by
  rw[nB,gH,B! E4,Bim];refine H9 h ?_;rw[KT,YY,Bi8];exact h2
 rw[iV,hn,Aa]
theorem vM(p:LB)(hp:p.length<=64):CI p=some (Tm (Vx p).toNat 8,0):=by
 rw[CI,U4,B! E4,Aie p F0,Aa,Aa];simp only;have h:=bK (Vx p) 8 F0 F0 (by simpa using(Vx p).toNat_lt);rw[B! D3];exact congrArg (λo=>Option.bind o λx:LB×Int=>some (x.1,x.2)) h
theorem gY(p:LB)(hp:p.length<=64):Nt p=some (Tm (Vx p).toNat 8):=by
 have h:=Ajq (Vx p) 8 F0;rw[Nt,Aum,Ah4 p F0,Aa,Aa];exact congrArg (λo=>Option.bind o λl=>some l) h
def s8(n:Nat):Int32:=Int32.ofInt (if n<128 then(n:Int)else(n:Int)-256)
def dW(d:UInt64)(n:Nat):LX:=(List.range n).map λi=>s8 (d.toNat/256^i %256)
theorem jI(d:UInt64)(n:Nat):(dW d n).length=n:=by simp[dW]
theorem Aal (d:UInt64)(n:Nat):dW d (n+1)=dW d n++[s8 (d.toNat/256^n %256)]:=by simp[dW,bZ]
theorem bm8(z:Nat):(z:Int).bmod Int8.size=if z %256<128 then((z %256:Nat):Int)else((z %256:Nat):Int)-256:=by
 rw[show Int8.size=256 from rfl,c!];split<;>split<;>omega
theorem Anx(d:UInt64):∀(j i q:Nat),i+j=8->j<q->PW d q (i:Int) (dW d i++List.replicate (16-i) 0)=some (dW d 8++List.replicate 8 0)
 |0,i,q+1,hi,_=>by
  obtain rfl:i=8:=F0
  rw[PW,oB,B! I_];rfl
 |j+1,i,q+1,hi,hq=>by
  have hlen:(dW d i++List.replicate (16-i) 0).length=16:=by simp[jI];omega
  have ih:=Anx d j (i+1) q F0 F0;have e8:Bg (8:Int) (i:Int)=((8*i:Nat):Int):=by rw[Fo];omega
  have ev:(Ae (Ae (Cn d (GI.toZ (((8*i:Nat):Int))).toNat):Int8):Int32)=s8 (d.toNat/256^i %256):=by
   have e1:(Cn d (GI.toZ (((8*i:Nat):Int))).toNat).toNat=d.toNat/256^i:=by
    rw[show(GI.toZ (((8*i:Nat):Int))).toNat=8*i from rfl,MM,lu]
   show Int32.ofInt (Int8.ofInt ((Cn d (GI.toZ (((8*i:Nat):Int))).toNat).toNat:Int)).toInt=_;rw[e1,s8,Int8.toInt_ofInt,bm8]
  rw[PW,oB,B0 D2,e8,Bl I8,Aa,ev,Bt,Aa,Ww _ F0,Aa,Ak,show 16-i=(15-i)+1 by omega,MG,vF (jI d i)];rw[Aal,show 16-(i+1)=15-i by omega,E?]at ih;exact ih
theorem Aud(d:UInt64):∀(j i q:Nat) (e:UInt64),i+j=8->j<q->e.toNat=d.toNat/256^i->Nf q e (i:Int) (dW d i++List.replicate (16-i) 0)=some (dW d 8++List.replicate 8 0)
 |0,i,q+1,e,hi,_,he=>by
  obtain rfl:i=8:=F0
  rw[Nf,FX,B! I_];rfl
 |j+1,i,q+1,e,hi,hq,he=>by
  have hlen:(dW d i++List.replicate (16-i) 0).length=16:=by simp[jI];omega
  have hq2:(Bo e (256:UInt64)).toNat=d.toNat/256^(i+1):=by
   rw[M8,XD,he,HG,<-TH];rfl
  have ih:=Aud d j (i+1) q (Bo e (256:UInt64)) F0 F0 hq2;have ev:(Ae (GM e (256:UInt64)):Int32)=Int32.ofInt ((d.toNat/256^i %256:Nat):Int):=by
   show Int32.ofInt ((GM e (256:UInt64)).toNat:Int)=_;rw[Aga,uP,he];rfl
  have hz:d.toNat/256^i %256<256:=I7 _ F0;have et:(Int32.ofInt ((d.toNat/256^i %256:Nat):Int)).toInt=((d.toNat/256^i %256:Nat):Int):=by
   rw[NR,aL (by show -(4294967296/2:Int)<= _;omega) (by show _<(4294967296+1)/2;omega)]
  have hp8:∀x:Int32,x=s8 (d.toNat/256^i %256)->GG (Nf q) e (i:Int) (dW d i++List.replicate (16-i) 0) x=some (dW d 8++List.replicate 8 0):=by
   intro x hx;rw[GG,Aqw,hx,Bt,Aa,Ww _ F0,Aa,Ak,show 16-i=(15-i)+1 by omega,MG,vF (jI d i)];rw[Aal,show 16-(i+1)=15-i by omega,E?]at ih;exact ih
  rw[Nf,FX,B0 D2,ev,qA,et,show(127:Int32).toInt=127 from rfl];by_cases h:d.toNat/256^i %256<128
  ·rw[B! (by simp only[D!];omega)];exact hp8 _ (by rw[s8,B0 h])
  ·rw[B0 (by simp only[D!];omega)];refine hp8 _ ?_;rw[s8,B! h,ZZ,uH];rfl
def Lt(p:LB):LX:=dW (Vx p) 8++List.replicate 8 0
theorem Kt(p:LB):(Lt p).length=16:=by simp[Lt,jI]
theorem jL(p:LB)(hp:p.length<=64):Oe p=some (Lt p,0):=by
 have h:=Anx (Vx p) 8 0 Au F0 D1;have h2:nQ (Vx p)=some (Lt p):=h;rw[Oe,B! E4,Aie p F0,Aa];simp only;rw[B! D3,h2,Aa]
theorem TG(p:LB)(hp:p.length<=64):Ny p=some (Lt p,0):=by
 have h:=Aud (Vx p) 8 0 Au (Vx p) F0 D1 B7;have h2:Bfj (Vx p)=some (Lt p):=h;rw[Ny,B! E4,Bbt,Au4,B! E4,Ah4 p F0,Aa,Aa,Aa];simp only;rw[h2,Aa]
def u8(z:Int):UInt8:=UInt8.ofNat (z %256).toNat
theorem dI(z:Int):u8 (z %256)=u8 z:=by rw[u8,u8];congr 2;omega
def wB(bits:Int):Nat:=if bits=8 then 1 else if bits=16 then 2 else 3
theorem qW{bits:Int}(h:Bn bits):Bo bits 8=(wB bits:Int):=by obtain rfl|rfl|rfl:=h<;>rfl
theorem Z5(bits:Int):1<=wB bits/\wB bits<=3:=by
 unfold wB;split; · omega
 ·split<;>omega
def OV(bits:Int)(x:Int):LB:=if bits=8 then [u8 (x+128)]else if bits=16 then [u8 x,u8 (x/256)]else [u8 x,u8 (x/256),u8 (x/65536)]
theorem Afo(bits x:Int):(OV bits x).length<=3:=by
 unfold OV;split; · simp
 ·split<;>simp
theorem Avb(x:Int32)(k:Nat)(hk:k<=32):(Ae (Cn x k):UInt8)=u8 (x.toInt.fdiv (2^k)):=by
 have h:=DO x;have e:Cn x k=Int32.ofInt (x.toInt.fdiv (2^k)):=by
  show Int32.ofInt (x.toInt.fdiv (2^min k 32))=_;rw[J5 hk]
 have hb: -2147483648<=x.toInt.fdiv (2^k)/\x.toInt.fdiv (2^k)<2147483648:=by
  have hpos:(0:Int)<2^k:=Y3 F0;rw[KZ _ F0];constructor
  ·refine(Int.le_ediv_iff_mul_le hpos).2 ?_;have:(1:Int)<=2^k:=F0
   have h2: -2147483648*(2^k:Int)<= -2147483648*1:=Int.mul_le_mul_of_nonpos_left F0 this;omega
  ·refine Int.ediv_lt_of_lt_mul hpos ?_;have:(1:Int)<=2^k:=F0
   have h2:(2147483648:Int)*1<=2147483648*2^k:=sZ this F0;omega
 show UInt8.ofNat ((Cn x k).toInt %256).toNat=_;rw[e,NR,aL (by show -(4294967296/2:Int)<= _;omega) (by show _<(4294967296+1)/2;omega)];rfl
section
variable (bk:Int->LB->Option (LB×Int)) (l:LX)
theorem qz{bits:Int}(h:Bn bits)(c:Int32)(x:Int)(i q:Nat)(acc:LB)(hi:i<wB bits)(ha:acc.length<=100000):
  Ls bk bits l c x (q+1) (i:Int) acc=Ls bk bits l c x q ((i+1:Nat):Int) (acc++[u8 (c.toInt.fdiv (2^(8*i)))]):=by
 have hw:=Z5 bits;have e8:Bg (8:Int) (i:Int)=((8*i:Nat):Int):=by rw[Fo];omega
 rw[Ls,EV,qW h,B0 D2,e8,Bl I8,Aa,show(GI.toZ (((8*i:Nat):Int))).toNat=8*i from rfl,Avb _ _ F0,Bi B8,Aa,Ak];rfl
theorem qC{bits:Int}(h:Bn bits)(c:Int32)(x:Int)(q:Nat)(acc:LB):Ls bk bits l c x (q+1) ((wB bits:Nat):Int) acc=bk (Ad x 1) acc:=by
 rw[Ls,EV,qW h,B! I_,VE,Bfp]
theorem Bc6{bits:Int}(h:Bn bits)(c:Int32)(x:Int)(acc:LB)(ha:acc.length<=90000)(hr: -(hB bits)<=c.toInt/\c.toInt<hB bits):
  Ou bk bits l x acc (if bits=8 then Ad c (128:Int32)else c)=bk (Ad x 1) (acc++OV bits c.toInt):=by
 have e:Au=(Au-4)+1+1+1+1:=by have:=As;omega
 have hc:=DO c;rw[Ou,UL,Bgi,e];have g0:=λ(c:Int32) q acc ha=>qz bk l h c x 0 q acc (by have:=Z5 bits;omega) ha;obtain rfl|rfl|rfl:=h
 ·have hh:hB 8=128:=rfl;rw[hh]at hr;have e1:(Ad c (128:Int32)).toInt=c.toInt+128:=by
   show(Int32.ofInt (c.toInt+(128:Int32).toInt)).toInt=_;rw[show(128:Int32).toInt=128 from rfl,NR,aL (by show -(4294967296/2:Int)<= _;omega) (by show _<(4294967296+1)/2;omega)]
  have g1:=qC bk l (bits:=8) (.inl rfl) (Ad c (128:Int32)) x (Au-4+1+1);rw[B0 rfl,show(0:Int)=((0:Nat):Int)from rfl,g0 _ _ _ F0];refine H9 (g1 _) ?_;rw[e1,OV,B0 rfl]
  show bk _ (acc++[u8 ((c.toInt+128).fdiv 1)])=_;rw[Int.fdiv_one]
 ·have g1:=λq acc ha=>qz bk l (bits:=16) (.inr (.inl rfl)) c x 1 q acc B6 ha;have g2:=qC bk l (bits:=16) (.inr (.inl rfl)) c x (Au-4+1);rw[B! B6,show(0:Int)=((0:Nat):Int)from rfl,g0 _ _ _ F0,g1 _ _ B8];refine H9 (g2 _) ?_;rw[OV,B! B6,B0 rfl,E?]
  show bk _ (acc++[u8 (c.toInt.fdiv 1),u8 (c.toInt.fdiv 256)])=_;rw[Int.fdiv_one,KZ _ F0]
 ·have g1:=λq acc ha=>qz bk l (bits:=24) (.inr (.inr rfl)) c x 1 q acc B6 ha;have g2:=λq acc ha=>qz bk l (bits:=24) (.inr (.inr rfl)) c x 2 q acc B6 ha;have g3:=qC bk l (bits:=24) (.inr (.inr rfl)) c x (Au-4);rw[B! B6,show(0:Int)=((0:Nat):Int)from rfl,g0 _ _ _ F0,g1 _ _ B8,g2 _ _ B8];refine H9 (g3 _) ?_;rw[OV,B! B6,B! B6,E?,E?]
  show bk _ (acc++[u8 (c.toInt.fdiv 1),u8 (c.toInt.fdiv 256),u8 (c.toInt.fdiv 65536)])=_;rw[Int.fdiv_one,KZ _ F0,KZ _ F0]
end
def Du(bits:Int)(l:LX):LB:=l.flatMap λx=>OV bits x.toInt
theorem GO(bits:Int):∀l:LX,(Du bits l).length<=3*l.length
 |[]=>by simp[Du]
 |x::l=>by
  have h1:=GO bits l;have h2:=Afo bits x.toInt;simp only[Du,ji,CR,G2]at*
  omega
def r!(bits:Int)(l:LX):Prop:=∀x∈l, -(hB bits)<=x.toInt/\x.toInt<hB bits
theorem Amy{bits:Int}(h:Bn bits)(l:LX)(hl:l.length<=4000)(hr:r! bits l):∀(j i q:Nat),i+j=l.length->j<q->Hw bits l q (i:Int) (Du bits (l.take i))=some (Du bits l,0)
 |0,i,q+1,hi,_=>by
  rw[Hw,FH,B! C2,IU F0];rfl
 |j+1,i,q+1,hi,hq=>by
  have hlt:i<l.length:=F0
  have ih:=Amy h l hl hr j (i+1) q F0 F0;have hlen:=GO bits (l.take i);have hx:=hr l[i] (HA _);have h1:=Bc6 (Hw bits l q) l h l[i] (i:Int) (Du bits (l.take i)) (by rw[G!]at hlen;omega) hx;rw[Hw,FH,B0 C2,Bt hlt,Aa];have e:(if(geq bits (8:Int))=true then Ou (Hw bits l q) bits l (i:Int) (Du bits (l.take i)) (Ad l[i] (128:Int32))else Ou (Hw bits l q) bits l (i:Int) (Du bits (l.take i)) l[i])=Ou (Hw bits l q) bits l (i:Int) (Du bits (l.take i)) (if bits=8 then Ad l[i] (128:Int32)else l[i]):=by
   by_cases h8:bits=8
   ·rw[B0 (by rw[Ar];simpa using h8),B0 h8]
   ·rw[B! (by rw[Ar];simpa using h8),B! h8]
  rw[e,h1,Ak];rw[Ms hlt]at ih;have e2:Du bits (l.take i++[l[i]])=Du bits (l.take i)++OV bits l[i].toInt:=by unfold Du;rw[jk,List.flatMap_singleton]
  rw[e2]at ih;exact ih
theorem kU{bits:Int}(h:Bn bits){l:LX}(hl:l.length<=4000)(hc:Ay bits l=some 0):r! bits l:=by
 have hh:=JH bits;have key:∀(j i q:Nat),i+j=l.length->j<q->Ba l (hB bits) q (i:Int)=some 0->∀k,i<=k-> (hk:k<l.length)-> -(hB bits)<=l[k].toInt/\l[k].toInt<hB bits:=by
  intro j
  induction j with
  |zero=>intro i q hi hq _ k h1 h2;omega
  |succ j ih=>
   intro i q hi hq hs k h1 h2;obtain⟨q,rfl⟩:∃k,q=k+1:=⟨q-1,F0⟩;rw[Ba,Cx,B0 C2,Bt,Aa,Aa,Gm,d_,De F0 F0,Ak,Af,Eh]at hs;by_cases g1:l[i].toInt<0-hB bits
   ·rw[B0 (by simpa using g1)]at hs;simp at hs
   ·rw[B! (by simpa using g1)]at hs;by_cases g2:hB bits<=l[i].toInt
    ·rw[B0 (by simpa using g2)]at hs;simp at hs
    ·rw[B! (by simpa using g2)]at hs;by_cases hk:k=i
     ·subst hk;omega
     ·exact ih (i+1) q F0 F0 hs k F0 h2
 rw[Ay,Dx,WJ h,Aa,B! GZ,B! E4]at hc;have:=key l.length 0 Au F0 D1 hc;intro x hx;obtain⟨k,hk,rfl⟩:=uA hx;exact this k F0 hk
theorem aP{bits:Int}(h:Bn bits){l:LX}(hl:l.length<=4000)(hc:Ay bits l=some 0):Jy bits l=some (Du bits l,0):=by
 have h1:=Amy h l hl (kU h hl hc) l.length 0 Au F0 D1;rw[Jy,aX,bC h l hl,hc,Aa,B! D3];exact h1
theorem Ax3{bits:Int}(h:Bn bits)(x:Int32)(hr: -(hB bits)<=x.toInt/\x.toInt<hB bits):OL bits x=some (OV bits x.toInt):=by
 have hx:=DO x;have gu:∀z:Int,(Ae z:UInt8)=u8 z:=λz=>rfl;have hq:∀n:Int,0<=n->n<=20000000->Bo n (256:Int)=n/256/\Bo n (65536:Int)=n/65536:=by
  intro n h1 h2;constructor<;>(rw[UT,RK h1,De F0 F0])
 have hm:∀n:Int,0<=n->Gz n (256:Int)=n %256:=λn h1=>by rw[Gz,aI h1]
 rw[OL,Alj,Gm];obtain rfl|rfl|rfl:=h
 ·rw[B0 NG,Ak,gu,OV,B0 rfl]
 ·have hh:hB 16=32768:=rfl;rw[hh]at hr;have hp:∀n:Int,0<=n->n<=70000->u8 n=u8 x.toInt->u8 (n/256)=u8 (x.toInt/256)->Pc 16 n=some (OV 16 x.toInt):=by
   intro n h1 h2 h3 h4;rw[Pc,DM,B! Q!,hm n h1,(hq n h1 F0).1,hm _ F0,gu,gu,dI,dI,h3,h4,OV,B! B6,B0 rfl]
  rw[B! Q!];by_cases hn:x.toInt<0
  ·rw[B0 (by rw[Af];simpa using hn),WJ (.inr (.inl rfl)),Aa,hh,Fo,Ak];refine hp _ F0 F0 ?_ ?_
   ·rw[u8,u8];congr 2;omega
   ·rw[u8,u8];congr 2;omega
  ·rw[B! (by rw[Af];simpa using hn)];exact hp _ F0 F0 rfl rfl
 ·have hh:hB 24=8388608:=rfl;rw[hh]at hr;have hp:∀n:Int,0<=n->n<=16777215->u8 n=u8 x.toInt->u8 (n/256)=u8 (x.toInt/256)->u8 (n/65536)=u8 (x.toInt/65536)->Pc 24 n=some (OV 24 x.toInt):=by
   intro n h1 h2 h3 h4 h5;rw[Pc,DM,B0 NG,hm n h1,(hq n h1 F0).1,(hq n h1 F0).2,hm _ F0,gu,gu,gu,dI,dI,h3,h4,h5,Bi B7,Aa,OV,B! B6,B! B6];rfl
  rw[B! Q!];by_cases hn:x.toInt<0
  ·rw[B0 (by rw[Af];simpa using hn),WJ (.inr (.inr rfl)),Aa,hh,Fo,Ak];refine hp _ F0 F0 ?_ ?_ ?_
   ·rw[u8,u8];congr 2;omega
   ·rw[u8,u8];congr 2;omega
   ·rw[u8,u8];congr 2;omega
  ·rw[B! (by rw[Af];simpa using hn)];exact hp _ F0 F0 rfl rfl rfl
theorem Ams{bits:Int}(h:Bn bits)(l:LX)(hl:l.length<=4000)(hr:r! bits l):∀(j i q:Nat),i+j=l.length->j<q->Mj bits l q (i:Int) (Du bits (l.take i))=some (Du bits l,0)
 |0,i,q+1,hi,_=>by
  rw[Mj,Yq,B! C2,IU F0];rfl
 |j+1,i,q+1,hi,hq=>by
  have hlt:i<l.length:=F0
  have ih:=Ams h l hl hr j (i+1) q F0 F0;have hlen:=GO bits (l.take i);have hol:=Afo bits l[i].toInt;rw[G!]at hlen;have e2:Du bits (l.take i++[l[i]])=Du bits (l.take i)++OV bits l[i].toInt:=by unfold Du;rw[jk,List.flatMap_singleton]
  rw[Ms hlt,e2]at ih;rw[Mj,Yq,B0 C2,Bt hlt,Aa,Ax3 h _ (hr l[i] (HA _)),Aa,Bi,Aa,Ak];exact ih
theorem PQ{bits:Int}(h:Bn bits){l:LX}(hl:l.length<=4000)(hc:Ay bits l=some 0):Wg bits l=some (Du bits l,0):=by
 have h1:=Ams h l hl (kU h hl hc) l.length 0 Au F0 D1;rw[Wg,Ae7,hc,Aa,B! D3];exact h1
theorem wT{p:Prop}(h:p:=by rw[Eh,Ac,Ac];simp;omega):p:=h
theorem m_{p:Prop}(h:p:=by rw[Ak]<;>omega):p:=h
def fU:LB->Nat->Int×Int
 |[],n=>((n:Int),0)
 |c::r,n=>if 128<=c.toNat then(0,12)else fU r (128*n+c.toNat)
theorem Ao5:∀(l:LB) (n k:Nat),n<128^k->0<= (fU l n).1/\ (fU l n).1<((128^(k+l.length):Nat):Int)
 |[],n,k,h=>by simp[fU];exact_mod_cast h
 |c::r,n,k,h=>by
  rw[fU];split
  ·have:0<128^(k+(c::r).length):=K0 F0;exact⟨Int.le_refl _,by simp only;exact_mod_cast this⟩
  ·have:=Ao5 r (128*n+c.toNat) (k+1) (by rw[HG];omega);rw[G2,show k+(r.length+1)=k+1+r.length by omega];exact this
theorem or7(n c:Nat)(hn:n<268435456)(hc:c<128):zT (Dy (n:Int) (GI.toZ (7:UInt64)).toNat) (c:Int)=((128*n+c:Nat):Int):=by
 have e:(GI.toZ (7:UInt64)).toNat=7:=rfl;have h1:Dy (n:Int) 7=((2^7*n:Nat):Int):=by
  have:Dy (n:Int) 7=wrap64 ((n:Int)*2^7):=rfl;rw[this,De F0 F0];omega
 rw[e,h1];have h2:zT ((2^7*n:Nat):Int) (c:Int)=wrap64 ((BitVec.ofInt 64 ((2^7*n:Nat):Int)|||BitVec.ofInt 64 (c:Int)).toNat:Int):=rfl;rw[h2,bJ,M1,M1];have h3:(((2^7*n:Nat):Int) %((2^64:Nat):Int)).toNat=2^7*n:=F0
 have h4:((c:Int) %((2^64:Nat):Int)).toNat=c:=F0
 rw[h3,h4,<-P! (by simpa using hc),De F0 F0]
theorem Aop(b:LB)(hb:b.length=4):∀(j i q n:Nat),i+j=4->j<q->n<128^i->Qd b q (n:Int) (i:Int)=some (fU (b.drop i) n)
 |0,i,q+1,n,hi,_,_=>by
  rw[Qd,CA,B! C2,show b.drop i=[] by simp;omega];rfl
 |j+1,i,q+1,n,hi,hq,hn=>by
  have hlt:i<b.length:=F0
  have hn2:n<268435456:=HJ hn (show 128^i<=128^4 from G7 F0 F0);rw[Qd,CA,B0 C2,Bt hlt,Aa,drop_cons hlt,fU,Aw5];by_cases hc:128<=b[i].toNat
  ·rw[B0 B8,B0 hc]
  ·rw[B! B8,B! hc,YI,or7 n _ hn2 F0,Ak];exact Aop b hb j (i+1) q _ F0 F0 (by rw[HG];omega)
theorem Aw1(b:LB)(hb:b.length=4):∀(j i q n:Nat),i+j=4->j<q->n<128^i->Mm b q (n:Int) (i:Int)=some (fU (b.drop i) n)
 |0,i,q+1,n,hi,_,_=>by
  rw[Mm,Ys,B! D2,show b.drop i=[] by simp;omega];rfl
 |j+1,i,q+1,n,hi,hq,hn=>by
  have hlt:i<b.length:=F0
  have hn2:n<268435456:=HJ hn (show 128^i<=128^4 from G7 F0 F0);rw[Mm,Ys,B0 D2,Bt hlt,Aa,drop_cons hlt,fU,Au9];have h128:(128:UInt8).toNat=128:=rfl;by_cases hc:128<=b[i].toNat
  ·rw[B0 (by simpa using hc),B0 hc]
  ·have h3:=b[i].toNat_lt;rw[B! (by simpa using hc),B! hc,Aa,YI,Fo,Ak,Ak];have:=Aw1 b hb j (i+1) q (128*n+b[i].toNat) F0 F0 (by rw[HG];omega);rw[<-this];rfl
theorem Ako(b:LB)(hb:b.length=4):QT b=some (fU b 0):=by
 have h:=Aop b hb 4 0 Au 0 F0 D1 B7;rw[QT,QD,B! (by rw[Aj,Ac];simp;omega),Axw];exact h
theorem Ar1(b:LB)(hb:b.length=4):GJ b=some (fU b 0):=by
 have h:=Aw1 b hb 4 0 Au 0 F0 D1 B7;rw[GJ,Ae9,B! (by rw[Aj,Ac];simp;omega),Adr];exact h
theorem pR{b:LB}(hb:b.length=4):0<= (fU b 0).1/\ (fU b 0).1<268435456:=by
 have:=Ao5 b 0 0 B7;rw[hb]at this;simpa using this
theorem mC(s p:LB):Ok s p=some (decide (p.length<=s.length/\s.take p.length=p)):=by
 rw[Ok];by_cases h:p.length<=s.length
 ·rw[B0 wT,show Ac p=(p.length:Int)from rfl,Dv,Aa,Hu,Aa,F!];congr 1;rw[F?];simp[h]
 ·rw[B! wT];simp[h]
def iT(b:LB)(n:Int):Int×Int:=
 if 4000<n then(0,4)else if(b.length:Int)<n then(0,24)else
 if b.getD 5 0=16/\ (b.take n.toNat).drop (n-10).toNat≠ [51,68,73]++part b 3 7 then(0,12)else(n,0)
def ko(b:LB)(r:Int):Int×Int:=iT b (r+10+(if b.getD 5 0=16 then 10 else 0))
def Zk(b:LB):Int×Int:=
 if ¬(3<=b.length/\b.take 3=[73,68,51])then(0,6)else if b.length<10 then(0,24)else
 if(fU (part b 6 4) 0).2≠0\/b.getD 4 0≠0\/ ¬((b.getD 5 0=0/\2<= (b.getD 3 0).toNat/\ (b.getD 3 0).toNat<=4)\/ (b.getD 5 0=16/\b.getD 3 0=4))then(0,12)else
 ko b (fU (part b 6 4) 0).1
theorem yS{b:LB}{i:Nat}(h:i<b.length):Am b (i:Int)=some (b.getD i 0):=by
 rw[Bt h];simp[D9,h]
theorem Ta{b:LB}(a w:Nat)(h:a+w<=b.length:=by omega):Bm b (a:Int) ((a+w:Nat):Int)=some (part b a w):=by
 rw[Wi];rfl
theorem Azi(b:LB)(r:Int)(h10:10<=b.length)(h0:0<=r)(h1:r<268435456):AD b r=some (ko b r):=by
 have g5:Am b (5:Int)=some (b.getD 5 0):=yS (i:=5) F0;have key:∀n:Int,10<=n->n<268435500->Zw b n=some (iT b n):=by
  intro n hn hn2;rw[Zw,Aj4,iT];by_cases c1:4000<n
  ·rw[B0 (by rw[Aq];simpa using c1),B0 c1]
  ·rw[B! (by rw[Aq];simpa using c1),B! c1];by_cases c2:(b.length:Int)<n
   ·rw[B0 (by rw[Af,Ac];simpa using c2),B0 c2]
   ·have e3:Bm b (3:Int) (10:Int)=some (part b 3 7):=Ta 3 7;rw[B! (by rw[Af,Ac];simpa using c2),B! c2,g5,Aa];by_cases c3:b.getD 5 0=16
    ·rw[B0 (by rw[lZ];simpa using c3),Bu,Wi,Aa,e3,Aa,Bi (by rw[Ff];simp),Aa];by_cases c4:(b.take n.toNat).drop (n-10).toNat=[51,68,73]++part b 3 7
     ·rw[B! (by simpa using c4),B! (by intro h;exact h.2 c4)]
     ·rw[B0 (by simpa using c4),B0 ⟨c3,c4⟩]
    ·rw[B! (by rw[lZ];simpa using c3),B! (λh=>c3 h.1)]
 rw[AD,Afe,g5,Aa,ko];by_cases c3:b.getD 5 0=16
 ·rw[B0 (by rw[lZ];simpa using c3),Ak m_ m_,Ak,key _ F0 F0,B0 c3,show 10+r+10=r+10+10 by omega]
 ·rw[B! (by rw[lZ];simpa using c3),Ak,key _ F0 F0,B! c3,show 10+r=r+10+0 by omega]
theorem Awh(b:LB)(hb:b.length<4611686018427387904):JS b=some (Zk b):=by
 rw[JS,Afl,Zk];by_cases h3:3<=b.length
 ·rw[B! C2,Dv,Aa];by_cases hp:b.take 3=[73,68,51]
  ·rw[B! (by simpa using hp),B! (by simp[h3,hp]),Ak3,Agw];by_cases h10:b.length<10
   ·rw[B0 C2,B0 h10]
   ·have e6:Bm b (6:Int) (10:Int)=some (part b 6 4):=Ta 6 4;have g3:Am b (3:Int)=some (b.getD 3 0):=yS (i:=3) F0;have g4:Am b (4:Int)=some (b.getD 4 0):=yS (i:=4) F0;have g5:Am b (5:Int)=some (b.getD 5 0):=yS (i:=5) F0;obtain⟨v1,v2⟩:=pR (b:=part b 6 4) (Ff);rw[B! C2,B! h10,e6,Aa,Ar1 _ (Ff),Aa];have ht:=Azi b (fU (part b 6 4) 0).1 F0 v1 v2;generalize fU (part b 6 4) 0=v at*
    obtain⟨v,e⟩:=v;simp only at ht v1 v2⊢;simp only[Aa,g3,g4,g5,ht];generalize b.getD 3 0=x at*
    generalize b.getD 4 0=y at*
    generalize b.getD 5 0=z at*
    simp only[pZ,Bd1,Aw5,Aj];by_cases he:e=0<;>by_cases hy:y=0<;>by_cases hz:z=0<;>by_cases hz2:z=16<;>by_cases hx:x=4<;>by_cases hx2:x.toNat<2<;>by_cases hx4:4<x.toNat<;>simp_all<;>(rw[B! F0,B! F0])
  ·rw[B0 (by simpa using hp),B0 (by simp[hp])]
 ·rw[B0 C2,B0 (by simp[h3])]
theorem xG(b:LB)(n:Int)(h10:10<=b.length)(hn:10<=n)(hn2:n<268435500):EW b (b.getD 5 0) n=some (iT b n):=by
 rw[EW,Bfg];by_cases c1:4000<n
 ·rw[B0 (by rw[Aq];simpa using c1),iT,B0 c1]
 ·rw[B! (by rw[Aq];simpa using c1)];by_cases c2:(b.length:Int)<n
  ·rw[B0 (by rw[Af,Ac];simpa using c2),iT,B! c1,B0 c2]
  ·have e3:Bm b (3:Int) (10:Int)=some (part b 3 7):=Ta 3 7;rw[B! (by rw[Af,Ac];simpa using c2)];by_cases c3:b.getD 5 0=16
   ·have hl:((b.take n.toNat).drop (n-10).toNat).length=10:=by simp;omega
    have ht:iT b n=if(b.take n.toNat).drop (n-10).toNat≠ [51,68,73]++part b 3 7 then(0,12)else(n,0):=by rw[iT,B! c1,B! c2];simp only[c3,true_and]
    rw[B0 (by rw[lZ];simpa using c3),Bu,Wi,Aa,ht];generalize(b.take n.toNat).drop (n-10).toNat=f at*
    rw[Dv,Aa,Cb,Aa,e3,Aa,Hu,Aa];have hf:f=f.take 3++f.drop 3:=(N2 3 f).symm;by_cases c4:f=[51,68,73]++part b 3 7
    ·subst c4;simp
    ·by_cases c5:f.take 3=[51,68,73]
     ·have:f.drop 3≠part b 3 7:=λh=>c4 (by rw[hf,c5,h]);simp only[MS,HB]at c4;simp[c4,c5,this]
     ·simp only[MS,HB]at c4;simp[c4,c5]
   ·rw[B! (by rw[lZ];simpa using c3),iT,B! c1,B! c2,B! (λh=>c3 h.1)]
theorem Avr(b:LB)(r:Int)(h10:10<=b.length)(h0:0<=r)(h1:r<268435456):FL b r (b.getD 5 0)=some (ko b r):=by
 rw[FL,VG,ko];by_cases c3:b.getD 5 0=16
 ·rw[B0 (by rw[lZ];simpa using c3),Ak m_ m_,Ak,xG b _ h10 F0 F0,B0 c3]
 ·rw[B! (by rw[lZ];simpa using c3),Ak,xG b _ h10 F0 F0,B! c3];simp
theorem Arx(b:LB)(hb:b.length<4611686018427387904):XJ b=some (Zk b):=by
 rw[XJ,EX,mC,Aa];by_cases hp:3<=b.length/\b.take 3=[73,68,51]
 ·rw[B! (by simpa using hp)];by_cases h10:b.length<10
  ·rw[B0 C2,Zk,B! (λh=>h hp),B0 h10]
  ·have e6:Bm b (6:Int) (10:Int)=some (part b 6 4):=Ta 6 4;have g3:Am b (3:Int)=some (b.getD 3 0):=yS (i:=3) F0;have g4:Am b (4:Int)=some (b.getD 4 0):=yS (i:=4) F0;have g5:Am b (5:Int)=some (b.getD 5 0):=yS (i:=5) F0;obtain⟨v1,v2⟩:=pR (b:=part b 6 4) (Ff);have ht:=Avr b (fU (part b 6 4) 0).1 F0 v1 v2;rw[B! C2,g3,Aa,g5,Aa,UY,VU,e6,Aa,Ako _ (Ff),Aa,Zk,B! (λh=>h hp),B! h10];generalize fU (part b 6 4) 0=v at*
   obtain⟨v,e⟩:=v;simp only at ht v1 v2⊢;simp only[Aa,g4,UO,UN];generalize b.getD 3 0=x at*
   generalize b.getD 4 0=y at*
   generalize b.getD 5 0=z at*
   simp only[pZ,Be1,lZ,Au9,Aj];have e2:(2:UInt8).toNat=2:=rfl;have e4:(4:UInt8).toNat=4:=rfl;by_cases he:e=0<;>by_cases hy:y=0<;>by_cases hz:z=0<;>by_cases hz2:z=16<;>by_cases hx:x=4<;>by_cases hx2:2<=x.toNat<;>by_cases hx4:x.toNat<=4<;>simp_all
 ·rw[B0 (by rw[IC,MF];exact hp),Zk,B0 hp]
theorem Axm{b:LB}{n:Int}(h:Zk b=(n,0)):10<=n/\n<=b.length/\n<=4000:=by
 unfold Zk at h;split at h; · simp at h
 split at h; · simp at h
 split at h; · simp at h
 rename_i h10 _;obtain⟨v1,v2⟩:=pR (b:=part b 6 4) (Ff);unfold ko at h;generalize hm:(fU (part b 6 4) 0).1+10+(if b.getD 5 0=16 then 10 else 0)=m at h;unfold iT at h;split at h; · simp at h
 split at h; · simp at h
 split at h; · simp at h
 simp only[D5,M4]at h;subst h;refine⟨?_,F0,F0⟩;rw[<-hm];split<;>omega
theorem SG{p:Prop}(h:p:=by rw[Af,Ac];simp):p:=h
theorem K1{p:Prop}(h:p:=by rw[Ff];omega):p:=h
theorem dF{p:Prop}(h:p:=by rw[Cf];omega):p:=h
theorem O'{p:Prop}(h:p:=by simp[Cf]):p:=h
def qd:LB:=[65,80,69,84,65,71,69,88]
def Se(n m fl:Nat):LB:=qd++Tm 2000 4++Tm (n+32) 4++Tm m 4++Tm fl 4++List.replicate 8 0
theorem eX{n:Nat}(h:n<18446744073709551616):(UInt64.ofNat n).toNat=n:=by rw[H7,D0 h]
theorem wM(n m:Int)(fl:UInt64)(c:UInt64)(i q:Nat)(acc:LB)(hi:i<6)(hc:Am ([(2000:UInt64),(Ae (Ad n (32:Int)):UInt64),(Ae m:UInt64),fl,(0:UInt64),(0:UInt64)]:LQ) (i:Int)=some c)(h:c.toNat<4294967296)(ha:acc.length<=1000000):
  GX n m fl (q+1) (i:Int) acc=GX n m fl q ((i+1:Nat):Int) (acc++Tm c.toNat 4):=by
 have hb:=bK c 4 F0 F0 (by simpa using h);rw[GX,mH,B0 C2,hc,Aa,Aa,show((4:Int))=((4:Nat):Int)from rfl,hb,Aa];simp only;rw[Bi dF,Aa,Ak];rfl
theorem zn(n m:Nat)(fl:UInt64)(hn:n<=3000)(hm:m<=1000)(hf:fl.toNat<4294967296):vV (n:Int) (m:Int) fl=some (Se n m fl.toNat):=by
 have e1:(Ae (Ad (n:Int) (32:Int)):UInt64).toNat=n+32:=by rw[Ak,show(n:Int)+32=((n+32:Nat):Int) by omega,Ye,eX F0]
 have e2:(Ae (m:Int):UInt64).toNat=m:=by rw[Ye,eX F0]
 have hF:Au=(Au-7)+1+1+1+1+1+1+1:=by have:=As;omega
 rw[vV,B2,A_,hF];rw[show((0:Int))=((0:Nat):Int)from rfl,wM n m fl 2000 0 _ _ F0 rfl B6 B7,wM n m fl _ 1 _ _ F0 rfl (by rw[e1];omega) O',wM n m fl _ 2 _ _ F0 rfl (by rw[e2];omega) O',
  wM n m fl fl 3 _ _ F0 rfl hf O',wM n m fl 0 4 _ _ F0 rfl B6 O',wM n m fl 0 5 _ _ F0 rfl B6 O',e1,e2]
 rw[GX,mH,B! SG,zL,Bg7,Se];have z:Tm (0:UInt64).toNat 4++Tm (0:UInt64).toNat 4=List.replicate 8 0:=B6
 have z2:Tm (2000:UInt64).toNat 4=Tm 2000 4:=rfl;rw[E? _ (Tm (0:UInt64).toNat 4),z,z2];rfl
theorem O8(n m:Nat)(fl:UInt64)(hn:n<=3000)(hm:m<=1000)(hf:fl.toNat<4294967296):Vk (n:Int) (m:Int) fl=some (Se n m fl.toNat):=by
 have e1:(Ae (Ad (n:Int) (32:Int)):UInt64).toNat=n+32:=by rw[Ak,show(n:Int)+32=((n+32:Nat):Int) by omega,Ye,eX F0]
 have e2:(Ae (m:Int):UInt64).toNat=m:=by rw[Ye,eX F0]
 have w:∀c:UInt64,Fv c 4=some (Tm c.toNat 4):=λc=>Ajq c 4 F0;have z2:Tm (2000:UInt64).toNat 4=Tm 2000 4:=rfl;rw[Vk];simp only[w,e1,e2,Aa];rw[Bi O',Aa,Bi O',Aa,Bi O',Aa,Bi O',Aa,oW,Aa,Bi O',Aa,z2];rfl
theorem YH{b:LB}{a w k:Nat}(h:a+w<=k):part (b.take k) a w=part b a w:=by rw[part,part,S?,J5 h]
def IE(b:LB):Bool:=decide (Gf (part b 12 4)<32\/3032<Gf (part b 12 4)\/1000<Gf (part b 16 4))
theorem Awv(b:LB)(h:20<=b.length):(((Ck (xV (part b 12 4)) (32:UInt64))||(Ei (xV (part b 12 4)) (3032:UInt64)))||(Ei (xV (part b 16 4)) (1000:UInt64)))=IE b:=by
 rw[um,dS,dS,eY K1,eY K1,IE];show((decide (Gf (part b 12 4)<32)||decide (3032<Gf (part b 12 4)))||decide (1000<Gf (part b 16 4)))=_;simp[Bool.or_assoc]
theorem S9(b:LB)(h:20<=b.length)(hb:IE b=false):Ap (Ae (xV (part b 12 4)):Int) (32:Int)=((Gf (part b 12 4)-32:Nat):Int)/\ (Ae (xV (part b 16 4)):Int)=((Gf (part b 16 4):Nat):Int)/\Gf (part b 12 4)-32<=3000/\Gf (part b 16 4)<=1000:=by
 simp only[IE,MF]at hb;refine⟨?_,RB K1,F0,F0⟩;rw[RB K1,Bu];omega
theorem mN(b:LB)(fl:UInt64)(h:20<=b.length)(hl:b.length<4611686018427387904)(hf:fl.toNat<4294967296):
  YJ b fl=some (if IE b=true then(0,0,false)else(((Gf (part b 12 4)-32:Nat):Int),((Gf (part b 16 4):Nat):Int),b==Se (Gf (part b 12 4)-32) (Gf (part b 16 4)) fl.toNat)):=by
 have a1:WZ b 12 4=some (xV (part b 12 4),0):=U6 b 12 4 F0 F0 F0 hl;have a2:WZ b 16 4=some (xV (part b 16 4),0):=U6 b 16 4 F0 F0 F0 hl;rw[YJ,a1,Aa];simp only;rw[a2,Aa];simp only;rw[Awv b h];cases hb:IE b with
 |true=>rfl
 |false=>
  obtain⟨i1,i2,i3,i4⟩:=S9 b h hb;rw[i1,i2,zn _ _ _ i3 i4 hf];rfl
theorem Afs(b:LB)(h:20<=b.length)(hl:b.length<4611686018427387904):
  Zc b=some (if IE b=true then(0,0,false)else(((Gf (part b 12 4)-32:Nat):Int),((Gf (part b 16 4):Nat):Int),true)):=by
 have a1:Bm b 12 16=some (part b 12 4):=Ta 12 4;have a2:Bm b 16 20=some (part b 16 4):=Ta 16 4;rw[Zc,a1,Aa,YR _ K1,Aa,a2,Aa,YR _ K1,Aa,Awv b h];cases hb:IE b with
 |true=>rfl
 |false=>
  obtain⟨i1,i2,i3,i4⟩:=S9 b h hb;rw[i1,i2];rfl
def Lw(b:LB):Int×Int:=
 if ¬(8<=b.length/\b.take 8=qd)then(0,6)else if b.length<32 then(0,24)else
 if IE b=true\/b.take 32≠Se (Gf (part b 12 4)-32) (Gf (part b 16 4)) 2684354560 then(0,12)else
 if b.length<Gf (part b 12 4)+32 then(0,24)else
 if(b.take (Gf (part b 12 4)+32)).drop (Gf (part b 12 4))≠Se (Gf (part b 12 4)-32) (Gf (part b 16 4)) 2147483648 then(0,12)else(((Gf (part b 12 4)+32:Nat):Int),0)
theorem Agq(b:LB):IE (b.take 32)=IE b:=by rw[IE,IE,YH F0,YH F0]
section
variable {b:LB}
theorem fa1(h:¬(8<=b.length/\b.take 8=qd)):Lw b=(0,6):=by rw[Lw,B0 h]
theorem fa2(h:8<=b.length/\b.take 8=qd)(h2:b.length<32):Lw b=(0,24):=by rw[Lw,B! (λh'=>h' h),B0 h2]
variable (h:8<=b.length/\b.take 8=qd) (h2:¬b.length<32)
include h h2
theorem fa3(h3:IE b=true):Lw b=(0,12):=by rw[Lw,B! (λh'=>h' h),B! h2,B0 (.inl h3)]
theorem fa4(h4:b.take 32≠Se (Gf (part b 12 4)-32) (Gf (part b 16 4)) 2684354560):Lw b=(0,12):=by rw[Lw,B! (λh'=>h' h),B! h2,B0 (.inr h4)]
variable (h3:IE b=false) (h4:b.take 32=Se (Gf (part b 12 4)-32) (Gf (part b 16 4)) 2684354560)
include h3 h4
theorem fa5(h5:b.length<Gf (part b 12 4)+32):Lw b=(0,24):=by
 rw[Lw,B! (λh'=>h' h),B! h2,B! (λh'=>h'.elim (λe=>by rw[h3]at e;cases e) λe=>e h4),B0 h5]
theorem fa6(h5:¬b.length<Gf (part b 12 4)+32)(h6:(b.take (Gf (part b 12 4)+32)).drop (Gf (part b 12 4))≠Se (Gf (part b 12 4)-32) (Gf (part b 16 4)) 2147483648):Lw b=(0,12):=by
 rw[Lw,B! (λh'=>h' h),B! h2,B! (λh'=>h'.elim (λe=>by rw[h3]at e;cases e) λe=>e h4),B! h5,B0 h6]
theorem fa7(h5:¬b.length<Gf (part b 12 4)+32)(h6:(b.take (Gf (part b 12 4)+32)).drop (Gf (part b 12 4))=Se (Gf (part b 12 4)-32) (Gf (part b 16 4)) 2147483648):Lw b=(((Gf (part b 12 4)+32:Nat):Int),0):=by
 rw[Lw,B! (λh'=>h' h),B! h2,B! (λh'=>h'.elim (λe=>by rw[h3]at e;cases e) λe=>e h4),B! h5,B! (λh'=>h' h6)]
end
theorem Aki(b:LB)(hl:b.length<4611686018427387904):vY b=some (Lw b):=by
 rw[vY,mC,Aa];by_cases hp:8<=b.length/\b.take 8=qd
 ·rw[B! (by simpa [qd]using hp)];by_cases h32:b.length<32
  ·rw[B0 C2,fa2 hp h32]
  ·have t:=mN (b.take 32) 2684354560 B8 B8 B6;rw[Agq,YH F0,YH F0]at t;rw[B! C2,Dv,Aa,show(32:Int).toNat=32 from rfl,t,Aa];cases hb:IE b with
   |true=>rw[fa3 hp h32 hb];simp
   |false=>
    obtain⟨i1,i2,i3,i4⟩:=S9 b F0 hb;have i5:32<=Gf (part b 12 4):=by simp only[IE,MF]at hb;omega
    simp only[J3,I1,false_or];by_cases c1:b.take 32=Se (Gf (part b 12 4)-32) (Gf (part b 16 4)) 2684354560
    ·have c1':b.take 32=Se (Gf (part b 12 4)-32) (Gf (part b 16 4)) (2684354560:UInt64).toNat:=c1;rw[B! (by simpa using c1'),Ak];have e1:((Gf (part b 12 4)-32:Nat):Int)+64=((Gf (part b 12 4)+32:Nat):Int):=F0
     rw[e1];by_cases c2:b.length<Gf (part b 12 4)+32
     ·rw[B0 C2,fa5 hp h32 hb c1 c2]
     ·rw[B! C2,Bu,Wi,Aa,zn _ _ _ i3 i4 B6,Aa,Hu,Aa];rw[show(((Gf (part b 12 4)+32:Nat):Int)).toNat=Gf (part b 12 4)+32 by omega,show(((Gf (part b 12 4)+32:Nat):Int)-32).toNat=Gf (part b 12 4) by omega];by_cases c3:(b.take (Gf (part b 12 4)+32)).drop (Gf (part b 12 4))=Se (Gf (part b 12 4)-32) (Gf (part b 16 4)) 2147483648
      ·have c3':(b.take (Gf (part b 12 4)+32)).drop (Gf (part b 12 4))=Se (Gf (part b 12 4)-32) (Gf (part b 16 4)) (2147483648:UInt64).toNat:=c3;rw[B! (by simpa using c3'),fa7 hp h32 hb c1 c2 c3]
      ·have c3':¬(b.take (Gf (part b 12 4)+32)).drop (Gf (part b 12 4))=Se (Gf (part b 12 4)-32) (Gf (part b 16 4)) (2147483648:UInt64).toNat:=c3;rw[B0 (by simpa using c3'),fa6 hp h32 hb c1 c2 c3]
    ·have c1':¬b.take 32=Se (Gf (part b 12 4)-32) (Gf (part b 16 4)) (2684354560:UInt64).toNat:=c1;rw[B0 (by simpa using c1'),fa4 hp h32 c1]
 ·rw[B0 (by rw[IC,MF];exact hp),fa1 hp]
theorem Aql(b:LB)(hl:b.length<4611686018427387904):GF b=some (Lw b):=by
 rw[GF,Adn];by_cases h8:8<=b.length
 ·rw[B! C2,Dv,Aa,show(8:Int).toNat=8 from rfl];by_cases ha:b.take 8=qd
  ·have hp:=And.intro h8 ha;rw[B! (by simpa [qd]using ha),Ae1,Ads];by_cases h32:b.length<32
   ·rw[B0 C2,fa2 hp h32]
   ·have t:=Afs (b.take 32) B8 B8;rw[Agq,YH F0,YH F0]at t;rw[B! C2,Dv,Aa,show(32:Int).toNat=32 from rfl,t,Aa];cases hb:IE b with
    |true=>rw[fa3 hp h32 hb];simp
    |false=>
     obtain⟨i1,i2,i3,i4⟩:=S9 b F0 hb;have i5:32<=Gf (part b 12 4):=by simp only[IE,MF]at hb;omega
     simp only[J3,I1,false_or,Aa,Pw];rw[Zj,O8 _ _ _ i3 i4 B6,Aa,Aa];by_cases c1:b.take 32=Se (Gf (part b 12 4)-32) (Gf (part b 16 4)) 2684354560
     ·have c1':b.take 32=Se (Gf (part b 12 4)-32) (Gf (part b 16 4)) (2684354560:UInt64).toNat:=c1;rw[B! (by simpa using c1'),Ael,Ae2,Ak];have e1:64+((Gf (part b 12 4)-32:Nat):Int)=((Gf (part b 12 4)+32:Nat):Int):=F0
      rw[e1];by_cases c2:b.length<Gf (part b 12 4)+32
      ·rw[B0 C2,fa5 hp h32 hb c1 c2]
      ·rw[B! C2,Bu,Wi,Aa,Of,B0 rfl,O8 _ _ _ i3 i4 B6,Aa,Aa];rw[show(((Gf (part b 12 4)+32:Nat):Int)).toNat=Gf (part b 12 4)+32 by omega,show(((Gf (part b 12 4)+32:Nat):Int)-32).toNat=Gf (part b 12 4) by omega];by_cases c3:(b.take (Gf (part b 12 4)+32)).drop (Gf (part b 12 4))=Se (Gf (part b 12 4)-32) (Gf (part b 16 4)) 2147483648
       ·have c3':(b.take (Gf (part b 12 4)+32)).drop (Gf (part b 12 4))=Se (Gf (part b 12 4)-32) (Gf (part b 16 4)) (2147483648:UInt64).toNat:=c3;rw[B! (by simpa using c3'),fa7 hp h32 hb c1 c2 c3]
       ·have c3':¬(b.take (Gf (part b 12 4)+32)).drop (Gf (part b 12 4))=Se (Gf (part b 12 4)-32) (Gf (part b 16 4)) (2147483648:UInt64).toNat:=c3;rw[B0 (by simpa using c3'),fa6 hp h32 hb c1 c2 c3]
     ·have c1':¬b.take 32=Se (Gf (part b 12 4)-32) (Gf (part b 16 4)) (2684354560:UInt64).toNat:=c1;rw[B0 (by simpa using c1'),fa4 hp h32 c1]
  ·rw[B0 (by simpa [qd]using ha),fa1 (λh=>ha h.2)]
 ·rw[B0 C2,fa1 (λh=>h8 h.1)]
theorem Ar5{b:LB}{n:Int}(h:Lw b=(n,0)):64<=n/\n<=b.length:=by
 unfold Lw at h;split at h; · simp at h
 split at h; · simp at h
 split at h; · simp at h
 rename_i hb;split at h; · simp at h
 split at h; · simp at h
 simp only[D5,M4]at h;have hb':¬IE b=true:=λe=>hb (.inl e);simp only[IE,D!]at hb';omega
def Df(b:LB):Int×Int:=if(Zk b).2≠6 then Zk b else Lw b
theorem size_eq(b:LB)(hl:b.length<4611686018427387904):AN b=some (Df b):=by
 rw[AN,Arx b hl,Aa,Aki b hl];by_cases h:(Zk b).2=6
 ·simp[Df,h,Aj]
 ·simp[Df,h,Aj]
theorem tL{b:LB}{n:Int}(h:Df b=(n,0)):10<=n/\n<=b.length:=by
 unfold Df at h;split at h
 ·have:=Axm h;omega
 ·have:=Ar5 h;omega
def Cq(b:LB):Nat->Nat->LI×Int
 |0,_=>([],6)
 |j+1,p=>if(Df (b.drop p)).2=6 then([],0)else if(Df (b.drop p)).2≠0 then([],(Df (b.drop p)).2)else
  if 4000<(p:Int)+(Df (b.drop p)).1 then([],4)else
  if(Cq b j (p+(Df (b.drop p)).1.toNat)).2=0 then((Df (b.drop p)).1::(Cq b j (p+(Df (b.drop p)).1.toNat)).1,0)else([],(Cq b j (p+(Df (b.drop p)).1.toNat)).2)
theorem wQ(b:LB):∀(j p:Nat),p<=b.length->p<=4000-> (Cq b j p).2=0-> (∀x∈(Cq b j p).1,10<=x)/\ (p:Int)+(Cq b j p).1.sum<=b.length/\ (p:Int)+(Cq b j p).1.sum<=4000
 |0,p,_,_,h=>by simp[Cq]at h
 |j+1,p,hp,hq,h=>by
  rw[Cq]at h⊢;split at h
  ·rename_i h6;rw[B0 h6];simp;omega
  ·rename_i h6;split at h
   ·rename_i h0;exact absurd h h0
   ·rename_i h0;rw[B! h6,B! h0];have hz:Df (b.drop p)=((Df (b.drop p)).1,0):=by rw[kZ];exact⟨rfl,Classical.not_not.1 h0⟩
    have hs:=tL hz;rw[H4]at hs;split at h
    ·simp at h
    ·rename_i h4;rw[B! h4];split at h
     ·rename_i h00;rw[B0 h00];obtain⟨i1,i2,i3⟩:=wQ b j _ F0 F0 h00;refine⟨λx hx=>?_,?_,?_⟩
      ·rcases List.mem_cons.1 hx with rfl|hx
       ·exact hs.1
       ·exact i1 x hx
      ·simp only[I6];omega
      ·simp only[I6];omega
     ·rename_i h00;exact absurd h h00
def D_(b:LB)(j p:Nat):Int×Int:=if(Cq b j p).2=0 then((p:Int)+(Cq b j p).1.sum,0)else(0,(Cq b j p).2)
theorem Avi(b:LB)(hl:b.length<4611686018427387904):∀(j p q:Nat),p<=b.length->p<=4000->b.length-p<j->j<=q->Yb b q (p:Int)=some (D_ b j p)
 |0,p,q,_,_,h,_=>by omega
 |j+1,p,q,hp,hp4,hj,hq=>by
  obtain⟨q,rfl⟩:∃k,q=k+1:=⟨q-1,F0⟩;rw[Yb,Cb,Aa,F!,size_eq _ B8,Aa,Ar,Ar,Aj,D_];by_cases h6:(Df (b.drop p)).2=6
  ·rw[B0 (by simpa using h6)];have:Cq b (j+1) p=([],0):=by rw[Cq,B0 h6]
   rw[this];simp
  ·rw[B! (by simpa using h6)];by_cases h0:(Df (b.drop p)).2=0
   ·have hz:Df (b.drop p)=((Df (b.drop p)).1,0):=by rw[kZ];exact⟨rfl,h0⟩
    have hs:=tL hz;rw[H4]at hs;rw[Ak,Aq];by_cases h4:4000<(p:Int)+(Df (b.drop p)).1
    ·rw[B0 (by simp[h0];omega)];have:Cq b (j+1) p=([],4):=by rw[Cq,B! h6,B! (λh=>h h0),B0 h4]
     rw[this];simp
    ·rw[B! (by simp[h0];omega),B! (by simpa using h0)];have ih:=Avi b hl j (p+(Df (b.drop p)).1.toNat) q F0 F0 F0 F0;rw[show(p:Int)+(Df (b.drop p)).1=((p+(Df (b.drop p)).1.toNat:Nat):Int) by omega,ih,D_];have:Cq b (j+1) p=if(Cq b j (p+(Df (b.drop p)).1.toNat)).2=0 then((Df (b.drop p)).1::(Cq b j (p+(Df (b.drop p)).1.toNat)).1,0)else([],(Cq b j (p+(Df (b.drop p)).1.toNat)).2):=by
      rw[Cq,B! h6,B! (λh=>h h0),B! h4]
     rw[this];by_cases hr:(Cq b j (p+(Df (b.drop p)).1.toNat)).2=0
     ·simp only[hr,LD,I6];congr 2;omega
     ·simp only[hr,I1]
   ·rw[B! (by simp[h0]),B0 (by simpa using h0)];have:Cq b (j+1) p=([],(Df (b.drop p)).2):=by rw[Cq,B! h6,B0 h0]
    rw[this];simp[h0]
def Z6(b:LB)(j p:Nat)(xs:LI):LI×Int:=if(Cq b j p).2=0 then(xs++(Cq b j p).1,0)else([],(Cq b j p).2)
theorem At6(bk:Int->LI->Option (LI×Int))(b:LB)(p:Nat)(hp:p<=b.length)(xs:LI)(hx:xs.length<=4000)(hl:b.length<4611686018427387904):Yw (Ro bk b) b (p:Int) xs=Ro bk b (p:Int) xs (Df (b.drop p)).1 (Df (b.drop p)).2:=by
 have hf:=Aql (b.drop p) B8;rw[Yw,Cb,Aa,F!,Awh _ B8,Aa];by_cases h:(Zk (b.drop p)).2=6
 ·simp[Df,h,Ar,hf]
 ·simp[Df,h,Ar]
theorem zG(b:LB)(hl:b.length<4611686018427387904):∀(j p q:Nat) (xs:LI),p<=b.length->p<=4000->b.length-p<j->j<=q->xs.length<=p->Rh b q (p:Int) xs=some (Z6 b j p xs)
 |0,p,q,_,_,_,h,_,_=>by omega
 |j+1,p,q,xs,hp,hp4,hj,hq,hx=>by
  obtain⟨q,rfl⟩:∃k,q=k+1:=⟨q-1,F0⟩;rw[Rh,At6 _ b p hp xs F0 hl,Ro,Ae0,Ar,Aj,Z6];by_cases h6:(Df (b.drop p)).2=6
  ·rw[B0 (by simpa using h6)];have:Cq b (j+1) p=([],0):=by rw[Cq,B0 h6]
   rw[this];simp
  ·rw[B! (by simpa using h6)];by_cases h0:(Df (b.drop p)).2=0
   ·have hz:Df (b.drop p)=((Df (b.drop p)).1,0):=by rw[kZ];exact⟨rfl,h0⟩
    have hs:=tL hz;rw[H4]at hs;rw[B! (by simpa using h0),Ak,Aq];by_cases h4:4000<(p:Int)+(Df (b.drop p)).1
    ·rw[B0 B8];have:Cq b (j+1) p=([],4):=by rw[Cq,B! h6,B! (λh=>h h0),B0 h4]
     rw[this];simp
    ·rw[B! B8,Bi B8,Aa];have ih:=zG b hl j (p+(Df (b.drop p)).1.toNat) q (xs++[(Df (b.drop p)).1]) F0 F0 F0 F0 B8;rw[show(p:Int)+(Df (b.drop p)).1=((p+(Df (b.drop p)).1.toNat:Nat):Int) by omega,ih,Z6];have:Cq b (j+1) p=if(Cq b j (p+(Df (b.drop p)).1.toNat)).2=0 then((Df (b.drop p)).1::(Cq b j (p+(Df (b.drop p)).1.toNat)).1,0)else([],(Cq b j (p+(Df (b.drop p)).1.toNat)).2):=by
      rw[Cq,B! h6,B! (λh=>h h0),B! h4]
     rw[this];by_cases hr:(Cq b j (p+(Df (b.drop p)).1.toNat)).2=0
     ·simp only[hr,LD];simp
     ·simp only[hr,I1]
   ·rw[B0 (by simpa using h0)];have:Cq b (j+1) p=([],(Df (b.drop p)).2):=by rw[Cq,B! h6,B0 h0]
    rw[this];simp[h0]
theorem tu:∀{l:LI},(∀x∈l,10<=x)->0<=l.sum/\ (l.length:Int)<=l.sum
 |[],_=>by simp
 |x::l,h=>by
  have h1:=h x K3;have h2:=tu (l:=l) λy hy=>h y (I4 _ hy);simp only[I6,G2];omega
theorem yt(r:Int)(l:LI)(hl:l.length<=4000)(hx:∀x∈l,10<=x):∀(j i q:Nat) (n:Int),i+j=l.length->j<q->0<=n->n+(l.drop i).sum<=4000->Mf r l q n (i:Int)=some (n+(l.drop i).sum,r)
 |0,i,q+1,n,hi,_,_,_=>by
  rw[Mf,Yf,B! C2,show i=l.length by omega,MT];simp[Aek,Adm]
 |j+1,i,q+1,n,hi,hq,hn,hs=>by
  have hlt:i<l.length:=F0
  rw[drop_cons hlt,I6]at hs⊢;have h1:=hx l[i] (HA hlt);have h2:=tu (l:=l.drop (i+1)) λy hy=>hx y (RQ hy);rw[Mf,Yf,B0 C2,Bt hlt,Aa,Aa,Ak,Ak];have ih:=yt r l hl hx j (i+1) q (n+l[i]) F0 F0 F0 F0;rw[show((i:Int)+1)=((i+1:Nat):Int) by omega,ih];congr 2;omega
def Bp(b:LB):Int×Int:=D_ b (b.length+1) 0
theorem Ql(b:LB)(hl:b.length<4611686018427387904):Jv b=some (Bp b):=by
 have:=Avi b hl (b.length+1) 0 Au F0 F0 F0 D1;exact this
theorem CD(b:LB)(hl:b.length<4611686018427387904):Nc b=some (Bp b):=by
 have h:=zG b hl (b.length+1) 0 Au [] F0 F0 F0 D1 B7;have h':Apg b=some (Z6 b (b.length+1) 0 []):=h;rw[Nc,Ady,h',Aa,Bp,D_,Z6];have ho:=wQ b (b.length+1) 0 F0 F0;by_cases h0:(Cq b (b.length+1) 0).2=0
 ·obtain⟨i1,i2,i3⟩:=ho h0;have hp:=tu i1;simp only[h0,LD,HB];have:=yt 0 (Cq b (b.length+1) 0).1 F0 i1 (Cq b (b.length+1) 0).1.length 0 Au 0 F0 D1 F0 (by simpa using i3);simpa [Yi]using this
 ·simp only[h0,I1];have:=yt (Cq b (b.length+1) 0).2 [] B7 B7 0 0 Au 0 B7 D1 F0 B7;simpa [Yi]using this
theorem BP{b:LB}(h:(Bp b).2=0):0<= (Bp b).1/\ (Bp b).1<=b.length/\ (Bp b).1<=4000:=by
 unfold Bp D_ at h⊢;split at h
 ·rename_i h0;rw[B0 h0];obtain⟨i1,i2,i3⟩:=wQ b (b.length+1) 0 F0 F0 h0;have hp:=tu i1;exact⟨by simp;omega,i2,i3⟩
 ·rename_i h0;exact absurd h h0
theorem O!{p:Prop}(h:p:=by rw[Af,Ac,Ac];simp;omega):p:=h
def Ah(r:Nat):Nat:=max 1 (256*r/245)
theorem Es(r:Nat):1<=Ah r:=Nat.le_max_left _ _
theorem SX{r:Nat}(h:r<=1048576):Ah r<=1100000:=by unfold Ah;omega
theorem j!{r:Nat}(h:r<=1048576):wY (1:Int) (Bo (Bg (256:Int) (r:Int)) (245:Int))=(Ah r:Int):=by
 rw[Fo,UT,RK F0,De F0 F0,f?,Ah];omega
def Al(g n:Nat):LI:=List.replicate ((n-1)/g) (g:Int)++[((n-(n-1)/g*g:Nat):Int)]
theorem SK(g n:Nat):(Al g n).length=(n-1)/g+1:=by simp[Al]
theorem RF{g n:Nat}(h:n<=g)(h1:1<=n):Al g n=[(n:Int)]:=by
 rw[Al,M3 F0];simp
theorem uT{g n:Nat}(hg:1<=g)(h:g<n):Al g n=(g:Int)::Al g (n-g):=by
 have e:(n-1)/g=(n-g-1)/g+1:=by rw[<-Nat.add_div_right _ F0];congr 1;omega
 rw[Al,Al,e,MG,MS];congr 4;have:=LK (n-g-1) g;rw[E9,IX];omega
theorem Aa9{g n:Nat}(hg:1<=g)(h1:1<=n):(n+g-1)/g=(n-1)/g+1:=by
 rw[<-Nat.add_div_right _ F0];congr 1;omega
theorem vE{r:Nat}(h1:1<=r)(h:r<=1048576):Pk (r:Int)=some ((Ah r:Int),0):=by
 rw[Pk,B! HM,j! h]
theorem Au7{r:Nat}(h:r<=1048576):Zm (r:Int)=some (Ah r:Int):=by rw[Zm,j! h]
theorem mA{r n:Nat}(h1:1<=r)(h:r<=1048576)(n1:1<=n)(n2:n<=4000):Kk (r:Int) (n:Int)=some (if 1000<(n-1)/Ah r+1 then(0,4)else((((n-1)/Ah r+1:Nat):Int),0)):=by
 have hp:=Es r;have hl:=SX h;have e:Bo (Ap (Ad (n:Int) (Ah r:Int)) (1:Int)) (Ah r:Int)=(((n-1)/Ah r+1:Nat):Int):=by
  have:(n+Ah r-1)/Ah r<=n+Ah r-1:=HP _ _;rw[Ak,Bu,UT,RK F0,show(n:Int)+(Ah r:Int)-1=((n+Ah r-1:Nat):Int) by omega,<-vB,Aa9 hp n1];rw[Aa9 hp n1]at this;generalize(n-1)/Ah r=k at*
  exact De F0 F0
 rw[Kk,vE h1 h,Aa];simp only;rw[B! D3,B! HM,Bl F_,Aa,e];by_cases hk:1000<(n-1)/Ah r+1
 ·rw[B0 G6,B0 hk]
 ·rw[B! G6,B! hk]
theorem Bgk{r:Nat}(h:r<=1048576):∀(j n q:Nat) (acc:LI),n<=4000->n<=j->j<q->acc.length+n<=10000->Gs (r:Int) q (n:Int) acc=some (acc++(if n=0 then []else Al (Ah r) n))
 |0,n,q+1,acc,hn,hj,hq,ha=>by
  obtain rfl:n=0:=F0
  rw[Gs,Mk,B! M?];simp[Rp,Rj]
 |j+1,n,q+1,acc,hn,hj,hq,ha=>by
  have hp:=Es r;have hl:=SX h;by_cases h0:n=0
  ·subst h0;rw[Gs,Mk,B! M?];simp[Rp,Rj]
  ·rw[Gs,Mk,B0 G6,Au7 h,Aa,Bi B8,Aa,Aa,Bu,IQ];by_cases hs:n<=Ah r
   ·rw[show min (n:Int) (Ah r:Int)=(n:Int) by omega,B! h0,RF hs F0];have hz:∃k,q=k+1:=⟨q-1,F0⟩;obtain⟨q,rfl⟩:=hz;rw[Gs,Mk,B! G6];simp[Rp,Rj]
   ·rw[show min (n:Int) (Ah r:Int)=(Ah r:Int) by omega,show(n:Int)-(Ah r:Int)=((n-Ah r:Nat):Int) by omega,Bgk h j (n-Ah r) q _ F0 F0 F0 B8,B! F0,B! h0,uT hp (show Ah r<n by omega)];simp
theorem jE{r n:Nat}(h:r<=1048576)(n1:1<=n)(n2:n<=4000):Ga (r:Int) (n:Int)=some (Al (Ah r) n):=by
 have:=Bgk h n n Au [] n2 (E1 _) D1 B8;rw[Ga,Adx,Adi,this,B! F0];rfl
theorem mul_one(m:Nat)(h:m<=100000):RC (1:UInt64) (UInt64.ofNat m)=some (0,UInt64.ofNat m):=by
 have y1:(UInt64.ofNat m).toNat=m:=eX F0;have s1:Cn (1:UInt64) (GI.toZ (32:UInt64)).toNat=0:=B6
 have s2:Cn (UInt64.ofNat m) (GI.toZ (32:UInt64)).toNat=0:=by
  apply UInt64.toNat_inj.1;rw[MM,y1];exact M3 (NQ h B6)
 have s0:Cn (0:UInt64) (GI.toZ (32:UInt64)).toNat=0:=B6
 have a1:Fb (1:UInt64) (4294967295:UInt64)=1:=B6
 have a0:Fb (0:UInt64) (4294967295:UInt64)=0:=B6
 have a2:Fb (UInt64.ofNat m) (4294967295:UInt64)=UInt64.ofNat m:=by
  apply UInt64.toNat_inj.1;rw[R!,kL,y1]
  show m&&& (2^32-1)=m;rw[WQ,D0 F0]
 have m1:∀x:UInt64,Bg 1 x=x:=λx=>by rw[TC,UInt64.one_mul]
 have m0:∀x:UInt64,Bg 0 x=0:=λx=>by rw[TC,UInt64.zero_mul]
 have p0:∀x:UInt64,Ad 0 x=x:=λx=>by rw[TJ,UInt64.zero_add]
 have p1:∀x:UInt64,Ad x 0=x:=λx=>by rw[TJ,UInt64.add_zero]
 rw[RC,VJ];simp only[s1,s2,a1,a2,m1,m0,p0,p1,s0,a0,Aa]
theorem Ap9(v:Int)(m:Nat)(hm:m<=100000):∀(j n q:Nat),1<=n->n<=m->m-n<=j->j<q->Gl q (n:Int) (List.replicate n v++List.replicate (m-n) 0)=some (List.replicate m v)
 |j,n,q+1,hn,hnm,hj,hq=>by
  have hlen:Ac (List.replicate n v++List.replicate (m-n) 0)=(m:Int):=by simp[Ac];omega
  rw[Gl,Jc,hlen];by_cases h:n<m
  ·obtain⟨j,rfl⟩:∃k,j=k+1:=⟨j-1,F0⟩;rw[B0 D2];have v1:jB (m:Int) (n:Int) (m:Int)=some ():=by rw[jB,Bl];simp;omega
   have v2:jB (m:Int) (0:Int) (n:Int)=some ():=by rw[jB,Bl];simp;omega
   have e1:aW (List.replicate n v++List.replicate (m-n) 0) (0:Int) ((n:Int)-0)=List.replicate n v:=by
    simp[aW]
   rw[v1,Aa,v2,Aa,e1];have e2:bE ((m:Int)-(n:Int)) (List.replicate n v).length=((min n (m-n):Nat):Int):=by
    rw[bE,HR];split<;>omega
   have e3:Yh (List.replicate n v++List.replicate (m-n) 0) (n:Int) ((m:Int)-(n:Int)) (List.replicate n v)=List.replicate (n+min n (m-n)) v++List.replicate (m-(n+min n (m-n))) 0:=by
    have t1:((m:Int)-(n:Int)).toNat=m-n:=F0
    have t2:(List.replicate n v++List.replicate (m-n) (0:Int)).take n=List.replicate n v:=by simp
    rw[Yh,t1,F!,t2,List.take_replicate,HR,<-E?,List.replicate_append_replicate,uZ,HR,Nat.min_comm (m-n) n];simp only[List.drop_replicate];rw[show n-(n+min n (m-n))=0 by omega,List.replicate_zero,HB,show m-n-(n+min n (m-n)-n)=m-(n+min n (m-n)) by omega]
   rw[e2,e3,Ak,show(n:Int)+((min n (m-n):Nat):Int)=((n+min n (m-n):Nat):Int) by omega];exact Ap9 v m hm j (n+min n (m-n)) q F0 F0 F0 F0
  ·rw[B! D2];obtain rfl:n=m:=F0
   simp[Ly,Rv]
theorem Ar9(v:Int)(m:Nat)(hm:m<=100000):Rn [v] (m:Int)=some (List.replicate m v):=by
 have y1:(UInt64.ofNat m).toNat=m:=eX F0;have c1:(Ae (Ac [v]):UInt64)=1:=by rfl
 have c2:(Ae (m:Int):UInt64)=UInt64.ofNat m:=Ye m;have c3:(Ae (UInt64.ofNat m):Int)=(m:Int):=by rw[X7 F0,y1]
 rw[Rn,Tt,B! I_,Tw,To,c1,c2,mul_one m hm,Aa];simp only;rw[B! (by rw[dS,dS,y1];simp;show m<=9223372036854775807;omega),Tq,Tv,c3,oW,Aa,Bl SL,Aa,Aai,F!];by_cases h0:m=0
 ·subst h0;have hF:Au=(Au-1)+1:=by have:=As;omega
  rw[hF,Gl,Jc];simp[Ac,XF,bE,Af,Ly,Rv]
 ·have:=Ap9 v m hm m 1 Au F0 F0 F0 D1;have e1:bE (Ac (List.replicate m (0:Int))) [v].length=((1:Nat):Int):=by simp[bE,Ac];omega
  have e2:XF (List.replicate m (0:Int)) [v]=List.replicate 1 v++List.replicate (m-1) 0:=by
   obtain⟨k,rfl⟩:∃k,m=k+1:=⟨m-1,F0⟩;simp[XF]
  rw[e1,e2,this]
theorem Arp(l m:LI)(h:l.length+m.length<=1000000):Ri [l,m]=some (l++m):=by
 have hF:Au=(Au-3)+1+1+1:=by have:=As;omega
 rw[Ri,Ts,Aah];have g0:Am [l,m] (0:Int)=some l:=rfl;have g1:Am [l,m] (1:Int)=some m:=rfl;have l2:Ac [l,m]=2:=rfl;have h3:Ma [l,m] []=some (l++m):=by
  rw[Ma,Rw,Aa1,hF,Fw,Ii,l2,B0 B6,g0,Aa,Bi B8,Aa,HB,show Ad (0:Int) 1=1 by decide,
   Fw,Ii,l2,B0 B6,g1,Aa,Bi,Aa,show Ad (1:Int) 1=2 by decide,Fw,Ii,l2,B! B6]
  rfl
 rw[hF,Gj,Ja,l2,B0 B6,g0,Aa,Ak M! M!,B! SG,show Ad (0:Int) 1=1 by decide,
  Gj,Ja,l2,B0 B6,g1,Aa,Ak M! M!,B! O!,show Ad (1:Int) 1=2 by decide,
  Gj,Ja,l2,B! B6,Rt,Sc,B! O!,Sa,Ry]
 have z:Ap (0:Int) 0=0:=B6
 have n0:(0:Int)+Ac l+Ac m=((l.length+m.length:Nat):Int):=by simp[Ac]
 rw[z,n0,Bu,Int.sub_zero];by_cases hp:0<l.length+m.length
 ·rw[B0 G6,show jB (0:Int) 0 0=some ()from rfl,Aa,oW,Aa,Bi B8,Aa];rw[show jB (Ac ([]++List.replicate ((l.length+m.length:Nat):Int).toNat (0:Int))) 0 0=some () by rw[jB,Bl];simp[Ac];omega,Aa];simp only[aW,cQ,lG,JP];exact h3
 ·rw[B! G6];exact h3
theorem Aw3{r n:Nat}(h1:1<=r)(h:r<=1048576)(n1:1<=n)(n2:n<=4000)(hk:(n-1)/Ah r+1<=1000):AH (r:Int) (n:Int)=some (Al (Ah r) n,0):=by
 have hp:=Es r;have hl:=SX h;have hd:=LK (n-1) (Ah r);rw[AH,mA h1 h n1 n2,B! F0,Aa];simp only;rw[B! D3,vE h1 h,Aa];simp only;rw[Al];generalize(n-1)/Ah r=k at*
 have e1:Ap ((k+1:Nat):Int) 1=(k:Int):=by rw[Bu];omega
 have e2:(k:Int)*(Ah r:Int)=((k*Ah r:Nat):Int):=by simp
 rw[e1,Ar9 _ _ F0,Aa,Fo (by rw[e2];omega) (by rw[e2];omega),e2,Bu,aH,Arp _ _ B8,Aa,Aa,show(n:Int)-((k*Ah r:Nat):Int)=((n-k*Ah r:Nat):Int) by omega]
def Fx(f c w r n:Nat):Bool:=decide ((f=1\/f=2)/\ (1<=c/\c<=6)/\ (w=8\/w=16\/w=24)/\ (1<=r/\r<=1048576)/\1<=n)
def Xl(c r n:Nat):Bool:=decide (n<=4000/c/\ (n-1)/Ah r+1<=1000)
theorem dG(f c w r n:Nat):Tn (f:Int) (c:Int) (w:Int) (r:Int) (n:Int)=some (Fx f c w r n):=by
 have e2:Qf (f:Int) (c:Int) (w:Int) (r:Int) (n:Int)=some (decide ((f=1\/f=2)/\ (1<=c/\c<=6)/\ (1<=r/\r<=1048576)/\1<=n)):=by
  rw[Qf,PB];congr 1;rw[F?];simp only[Ar,Aq,WU,CT,HV,G3,D!];omega
 have g:∀k:Nat,geq (w:Int) (k:Int)=decide (w=k):=λk=>by rw[Ar,F?];simp;omega
 have g8:geq (w:Int) (8:Int)=decide (w=8):=g 8;have g16:geq (w:Int) (16:Int)=decide (w=16):=g 16;have g24:geq (w:Int) (24:Int)=decide (w=24):=g 24;rw[Tn,BT,e2,g8,g16,g24,Fx];by_cases h8:w=8
 ·subst h8;simp
 ·by_cases h16:w=16
  ·subst h16;simp
  ·by_cases h24:w=24
   ·subst h24;simp
   ·simp[h8,h16,h24]
theorem B9(f c w r n:Nat):Lk (f:Int) (c:Int) (w:Int) (r:Int) (n:Int)=some (Fx f c w r n):=by
 rw[Lk,Fx];simp only[Ar,Eh,WU,CT,HV,G3,D!,S6];split
 ·rename_i h;congr 1;rw[F?];simp only[CT,HV,G3,D!];omega
 ·rename_i h;congr 1;symm;rw[MF];omega
theorem Bb9{c:Nat}(h:1<=c):Bo (4000:Int) (c:Int)=((4000/c:Nat):Int):=by
 have:4000/c<=4000:=HP _ _;rw[UT,RK F0,show(4000:Int)=((4000:Nat):Int)from rfl,<-vB];generalize 4000/c=k at*
 exact De F0 F0
theorem vS{f c w r n:Nat}(h:Fx f c w r n=true):TY (f:Int) (c:Int) (w:Int) (r:Int) (n:Int)=some (Xl c r n):=by
 simp only[Fx,D!]at h;have hd:4000/c<=4000:=HP _ _;rw[TY,Bl F_,Aa,Bb9 F0,Xl];generalize 4000/c=m at*
 by_cases h1:n<=m
 ·rw[B! G6,mA F0 F0 F0 F0,Aa];generalize(n-1)/Ah r+1=k;by_cases h2:1000<k
  ·rw[B0 h2];simp[Ar,WU];omega
  ·rw[B! h2];simp[Ar,WU,h1];omega
 ·rw[B0 G6];simp[h1]
theorem k? {f c w r n:Nat}(h:Fx f c w r n=true):Zt (f:Int) (c:Int) (w:Int) (r:Int) (n:Int)=some (!Xl c r n):=by
 simp only[Fx,D!]at h;have hd:4000/c<=4000:=HP _ _;rw[Zt,Bl F_,Aa,Bb9 F0,Xl];generalize 4000/c=m at*
 by_cases h1:n<=m
 ·rw[B! G6,jE F0 F0 F0,Aa,Ac,SK];generalize(n-1)/Ah r+1=k;congr 1;rw[Aq,F?];simp only[D!,IC,MF];omega
 ·rw[B0 G6];simp[h1]
def Px:LB:=[84,84,65,49]
def f0(b:LB):Nat:=Gf (part b 4 2)
def f1(b:LB):Nat:=Gf (part b 6 2)
def f2(b:LB):Nat:=Gf (part b 8 2)
def f3(b:LB):Nat:=Gf (part b 10 4)
def f4(b:LB):Nat:=Gf (part b 14 4)
abbrev H6:=Int×Int×Int×Int×Int×Int
def Ep(b:LB):H6:=
 if b.take (min 4 b.length)≠Px.take (min 4 b.length)then(0,0,0,0,0,12)else if b.length<22 then(0,0,0,0,0,24)else
 if(Ew (b.take 18)).toNat≠Gf (part b 18 4)then(0,0,0,0,0,22)else
 if Fx (f0 b) (f1 b) (f2 b) (f3 b) (f4 b)=false then(0,0,0,0,0,12)else
 if Xl (f1 b) (f3 b) (f4 b)=false then(0,0,0,0,0,4)else((f0 b:Int),(f1 b:Int),(f2 b:Int),(f3 b:Int),(f4 b:Int),0)
section
variable {b:LB}
theorem rs1(h:b.take (min 4 b.length)≠Px.take (min 4 b.length)):Ep b=(0,0,0,0,0,12):=by rw[Ep,B0 h]
variable (h:b.take (min 4 b.length)=Px.take (min 4 b.length))
include h
theorem rs2(h2:b.length<22):Ep b=(0,0,0,0,0,24):=by rw[Ep,B! (λe=>e h),B0 h2]
variable (h2:¬b.length<22)
include h2
theorem rs3(h3:(Ew (b.take 18)).toNat≠Gf (part b 18 4)):Ep b=(0,0,0,0,0,22):=by rw[Ep,B! (λe=>e h),B! h2,B0 h3]
variable (h3:(Ew (b.take 18)).toNat=Gf (part b 18 4))
include h3
theorem rs4(h4:Fx (f0 b) (f1 b) (f2 b) (f3 b) (f4 b)=false):Ep b=(0,0,0,0,0,12):=by rw[Ep,B! (λe=>e h),B! h2,B! (λe=>e h3),B0 h4]
variable (h4:Fx (f0 b) (f1 b) (f2 b) (f3 b) (f4 b)=true)
include h4
theorem rs5(h5:Xl (f1 b) (f3 b) (f4 b)=false):Ep b=(0,0,0,0,0,4):=by rw[Ep,B! (λe=>e h),B! h2,B! (λe=>e h3),B! (by rw[h4];simp),B0 h5]
theorem rs6(h5:Xl (f1 b) (f3 b) (f4 b)=true):Ep b=((f0 b:Int),(f1 b:Int),(f2 b:Int),(f3 b:Int),(f4 b:Int),0):=by rw[Ep,B! (λe=>e h),B! h2,B! (λe=>e h3),B! (by rw[h4];simp),B! (by rw[h5];simp)]
end
theorem Atb(b:LB)(h2:¬b.length<22):Bd (Ae (Ew (b.take 18)):UInt64) (xV (part b 18 4))=decide ((Ew (b.take 18)).toNat≠Gf (part b 18 4)):=by
 rw[XP,Ef,F?];simp only[N1,ne_eq,D!];rw[<-RS,eX (by have:=(Ew (b.take 18)).toNat_lt;omega),eY K1]
theorem qP(b:LB)(a w:Nat)(i q:Nat)(l:LI)(hi:i<5)(hl:l.length=5)(hw:Am ([2,2,2,4,4]:LI) (i:Int)=some (w:Int))(h1:1<=w)(h4:w<=4)(ha:a+w<=b.length)(hb:b.length<4611686018427387904):
  Qm b (q+1) (a:Int) (i:Int) l=Qm b q ((a+w:Nat):Int) ((i+1:Nat):Int) (l.set i (Gf (part b a w):Int)):=by
 rw[Qm,JE,B0 D2,hw,Aa,U6 b a w h1 F0 ha hb,Aa];simp only;rw[Bt,Aa,Ww _ F0,Aa,RB (by rw[Ff ha];omega),Ak,Ak];rfl
theorem Auy(b:LB)(h22:¬b.length<22)(hb:b.length<4611686018427387904):ZV b 4 0 (List.replicate 5 0)=JD [(f0 b:Int),(f1 b:Int),(f2 b:Int),(f3 b:Int),(f4 b:Int)]:=by
 have hF:Au=(Au-6)+1+1+1+1+1+1:=by have:=As;omega
 rw[ZV,hF,show(4:Int)=((4:Nat):Int)from rfl,show(0:Int)=((0:Nat):Int)from rfl];rw[qP b 4 2 0 _ _ F0 B7 rfl F0 F0 F0 hb,qP b 6 2 1 _ _ F0 B7 rfl F0 F0 F0 hb,qP b 8 2 2 _ _ F0 B7 rfl F0 F0 F0 hb,
  qP b 10 4 3 _ _ F0 B7 rfl F0 F0 F0 hb,qP b 14 4 4 _ _ F0 B7 rfl F0 F0 F0 hb,Qm,JE,B! I_]
 rfl
theorem Bi9(b:LB):Kn [84,84,65,49] (b.take (min 4 b.length))=some (decide (b.take (min 4 b.length)=Px.take (min 4 b.length))):=by
 have hl:(b.take (min 4 b.length)).length=min 4 b.length:=by rw[G!];omega
 rw[Kn,Ic,B0 (by rw[Eh,Ac,Ac,hl];simp;omega),Ac,hl,Dv F0 B8,Aa,Aa,F!];congr 1;rw[F?];rw[D!,G3];exact eq_comm
theorem Bg6(b:LB):Fq (4:Int) (Ac b)=((min 4 b.length:Nat):Int):=by rw[IQ,Ac];omega
theorem PY(b:LB)(hb:b.length<4611686018427387904):Nn b=some (Ep b):=by
 rw[Nn,bI,Bg6,Dv,Aa,F!,Bi9,Aa];by_cases h:b.take (min 4 b.length)=Px.take (min 4 b.length)
 ·rw[B! (by simpa using h)];by_cases h2:b.length<22
  ·rw[B0 C2,rs2 h h2]
  ·have a1:WZ b 18 4=some (xV (part b 18 4),0):=U6 b 18 4 F0 F0 F0 hb;rw[B! C2,a1,Aa];simp only;rw[Dv,Aa,show(18:Int).toNat=18 from rfl,T6 _ B8,Aa];simp only;rw[Atb b h2];by_cases h3:(Ew (b.take 18)).toNat=Gf (part b 18 4)
   ·rw[B! (by simpa using h3),Auy b h2 hb,JD,Bkc];rw[show Am [(f0 b:Int),(f1 b:Int),(f2 b:Int),(f3 b:Int),(f4 b:Int)] 0=some (f0 b:Int)from rfl,show Am [(f0 b:Int),(f1 b:Int),(f2 b:Int),(f3 b:Int),(f4 b:Int)] 1=some (f1 b:Int)from rfl,show Am [(f0 b:Int),(f1 b:Int),(f2 b:Int),(f3 b:Int),(f4 b:Int)] 2=some (f2 b:Int)from rfl,
     show Am [(f0 b:Int),(f1 b:Int),(f2 b:Int),(f3 b:Int),(f4 b:Int)] 3=some (f3 b:Int)from rfl,show Am [(f0 b:Int),(f1 b:Int),(f2 b:Int),(f3 b:Int),(f4 b:Int)] 4=some (f4 b:Int)from rfl]
    simp only[Aa,dG];cases h4:Fx (f0 b) (f1 b) (f2 b) (f3 b) (f4 b)with
    |false=>rw[rs4 h h2 h3 h4];rfl
    |true=>
     rw[vS h4,B! B7,Aa];cases h5:Xl (f1 b) (f3 b) (f4 b)with
     |false=>rw[rs5 h h2 h3 h4 h5];rfl
     |true=>rw[rs6 h h2 h3 h4 h5];rfl
   ·rw[B0 (by simpa using h3),rs3 h h2 h3]
 ·rw[B0 (by simpa using h),rs1 h]
theorem iK(b:LB)(hb:b.length<4611686018427387904):Nz b=some (Ep b):=by
 rw[Nz,Agc,Bg6,Dv,Aa,F!,Dv F0 B8,Aa,F!];by_cases h:b.take (min 4 b.length)=Px.take (min 4 b.length)
 ·rw[B! (by rw[h];simp[Px]),Aj9,Agv];by_cases h2:b.length<22
  ·rw[B0 C2,rs2 h h2]
  ·have a1:Bm b 18 22=some (part b 18 4):=Ta 18 4;have c1:Bm b 4 6=some (part b 4 2):=Ta 4 2;have c2:Bm b 6 8=some (part b 6 2):=Ta 6 2;have c3:Bm b 8 10=some (part b 8 2):=Ta 8 2;have c4:Bm b 10 14=some (part b 10 4):=Ta 10 4;have c5:Bm b 14 18=some (part b 14 4):=Ta 14 4;have hs:Bd (xV (part b 18 4)) (Ae (Ew (b.take 18)):UInt64)=decide ((Ew (b.take 18)).toNat≠Gf (part b 18 4)):=by
    rw[<-Atb b h2,XP,XP,F?];simp only[N1,ne_eq];exact not_congr eq_comm
   have lp:∀a w,a+w<=b.length->Er (part b a w)=some (xV (part b a w)):=λa w h=>YR _ (by rw[Ff h];omega);rw[B! C2,a1,Aa,Dv,Aa,show(18:Int).toNat=18 from rfl,lp _ _ F0,Aa,qY _ B8,Aa,hs];by_cases h3:(Ew (b.take 18)).toNat=Gf (part b 18 4)
   ·rw[B! (by simpa using h3),Ajl,Aib,c1,Aa,c2,Aa,c3,Aa,c4,Aa,c5,Aa,lp _ _ F0,Aa,lp _ _ F0,Aa,lp _ _ F0,Aa,lp _ _ F0,Aa,lp _ _ F0,Aa,
     Aj7,Ai8,RB K1,RB K1,RB K1,RB K1,RB K1]
    rw[show Gf (part b 4 2)=f0 b from rfl,show Gf (part b 6 2)=f1 b from rfl,show Gf (part b 8 2)=f2 b from rfl,show Gf (part b 10 4)=f3 b from rfl,show Gf (part b 14 4)=f4 b from rfl,B9,Aa];cases h4:Fx (f0 b) (f1 b) (f2 b) (f3 b) (f4 b)with
    |false=>rw[rs4 h h2 h3 h4];rfl
    |true=>
     rw[k? h4,B! B7,Aa];cases h5:Xl (f1 b) (f3 b) (f4 b)with
     |false=>rw[rs5 h h2 h3 h4 h5];rfl
     |true=>rw[rs6 h h2 h3 h4 h5];rfl
   ·rw[B0 (by simpa using h3),rs3 h h2 h3]
 ·rw[B0 (by simpa [Px]using h),rs1 h]
theorem tT{b:LB}(h:(Ep b).2.2.2.2.2=0):Ep b=((f0 b:Int),(f1 b:Int),(f2 b:Int),(f3 b:Int),(f4 b:Int),0)/\22<=b.length/\Fx (f0 b) (f1 b) (f2 b) (f3 b) (f4 b)=true/\Xl (f1 b) (f3 b) (f4 b)=true:=by
 unfold Ep at h⊢;split at h; · simp at h
 rename_i c1;rw[B! c1];split at h; · simp at h
 rename_i c2;rw[B! c2];split at h; · simp at h
 rename_i c3;rw[B! c3];split at h; · simp at h
 rename_i c4;rw[B! c4];split at h; · simp at h
 rename_i c5;rw[B! c5];exact⟨rfl,F0,by simpa using c4,by simpa using c5⟩
theorem sP{f c w r n:Nat}(h:Fx f c w r n=true)(h2:Xl c r n=true):Ee (f:Int) (c:Int) (w:Int) (r:Int) (n:Int)=some (Al (Ah r) n,0):=by
 have hc:Pj (f:Int) (c:Int) (w:Int) (r:Int) (n:Int)=some 0:=by
  rw[Pj,dG,Aa,h,B! B7,vS h,Aa,h2];rfl
 have hd:4000/c<=4000:=HP _ _;simp only[Fx,D!]at h;simp only[Xl,D!]at h2;rw[Ee,hc,Aa,B! D3,Aw3 F0 F0 F0 F0 h2.2];rfl
def okL:LI->Int->Bool
 |[],_=>true
 |x::l,left=>decide (5<=x/\x<=left)&&okL l (left-x)
theorem SP:∀l:LI,(∀x∈l,5<=x)->0<=l.sum
 |[],_=>by simp
 |x::l,h=>by
  have h1:=h x K3;have h2:=SP l λy hy=>h y (I4 _ hy);rw[I6];omega
theorem FB:∀(l:LI) (left:Int),0<=left-> (okL l left=true↔(∀x∈l,5<=x)/\l.sum<=left)
 |[],left,h=>by simp[okL];exact h
 |x::l,left,h=>by
  rw[okL,CT,D!,I6];by_cases hx:5<=x/\x<=left
  ·rw[FB l (left-x) F0];constructor
   ·rintro⟨_,h1,h2⟩;exact⟨λy hy=>(List.mem_cons.1 hy).elim (λe=>e▸hx.1) (h1 y),F0⟩
   ·rintro⟨h1,h2⟩;exact⟨hx,λy hy=>h1 y (I4 _ hy),F0⟩
  ·constructor
   ·rintro⟨h1,_⟩;exact absurd h1 hx
   ·rintro⟨h1,h2⟩;have h3:=h1 x K3;have:0<=l.sum:=SP l λy hy=>h1 y (I4 _ hy);omega
theorem Aag (l:LI)(hl:l.length<=1000):∀(j i q:Nat) (left:Int),i+j=l.length->j<q->0<=left->left<=100000->Vh l q left (i:Int)=some (if okL (l.drop i) left=true then 0 else 8)
 |0,i,q+1,left,hi,_,_,_=>by
  rw[Vh,MQ,B! C2,show i=l.length by omega,MT];rfl
 |j+1,i,q+1,left,hi,hq,h0,h1=>by
  have hlt:i<l.length:=F0
  rw[Vh,MQ,B0 C2,Bt hlt,Aa,drop_cons hlt];by_cases h:5<=l[i]/\l[i]<=left
  ·rw[B! HM,Bu,Ak];have ih:=Aag l hl j (i+1) q (left-l[i]) F0 F0 F0 F0;rw[show((i:Int)+1)=((i+1:Nat):Int) by omega,ih];simp[okL,h]
  ·rw[B0 HM];have:okL (l[i]::l.drop (i+1)) left=false:=by rw[okL,K5 h];rfl
   rw[this];rfl
def Vs(l:LI):Bool:=decide (1<=l.length/\l.length<=1000)&&okL l 100000
theorem Afg(l:LI)(hl:l.length<=1000):Tj l=some (if Vs l=true then 0 else 8):=by
 rw[Tj,LM,Vs];by_cases h:1<=l.length
 ·rw[B! (by rw[Ar,Aq,Ac];simp;constructor;(intro e;subst e;simp at h);omega),Bjj];have:=Aag l hl l.length 0 Au 100000 F0 D1 F0 F0;rw[lM]at this;rw[L8 (show 1<=l.length/\l.length<=1000 from⟨h,hl⟩),JY];exact this
 ·have:l=[]:=by
   cases l with
   |nil=>rfl
   |cons _ _=>simp at h
  subst this;rfl
theorem yu(l:LI)(hl:l.length<=1000):∀(j i q:Nat) (s:Int),i+j=l.length->j<q->0<=s->s<=100000*(i:Int)->Mn l q s (i:Int)=some (if(∀x∈l.drop i,5<=x/\x<=100000)/\s+(l.drop i).sum<=100000 then 0 else 8)
 |0,i,q+1,s,hi,_,_,_=>by
  rw[Mn,Yt,B! C2,show i=l.length by omega,MT,Acr,Ad4];by_cases h:s<=100000
  ·rw[B! G6,B0 B8]
  ·rw[B0 G6,B! B8]
 |j+1,i,q+1,s,hi,hq,h0,h1=>by
  have hlt:i<l.length:=F0
  rw[Mn,Yt,B0 C2,Bt hlt,Aa,drop_cons hlt];by_cases h5:l[i]<5
  ·rw[B0 (by rw[Af];simpa using h5),B! (λh=>by have:=(h.1 l[i] K3).1;omega)]
  ·rw[B! (by rw[Af];simpa using h5),Aa];by_cases h6:100000<l[i]
   ·rw[B0 (by rw[Aq];simpa using h6),B! (λh=>by have:=(h.1 l[i] K3).2;omega)]
   ·rw[B! (by rw[Aq];simpa using h6),Ae3,Adz,Bt hlt,Aa,Ak,Ak];have ih:=yu l hl j (i+1) q (s+l[i]) F0 F0 F0 F0;rw[show((i:Int)+1)=((i+1:Nat):Int) by omega,ih];have e:((∀x∈l.drop (i+1),5<=x/\x<=100000)/\s+l[i]+(l.drop (i+1)).sum<=100000)↔((∀x∈l[i]::l.drop (i+1),5<=x/\x<=100000)/\s+(l[i]::l.drop (i+1)).sum<=100000):=by
     rw[I6,List.forall_mem_cons,SB];constructor
     ·rintro⟨a,b⟩;exact⟨⟨F0,a⟩,b⟩
     ·rintro⟨⟨_,a⟩,b⟩;exact⟨a,b⟩
    simp only[e]
theorem P8:∀{l:LI},(∀x∈l,5<=x)->∀x∈l,x<=l.sum
 |[],_,x,hx=>by simp at hx
 |y::l,h,x,hx=>by
  have h1:=h y K3;have h2:=SP l λz hz=>h z (I4 _ hz);rw[I6];rcases List.mem_cons.1 hx with rfl|hx
  ·omega
  ·have:=P8 (l:=l) (λz hz=>h z (I4 _ hz)) x hx;omega
theorem Aix(l:LI)(hl:l.length<=1000):Jh l=some (if Vs l=true then 0 else 8):=by
 rw[Jh,Yg,Vs];by_cases h:1<=l.length
 ·have:=yu l hl l.length 0 Au 0 F0 D1 F0 F0;rw[B! (by rw[Af,Aq,Ac];simp;omega),Aeg];refine H9 this ?_;rw[lM,L8 (show 1<=l.length/\l.length<=1000 from⟨h,hl⟩),JY];have e:((∀x∈l,5<=x/\x<=100000)/\0+l.sum<=100000)↔okL l 100000=true:=by
   rw[FB l 100000 F0,Int.zero_add];constructor
   ·rintro⟨a,b⟩;exact⟨λx hx=>(a x hx).1,b⟩
   ·rintro⟨a,b⟩;exact⟨λx hx=>⟨a x hx,Int.le_trans (P8 a x hx) b⟩,b⟩
  simp only[e]
 ·have:l=[]:=by
   cases l with
   |nil=>rfl
   |cons _ _=>simp at h
  subst this;rfl
theorem YS(l:LI):Tj l=some (if Vs l=true then 0 else 8):=by
 by_cases hl:l.length<=1000
 ·exact Afg l hl
 ·rw[Tj,LM,B0 E4,Vs,K5 F0];rfl
theorem fT(l:LI):Jh l=some (if Vs l=true then 0 else 8):=by
 by_cases hl:l.length<=1000
 ·exact Aix l hl
 ·rw[Jh,Yg,B0 E4,Vs,K5 F0];rfl
theorem Alo(l:LI)(hl:l.length<=1000)(hx:∀x∈l,0<=x/\x<4294967296):Tj l=some (if Vs l=true then 0 else 8):=YS l
theorem Aqa(l:LI)(hl:l.length<=1000)(hx:∀x∈l,0<=x/\x<4294967296):Jh l=some (if Vs l=true then 0 else 8):=fT l
def UJ(b:LB)(n:Nat):LI:=(List.range n).map λi=>(Gf (part b (4*i) 4):Int)
theorem Vm(b:LB)(n:Nat):(UJ b n).length=n:=by simp[UJ]
theorem xA(b:LB)(n:Nat):UJ b (n+1)=UJ b n++[(Gf (part b (4*n) 4):Int)]:=by simp[UJ,bZ]
theorem Amp(b:LB)(n:Nat)(h:4*n<=b.length):∀x∈UJ b n,0<=x/\x<4294967296:=by
 intro x hx;simp only[UJ,k_,TR]at hx;obtain⟨i,hi,rfl⟩:=hx;have:=Aob (l:=part b (4*i) 4) K1;omega
def Eo(b:LB)(n:Nat):LI×Int:=
 if ¬(1<=n/\n<=1000)then([],2)else if b.length<4*n+4 then([],24)else if(Ew (b.take (4*n))).toNat≠Gf (part b (4*n) 4)then([],22)else
 if Vs (UJ b n)=true then(UJ b n,0)else([],12)
theorem An1{b:LB}{n:Nat}(h:1<=n/\n<=1000)(h2:¬b.length<4*n+4):Bd (Ae (Ew (b.take (4*n))):UInt64) (xV (part b (4*n) 4))=decide ((Ew (b.take (4*n))).toNat≠Gf (part b (4*n) 4)):=by
 rw[XP,Ef,F?];simp only[N1,ne_eq,D!];rw[<-RS,eX (by have:=(Ew (b.take (4*n))).toNat_lt;omega),eY K1]
section
variable {b:LB} {n:Nat}
theorem ss1(h:¬(1<=n/\n<=1000)):Eo b n=([],2):=by rw[Eo,B0 h]
variable (h:1<=n/\n<=1000)
include h
theorem ss2(h2:b.length<4*n+4):Eo b n=([],24):=by rw[Eo,B! (λe=>e h),B0 h2]
variable (h2:¬b.length<4*n+4)
include h2
theorem ss3(h3:(Ew (b.take (4*n))).toNat≠Gf (part b (4*n) 4)):Eo b n=([],22):=by rw[Eo,B! (λe=>e h),B! h2,B0 h3]
theorem ss4(h3:(Ew (b.take (4*n))).toNat=Gf (part b (4*n) 4)):Eo b n=if Vs (UJ b n)=true then(UJ b n,0)else([],12):=by rw[Eo,B! (λe=>e h),B! h2,B! (λe=>e h3)]
end
theorem yW(b:LB)(l8:LI)(n:Nat)(hn:n<=1000)(h8:l8.length=n)(hb:4*n+4<=b.length)(hb2:b.length<4611686018427387904):∀(j i q:Nat),i+j=n->j<q->Xx b l8 q (i:Int) (UJ b i++List.replicate j 0)=QO (UJ b n)
 |0,i,q+1,hi,_=>by
  obtain rfl:i=n:=F0
  rw[Xx,QS,B! C2];simp
 |j+1,i,q+1,hi,hq=>by
  have hlen:(UJ b i++List.replicate (j+1) 0).length=i+(j+1):=by simp[Vm]
  have ha:=U6 b (4*i) 4 F0 F0 F0 hb2;rw[Xx,QS,B0 C2,Fo,show(4:Int)*(i:Int)=((4*i:Nat):Int) by omega,show(4:Int)=((4:Nat):Int)from rfl,ha,Aa];simp only;rw[Bt (by rw[hlen];omega),Aa,Ww _ (by rw[hlen];omega),Aa,RB K1,Ak,MG,vF (Vm _ _)];have ih:=yW b l8 n hn h8 hb hb2 j (i+1) q F0 F0;rw[xA]at ih;rw[show((i:Int)+1)=((i+1:Nat):Int) by omega,<-ih];simp
theorem wS(b:LB)(n:Nat)(hb:b.length<=100100):GD b (n:Int)=some (Eo b n):=by
 rw[GD,gQ];by_cases h:1<=n/\n<=1000
 ·rw[B! HM,Fo,Ak];by_cases h2:b.length<4*n+4
  ·rw[B0 C2,ss2 h h2]
  ·have ha:WZ b (4*(n:Int)) 4=some (xV (part b (4*n) 4),0):=by
    rw[show(4:Int)*(n:Int)=((4*n:Nat):Int) by omega];exact U6 b (4*n) 4 F0 F0 F0 F0
   rw[B! C2,ha,Aa];simp only;rw[Dv,Aa,show(4*(n:Int)).toNat=4*n by omega,T6 _ B8,Aa];simp only;rw[An1 h h2];by_cases h3:(Ew (b.take (4*n))).toNat=Gf (part b (4*n) 4)
   ·have hlp:=yW b (List.replicate n 0) n F0 B7 F0 F0 n 0 Au F0 D1;rw[B! (by simpa using h3),oW,Aa,Bl SL,Aa,Blb,F!];refine H9 (hlp) ?_;rw[QO,Blv,Alo _ (by rw[Vm];omega) (Amp b n F0),Aa,ss4 h h2 h3];cases Vs (UJ b n)<;>rfl
   ·rw[B0 (by simpa using h3),ss3 h h2 h3]
 ·rw[B0 HM,ss1 h]
theorem Bll(b:LB)(n:Nat)(hn:n<=1000)(hb:4*n+4<=b.length)(hb2:b.length<4611686018427387904):∀(j i q:Nat),i+j=n->j<q->Nk b (n:Int) q (i:Int) (UJ b i)=AT (UJ b n)
 |0,i,q+1,hi,_=>by
  obtain rfl:i=n:=F0
  rw[Nk,AM,B! I_]
 |j+1,i,q+1,hi,hq=>by
  have hc:Bm b ((4:Int)*(i:Int)) ((4:Int)*(i:Int)+4)=some (part b (4*i) 4):=by
   rw[show(4:Int)*(i:Int)=((4*i:Nat):Int) by omega];exact Ta (4*i) 4
  rw[Nk,AM,B0 D2,Fo,Ak,hc,Aa,YR _ K1,Aa,Bi (by rw[Vm];simp;omega),Aa,
   RB K1,Ak,<-xA]
  exact Bll b n hn hb hb2 j (i+1) q F0 F0
theorem O? (b:LB)(n:Nat)(hb:b.length<=100100):Th b (n:Int)=some (Eo b n):=by
 rw[Th,Afa];by_cases h:1<=n/\n<=1000
 ·rw[B! HM,Fo,Ak];by_cases h2:b.length<4*n+4
  ·rw[B0 C2,ss2 h h2]
  ·have hc:Bm b ((4:Int)*(n:Int)) ((4:Int)*(n:Int)+4)=some (part b (4*n) 4):=by
    rw[show(4:Int)*(n:Int)=((4*n:Nat):Int) by omega];exact Ta (4*n) 4
   have hs:Bd (xV (part b (4*n) 4)) (Ae (Ew (b.take (4*n))):UInt64)=decide ((Ew (b.take (4*n))).toNat≠Gf (part b (4*n) 4)):=by
    rw[<-An1 h h2,XP,XP,F?];simp only[N1,ne_eq];exact not_congr eq_comm
   rw[B! C2,hc,Aa,Dv,Aa,show(4*(n:Int)).toNat=4*n by omega,YR _ K1,Aa,qY _ B8,Aa,hs];by_cases h3:(Ew (b.take (4*n))).toNat=Gf (part b (4*n) 4)
   ·have hlp:=Bll b n F0 F0 F0 n 0 Au F0 D1;rw[B! (by simpa using h3),Agk,Af9,Ajn];refine H9 hlp ?_;rw[AT,Aj5,Aqa _ (by rw[Vm];omega) (Amp b n F0),Aa,ss4 h h2 h3];cases Vs (UJ b n)<;>rfl
   ·rw[B0 (by simpa using h3),ss3 h h2 h3]
 ·rw[B0 HM,ss1 h]
theorem iP{b:LB}{n:Nat}(h:(Eo b n).2=0):Eo b n=(UJ b n,0)/\1<=n/\n<=1000/\4*n+4<=b.length/\ (∀x∈UJ b n,5<=x)/\ (UJ b n).sum<=100000:=by
 unfold Eo at h⊢;split at h; · simp at h
 rename_i c1;rw[B! c1];split at h; · simp at h
 rename_i c2;rw[B! c2];split at h; · simp at h
 rename_i c3;rw[B! c3];split at h
 ·rename_i c4;rw[B0 c4];have c4':=c4;rw[Vs,CT,FB _ _ F0]at c4';exact⟨rfl,F0,F0,F0,c4'.2.1,c4'.2.2⟩
 ·simp at h
theorem mo{p:Prop}(h:p:=by rw[Ac];omega):p:=h
def Iy(b:LB):LB:=b.drop (Bp b).1.toNat
abbrev Op8:=Int×Int×Int×Int×Int×Int×LI×Int
def VB(e:Int):Op8:=(0,0,0,0,0,0,[],e)
theorem W? (A K:Nat)(h:A<=200000)(hk:K<=1000):Ad (Ad (A:Int) (Bg 4 (K:Int))) 4=((A+4*K+4:Nat):Int):=by
 rw[Fo,Ak (a:=(A:Int)) F0 F0,Ak];omega
theorem vU{f c w r n:Nat}(h1:Fx f c w r n=true)(h2:Xl c r n=true)(b:LB)(hb:b.length<=100100)(A:Nat)(hA:A<=b.length):
  Qt b (f:Int) (c:Int) (w:Int) (r:Int) (n:Int) (A:Int)=
   some (if(Eo (b.drop A) (Al (Ah r) n).length).2≠0 then VB (Eo (b.drop A) (Al (Ah r) n).length).2 else((f:Int),(c:Int),(w:Int),(r:Int),(n:Int),((A+4*(Al (Ah r) n).length+4:Nat):Int),(Eo (b.drop A) (Al (Ah r) n).length).1,0)):=by
 rw[Qt,Bik,sP h1 h2,Aa];simp only;rw[B! D3,Cb,Aa,Ac,show(A:Int).toNat=A from rfl,wS _ _ B8,Aa];by_cases h:(Eo (b.drop A) (Al (Ah r) n).length).2≠0
 ·rw[B0 h,B0 (by rw[Aj];simpa using h)];rfl
 ·have h0:(Eo (b.drop A) (Al (Ah r) n).length).2=0:=by simpa using h
  obtain⟨g1,g2,g3,g4,g5,g6⟩:=iP h0;have gl:(Eo (b.drop A) (Al (Ah r) n).length).1.length=(Al (Ah r) n).length:=by rw[g1];exact Vm _ _
  rw[B! h,B! (by rw[Aj];simpa using h),Ac,gl,W? _ _ F0 F0]
theorem Atp{f c w r n:Nat}(h1:Fx f c w r n=true)(h2:Xl c r n=true)(b:LB)(hb:b.length<=100100)(A:Nat)(hA:A<=b.length):
  Po b (f:Int) (c:Int) (w:Int) (r:Int) (n:Int) (A:Int)=
   some (if(Eo (b.drop A) (Al (Ah r) n).length).2≠0 then VB (Eo (b.drop A) (Al (Ah r) n).length).2 else((f:Int),(c:Int),(w:Int),(r:Int),(n:Int),((A+4*(Al (Ah r) n).length+4:Nat):Int),(Eo (b.drop A) (Al (Ah r) n).length).1,0)):=by
 have hs:(1<=r/\r<=1048576)/\1<=n/\1<=c:=by
  simp only[Fx,D!]at h1;omega
 have hf:n<=4000:=by
  simp only[Xl,D!]at h2;have:=HP 4000 c;omega
 rw[Po,Abv,Cb,Aa,jE hs.1.2 hs.2.1 hf,Aa,Ac,show(A:Int).toNat=A from rfl,O? _ _ B8,Aa];simp only;rw[Abu,Abx];by_cases h:(Eo (b.drop A) (Al (Ah r) n).length).2≠0
 ·rw[B0 h,B0 (by rw[Aj];simpa using h)];rfl
 ·have h0:(Eo (b.drop A) (Al (Ah r) n).length).2=0:=by simpa using h
  obtain⟨g1,g2,g3,g4,g5,g6⟩:=iP h0;have gl:(Eo (b.drop A) (Al (Ah r) n).length).1.length=(Al (Ah r) n).length:=by rw[g1];exact Vm _ _
  rw[B! h,B! (by rw[Aj];simpa using h),Ac,gl,W? _ _ F0 F0]
structure Opn (b p:LB) (f c w r n A:Nat) (l:LI):Prop where
 prog:Dl b p=some ((f:Int),(c:Int),(w:Int),(r:Int),(n:Int),(A:Int),l,0)
 ref:Fl b p=some ((f:Int),(c:Int),(w:Int),(r:Int),(n:Int),(A:Int),l,0)
 pass:p.length<=64
 file:b.length<=100000
 shape:Fx f c w r n=true
 fit:Xl c r n=true
 len:l.length=(Al (Ah r) n).length
 some1:1<=l.length/\l.length<=1000
 five:∀x∈l,5<=x
 sum:l.sum<=100000
 at':A<=b.length
 tag:(Bp b).2=0
 head:Ep (Iy b)=((f:Int),(c:Int),(w:Int),(r:Int),(n:Int),0)
 tab:Eo (b.drop ((Bp b).1.toNat+22+(if f=2 then 8 else 0))) l.length=(l,0)
 pos:A=(Bp b).1.toNat+22+(if f=2 then 8 else 0)+4*l.length+4
theorem N9(b p:LB)(hb:b.length<=100100)(hp:p.length<=64):
  (∃e:Int,e≠0/\Dl b p=some (VB e)/\Fl b p=some (VB e))\/ (∃f c w r n A l,Opn b p f c w r n A l):=by
 by_cases h1:100000<b.length
 ·refine .inl ⟨4,F0,?_,?_⟩
  ·rw[Dl,Ux,B! E4,B0 E4];rfl
  ·rw[Fl,Wc,B0 E4];rfl
 have hP:Dl b p=Dl b p:=rfl;have hR:Fl b p=Fl b p:=rfl
 conv at hP=>rhs;rw[Dl,Ux,B! E4,B! E4,Ql b F0,Aa]
 conv at hR=>rhs;rw[Fl,Wc,B! E4,CD b F0,Aa]
 by_cases h2:(Bp b).2=0
 ·obtain⟨p0,p1,p2⟩:=BP h2;have hc:=Cb (l:=b) p0 p1;simp only[h2]at hP hR;rw[B! D3,hc,Aa,show b.drop (Bp b).1.toNat=Iy b from rfl,PY _ (by simp[Iy];omega),Aa]at hP;rw[B! D3,hc,Aa,show b.drop (Bp b).1.toNat=Iy b from rfl,iK _ (by simp[Iy];omega),Aa]at hR;by_cases h3:(Ep (Iy b)).2.2.2.2.2=0
  ·obtain⟨g1,g2,g3,g4⟩:=tT h3;have hlen:(Iy b).length=b.length-(Bp b).1.toNat:=by simp[Iy]
   generalize hF:(Bp b).1.toNat=F at*
   have hF':(Bp b).1=(F:Int):=F0
   rw[g1,hF']at hP hR;simp only at hP hR;generalize f0 (Iy b)=f at*
   generalize f1 (Iy b)=c at*
   generalize f2 (Iy b)=w at*
   generalize f3 (Iy b)=r at*
   generalize f4 (Iy b)=n at*
   have t22:Ad (F:Int) 22=((F+22:Nat):Int):=by rw[Ak];omega
   have t30:Ad ((F+22:Nat):Int) 8=((F+30:Nat):Int):=by rw[Ak];omega
   have Bh6:f=1\/f=2:=by simp only[Fx,D!]at g3;omega
   rw[B! D3,t22,t30]at hP hR;have hend:∀A:Nat,A<=b.length->A=F+22+(if f=2 then 8 else 0)->Dl b p=Qt b (f:Int) (c:Int) (w:Int) (r:Int) (n:Int) (A:Int)->Fl b p=Po b (f:Int) (c:Int) (w:Int) (r:Int) (n:Int) (A:Int)->
     (∃e:Int,e≠0/\Dl b p=some (VB e)/\Fl b p=some (VB e))\/ (∃f c w r n A l,Opn b p f c w r n A l):=by
    intro A hA hA2 e1 e2;rw[vU g3 g4 b hb A hA]at e1;rw[Atp g3 g4 b hb A hA]at e2;by_cases h:(Eo (b.drop A) (Al (Ah r) n).length).2≠0
    ·rw[B0 h]at e1 e2;exact .inl ⟨_,h,e1,e2⟩
    ·have h0:(Eo (b.drop A) (Al (Ah r) n).length).2=0:=by simpa using h
     obtain⟨k1,k2,k3,k4,k5,k6⟩:=iP h0;have gl:(Eo (b.drop A) (Al (Ah r) n).length).1.length=(Al (Ah r) n).length:=by rw[k1];exact Vm _ _
     rw[B! h]at e1 e2;rw[H4]at k4;refine .inr ⟨f,c,w,r,n,_,_,⟨e1,e2,hp,F0,g3,g4,gl,F0,by rw[k1];exact k5,by rw[k1];exact k6,F0,h2,g1,by rw[gl,hF,<-hA2];exact Prod.ext rfl h0,by rw[gl,hF,<-hA2]⟩⟩
   by_cases MZ:((p==([]:LB)) !=(geq (f:Int) (1:Int)))=true
   ·rw[B0 MZ]at hP hR;exact .inl ⟨26,F0,hP,hR⟩
   ·rw[B! MZ]at hP hR;have hpf:(p=[]↔f=1):=by
     rw[Ar]at MZ;have h5:(p==([]:LB))=((f:Int)==1):=by simpa using MZ
     have h6:(p==([]:LB))=true↔((f:Int)==1)=true:=by rw[h5]
     rw[G3,G3]at h6;rw[h6];omega
    by_cases h5:f=2
    ·have WN:p≠ []:=λe=>by have:=hpf.1 e;omega
     have h64:(p !=([]:LB))=true:=by simpa using WN
     rw[B0 h64]at hP;rw[B0 (by rw[Ar,h5];rfl),Bu mo mo]at hR;by_cases h6:b.length<F+30
     ·rw[B0 C2]at hP hR;exact .inl ⟨24,F0,hP,hR⟩
     ·have hseg:((b.take (F+30)).drop (F+22)).length=8:=by simp;omega
      rw[B! C2,Wi,Aa]at hP hR;rw[Pr,vM p hp,Aa]at hP;rw[gY p hp,Aa]at hR;simp only at hP;rw[B! (by rw[Aj,Aj,Ac,Ac,Cf,show((F+30:Nat):Int).toNat=F+30 from rfl,show((F+22:Nat):Int).toNat=F+22 from rfl,hseg];simp),Hu,Aa,Aa]at hP;simp only at hP;rw[B! D3]at hP;generalize(b.take ((F+30:Nat):Int).toNat).drop ((F+22:Nat):Int).toNat=seg at*
      by_cases h7:seg=Tm (Vx p).toNat 8
      ·rw[B! (by simp[h7])]at hP;rw[B! (by simp[h7])]at hR;exact hend (F+30) F0 (by rw[B0 h5]) hP hR
      ·rw[B0 (by simpa using h7)]at hP;rw[B0 (by simpa using h7)]at hR;exact .inl ⟨26,F0,hP,hR⟩
    ·have hpe:p=[]:=hpf.2 F0;rw[B! (by rw[hpe];simp)]at hP;rw[B! GZ]at hR;exact hend (F+22) F0 (by rw[B! h5]) hP hR
  ·generalize Ep (Iy b)=v at*
   obtain⟨v1,v2,v3,v4,v5,v6⟩:=v;simp only at h3 hP hR;rw[B0 (by rw[Aj];simpa using h3)]at hP hR;exact .inl ⟨v6,h3,hP,hR⟩
 ·generalize Bp b=v at*
  obtain⟨v,e⟩:=v;simp only at h2 hP hR;rw[B0 (by rw[Aj];simpa using h2)]at hP hR;exact .inl ⟨e,h2,hP,hR⟩
theorem Aci(l:LI)(i:Nat):(l.take i).sum+(l.drop i).sum=l.sum:=by
 conv=>rhs;rw[<-N2 i l,b_]
theorem Io{l:LI}(h5:∀x∈l,5<=x)(i:Nat):0<= (l.take i).sum/\ (l.take i).sum<=l.sum:=by
 have h1:=SP (l.take i) λx hx=>h5 x (aS hx);have h2:=SP (l.drop i) λx hx=>h5 x (RQ hx);have:=Aci l i;omega
theorem Kj{l:LI}{i:Nat}(h:i<l.length):(l.take (i+1)).sum=(l.take i).sum+l[i]:=by
 rw[Ms h,b_];simp
section
variable {l:LI} (hl:l.length<=1000) (h5:∀x∈l,5<=x) (hs:l.sum<=100000)
include hl h5 hs
theorem Aam(f c w r n A:Int)(hA:0<=A)(hA2:A<=200000)(k:Nat)(hk:k<=l.length):∀(j i q:Nat),i+j=k->j<q->Ml (k:Int) f c w r n A l q (A+(l.take i).sum) (i:Int)=some (A+(l.take k).sum)
 |0,i,q+1,hi,_=>by
  rw[Ml,Yl,B! D2,show i=k by omega];rfl
 |j+1,i,q+1,hi,hq=>by
  have hlt:i<l.length:=F0
  have ih:=Aam f c w r n A hA hA2 k hk j (i+1) q F0 F0;have b1:=Io h5 i;have b2:=Io h5 (i+1);have e:=Kj hlt;rw[e,<-SB]at ih;rw[Ml,Yl,B0 D2,Bt hlt,Aa,Ak,Ak];exact ih
theorem Apy(f c w r n A:Int)(hA:0<=A)(hA2:A<=200000)(k:Nat)(hk:k<=l.length):Ane f c w r n A l (k:Int)=some (A+(l.take k).sum):=by
 have h:=Aam hl h5 hs f c w r n A hA hA2 k hk k 0 Au F0 D1;rw[JP,MX,cR]at h;exact h
end
theorem Wh{g n:Nat}(hg:1<=g)(hn:1<=n){x:Int}(h:x∈Al g n):∃m:Nat,x=m/\1<=m/\m<=n:=by
 have hmul:=LK (n-1) g;rw[Al,bX]at h;rcases h with h|h
 ·rw[List.mem_replicate]at h;have h1:1<= (n-1)/g:=Nat.pos_of_ne_zero h.1;have:=EK g h1;exact⟨g,h.2,hg,F0⟩
 ·rw[tR]at h;exact⟨_,h,F0,F0⟩
theorem Mh{f c w r n:Nat}(h:Fx f c w r n=true):(1<=c/\c<=6)/\Bn (w:Int)/\ (1<=r/\r<=1048576)/\1<=n/\ (f=1\/f=2):=by
 simp only[Fx,D!]at h;refine⟨h.2.1,?_,h.2.2.2.1,h.2.2.2.2,h.1⟩;rcases h.2.2.1 with rfl|rfl|rfl
 ·exact .inl rfl
 ·exact .inr (.inl rfl)
 ·exact .inr (.inr rfl)
theorem T_{p:Prop}(h:p:=by rw[G!];omega):p:=h
theorem Bc2(n m:Nat):Se n m 0≠Se n m 2147483648:=by
 intro h;simp[Se,Tm,qd]at h
def Dh(b:LB):LB:=b.drop (b.length-32)
theorem Ags{b:LB}(h:32<=b.length):(Dh b).length=32:=by rw[Dh,H4];omega
def OA(t:LB):Nat:=Gf (part t 12 4)-32
def v_(t:LB):Nat:=Gf (part t 16 4)
def AR(b:LB):Int×Int:=
 if ¬(32<=b.length/\ (Dh b).take 8=qd)then(0,6)else if IE (Dh b)=true then(0,12)else
 if Dh b=Se (OA (Dh b)) (v_ (Dh b)) 0 then(if b.length<OA (Dh b)+32 then(0,24)else(((OA (Dh b)+32:Nat):Int),0))else
 if Dh b≠Se (OA (Dh b)) (v_ (Dh b)) 2147483648 then(0,12)else
 if b.length<OA (Dh b)+64 then(0,24)else
 if(b.take (b.length-(OA (Dh b)+64)+32)).drop (b.length-(OA (Dh b)+64))≠Se (OA (Dh b)) (v_ (Dh b)) 2684354560 then(0,12)else(((OA (Dh b)+64:Nat):Int),0)
section
variable {b:LB}
theorem ba1(h:¬(32<=b.length/\ (Dh b).take 8=qd)):AR b=(0,6):=by rw[AR,B0 h]
variable (h:32<=b.length/\ (Dh b).take 8=qd)
include h
theorem ba2(h2:IE (Dh b)=true):AR b=(0,12):=by rw[AR,B! (λh'=>h' h),B0 h2]
variable (h2:IE (Dh b)=false)
include h2
theorem ba3(h3:Dh b=Se (OA (Dh b)) (v_ (Dh b)) 0):AR b=if b.length<OA (Dh b)+32 then(0,24)else(((OA (Dh b)+32:Nat):Int),0):=by
 rw[AR,B! (λh'=>h' h),B! (by rw[h2];simp),B0 h3]
variable (h3:Dh b≠Se (OA (Dh b)) (v_ (Dh b)) 0)
include h3
theorem ba4(h4:Dh b≠Se (OA (Dh b)) (v_ (Dh b)) 2147483648):AR b=(0,12):=by
 rw[AR,B! (λh'=>h' h),B! (by rw[h2];simp),B! h3,B0 h4]
variable (h4:Dh b=Se (OA (Dh b)) (v_ (Dh b)) 2147483648)
include h4
theorem ba5(h5:b.length<OA (Dh b)+64):AR b=(0,24):=by
 rw[AR,B! (λh'=>h' h),B! (by rw[h2];simp),B! h3,B! (λe=>e h4),B0 h5]
theorem ba6(h5:¬b.length<OA (Dh b)+64):AR b=if(b.take (b.length-(OA (Dh b)+64)+32)).drop (b.length-(OA (Dh b)+64))≠Se (OA (Dh b)) (v_ (Dh b)) 2684354560 then(0,12)else(((OA (Dh b)+64:Nat):Int),0):=by
 rw[AR,B! (λh'=>h' h),B! (by rw[h2];simp),B! h3,B! (λe=>e h4),B! h5]
end
theorem Agp{b:LB}{n:Int}(h:AR b=(n,0)):32<=n/\n<=b.length:=by
 unfold AR at h;split at h; · simp at h
 rename_i h32;split at h; · simp at h
 split at h
 ·split at h; · simp at h
  simp only[D5,M4]at h;omega
 split at h; · simp at h
 split at h; · simp at h
 split at h; · simp at h
 simp only[D5,M4]at h;omega
theorem Aqj{b:LB}(h:(AR b).2≠0):(AR b).1=0:=by
 revert h
 unfold AR;split; · simp
 split; · simp
 split
 ·split<;>simp
 split; · simp
 split; · simp
 split<;>simp
theorem Av2{b:LB}(h:32<=b.length)(hl:b.length<4611686018427387904):Ap (Ac b) 32=((b.length-32:Nat):Int)/\Bm b ((b.length-32:Nat):Int) (Ac b)=some (Dh b):=by
 refine⟨by rw[Ac,Bu];omega,?_⟩;rw[Cb];rfl
theorem Asi(b:LB)(hl:b.length<4611686018427387904):H5 b=some (AR b):=by
 rw[H5,sW];by_cases h32:32<=b.length
 ·obtain⟨e1,e2⟩:=Av2 h32 hl;have hl3:=Ags h32;rw[B! (by rw[e1,Af];simp),e1,e2,Aa,mC,Aa];by_cases hp:(Dh b).take 8=qd
  ·have h:=And.intro h32 hp;rw[B! (by simpa [qd,hl3]using hp),qF,Bea,e1,e2,Aa,mN _ 0 F0 F0 B6,Aa];cases hb:IE (Dh b)with
   |true=>
    rw[ba2 h hb];simp only[LD,J3,I1];rw[Aa,mN _ 2147483648 F0 F0 B6,Aa,hb];rfl
   |false=>
    obtain⟨i1,i2,i3,i4⟩:=S9 (Dh b) F0 hb;have eI:Gf (part (Dh b) 12 4)-32=OA (Dh b):=rfl;have eM:Gf (part (Dh b) 16 4)=v_ (Dh b):=rfl;simp only[J3,I1];rw[eI]at i3;rw[eM]at i4;rw[eI,eM];by_cases c1:Dh b=Se (OA (Dh b)) (v_ (Dh b)) 0
    ·have c1':Dh b=Se (OA (Dh b)) (v_ (Dh b)) (0:UInt64).toNat:=c1;rw[B0 (by simpa using c1'),ba3 h hb c1];by_cases c2:b.length<OA (Dh b)+32
     ·rw[B0 D2,B0 c2]
     ·rw[B! D2,B! c2,Ak];rfl
    ·have c1':¬Dh b=Se (OA (Dh b)) (v_ (Dh b)) (0:UInt64).toNat:=c1;rw[B! (by simpa using c1'),Aa,mN _ 2147483648 F0 F0 B6,Aa,hb];simp only[J3,I1];rw[eI,eM];by_cases c2:Dh b=Se (OA (Dh b)) (v_ (Dh b)) 2147483648
     ·have c2':Dh b=Se (OA (Dh b)) (v_ (Dh b)) (2147483648:UInt64).toNat:=c2;rw[B! (by simpa using c2'),Ak];by_cases c3:b.length<OA (Dh b)+64
      ·rw[B0 C2,ba5 h hb c1 c2 c3]
      ·rw[B! C2,Ac,Bu,Ak,Wi,Aa,zn _ _ _ i3 i4 B6,Aa,Hu,Aa,ba6 h hb c1 c2 c3];rw[show((b.length:Int)-(((OA (Dh b):Nat):Int)+64)).toNat=b.length-(OA (Dh b)+64) by omega,show((b.length:Int)-(((OA (Dh b):Nat):Int)+64)+32).toNat=b.length-(OA (Dh b)+64)+32 by omega];have e7:(2684354560:UInt64).toNat=2684354560:=rfl;rw[e7];by_cases c4:(b.take (b.length-(OA (Dh b)+64)+32)).drop (b.length-(OA (Dh b)+64))=Se (OA (Dh b)) (v_ (Dh b)) 2684354560
       ·rw[B! (by simpa using c4),B! (λe=>e c4)];rfl
       ·rw[B0 (by simpa using c4),B0 c4]
     ·have c2':¬Dh b=Se (OA (Dh b)) (v_ (Dh b)) (2147483648:UInt64).toNat:=c2;rw[B0 (by simpa using c2'),ba4 h hb c1 c2]
  ·rw[B0 (by rw[IC,MF];intro h;exact hp h.2),ba1 (λh=>hp h.2)]
 ·rw[B0 (by rw[Ac,Bu,Af];simp;omega),ba1 (λh=>h32 h.1)]
theorem Bac{b:LB}(h:32<=b.length):(b.take (b.length-32+8)).drop (b.length-32)=(Dh b).take 8:=by
 rw[Dh,List.take_drop]
theorem Aw8(b:LB)(hl:b.length<4611686018427387904):JV b=some (AR b):=by
 rw[JV,Aex];by_cases h32:32<=b.length
 ·obtain⟨e1,e2⟩:=Av2 h32 hl;have hl3:=Ags h32;rw[B! C2,e1,Ak,Wi,Aa,show((b.length-32:Nat):Int).toNat=b.length-32 from rfl,show(((b.length-32:Nat):Int)+8).toNat=b.length-32+8 by omega,Bac h32];by_cases hp:(Dh b).take 8=qd
  ·have h:=And.intro h32 hp;rw[B! (by simpa [qd]using hp),Ajm,Ajj,e1,e2,Aa,Afs _ F0 F0,Aa];cases hb:IE (Dh b)with
   |true=>rw[ba2 h hb];rfl
   |false=>
    obtain⟨i1,i2,i3,i4⟩:=S9 (Dh b) F0 hb;have eI:Gf (part (Dh b) 12 4)-32=OA (Dh b):=rfl;have eM:Gf (part (Dh b) 16 4)=v_ (Dh b):=rfl;simp only[J3,I1,Pw];rw[eI]at i3;rw[eM]at i4;rw[eI,eM,Of,B0 rfl,O8 _ _ _ i3 i4 B6,Aa,Aa];have e7:(2147483648:UInt64).toNat=2147483648:=rfl;have e8:(2684354560:UInt64).toNat=2684354560:=rfl;rw[e7];by_cases c2:Dh b=Se (OA (Dh b)) (v_ (Dh b)) 2147483648
    ·have c1:Dh b≠Se (OA (Dh b)) (v_ (Dh b)) 0:=λe=>Bc2 (OA (Dh b)) (v_ (Dh b)) (e.symm.trans c2);rw[B! (by simpa using c2),AU,AB,B0 (by simpa using c2),BE,BK,Ak (a:=32) F0 F0,Ak];by_cases c3:b.length<OA (Dh b)+64
     ·rw[B0 C2,ba5 h hb c1 c2 c3]
     ·rw[B! C2,B0 (by simpa using c2),Ac,Bu,Ak,Wi,Aa,Zj,O8 _ _ _ i3 i4 B6,Aa,Aa,ba6 h hb c1 c2 c3,e8];rw[show((b.length:Int)-(32+((OA (Dh b):Nat):Int)+32)).toNat=b.length-(OA (Dh b)+64) by omega,show((b.length:Int)-(32+((OA (Dh b):Nat):Int)+32)+32).toNat=b.length-(OA (Dh b)+64)+32 by omega];by_cases c4:(b.take (b.length-(OA (Dh b)+64)+32)).drop (b.length-(OA (Dh b)+64))=Se (OA (Dh b)) (v_ (Dh b)) 2684354560
      ·rw[B! (by simpa using c4),B! (λe=>e c4),show(32+((OA (Dh b):Nat):Int)+32)=((OA (Dh b)+64:Nat):Int) by omega]
      ·rw[B0 (by simpa using c4),B0 c4]
    ·rw[B0 (by simpa using c2),Of,B! B7,O8 _ _ _ i3 i4 B6,Aa,Aa];have e9:(0:UInt64).toNat=0:=rfl;rw[e9];by_cases c1:Dh b=Se (OA (Dh b)) (v_ (Dh b)) 0
     ·rw[B! (by simpa using c1),AU,AB,B! (by simpa using c2),BE,BK,Ak,ba3 h hb c1,B! (c:=(Dh b==Se (OA (Dh b)) (v_ (Dh b)) 2147483648)=true) (by simpa using c2)];by_cases c3:b.length<OA (Dh b)+32
      ·rw[B0 C2,B0 c3]
      ·rw[B! C2,B! c3,show(32+((OA (Dh b):Nat):Int))=((OA (Dh b)+32:Nat):Int) by omega]
     ·rw[B0 (by simpa using c1),ba4 h hb c1 c2]
  ·rw[B0 (by simpa [qd]using hp),ba1 (λh=>hp h.2)]
 ·rw[B0 C2,ba1 (λh=>h32 h.1)]
def OE:Nat->LB->Nat->Int×Int
 |0,_,_=>(0,38)
 |j+1,b,a=>if b=[]then((a:Int),0)else if(AR b).2≠0 then(0,38)else OE j (b.take (b.length-(AR b).1.toNat)) (a+1)
theorem Ahv:∀(j q a:Nat) (b:LB),b.length<j->j<=q->b.length<=4000->a+b.length<=4000->Xj q (a:Int) b=some (OE j b a)
 |0,_,_,_,h,_,_,_=>by omega
 |j+1,q+1,a,b,h,hq,h4,ha=>by
  rw[Xj,VT,OE];by_cases hb:b=[]
  ·subst hb;rw[B! B6,B0 rfl];rfl
  ·have hpos:0<b.length:=List.length_pos_iff.2 hb;rw[B0 E4,B! hb,Asi b F0,Aa];have hbad:=Aqj (b:=b);have hok:=λn=>Agp (b:=b) (n:=n);generalize AR b=v at*
   obtain⟨n,e⟩:=v;simp only at hbad⊢;rw[PK,QH];by_cases he:e≠0
   ·rw[B0 he,hbad he,B0 B6]
   ·obtain⟨k1,k2⟩:=hok n (by rw[show e=0 by simpa using he]);rw[B! he,B! GZ,Ac,Bu,Dv,Aa,QI,Bd5,Ak];rw[show((b.length:Int)-n).toNat=b.length-n.toNat by omega];have ih:=Ahv j q (a+1) (b.take (b.length-n.toNat)) T_ F0 T_ T_;rw[<-ih];rfl
theorem Anh:∀(j q a:Nat) (b:LB),b.length<j->j<=q->b.length<=4000->a+b.length<=4000->Ps q b (a:Int)=some (OE j b a)
 |0,_,_,_,h,_,_,_=>by omega
 |j+1,q+1,a,b,h,hq,h4,ha=>by
  rw[Ps,Ad8,OE];by_cases hb:b=[]
  ·subst hb;rw[B! B6,B0 rfl];rfl
  ·have hpos:0<b.length:=List.length_pos_iff.2 hb;rw[B0 E4,B! hb,Aw8 b F0,Aa];have hok:=λn=>Agp (b:=b) (n:=n);generalize AR b=v at*
   obtain⟨n,e⟩:=v;simp only;by_cases he:e≠0
   ·rw[B0 he,B0 (by rw[Aj];simpa using he)]
   ·obtain⟨k1,k2⟩:=hok n (by rw[show e=0 by simpa using he]);rw[B! he,B! (by rw[Aj];simpa using he),Ac,Bu,Dv,Aa,Ak];rw[show((b.length:Int)-n).toNat=b.length-n.toNat by omega];have ih:=Anh j q (a+1) (b.take (b.length-n.toNat)) T_ F0 T_ T_;rw[<-ih];rfl
def Oa(b:LB):Int×Int:=if 4000<b.length then(0,38)else OE (b.length+1) b 0
theorem Bcc(b:LB)(hl:b.length<4611686018427387904):KC b=some (Oa b):=by
 rw[KC,VN,Oa];by_cases h:4000<b.length
 ·rw[B0 E4,B0 h]
 ·rw[B! E4,B! h];exact Ahv _ Au 0 b F0 D1 F0 F0
theorem C3(b:LB)(hl:b.length<4611686018427387904):Ud b=some (Oa b):=by
 rw[Ud,Abl,Oa];by_cases h:4000<b.length
 ·rw[B0 E4,B0 h]
 ·rw[B! E4,B! h];exact Anh _ Au 0 b F0 D1 F0 F0
theorem QJ{a b:Nat}(h:a<9223372036854775808:=by omega):Bo (a:Int) (b:Int)=((a/b:Nat):Int):=by
 have:a/b<=a:=HP _ _;rw[UT,RK F0,<-vB];generalize a/b=k at*
 exact De F0 F0
theorem Q2{bits:Int}(h:Bn bits)(x:Int):(OV bits x).length=wB bits:=by
 obtain rfl|rfl|rfl:=h<;>rfl
theorem HD{bits:Int}(h:Bn bits):∀l:LX,(Du bits l).length=l.length*wB bits
 |[]=>by simp[Du]
 |x::l=>by
  have h1:=HD h l;have h2:=Q2 h x.toInt;simp only[Du,ji,CR,G2,ND]at*
  omega
def qo(b:LB)(A:Nat)(l:LI)(k:Nat):LB:=(b.take ((A:Int)+(l.take (k+1)).sum).toNat).drop ((A:Int)+(l.take k).sum).toNat
structure Gts (b p:LB) (f c w r n A:Nat) (l:LI) (k m:Nat) (x:LX) (s:LB) (e:Int):Prop where
 mom:Am (Al (Ah r) n) (k:Int)=some (m:Int)
 pos:1<=m/\m*c<=4000
 got:Vl b p (f:Int) (c:Int) (w:Int) (r:Int) (n:Int) (A:Int) l (k:Int)=some (s,e)
 none':e≠0->s=[]/\x=[]
 some':e=0->s=Du (w:Int) x/\x.length=m*c/\Ay (w:Int) x=some 0/\Jy (w:Int) x=some (s,0)/\ (A:Int)+(l.take (k+1)).sum<=b.length
 way:((b.length:Int)<(A:Int)+(l.take (k+1)).sum/\e=24)\/ ((A:Int)+(l.take (k+1)).sum<=b.length/\Kl (c:Int) (w:Int) (Lt p) (m:Int) (qo b A l k)=some (x,e)/\Dq (c:Int) (w:Int) (Lt p) (m:Int) (qo b A l k)=some (x,e))
theorem BO{b p:LB}{f c w r n A:Nat}{l:LI}(o:Opn b p f c w r n A l)(k:Nat)(hk:k<l.length):∃m x s e,Gts b p f c w r n A l k m x s e:=by
 obtain⟨hc,hw,hr,hn,_⟩:=Mh o.shape;have hfit:n<=4000/c:=by have:=o.fit;simp only[Xl,D!]at this;exact this.1
 have hn4:n<=4000:=by have:=HP 4000 c;omega
 have hA:=o.at';have Z':=o.file;have hlen:=o.len;have b1:=Io o.five k;have b2:=Io o.five (k+1);have e:=Kj hk;have h5:=o.five l[k] (HA _);have hsum:=o.sum;have hs1:=o.some1;have hkf:k<(Al (Ah r) n).length:=F0
 obtain⟨m,hm,m1,m2⟩:=Wh (Es r) hn (HA hkf);have jR:Am (Al (Ah r) n) (k:Int)=some (m:Int):=by rw[Bt hkf,hm]
 have hpos:1<=m/\m*c<=4000:=by
  refine⟨m1,?_⟩;have:=EK c (RZ m2 hfit);have:=LK 4000 c;omega
 have hR:Vl b p (f:Int) (c:Int) (w:Int) (r:Int) (n:Int) (A:Int) l (k:Int)=Vl b p (f:Int) (c:Int) (w:Int) (r:Int) (n:Int) (A:Int) l (k:Int):=rfl
 conv at hR=>rhs;rw[Vl,Al2,Apy hs1.2 o.five o.sum _ _ _ _ _ (A:Int) F0 F0 k F0,Aa,Bt hk,Aa,Bu mo mo]
 by_cases hto:(b.length:Int)<(A:Int)+(l.take (k+1)).sum
 ·rw[B0 (by rw[Af,Ac,D!];omega)]at hR;exact⟨m,[],[],24,jR,hpos,hR,λ_=>⟨rfl,rfl⟩,λh=>by simp at h, .inl ⟨hto,rfl⟩⟩
 ·rw[B! (by rw[Af,Ac,D!];omega),TG p o.pass,jE hr.2 hn hn4]at hR;simp only[Aa]at hR;rw[Ak (a:=(A:Int)+(l.take k).sum) (b:=l[k]) F0 F0,SB,<-e,jR]at hR;simp only[Aa]at hR;rw[Wi,Aa]at hR;obtain⟨x,er,g1,g2,g3,g4⟩:=HN (ch:=c) (n:=m) (t:=Lt p) (qo b A l k) hw (Kt p) hc.1 hc.2 m1 F0;rw[show(b.take ((A:Int)+(l.take (k+1)).sum).toNat).drop ((A:Int)+(l.take k).sum).toNat=qo b A l k from rfl,g2,Aa]at hR;simp only at hR;rw[Al7,Alq]at hR;by_cases her:er=0
  ·obtain⟨g5,g6,g7⟩:=g3 her;rw[B! (by rw[Aj];simpa using her),PQ hw g6 g5,Aa]at hR;subst her;exact⟨m,x,_,0,jR,hpos,hR,λh=>absurd rfl h,λ_=>⟨rfl,g7,g5,aP hw g6 g5,F0⟩, .inr ⟨F0,g1,g2⟩⟩
  ·rw[B0 (by rw[Aj];simpa using her)]at hR;exact⟨m,x,_,er,jR,hpos,hR,λh=>⟨rfl,g4 h⟩,λh=>absurd h her, .inr ⟨F0,g1,g2⟩⟩
theorem Gts.lens{b p:LB}{f c w r n A:Nat}{l:LI}{k m:Nat}{x:LX}{s:LB}{e:Int}(hw:Bn (w:Int))(g:Gts b p f c w r n A l k m x s e):s.length<=12000/\x.length<=4000/\ (e=0->s.length=m*c*wB (w:Int)):=by
 by_cases he:e=0
 ·obtain⟨h1,h2,_⟩:=g.some' he;have h3:=GO (w:Int) x;have h4:=HD hw x;have h5:=g.pos;rw[<-h1]at h3 h4;refine⟨F0,F0,λ_=>by rw[h4,h2]⟩
 ·obtain⟨h1,h2⟩:=g.none' he;exact⟨by simp[h1],by simp[h2],λh=>absurd h he⟩
def oP(G:Nat->LB×Int)(be:Int):Nat->Nat->LB->LB×Int
 |0,_,acc=>if be≠0 then([],38)else(acc,0)
 |j+1,k,acc=>if(G k).2≠0 then([],(G k).2)else oP G be j (k+1) (acc++(G k).1)
def Jk(b p:LB)(f c w r n A:Nat)(l:LI)(k:Nat):LB×Int:=(Vl b p (f:Int) (c:Int) (w:Int) (r:Int) (n:Int) (A:Int) l (k:Int)).getD ([],0)
theorem Gts.eq{b p:LB}{f c w r n A:Nat}{l:LI}{k m:Nat}{x:LX}{s:LB}{e:Int}(g:Gts b p f c w r n A l k m x s e):Jk b p f c w r n A l k=(s,e):=by rw[Jk,g.got];rfl
def bP(b:LB)(A:Nat)(l:LI):Int:=(Oa (b.drop ((A:Int)+l.sum).toNat)).2
def Tz(b:LB)(k:Nat):Nat:=(b.getD k 0).toNat
theorem N3(b:LB)(k:Nat):Tz b k<256:=(b.getD k 0).toNat_lt
def sx(n:Nat)(b:LB)(a:Nat):Int:=
 if n=1 then(Tz b a:Int)-128 else
 if n=2 then(if Tz b a+256*Tz b (a+1)<32768 then(Tz b a+256*Tz b (a+1):Nat)else((Tz b a+256*Tz b (a+1):Nat):Int)-65536)else
 (if Tz b a+256*Tz b (a+1)+65536*Tz b (a+2)<8388608 then(Tz b a+256*Tz b (a+1)+65536*Tz b (a+2):Nat)else((Tz b a+256*Tz b (a+1)+65536*Tz b (a+2):Nat):Int)-16777216)
def qE(n m:Nat)(b:LB):LX:=(List.range m).map λx=>Int32.ofInt (sx n b (x*n))
theorem J9(n m:Nat)(b:LB):(qE n m b).length=m:=by simp[qE]
theorem Avp(n m:Nat)(b:LB):qE n (m+1) b=qE n m b++[Int32.ofInt (sx n b (m*n))]:=by simp[qE,bZ]
theorem tQ{n:Int}(h: -2147483648<=n)(h':n<2147483648):(Int32.ofInt n).toInt=n:=by
 rw[NR,c!,show((Int32.size:Nat):Int)=4294967296 from rfl];split<;>omega
theorem wN{b:LB}{k:Nat}(h:k<b.length):Am b (k:Int)=some (b.getD k 0):=by
 rw[Bt h];simp[D9,h]
theorem bA(c:UInt8):(Ae c:Int32)=Int32.ofInt (c.toNat:Int):=rfl
theorem T4{v:Nat}(k:Nat)(hk:k<=32)(h:v<2147483648):Dy (Int32.ofInt (v:Int)) k=Int32.ofInt ((v*2^k:Nat):Int):=by
 have e:Dy (Int32.ofInt (v:Int)) k=Int32.ofInt ((Int32.ofInt (v:Int)).toInt*2^min k 32):=rfl;rw[e,tQ F0 F0,J5 hk];simp
theorem jH{v w i:Nat}(hv:v<2^i)(hw:w*2^i<2147483648)(hi:i<=31):zT (Int32.ofInt (v:Int)) (Int32.ofInt ((w*2^i:Nat):Int))=Int32.ofInt ((v+w*2^i:Nat):Int):=by
 have hv2:v<2147483648:=HJ hv (show 2^i<=2^31 from G7 F0 hi);have e:zT (Int32.ofInt (v:Int)) (Int32.ofInt ((w*2^i:Nat):Int))=Int32.ofInt ((BitVec.ofInt 32 (Int32.ofInt (v:Int)).toInt|||BitVec.ofInt 32 (Int32.ofInt ((w*2^i:Nat):Int)).toInt).toNat:Int):=rfl;rw[e,tQ F0 F0,tQ F0 F0,bJ,M1,M1];have a1:((v:Int) %((2^32:Nat):Int)).toNat=v:=F0
 have a2:(((w*2^i:Nat):Int) %((2^32:Nat):Int)).toNat=w*2^i:=F0
 rw[a1,a2,Nat.or_comm,G? w,<-P! hv,N!]
theorem Acq(w:Nat)(h:w<2147483648):zT (0:Int32) (Int32.ofInt (w:Int))=Int32.ofInt (w:Int):=by
 have:=jH (v:=0) (w:=w) (i:=0) B7 (by simpa using h) F0;simpa using this
theorem carry{v k:Nat}(hk:k<=31)(h:v*2^k<4294967296)(hv:v<2147483648):Cn (Dy (Int32.ofInt (v:Int)) k) k=Int32.ofInt ((if v*2^k<2147483648 then((v*2^k:Nat):Int)else((v*2^k:Nat):Int)-4294967296).fdiv (2^k)):=by
 rw[T4 k F0 hv];have e:∀x:Int32,Cn x k=Int32.ofInt (x.toInt.fdiv (2^min k 32)):=λ_=>rfl;have hX:(Int32.ofInt ((v*2^k:Nat):Int)).toInt=if v*2^k<2147483648 then((v*2^k:Nat):Int)else((v*2^k:Nat):Int)-4294967296:=by
  rw[NR,c!,show((Int32.size:Nat):Int)=4294967296 from rfl];generalize v*2^k=X at*
  split<;>split<;>omega
 rw[e,J5 F0,hX]
theorem sx2(b:LB)(a:Nat):sx 2 b a=if Tz b a+256*Tz b (a+1)<32768 then((Tz b a+256*Tz b (a+1):Nat):Int)else((Tz b a+256*Tz b (a+1):Nat):Int)-65536:=rfl
theorem sx3(b:LB)(a:Nat):sx 3 b a=if Tz b a+256*Tz b (a+1)+65536*Tz b (a+2)<8388608 then((Tz b a+256*Tz b (a+1)+65536*Tz b (a+2):Nat):Int)else((Tz b a+256*Tz b (a+1)+65536*Tz b (a+2):Nat):Int)-16777216:=rfl
variable (b:LB)
theorem Bha(bk:Int->LX->Option (LX×Int))(a:Nat)(acc:LX)(h:a+1<=b.length)(hl:b.length<=100000)(ha:acc.length<=100000)(j25:Int->LX->Int32->Int->Option (LX×Int))(j30:LX->Option (LX×Int)):
  Hb (Ks bk 8 b) j25 j30 8 b (a:Int) acc=bk ((a+1:Nat):Int) (acc++[Int32.ofInt (sx 1 b a)]):=by
 have hb:=N3 b a;have e:Ap (Ae (b.getD a 0):Int32) (128:Int32)=Int32.ofInt (sx 1 b a):=by
  have e1:Ap (Ae (b.getD a 0):Int32) (128:Int32)=Int32.ofInt ((Int32.ofInt ((b.getD a 0).toNat:Int)).toInt-(128:Int32).toInt):=rfl;rw[e1,tQ F0 (by have:=(b.getD a 0).toNat_lt;omega)];rfl
 have q8:Bo (8:Int) 8=1:=B6
 rw[Hb,B0 C2,B0 NG,wN F0,Aa,e,Bi B8,Aa,Ks,Zh,q8,Ak];rfl
theorem Bel(bk:Int->LX->Option (LX×Int))(a:Nat)(acc:LX)(h:a+2<=b.length)(hl:b.length<=100000)(ha:acc.length<=100000)(j28:Int->LX->Option (LX×Int))(j30:LX->Option (LX×Int)):
  Hb j28 (Od bk 16 b) j30 16 b (a:Int) acc=bk ((a+2:Nat):Int) (acc++[Int32.ofInt (sx 2 b a)]):=by
 have h0:=N3 b a;have h1:=N3 b (a+1);have q:Bo (16:Int) 8=2:=B6
 have hF:Au=(Au-3)+1+1+1:=by have:=As;omega
 have z0:(GI.toZ (Bg (8:Int) 0)).toNat=0:=B6
 have z1:(GI.toZ (Bg (8:Int) 1)).toNat=8:=B6
 have z16:(GI.toZ (Ap (32:Int) 16)).toNat=16:=B6
 have s0:Dy (Int32.ofInt (Tz b a:Int)) 0=Int32.ofInt (Tz b a:Int):=by have:=T4 (v:=Tz b a) 0 F0 F0;simpa using this
 have s1:Dy (Int32.ofInt (Tz b (a+1):Int)) 8=Int32.ofInt ((Tz b (a+1)*2^8:Nat):Int):=T4 8 F0 F0;have o1:=jH (v:=Tz b a) (w:=Tz b (a+1)) (i:=8) (by simpa using h0) F0 F0;have c:=carry (v:=Tz b a+Tz b (a+1)*2^8) (k:=16) F0 F0 F0;rw[Hb,B0 C2,B! Q!,Od,hF,Ft,Gx,q,B0 B6,show Ad (a:Int) 0=((a:Nat):Int) by rw[Ak];omega,wN F0,Aa,Bl B6,Aa,z0,
  bA,show((b.getD a 0).toNat:Int)=(Tz b a:Int)from rfl,s0,Acq _ F0,show Ad (0:Int) 1=1 by decide,
  Ft,Gx,q,B0 B6,show Ad (a:Int) 1=((a+1:Nat):Int) by rw[Ak];omega,wN F0,Aa,Bl B6,Aa,z1,
  bA,show((b.getD (a+1) 0).toNat:Int)=(Tz b (a+1):Int)from rfl,s1,o1,show Ad (1:Int) 1=2 by decide,
  Ft,Gx,q,B! B6,Zn,Yz,Bl B6,Aa,Aa,z16,c,Bi B8,Aa,Ks,Zh,q,Ak]
 have e:((if(Tz b a+Tz b (a+1)*2^8)*2^16<2147483648 then(((Tz b a+Tz b (a+1)*2^8)*2^16:Nat):Int)else(((Tz b a+Tz b (a+1)*2^8)*2^16:Nat):Int)-4294967296).fdiv (2^16))=sx 2 b a:=by
  rw[KZ _ F0,sx2];split<;>split<;>omega
 rw[e];rfl
theorem Bes(bk:Int->LX->Option (LX×Int))(a:Nat)(acc:LX)(h:a+3<=b.length)(hl:b.length<=100000)(ha:acc.length<=100000)(j28:Int->LX->Option (LX×Int))(j30:LX->Option (LX×Int)):
  Hb j28 (Od bk 24 b) j30 24 b (a:Int) acc=bk ((a+3:Nat):Int) (acc++[Int32.ofInt (sx 3 b a)]):=by
 have h0:=N3 b a;have h1:=N3 b (a+1);have h2:=N3 b (a+2);have q:Bo (24:Int) 8=3:=B6
 have hF:Au=(Au-4)+1+1+1+1:=by have:=As;omega
 have z0:(GI.toZ (Bg (8:Int) 0)).toNat=0:=B6
 have z1:(GI.toZ (Bg (8:Int) 1)).toNat=8:=B6
 have z2:(GI.toZ (Bg (8:Int) 2)).toNat=16:=B6
 have z8:(GI.toZ (Ap (32:Int) 24)).toNat=8:=B6
 have s0:Dy (Int32.ofInt (Tz b a:Int)) 0=Int32.ofInt (Tz b a:Int):=by have:=T4 (v:=Tz b a) 0 F0 F0;simpa using this
 have s1:Dy (Int32.ofInt (Tz b (a+1):Int)) 8=Int32.ofInt ((Tz b (a+1)*2^8:Nat):Int):=T4 8 F0 F0;have s2:Dy (Int32.ofInt (Tz b (a+2):Int)) 16=Int32.ofInt ((Tz b (a+2)*2^16:Nat):Int):=T4 16 F0 F0;have o1:=jH (v:=Tz b a) (w:=Tz b (a+1)) (i:=8) (by simpa using h0) F0 F0;have o2:=jH (v:=Tz b a+Tz b (a+1)*2^8) (w:=Tz b (a+2)) (i:=16) F0 F0 F0;have c:=carry (v:=Tz b a+Tz b (a+1)*2^8+Tz b (a+2)*2^16) (k:=8) F0 F0 F0;rw[Hb,B0 C2,B! Q!,Od,hF,Ft,Gx,q,B0 B6,show Ad (a:Int) 0=((a:Nat):Int) by rw[Ak];omega,wN F0,Aa,Bl B6,Aa,z0,
  bA,show((b.getD a 0).toNat:Int)=(Tz b a:Int)from rfl,s0,Acq _ F0,show Ad (0:Int) 1=1 by decide,
  Ft,Gx,q,B0 B6,show Ad (a:Int) 1=((a+1:Nat):Int) by rw[Ak];omega,wN F0,Aa,Bl B6,Aa,z1,
  bA,show((b.getD (a+1) 0).toNat:Int)=(Tz b (a+1):Int)from rfl,s1,o1,show Ad (1:Int) 1=2 by decide,
  Ft,Gx,q,B0 B6,show Ad (a:Int) 2=((a+2:Nat):Int) by rw[Ak];omega,wN F0,Aa,Bl B6,Aa,z2,
  bA,show((b.getD (a+2) 0).toNat:Int)=(Tz b (a+2):Int)from rfl,s2,o2,show Ad (2:Int) 1=3 by decide,
  Ft,Gx,q,B! B6,Zn,Yz,Bl B6,Aa,Aa,z8,c,Bi B8,Aa,Ks,Zh,q,Ak]
 have e:((if(Tz b a+Tz b (a+1)*2^8+Tz b (a+2)*2^16)*2^8<2147483648 then(((Tz b a+Tz b (a+1)*2^8+Tz b (a+2)*2^16)*2^8:Nat):Int)else(((Tz b a+Tz b (a+1)*2^8+Tz b (a+2)*2^16)*2^8:Nat):Int)-4294967296).fdiv (2^8))=sx 3 b a:=by
  rw[KZ _ F0,sx3];split<;>split<;>omega
 rw[e];rfl
theorem Aae(bits:Int)(n m:Nat)(hn:1<=n)(hm:b.length=m*n)(hl:b.length<=100000)(step:∀(q a:Nat) (acc:LX),a+n<=b.length->acc.length<=100000->Ey bits b (q+1) (a:Int) acc=Ey bits b q ((a+n:Nat):Int) (acc++[Int32.ofInt (sx n b a)])):
  ∀(j x q:Nat),x+j=m->j<q->Ey bits b q ((x*n:Nat):Int) (qE n x b)=some (qE n m b,0)
 |0,x,q+1,hx,_=>by
  obtain rfl:x=m:=F0
  rw[Ey,Hb,B! C2];rfl
 |j+1,x,q+1,hx,hq=>by
  have h1:(x+1)*n<=m*n:=EK n F0;rw[E9,IX]at h1;have h2:m<=m*n:=jf m hn;rw[step q (x*n) _ F0 (by rw[J9];omega),<-Avp,show x*n+n=(x+1)*n by rw[E9,IX]];exact Aae bits n m hn hm hl step j (x+1) q F0 F0
theorem Bgt{bits:Int}(h:Bn bits)(hl:b.length<=100000)(q a:Nat)(acc:LX)(ha:a+wB bits<=b.length)(hc:acc.length<=100000):
  Ey bits b (q+1) (a:Int) acc=Ey bits b q ((a+wB bits:Nat):Int) (acc++[Int32.ofInt (sx (wB bits) b a)]):=by
 rw[Ey];obtain rfl|rfl|rfl:=h
 ·exact Bha b _ a acc ha hl hc _ _
 ·exact Bel b _ a acc ha hl hc _ _
 ·exact Bes b _ a acc ha hl hc _ _
theorem Aa4{bits:Int}(h:Bn bits){m:Nat}(hm:b.length=m*wB bits)(h4:m<=4000):Tp bits b=some (qE (wB bits) m b,0):=by
 have hn:=Z5 bits;have hl:b.length<=12000:=by rw[hm];exact IP h4 hn.2
 rw[Tp,PT,J_ h,Aa];simp only;rw[B! D3,qW h,Bl F_,Aa];have hr:Gz (Ac b) (wB bits:Int)=0:=by rw[Ac,JB,hm,KB];rfl
 have hq:Bo (Ac b) (wB bits:Int)=(m:Int):=by rw[Ac,QJ,hm,X9 _ F0]
 rw[B! (by rw[Aj,hr];simp),Aa,hq,B! G6,Awi];have:=Aae b bits (wB bits) m F0 hm F0 (λq a acc ha hc=>Bgt b h F0 q a acc ha hc) m 0 Au F0 D1;simpa [qE]using this
end Go.Pl
namespace Go.Pl
open Go Go.Lv
variable{bits e:Int}{x:LX}
theorem Ben{c:Nat}{w:Nat}(hc:c<=6)(hw:Bn (w:Int)):Bo (Bg (c:Int) (w:Int)) 8=((c*wB (w:Int):Nat):Int):=by
 have h:w=8\/w=16\/w=24:=by unfold Bn at hw;omega
 have:c=0\/c=1\/c=2\/c=3\/c=4\/c=5\/c=6:=F0
 rcases h with rfl|rfl|rfl<;>rcases this with rfl|rfl|rfl|rfl|rfl|rfl|rfl<;>rfl
theorem Bdp{w:Nat}(hw:Bn (w:Int)):8*wB (w:Int)=w/\w<=24:=by
 have h:w=8\/w=16\/w=24:=by unfold Bn at hw;omega
 rcases h with rfl|rfl|rfl<;>exact⟨rfl,F0⟩
theorem Be9{t c w:Nat}(ht:t<=4000)(hc:c<=6)(hw:Bn (w:Int)):Bo (Bg (Bg (t:Int) (c:Int)) (w:Int)) 8=((t*(c*wB (w:Int)):Nat):Int):=by
 obtain⟨h1,h2⟩:=Bdp hw;have e1:(t:Int)*(c:Int)=((t*c:Nat):Int):=by simp
 have b1:t*c<=4000*6:=IP ht hc;have b2:t*c*w<=24000*24:=IP b1 h2;rw[Fo (a:=(t:Int)) (by rw[e1];omega) (by rw[e1];omega),e1,Fo KE KE,<-K7,show(8:Int)=((8:Nat):Int)from rfl,QJ];congr 1;generalize wB (w:Int)=W at*
 subst h1;rw[Nat.mul_left_comm,Bol _ F0,I0]
def jq(w:Nat)(y:LB×Int):LX:=if y.2≠0 then []else qE (wB (w:Int)) (y.1.length/wB (w:Int)) y.1
theorem U0(z:Int):(u8 z).toNat=(z %256).toNat:=by
 have:(z %256).toNat<256:=F0
 rw[u8,HT,D0 F0]
theorem Bly{bits:Int}(h:Bn bits):∀(l:LX) (i j:Nat),i<l.length->j<wB bits-> (Du bits l).getD (i*wB bits+j) 0=(OV bits (l.getD i 0).toInt).getD j 0
 |[],i,j,hi,_=>by simp at hi
 |x::l,0,j,_,hj=>by
  have h1:=Q2 h x.toInt;have e:Du bits (x::l)=OV bits x.toInt++Du bits l:=by simp[Du]
  rw[e,TS,HL,D9,D9,HQ F0];rfl
 |x::l,i+1,j,hi,hj=>by
  have h1:=Q2 h x.toInt;have e:Du bits (x::l)=OV bits x.toInt++Du bits l:=by simp[Du]
  have ih:=Bly h l i j (by simpa using hi) hj;have e2:(i+1)*wB bits+j=(OV bits x.toInt).length+(i*wB bits+j):=by rw[E9,IX,h1];omega
  rw[e,e2,D9,JG F0,P',<-D9,ih];rfl
theorem Bbj(h:Bn bits)(l:LX)(hr:r! bits l)(i:Nat)(hi:i<l.length):Int32.ofInt (sx (wB bits) (Du bits l) (i*wB bits))=l.getD i 0:=by
 have hm:l.getD i 0∈l:=by rw[D9,HS hi];exact HA hi
 have hv:=hr _ hm;have g:∀j,j<wB bits->Tz (Du bits l) (i*wB bits+j)=((OV bits (l.getD i 0).toInt).getD j 0).toNat:=λj hj=>by rw[Tz,Bly h l i j hi hj]
 generalize l.getD i 0=x at*
 have key:sx (wB bits) (Du bits l) (i*wB bits)=x.toInt:=by
  generalize hA:i*wB bits=a at*
  obtain rfl|rfl|rfl:=h
  ·have g0:=g 0 B6;have e1:(OV 8 x.toInt).getD 0 0=u8 (x.toInt+128):=rfl;rw[J6,e1,U0]at g0;simp only[hB]at hv;simp at hv;have e2:wB 8=1:=rfl;rw[e2,sx,B0 rfl,g0];omega
  ·have g0:=g 0 B6;have g1:=g 1 B6;have e0:(OV 16 x.toInt).getD 0 0=u8 x.toInt:=rfl;have e1:(OV 16 x.toInt).getD 1 0=u8 (x.toInt/256):=rfl;rw[J6,e0,U0]at g0;rw[e1,U0]at g1;simp only[hB]at hv;simp at hv;have e2:wB 16=2:=rfl;rw[e2,sx2,g0,g1];split<;>omega
  ·have g0:=g 0 B6;have g1:=g 1 B6;have g2:=g 2 B6;have e0:(OV 24 x.toInt).getD 0 0=u8 x.toInt:=rfl;have e1:(OV 24 x.toInt).getD 1 0=u8 (x.toInt/256):=rfl;have e3:(OV 24 x.toInt).getD 2 0=u8 (x.toInt/65536):=rfl;rw[J6,e0,U0]at g0;rw[e1,U0]at g1;rw[e3,U0]at g2;simp only[hB]at hv;simp at hv;have e2:wB 24=3:=rfl;rw[e2,sx3,g0,g1,g2];split<;>omega
 rw[key];simp
theorem Q? (h:Bn bits)(l:LX)(hr:r! bits l):qE (wB bits) l.length (Du bits l)=l:=by
 refine J4 (J9 _ _ _) λi h1 h2=>?_;have:=Bbj h l hr i h2;simp only[qE,NB,NP];rw[this,D9,HS h2];rfl
theorem Gts.J7{b p:LB}{f c w r n A:Nat}{l:LI}{k m:Nat}{s:LB}(hw:Bn (w:Int))(g:Gts b p f c w r n A l k m x s e):jq w (s,e)=x:=by
 have hwb:=Z5 (w:Int);by_cases he:e=0
 ·obtain⟨h1,h2,h3,_⟩:=g.some' he;have h4:=g.pos;have h5:=HD hw x;rw[jq,B! (by simpa using he)];simp only;rw[h1,h5,X9 _ F0];exact Q? hw x (kU hw F0 h3)
 ·rw[jq,B0 he,(g.none' he).2]
theorem mR{p:Prop}(h:p:=by rw[Af,D!];omega):p:=h
theorem mK{p:Prop}(h:p:=by simp[Iy];omega):p:=h
theorem M9{p:Prop}(h:p:=by rw[H4];omega):p:=h
abbrev C5:=Int×Int×Int×LX×Int
def yV(e:Int):C5:=(0,0,0,[],e)
theorem G9{seg p:LB}(hs:seg.length=8)(hp:p.length<=64):Pr seg p=some (seg==Tm (Vx p).toNat 8,0):=by
 rw[Pr,vM p hp,Aa];simp only;rw[B! (by rw[Aj,Aj,Ac,Ac,Cf,hs];simp),Hu,Aa]
theorem Ayf(b p:LB)(m c w h o q n g y ab:Int)(k v:LI)(he:e≠0):Va b p m c w h o q n g k e y ab v=some (yV e):=by
 rw[Va,aM,B0 (by rw[Aj];simpa using he)];rfl
theorem tq(b p:LB)(m c w h o q n g y ab:Int)(k:LI)(he:e≠0):AK b p m c w h o q n g y ab k e=some (yV e):=by
 rw[AK,aR,B0 (by rw[Aj];simpa using he)];rfl
theorem Av7(b p:LB)(m c w h o q n g y ab:Int)(k:LI):AK b p m c w h o q n g y ab k 0=KX b p m c w h o q n g y ab k:=by
 rw[AK,aR,B! D3]
def fI(X:Nat->LX)(E:Nat->Int)(be:Int):Nat->Nat->LX->LX×Int
 |0,_,acc=>if be≠0 then([],38)else(acc,0)
 |j+1,k,acc=>if E k≠0 then([],E k)else fI X E be j (k+1) (acc++X k)
def SI(c w r:Nat)(y:LX×Int):C5:=if y.2≠0 then yV y.2 else((c:Int),(w:Int),(r:Int),y.1,0)
def yO(b p:LB)(f c w r n A:Nat)(l:LI):C5:=
 SI c w r (fI (λk=>jq w (Jk b p f c w r n A l k)) (λk=>(Jk b p f c w r n A l k).2) (bP b A l) l.length 0 [])
section
variable {b p:LB} {f c w r n A:Nat} {l:LI} (o:Opn b p f c w r n A l)
include o
theorem wH(a1 a2 a3 a4:Int):∀(j k q:Nat) (acc:LX),k+j=l.length->j<q-> (k=l.length-> (A:Int)+l.sum<=b.length)->acc.length<=4000*k->
  AI b l (f:Int) (c:Int) (w:Int) (r:Int) (n:Int) a1 a2 a3 (A:Int) a4 (Lt p) (Al (Ah r) n) q ((A:Int)+(l.take k).sum) (k:Int) acc=
   some (SI c w r (fI (λk=>jq w (Jk b p f c w r n A l k)) (λk=>(Jk b p f c w r n A l k).2) (bP b A l) j k acc))
 |0,k,q+1,acc,hk,_,hfit,_=>by
  have hA:=o.at';have Z':=o.file;have hs1:=o.some1;have hsum:=o.sum;have b1:=Io o.five l.length;have hf:=hfit F0;obtain rfl:k=l.length:=F0
  rw[ID]at b1⊢;rw[AI,aY,B! SG,Bil,Bh2,Cb,Aa,Bcc _ M9,Aa,fI,bP];generalize Oa (b.drop ((A:Int)+l.sum).toNat)=v;obtain⟨v1,v2⟩:=v;simp only;by_cases hv:v2≠0
  ·rw[B0 hv,B0 (by rw[Aj];simpa using hv),SI,B0 B7];rfl
  ·rw[B! hv,B! (by rw[Aj];simpa using hv),SI,B! B7]
 |j+1,k,q+1,acc,hk,hq,hfit,hacc=>by
  have hA:=o.at';have Z':=o.file;have hs1:=o.some1;have hsum:=o.sum;have b1:=Io o.five k;have b2:=Io o.five (k+1);have hkl:k<l.length:=F0
  have e2:=Kj hkl;have h5:=o.five l[k] (HA _);obtain⟨m,x,s,e,g⟩:=BO o k hkl;obtain⟨hc,hw,hr,hn,_⟩:=Mh o.shape;have hl:=g.lens hw;rw[AI,aY,B0 C2,Bt hkl,Aa,Aa,Ak (a:=(A:Int)+(l.take k).sum) F0 F0,SB,<-e2,Ac,fI,g.eq];simp only;rcases g.way with⟨h1,h2⟩|⟨h1,h2,_⟩
  ·rw[B0 mR,B0 (by rw[h2];simp),h2,SI,B0 B7];rfl
  ·rw[B! mR,g.mom];simp only[Aa];rw[Wi,Aa,show(b.take ((A:Int)+(l.take (k+1)).sum).toNat).drop ((A:Int)+(l.take k).sum).toNat=qo b A l k from rfl,h2,Aa];simp only;rw[Big,Bif];by_cases he:e≠0
   ·rw[B0 (by rw[Aj];simpa using he),B0 he,SI,B0 he];rfl
   ·have he0:e=0:=by simpa using he
    have Z0:=(g.some' he0).2.2.2.2;rw[B! (by rw[Aj];simpa using he),B! he,g.J7 hw,Bi,Aa,Ak (a:=(A:Int)+(l.take k).sum) F0 F0,SB,<-e2,Ak];exact wH a1 a2 a3 a4 j (k+1) q (acc++x) F0 F0 (λh=>by rw[h,ID]at Z0;exact Z0) LG
theorem Blo:∀(j k q:Nat) (acc:LX),k+j=l.length->j<q-> (k=l.length-> (A:Int)+l.sum<=b.length)->acc.length<=4000*k->
  Ns b (f:Int) (c:Int) (w:Int) (r:Int) (n:Int) l (Al (Ah r) n) (Lt p) q ((A:Int)+(l.take k).sum) (k:Int) acc=
   some (SI c w r (fI (λk=>jq w (Jk b p f c w r n A l k)) (λk=>(Jk b p f c w r n A l k).2) (bP b A l) j k acc))
 |0,k,q+1,acc,hk,_,hfit,_=>by
  have hA:=o.at';have Z':=o.file;have hs1:=o.some1;have hsum:=o.sum;have b1:=Io o.five l.length;have hf:=hfit F0;obtain rfl:k=l.length:=F0
  rw[ID]at b1⊢;rw[Ns,BJ,B! SG,Aei,Ado,Cb,Aa,C3 _ M9,Aa,fI,bP];generalize Oa (b.drop ((A:Int)+l.sum).toNat)=v;obtain⟨v1,v2⟩:=v;simp only;by_cases hv:v2≠0
  ·rw[B0 hv,B0 (by rw[Aj];simpa using hv),SI,B0 B7];rfl
  ·rw[B! hv,B! (by rw[Aj];simpa using hv),SI,B! B7]
 |j+1,k,q+1,acc,hk,hq,hfit,hacc=>by
  have hA:=o.at';have Z':=o.file;have hs1:=o.some1;have hsum:=o.sum;have b1:=Io o.five k;have b2:=Io o.five (k+1);have hkl:k<l.length:=F0
  have e2:=Kj hkl;have h5:=o.five l[k] (HA _);obtain⟨m,x,s,e,g⟩:=BO o k hkl;obtain⟨hc,hw,hr,hn,_⟩:=Mh o.shape;have hl:=g.lens hw;rw[Ns,BJ,B0 C2,Bt hkl,Aa,Aa,Ac,Bu,fI,g.eq];simp only;rcases g.way with⟨h1,h2⟩|⟨h1,_,h2⟩
  ·rw[B0 mR,B0 (by rw[h2];simp),h2,SI,B0 B7];rfl
  ·rw[B! mR,g.mom];simp only[Aa];rw[Ak (a:=(A:Int)+(l.take k).sum) F0 F0,SB,<-e2,Wi,Aa,show(b.take ((A:Int)+(l.take (k+1)).sum).toNat).drop ((A:Int)+(l.take k).sum).toNat=qo b A l k from rfl,h2,Aa];simp only;rw[Aej,Adq];by_cases he:e≠0
   ·rw[B0 (by rw[Aj];simpa using he),B0 he,SI,B0 he];rfl
   ·have he0:e=0:=by simpa using he
    have Z0:=(g.some' he0).2.2.2.2;rw[B! (by rw[Aj];simpa using he),B! he,g.J7 hw,Bi,Aa,Bt hkl,Aa,Aa,Ak (a:=(A:Int)+(l.take k).sum) F0 F0,SB,<-e2,Ak];exact Blo j (k+1) q (acc++x) F0 F0 (λh=>by rw[h,ID]at Z0;exact Z0) LG
end
theorem xM(l:LI)(b p:LB)(m c w h o q n g:Int)(k:LI)(hl:l.length<=1000)(h5:∀x∈l,5<=x)(A:Int)(hA:0<=A)(hb:A+l.sum<=1000000):∀(j i z:Nat),i+j=l.length->j<z->Zz l b p m c w h o q n g k z (i:Int) (A+(l.take i).sum)=ZS b p l m c w h o q n g (A+l.sum) k
 |0,i,z+1,hi,_=>by
  rw[Zz,aA,B! C2,show i=l.length by omega,ID]
 |j+1,i,z+1,hi,hz=>by
  have hlt:i<l.length:=F0
  have b1:=Io h5 i;have b2:=Io h5 (i+1);have e:=Kj hlt;have ih:=xM l b p m c w h o q n g k hl h5 A hA hb j (i+1) z F0 F0;rw[e,<-SB]at ih;rw[Zz,aA,B0 C2,Bt hlt,Aa,Aa,Ak,Ak];exact ih
theorem Ajz(b p:LB)(hb:b.length<=100100)(hp:p.length<=64):
  (∃e:Int,e≠0/\Dl b p=some (VB e)/\Qy b p=some (yV e)/\Ky b p=some (yV e))\/
  (∃f c w r n T:Nat,∃q d:Int,T<=b.length/\b.length<=100000/\Fx f c w r n=true/\Xl c r n=true/\
   Dl b p=Qt b (f:Int) (c:Int) (w:Int) (r:Int) (n:Int) (T:Int)/\
   Qy b p=KX b p (f:Int) (c:Int) (w:Int) (r:Int) (n:Int) q d (T:Int) 0 0 (Al (Ah r) n)/\
   Ky b p=(GB b (T:Int) (f:Int) (c:Int) (w:Int) (r:Int) (n:Int)).bind λ(h,ae)=>if Bd ae 0=true then some (yV ae)else(Ga (r:Int) (n:Int)).bind λp2=>(Ny p).bind λ(u,ap)=>Afm b (f:Int) (c:Int) (w:Int) (r:Int) (n:Int) h p2 u (Ad (T:Int) (Ad (Bg 4 (Ac h)) 4)) 0 []):=by
 have hO:Dl b p=Dl b p:=rfl;have hV:Qy b p=Qy b p:=rfl;have hR:Ky b p=Ky b p:=rfl
 conv at hO=>rhs;rw[Dl,Ux,B! E4]
 conv at hV=>rhs;rw[Qy,Bl0,B! E4,Ami]
 conv at hR=>rhs;rw[Ky,Afn,B! E4,Aqo]
 by_cases h1:100000<b.length
 ·rw[B0 E4]at hO hV hR;refine .inl ⟨4,F0,hO,?_,?_⟩
  ·rw[hV,Aa];rfl
  ·rw[hR,Aa];rfl
 rw[B! E4]at hO hV hR;rw[Ql b F0,Aa]at hO hV;rw[CD b F0,Aa]at hR;by_cases h2:(Bp b).2=0
 ·obtain⟨p0,p1,p2⟩:=BP h2;have hc:=Cb (l:=b) p0 p1;simp only[h2]at hO hV hR;rw[B! D3,hc,Aa,show b.drop (Bp b).1.toNat=Iy b from rfl]at hO hV hR;rw[PY _ mK,Aa]at hO hV;rw[iK _ mK,Aa]at hR;by_cases h3:(Ep (Iy b)).2.2.2.2.2=0
  ·obtain⟨g1,g2,g3,g4⟩:=tT h3;have hlen:(Iy b).length=b.length-(Bp b).1.toNat:=by simp[Iy]
   generalize hF:(Bp b).1.toNat=F at*
   have hF':(Bp b).1=(F:Int):=F0
   rw[g1,hF']at hO hV hR;simp only at hO hV hR;generalize f0 (Iy b)=f at*
   generalize f1 (Iy b)=c at*
   generalize f2 (Iy b)=w at*
   generalize f3 (Iy b)=r at*
   generalize f4 (Iy b)=n at*
   have t22:Ad (F:Int) 22=((F+22:Nat):Int):=by rw[Ak];omega
   have t30:Ad ((F+22:Nat):Int) 8=((F+30:Nat):Int):=by rw[Ak];omega
   have Bh6:f=1\/f=2:=by simp only[Fx,D!]at g3;omega
   rw[B! D3,t22,t30]at hO;rw[B! D3,sP g3 g4,Aa,t22,t30]at hV;rw[Aa]at hR;simp only at hV hR;rw[B! D3,t22,Al8,t30]at hR;by_cases MZ:((p==([]:LB)) !=(geq (f:Int) (1:Int)))=true
   ·rw[B0 MZ]at hO hR;refine .inl ⟨26,F0,hO,?_,?_⟩
    ·rw[hV];by_cases h5:f=2
     ·rw[B0 (by rw[Ar,h5];rfl),Aa];simp only;rw[B! D3,B0 MZ,tq _ _ _ _ _ _ _ _ _ _ _ _ _ F0]
     ·rw[B! GZ,Aa];simp only;rw[B! D3,B0 MZ,tq _ _ _ _ _ _ _ _ _ _ _ _ _ F0]
    ·rw[hR,Aa];rfl
   ·rw[B! MZ]at hO hR;have hpf:(p=[]↔f=1):=by
     rw[Ar]at MZ;have h5:(p==([]:LB))=((f:Int)==1):=by simpa using MZ
     have h6:(p==([]:LB))=true↔((f:Int)==1)=true:=by rw[h5]
     rw[G3,G3]at h6;rw[h6];omega
    by_cases h5:f=2
    ·have WN:p≠ []:=λe=>by have:=hpf.1 e;omega
     rw[B0 (by rw[Ar,h5];rfl),Aa]at hV;simp only at hV;rw[B! D3,B! MZ,B! GZ]at hV;rw[B0 (by simpa using WN)]at hO;rw[B! (by simpa using WN)]at hR;by_cases h6:b.length<F+30
     ·rw[B0 C2]at hO hV hR;refine .inl ⟨24,F0,hO,?_,?_⟩
      ·rw[hV,tq _ _ _ _ _ _ _ _ _ _ _ _ _ F0]
      ·rw[hR,Aa];rfl
     ·have hseg:((b.take (F+30)).drop (F+22)).length=8:=by simp;omega
      rw[B! C2,Wi,Aa,show((F+30:Nat):Int).toNat=F+30 from rfl,show((F+22:Nat):Int).toNat=F+22 from rfl]at hO hV hR;rw[G9 hseg hp,Aa]at hO hV;rw[gY p hp,Aa]at hR;simp only at hO hV;rw[B! D3]at hO;generalize(b.take (F+30)).drop (F+22)=seg at*
      by_cases h7:seg=Tm (Vx p).toNat 8
      ·rw[B! (by simp[h7])]at hO hV;rw[B! (by simp[h7]),Aa]at hR;simp only at hR;rw[B! D3]at hR;rw[Av7]at hV;exact .inr ⟨f,c,w,r,n,F+30,(F:Int),((F+22:Nat):Int),F0,F0,g3,g4,hO,hV,hR⟩
      ·rw[B0 (by simpa using h7)]at hO hV;rw[B0 (by simpa using h7)]at hR;refine .inl ⟨26,F0,hO,?_,?_⟩
       ·rw[hV,tq _ _ _ _ _ _ _ _ _ _ _ _ _ F0]
       ·rw[hR,Aa];rfl
    ·have hpe:p=[]:=hpf.2 F0;rw[B! GZ,Aa]at hV;simp only at hV;rw[B! D3,B! MZ,B0 GZ,Av7]at hV;rw[B! (by rw[hpe];simp)]at hO;rw[B0 (by rw[hpe];rfl),Aa]at hR;simp only at hR;rw[B! D3]at hR;exact .inr ⟨f,c,w,r,n,F+22,(F:Int),((F+22:Nat):Int),F0,F0,g3,g4,hO,hV,hR⟩
  ·generalize Ep (Iy b)=v at*
   obtain⟨v1,v2,v3,v4,v5,v6⟩:=v;simp only at h3 hO hV hR;rw[B0 (by rw[Aj];simpa using h3)]at hO hV;refine .inl ⟨v6,h3,hO,?_,?_⟩
   ·rw[hV,Aa];simp only;rw[B0 (by rw[Aj];simpa using h3)];rfl
   ·rw[hR,Aa];simp only;rw[B0 (by rw[Aj];simpa using h3)];rfl
 ·generalize Bp b=v at*
  obtain⟨v,e⟩:=v;simp only at h2 hO hV hR;rw[B0 (by rw[Aj];simpa using h2)]at hO hV hR;refine .inl ⟨e,h2,hO,?_,?_⟩
  ·rw[hV,Aa];simp only;rw[B0 (by rw[Aj];simpa using h2)];rfl
  ·rw[hR,Aa];simp only;rw[B0 (by rw[Aj];simpa using h2)];rfl
theorem E5(b p:LB)(hb:b.length<=100100)(hp:p.length<=64):
  (∃e:Int,e≠0/\Dl b p=some (VB e)/\Fl b p=some (VB e)/\Qy b p=some (yV e)/\Ky b p=some (yV e))\/
  (∃f c w r n A l,Opn b p f c w r n A l/\Qy b p=some (yO b p f c w r n A l)/\Ky b p=some (yO b p f c w r n A l)):=by
 have Bcv:∀{e e2:Int},VB e=VB e2->e=e2:=λh=>by simpa [VB]using h
 rcases Ajz b p hb hp with⟨e,he,h1,h2,h3⟩|⟨f,c,w,r,n,T,q,d,hT,Z',g3,g4,hO,hV,hR⟩
 ·rcases N9 b p hb hp with⟨e',he',k1,k2⟩|⟨f,c,w,r,n,A,l,o⟩
  ·rw[h1]at k1;have:=Bcv (HE k1);subst this;exact .inl ⟨e,he,h1,k2,h2,h3⟩
  ·have:=o.prog;rw[h1]at this;have:=HE this;simp only[VB,D5]at this;exact absurd this.2.2.2.2.2.2.2 he
 ·obtain⟨hc,hw,hr,hn,_⟩:=Mh g3;have hfit:n<=4000/c:=by simp only[Xl,D!]at g4;exact g4.1
  have hn4:n<=4000:=by have:=HP 4000 c;omega
  rw[vU g3 g4 b hb T hT]at hO;have hcut:=Cb (l:=b) (a:=(T:Int)) F0 F0;rw[F!]at hcut;have hdl:(b.drop T).length<=100100:=by simp;omega
  rw[KX,Bjh,B! C2,hcut,Aa,Ac,wS _ _ hdl,Aa]at hV;rw[GB,hcut,Aa,jE hr.2 hn hn4,Aa,Ac,O? _ _ hdl,Aa,Aa]at hR;by_cases h:(Eo (b.drop T) (Al (Ah r) n).length).2≠0
  ·rw[B0 h]at hO;generalize Eo (b.drop T) (Al (Ah r) n).length=v at*
   obtain⟨v1,v2⟩:=v;simp only at h hO hV hR;rcases N9 b p hb hp with⟨e',he',k1,k2⟩|⟨f,c,w,r,n,A,l,o⟩
   ·rw[hO]at k1;have:=Bcv (HE k1);subst this;refine .inl ⟨_,h,hO,k2,?_,?_⟩
    ·rw[hV,YO,ZD,B0 (by rw[Aj];simpa using h),Ayf _ _ _ _ _ _ _ _ _ _ _ _ _ _ h]
    ·rw[hR,B0 (by rw[Aj];simpa using h)]
   ·have:=o.prog;rw[hO]at this;have:=HE this;simp only[VB,D5]at this;exact absurd this.2.2.2.2.2.2.2 h
  ·have h0:(Eo (b.drop T) (Al (Ah r) n).length).2=0:=by simpa using h
   rw[B! h]at hO;generalize hsv:Eo (b.drop T) (Al (Ah r) n).length=v at*
   obtain⟨v1,v2⟩:=v;simp only at h0 hO hV hR;subst h0;rcases N9 b p hb hp with⟨e',he',k1,k2⟩|⟨f',c',w',r',n',A,l,o⟩
   ·rw[hO]at k1;have:=HE k1;simp only[VB,D5]at this;exact absurd this.2.2.2.2.2.2.2.symm he'
   ·have hp2:=o.prog;rw[hO]at hp2;have hp3:=HE hp2;simp only[D5]at hp3;obtain⟨i1,i2,i3,i4,i5,i6,i7,_⟩:=hp3;obtain rfl:f=f':=F0
    obtain rfl:c=c':=F0
    obtain rfl:w=w':=F0
    obtain rfl:r=r':=F0
    obtain rfl:n=n':=F0
    subst i7;have hlen:=o.len;have hs1:=o.some1;have hsum:=o.sum;have hA:=o.at';have hAT:(A:Int)=(T:Int)+4*(v1.length:Int)+4:=F0
    have a1:Bg 4 (v1.length:Int)=4*(v1.length:Int):=Fo;have eV:Ad (Ad (T:Int) (Bg 4 (Ac v1))) 4=(A:Int):=by
     rw[Ac,a1,Ak (a:=(T:Int)) F0 F0,Ak];omega
    have eR:Ad (T:Int) (Ad (Bg 4 (Ac v1)) 4)=(A:Int):=by
     rw[Ac,a1,Ak (a:=4*(v1.length:Int)) F0 F0,Ak];omega
    have hlv:=wH o q d (T:Int) ((A:Int)+v1.sum) v1.length 0 Au [] F0 D1 F0 B7;have hlr:=Blo o v1.length 0 Au [] F0 D1 F0 B7;rw[JP,MX,cR]at hlv hlr;refine .inr ⟨f,c,w,r,n,A,v1,o,?_,?_⟩
    ·have hs:=xM v1 b p (f:Int) (c:Int) (w:Int) (r:Int) (n:Int) q d (T:Int) (Al (Ah r) n) hs1.2 o.five (A:Int) F0 F0 v1.length 0 Au F0 D1;rw[JP,MX,cR]at hs;rw[hV,YO,ZD,B! D3,Bgx,eV];refine H9 hs ?_;rw[ZS,Bh5,eV,Va,aM,B! D3,jL p o.pass,Aa];exact hlv
    ·rw[hR,B! D3,Aa,TG p o.pass,Aa,eR];exact hlr
def P7(b:LB):LI:=Al (Ah (f3 (Iy b))) (f4 (Iy b))
theorem qD{ch:Nat}(hb:Bn bits)(h1:1<=ch)(h6:ch<=6):Gk (ch:Int) bits=some 0:=by
 have hr:∃x y,Tk bits=some (x,y,0):=⟨_,_,J_ hb⟩;obtain⟨x,y,hr⟩:=hr;rw[Gk,hr,Aa];simp only;rw[B! c_]
abbrev P6':=Int×Int×Int×LX×LI×Int
def Z?(e:Int):P6':=(0,0,0,[],[],e)
theorem L!{c r n:Nat}(h:Xl c r n=true):1<= (Al (Ah r) n).length/\ (Al (Ah r) n).length<=1000:=by
 simp only[Xl,D!]at h;rw[SK];exact⟨Nat.le_add_left _ _,h.2⟩
theorem ny(g:Nat):∀K:Nat,(List.replicate K (g:Int)).sum=((K*g:Nat):Int)
 |0=>by simp
 |K+1=>by
  rw[MG,I6,ny g K,ND];omega
theorem sQ{g n:Nat}(hn:1<=n):(Al g n).sum=(n:Int):=by
 have h:=LK (n-1) g;rw[Al,b_,ny];simp only[I6,MX];omega
theorem h!:∀{l:LI},(∀x∈l,0<=x)->0<=l.sum
 |[],_=>by simp
 |x::l,h=>by
  have h1:=h x K3;have h2:=h! (l:=l) λy hy=>h y (I4 _ hy);rw[I6];omega
theorem mY{l:LI}(h:∀x∈l,0<=x)(i:Nat):0<= (l.take i).sum/\ (l.take i).sum<=l.sum:=by
 have h1:=h! (l:=l.take i) λx hx=>h x (aS hx);have h2:=h! (l:=l.drop i) λx hx=>h x (RQ hx);have:=Aci l i;omega
def IA(c w:Nat)(fr:LI)(k:Nat):Int:=(((fr.take k).sum.toNat*(c*wB (w:Int)):Nat):Int)
section
variable {f c w r n:Nat} (h1:Fx f c w r n=true) (h2:Xl c r n=true)
include h1 h2
theorem PZ:(∀x∈Al (Ah r) n,0<=x)/\ (Al (Ah r) n).sum=(n:Int)/\n<=4000:=by
 obtain⟨hc,hw,hr,hn,_⟩:=Mh h1;have hfit:n<=4000/c:=by simp only[Xl,D!]at h2;exact h2.1
 have hn4:n<=4000:=by have:=HP 4000 c;omega
 refine⟨λx hx=>?_,sQ hn,hn4⟩;obtain⟨m,rfl,_⟩:=Wh (Es r) hn hx;omega
end
section
variable {b p:LB} {f c w r n A:Nat} {l:LI} (o:Opn b p f c w r n A l)
include o
theorem Atj(h:(yO b p f c w r n A l).2.2.2.2=0):(A:Int)+l.sum<=b.length:=by
 have hs1:=o.some1;have key:∀(j k:Nat) (acc:LX),k+j=l.length->1<=j-> (fI (λk=>jq w (Jk b p f c w r n A l k)) (λk=>(Jk b p f c w r n A l k).2) (bP b A l) j k acc).2=0-> (A:Int)+l.sum<=b.length:=by
  intro j
  induction j with
  |zero=>intro k acc _ h;omega
  |succ j ih=>
   intro k acc hk _ h;obtain⟨m,x,s,e,g⟩:=BO o k F0;rw[fI]at h;by_cases he:(Jk b p f c w r n A l k).2≠0
   ·rw[B0 he]at h;exact absurd h he
   ·rw[B! he]at h;by_cases hj:j=0
    ·rw[g.eq]at he;have:=(g.some' (by simpa using he)).2.2.2.2;rw[show k+1=l.length by omega,ID]at this;exact this
    ·exact ih (k+1) _ F0 F0 h
 rw[yO,SI]at h;refine key l.length 0 [] F0 hs1.1 ?_;split at h
 ·simpa [yV]using h
 ·rename_i h2;simpa using h2
end
theorem Aky(C W:Nat)(fr:LI):IA C W fr 0=0:=by rw[IA,JP,MX];simp
theorem Akx(C W:Nat){fr:LI}(hp:∀z∈fr,0<=z){A m:Nat}(hA:A<fr.length)(hm:fr[A]=(m:Int)):IA C W fr (A+1)=IA C W fr A+((m*C*wB (W:Int):Nat):Int):=by
 have hs:0<= (fr.take A).sum:=by
  have:∀l:LI,(∀z∈l,0<=z)->0<=l.sum:=by
   intro l
   induction l with
   |nil=>intro _;simp
   |cons a l ih=>intro h;rw[I6];have:=h a B7;have:=ih (λz hz=>h z (by simp[hz]));omega
  exact this _ λz hz=>hp z (aS hz)
 have e:(fr.take (A+1)).sum=(fr.take A).sum+m:=by rw[Ms hA,b_,I6,MX,hm];omega
 rw[IA,IA,e];have:((fr.take A).sum+(m:Int)).toNat=(fr.take A).sum.toNat+m:=F0
 rw[this,E9,I0 m];omega
theorem YK(h:Bn bits){l:LX}(hl:l.length<=4000)(hr:r! bits l):Ay bits l=some 0:=by
 have hh:=JH bits;have key:∀(j i q:Nat),i+j=l.length->j<q->Ba l (hB bits) q (i:Int)=some 0:=by
  intro j
  induction j with
  |zero=>
   intro i q hi hq;obtain⟨q,rfl⟩:∃k,q=k+1:=⟨q-1,F0⟩;rw[Ba,Cx,B! C2];rfl
  |succ j ih=>
   intro i q hi hq;obtain⟨q,rfl⟩:∃k,q=k+1:=⟨q-1,F0⟩;have hx:=hr l[i] (HA F0);rw[Ba,Cx,B0 C2,Bt,Aa,Aa,Gm,d_,De F0 F0,Ak,Af,Eh,B! B8,B! B8];exact ih (i+1) q F0 F0
 rw[Ay,Dx,WJ h,Aa,B! GZ,B! E4];exact key l.length 0 Au F0 D1
theorem Akh(bits:Int)(a b:LX):Du bits (a++b)=Du bits a++Du bits b:=by unfold Du;rw[jk]
def Wp{α:Type}(G:Nat->List α):Nat->Nat->List α
 |0,_=>[]
 |j+1,k=>G k++Wp G j (k+1)
theorem Ag7{α:Type}(G:Nat->List α):∀(i j k:Nat),Wp G (i+j) k=Wp G i k++Wp G j (k+i)
 |0,j,k=>by simp[Wp]
 |i+1,j,k=>by
  rw[show i+1+j=(i+j)+1 by omega,Wp,Wp,Ag7 G i j (k+1),E?,show k+1+i=k+(i+1) by omega]
theorem Ack{α:Type}(G:Nat->List α)(i k:Nat):Wp G (i+1) k=Wp G i k++G (k+i):=by
 rw[Ag7 G i 1 k];simp[Wp]
theorem L_(w:Nat)(G:Nat->LB×Int)(be:Int):∀(j k:Nat) (acc:LB) (sM:LX),(oP G be j k acc).2=(fI (λk=>jq w (G k)) (λk=>(G k).2) be j k sM).2
 |0,k,acc,sM=>by
  rw[oP,fI];split<;>rfl
 |j+1,k,acc,sM=>by
  rw[oP,fI];split
  ·rfl
  ·exact L_ w G be j (k+1) _ _
theorem N4(X:Nat->LX)(E:Nat->Int)(be:Int):∀(j k:Nat) (acc:LX),(fI X E be j k acc).2=0->be=0/\ (∀i,k<=i->i<k+j->E i=0)/\ (fI X E be j k acc).1=acc++Wp X j k
 |0,k,acc,h=>by
  rw[fI]at h⊢;by_cases hb:be≠0
  ·rw[B0 hb]at h;cases h
  ·rw[B! hb];exact⟨by simpa using hb,λi h1 h2=>by omega,by simp[Wp]⟩
 |j+1,k,acc,h=>by
  rw[fI]at h⊢;by_cases hb:E k≠0
  ·rw[B0 hb]at h;exact absurd h hb
  ·rw[B! hb]at h⊢;obtain⟨h1,h2,h3⟩:=N4 X E be j (k+1) _ h;refine⟨h1,λi i1 i2=>?_,?_⟩
   ·by_cases hi:i=k
    ·subst hi;simpa using hb
    ·exact h2 i F0 F0
   ·rw[h3,Wp,E?]
theorem S7(G:Nat->LB×Int):∀(j k:Nat) (acc:LB),(∀i,k<=i->i<k+j-> (G i).2=0)->oP G 0 j k acc=(acc++Wp (λi=>(G i).1) j k,0)
 |0,k,acc,h=>by
  rw[oP,B! B7,Wp];simp
 |j+1,k,acc,h=>by
  rw[oP,B! (by rw[h k F0 F0];simp),S7 G j (k+1) _ λi h1 h2=>h i F0 F0,Wp,E?]
section
variable {b p:LB} {f c w r n A:Nat} {l:LI} (o:Opn b p f c w r n A l) (hE:∀i,i<l.length-> (Jk b p f c w r n A l i).2=0)
include o hE
theorem pJ(i:Nat)(hi:i<l.length):∃m:Nat,Am (Al (Ah r) n) (i:Int)=some (m:Int)/\1<=m/\ (Jk b p f c w r n A l i).1=Du (w:Int) (jq w (Jk b p f c w r n A l i))/\ (jq w (Jk b p f c w r n A l i)).length=m*c/\r! (w:Int) (jq w (Jk b p f c w r n A l i)):=by
 have hw:=(Mh o.shape).2.1;obtain⟨m,x,s,e,g⟩:=BO o i hi;have h0:=hE i hi;have hsm:=g.J7 hw;have hl:=g.lens hw;rw[g.eq]at h0⊢;rw[hsm];obtain⟨h1,h2,h3,_⟩:=g.some' h0;exact⟨m,g.mom,g.pos.1,h1,h2,kU hw F0 h3⟩
theorem U2:∀(j k:Nat),k+j<=l.length->Du (w:Int) (Wp (λi=>jq w (Jk b p f c w r n A l i)) j k)=Wp (λi=>(Jk b p f c w r n A l i).1) j k
 |0,k,_=>rfl
 |j+1,k,h=>by
  obtain⟨m,_,_,h1,_⟩:=pJ o hE k F0;rw[Wp,Wp,Akh,U2 j (k+1) F0,<-h1]
theorem pG:∀(j k:Nat),k+j<=l.length->r! (w:Int) (Wp (λi=>jq w (Jk b p f c w r n A l i)) j k)
 |0,k,_=>λx hx=>by simp[Wp]at hx
 |j+1,k,h=>by
  obtain⟨m,_,_,_,_,h1⟩:=pJ o hE k F0;intro x hx;rw[Wp,bX]at hx;rcases hx with hx|hx
  ·exact h1 x hx
  ·exact pG j (k+1) F0 x hx
theorem Ao2:∀(j:Nat),j<=l.length-> (Wp (λi=>jq w (Jk b p f c w r n A l i)) j 0).length=((Al (Ah r) n).take j).sum.toNat*c
 |0,_=>by simp[Wp]
 |j+1,h=>by
  obtain⟨m,h0,_,_,h1,_⟩:=pJ o hE j F0;have hlen:=o.len;have hlt:j<(Al (Ah r) n).length:=F0
  rw[Bt hlt]at h0;have h0':=HE h0;obtain⟨g1,g2,g3⟩:=PZ o.shape o.fit;have b:=mY g1 j;rw[Ack,CR,Ao2 j F0,HL,h1,Kj hlt,h0'];rw[show(((Al (Ah r) n).take j).sum+(m:Int)).toNat=((Al (Ah r) n).take j).sum.toNat+m by omega,E9]
theorem yH:(Wp (λi=>jq w (Jk b p f c w r n A l i)) l.length 0).length=n*c:=by
 have hn:=(Mh o.shape).2.2.2.1;rw[Ao2 o hE l.length (E1 _),o.len,ID,sQ hn];simp
theorem Apl:Jy (w:Int) (Wp (λi=>jq w (Jk b p f c w r n A l i)) l.length 0)=some (Wp (λi=>(Jk b p f c w r n A l i).1) l.length 0,0):=by
 have hw:=(Mh o.shape).2.1;have hfit:n<=4000/c:=by have:=o.fit;simp only[Xl,D!]at this;exact this.1
 have hN:n*c<=4000:=by
  have h1:=EK c hfit;have h2:=LK 4000 c;omega
 have ht:=yH o hE;rw[aP hw F0 (YK hw F0 (pG o hE l.length 0 F0)),U2 o hE l.length 0 F0]
end
def Mp(bits:Int)(ch:Nat)(t x:LX):LU:=evl bits ch t (mx ch x) x.length
def UZ(bits:Int)(ch:Nat)(t x:LX):LB:=Nh (Rr ch (Mp bits ch t x) x.length)
def Pp(bits:Int)(ch:Nat)(t x:LX):LB:=UZ bits ch t x++Tm (Ew (UZ bits ch t x)).toNat 4
theorem Ago(bits:Int)(ch:Nat)(t x:LX)(h0:1<=x.length)(h4:x.length<=4000):1<= (UZ bits ch t x).length/\ (UZ bits ch t x).length<=40501:=by
 have h:=iG ch (Mp bits ch t x) x.length;obtain⟨k,hk⟩:∃k,x.length=k+1:=⟨x.length-1,F0⟩;have h1:1<= (Rr ch (Mp bits ch t x) x.length).length:=by
  rw[hk,Rr,CR];have hn:=wz ch ((Mp bits ch t x).take k);have:=iB ((Mp bits ch t x).getD k 0) hn.1 hn.2;omega
 rw[UZ,Uy];omega
theorem I9(bits:Int)(ch:Nat)(t x:LX)(h0:1<=x.length)(h4:x.length<=4000):5<= (Pp bits ch t x).length/\ (Pp bits ch t x).length<=40505:=by
 have:=Ago bits ch t x h0 h4;rw[Pp,CR,Cf];omega
theorem Ap2(bits:Int)(ch:Nat)(t x:LX)(h0:1<=x.length)(h4:x.length<=4000):Vz (Pp bits ch t x)=0/\ (Pp bits ch t x).take ((Pp bits ch t x).length-4)=UZ bits ch t x:=by
 have h:=I9 bits ch t x h0 h4;have hl:(Pp bits ch t x).length-4=(UZ bits ch t x).length:=by rw[Pp,CR,Cf];omega
 have h1:(Pp bits ch t x).take ((Pp bits ch t x).length-4)=UZ bits ch t x:=by rw[hl,Pp,lA]
 have h2:(Pp bits ch t x).drop ((Pp bits ch t x).length-4)=Tm (Ew (UZ bits ch t x)).toNat 4:=by rw[hl,Pp,NF]
 have hlt:=(Ew (UZ bits ch t x)).toNat_lt;refine⟨?_,h1⟩;rw[Vz,B! F0,B! F0,h1,h2,FC,D0 F0,B! B7]
theorem Alc{ch n:Nat}{t:LX}(hb:Bn bits)(ht:t.length=16)(h1:1<=ch)(h6:ch<=6)(n1:1<=n)(n2:n<=4000/ch)(hx:x.length=n*ch)(hr:r! bits x):
  Kl (ch:Int) bits t (n:Int) (Pp bits ch t x)=some (x,0)/\Dq (ch:Int) bits t (n:Int) (Pp bits ch t x)=some (x,0):=by
 have hn:n*ch<=4000:=by
  have:=EK ch n2;have h2:=LK 4000 ch;omega
 have hq4:=D4 h1 h6;have hx1:1<=x.length:=by rw[hx];exact N_ n1 h1
 have key:Dq (ch:Int) bits t (n:Int) (Pp bits ch t x)=some (x,0):=by
  generalize 4000/ch=mm at*
  have hh:=JH bits;have n? :Dm (ch:Int) bits (n:Int)=some 0:=by
   rw[Dm,Dc,B! HM,WJ hb,Aa,B! GZ,Aa,B! TX,Bl F_,Aa,hq4,B! G6]
  have hlen:=I9 bits ch t x hx1 F0;obtain⟨hs,htk⟩:=Ap2 bits ch t x hx1 F0;have hpl:=Ago bits ch t x hx1 F0;have e4:Ap (Ac (Pp bits ch t x)) 4=(((Pp bits ch t x).length-4:Nat):Int):=by rw[Ac,Bu];omega
  have hVl:(Mp bits ch t x).length=x.length:=wL _ _ _ _ _;have hEl:=Uy (Rr ch (Mp bits ch t x) x.length);have hvb:=zf ch (Mp bits ch t x) (8*(UZ bits ch t x).length) (by rw[hVl,UZ,hEl];omega) (n*ch) 0 F0;rw[hVl]at hvb;have hread:=oE (N:=8*(UZ bits ch t x).length) (p:=UZ bits ch t x) rfl F0 h1 h6 hn;have hvb':Xr ch (UZ bits ch t x) (8*(UZ bits ch t x).length) (n*ch) 0 []=(Mp bits ch t x,(Rr ch (Mp bits ch t x) x.length).length,0):=hvb;have hz:Cg (UZ bits ch t x) (Rr ch (Mp bits ch t x) x.length).length (8*(UZ bits ch t x).length-(Rr ch (Mp bits ch t x) x.length).length)=0:=by
   apply S2;intro k _;rw[UZ,HK,eT F0]
  have Bnd:¬7<8*(UZ bits ch t x).length-(Rr ch (Mp bits ch t x) x.length).length:=by rw[UZ,hEl];omega
  rw[hvb']at hread;simp only at hread;rw[B! B6,B! (by rw[hz];simp;omega)]at hread;have hm:(Mp bits ch t x).length %ch=0:=by rw[hVl,hx];exact KB n ch
  have Bh7:=xT (v:=Mp bits ch t x) hb ht h1 h6 F0 hm;have hsm:J7 bits ch t (Mp bits ch t x)=mx ch x:=by
   have:=Aya bits ch t (mx ch x);rw[UP]at this;exact this
  rw[hsm,Bez h1 (by rw[hx];exact KB n ch)]at Bh7;rw[Dq,Pv,n?,Aa,B! D3,zF,Aa,hs,B! B6,e4,Dv,Aa,F!,htk,hread,Aa];simp only;rw[Hz,Ig,B! B6,Bh7,Aa,Uk,YK hb F0 hr,Aa,B! B6];rfl
 obtain⟨l,e,d1,d2,_,_⟩:=HN (Pp bits ch t x) hb ht h1 h6 n1 n2;rw[key]at d2;cases d2;exact⟨d1,key⟩
theorem Aif(p:LB)(b0:UInt64)(a0:Int):∀(j m q:Nat),m+j<=300000->j<=64->j<q->
  So b0 a0 q (Rq p m j) (j:Int) (m:Int) (Sn p 0 m)=some (Sn p 0 (m+j),((m+j:Nat):Int),0)
 |0,m,q+1,_,_,_=>by
  rw[So,XU,B! M?,lN,Aa6];rfl
 |j+1,m,q+1,hm,hj,hq=>by
  have hroom:So b0 a0 (q+1) (Rq p m (j+1)) ((j+1:Nat):Int) (m:Int) (Sn p 0 m)=XS (So b0 a0 q) b0 a0 (Rq p m (j+1)) ((j+1:Nat):Int) (m:Int) (room p 0 m):=by
   rw[So,XU,B0 M?,kg m F0,room];by_cases h0:m %8=0
   ·rw[B0 (by rw[Ar,h0];rfl),Bi mO,Aa,B0 h0]
   ·rw[B! GZ,B! h0]
  have hl:Ap (Ac (room p 0 m)) 1=((m/8:Nat):Int):=by
   rw[Ac,Qq,Bu];omega
  have e2:Fq ((j+1:Nat):Int) (Ap (8:Int) ((m %8:Nat):Int))=((min (j+1) (8-m %8):Nat):Int):=by
   rw[IQ,Bu];omega
  rw[hroom,XS,mV,kg m F0,e2,hl];generalize hT:min (j+1) (8-m %8)=T;have hT1:1<=T:=F0
  have hT8:m %8+T<=8:=F0
  have hg:Am (room p 0 m) ((m/8:Nat):Int)=some (UInt8.ofNat (Cg p (0+8*(m/8)) (m %8))):=by
   rw[Bt Y7,vX]
  have z1:(GI.toZ ((m %8:Nat):Int)).toNat=m %8:=rfl;have z2:(GI.toZ ((T:Nat):Int)).toNat=T:=rfl;have hlt:=O9 p (0+8*(m/8)) (m %8+T) F0;have hadd:=SR p (m %8) T (0+8*(m/8));rw[show 0+8*(m/8)+m %8=m by omega]at hadd;have hbyte:(Ae (Fb (Rq p m (j+1)) (Ap (Dy (1:UInt64) T) (1:UInt64))):UInt8)=UInt8.ofNat (Cg p m T):=by
   rw[bM,Bhb _ F0,Aiu p m (j+1) T F0 hj]
  have hnew:zT (UInt8.ofNat (Cg p (0+8*(m/8)) (m %8))) (Dy (UInt8.ofNat (Cg p m T)) (m %8))=UInt8.ofNat (Cg p (0+8*(m/8)) (m %8+T)):=by
   rw[or8 (Rl _ _ _) dD F0,hadd,G? (2^(m %8))]
  rw[hg,z1,z2,hbyte];simp only[Aa];rw[Bl I?,Aa,Bl I8,Aa,hnew,Ww _ Y7,Aa,N5 p 0 m T hT1 hT8,nS,Ac2,kg m F0,e2,hT,Bl I?,Aa,z2,Ahe p m (j+1) T F0 hj,Bu,Ak];have ih:=Aif p b0 a0 (j+1-T) (m+T) q F0 F0 F0;rw[show m+T+(j+1-T)=m+(j+1) by omega]at ih;rw[<-ih,show((j+1:Nat):Int)-((T:Nat):Int)=((j+1-T:Nat):Int) by omega,show(m:Int)+((T:Nat):Int)=((m+T:Nat):Int) by omega]
theorem put_eq(p:LB)(m j:Nat)(hm:m+j<=300000)(hj:j<=63):bB (Sn p 0 m) (m:Int) (Rq p m j) (j:Int)=some (Sn p 0 (m+j),((m+j:Nat):Int),0):=by
 have hz:Bd (Cn (Rq p m j) (GI.toZ (j:Int)).toNat) 0=false:=by
  have:Cn (Rq p m j) j=0:=by
   apply UInt64.toNat_inj.1;rw[MM,BI p m j F0,M3 (Rl p j m)];rfl
  rw[show(GI.toZ (j:Int)).toNat=j from rfl,this];rfl
 have hl:=Km p 0 m;have htw:iU (Sn p 0 m) (m:Int)=some (Sn p 0 m,(m:Int)):=by
  rw[iU,Ca,Bi B8,Aa,Aa];rfl
 rw[bB,qX,CC (G5 p 0 m F0),Aa,B! B6,B! HM,B0 D2,Bl I?,Aa,hz,B! B6,Ak,B! G6,htw,Aa];exact Aif p _ _ j m Au hm F0 D1
theorem At.cat{p:LB}{a:Nat}{c d:List Bool}(h:At p a (c++d)):At p a c/\At p (a+c.length) d:=⟨h.left,h.right⟩
theorem Aio(p:LB):∀(q a:Nat),At p a (List.replicate q true)->Cg p a q+1=2^q
 |0,a,_=>by rw[Cg]
 |q+1,a,h=>by
  rw[MG]at h;obtain⟨h0,h1⟩:=h.cons;have:=Aio p q (a+1) h1;rw[Cg,h0,HG,B0 rfl];omega
theorem Q1{x:UInt64}{p:LB}{m n:Nat}(hn:n<=63)(h:x.toNat=Cg p m n):x=Rq p m n:=by
 apply UInt64.toNat_inj.1;rw[h,BI p m n F0]
theorem dT{n:Nat}(h:n<2^64):(UInt64.ofNat n).toNat=n:=by rw[H7];exact D0 h
theorem xP{p:LB}{m q:Nat}(hq:q<=48)(hm:m+48<=300000)(h:At p m (List.replicate q true++(if q=48 then []else [false]))):
  eL (Sn p 0 m) (m:Int) (q:Int)=some (Sn p 0 (m+min (q+1) 48),((m+min (q+1) 48:Nat):Int),0):=by
 have h1:=h.left;have hv:=Aio p q m h1;have Bne:2^q<=2^48:=G7 F0 hq;have hval:Cg p m (min (q+1) 48)+1=2^q:=by
  by_cases h48:q=48
  ·subst h48;exact hv
  ·rw[B! h48]at h;have h2:=h.right;rw[HR]at h2;have h0:=h2.cons.1;rw[show min (q+1) 48=q+1 by omega,vP,h0];simpa using hv
 have hx:(Ap (Dy (1:UInt64) q) (1:UInt64)).toNat=Cg p m (min (q+1) 48):=by
  have e1:(Dy (1:UInt64) q).toNat=2^q:=by rw[cK];show 1*2^q %_=_;rw[IX];exact D0 F0
  have hpos:0<2^q:=K0 F0;rw[N7,tM _ _ (by rw[tN,e1];exact hpos),e1]
  show 2^q-1=_;omega
 rw[eL,CC (G5 p 0 m F0),Aa,B! B6,nG,B! HM,Aa];simp only;have e2:Fq (Ad (q:Int) 1) 48=((min (q+1) 48:Nat):Int):=by rw[IQ,Ak];omega
 rw[B! B6,Bl I?,Aa,e2,show(GI.toZ (q:Int)).toNat=q from rfl,Q1 F0 hx,put_eq p m _ F0 F0,Aa]
theorem Auh{p:LB}{m l:Nat}{v:UInt32}(hl:l<=24)(hm:m+81<=300000)(h:At p m (ZJ l v.toNat)):
  mJ (Sn p 0 m) (m:Int) v (l:Int)=some (Sn p 0 (m+(ZJ l v.toNat).length),((m+(ZJ l v.toNat).length:Nat):Int),0):=by
 have hvl:=v.toNat_lt;have hz:(GI.toZ (l:Int)).toNat=l:=rfl;have hlp:2^l<=2^24:=G7 F0 hl;have hpos:0<2^l:=K0 F0;have Bkd:CO v (l:Int)=some (decide (48<=v.toNat/2^l)):=by
  rw[CO,Bl I?,Aa,hz,Am6,RT];rfl
 rw[mJ,fJ,CC (G5 p 0 m F0),Aa,B! B6,B! HM,Bl I?,Aa,Aa,Bkd,Aa];rw[ZJ]at h⊢;by_cases h48:48<=v.toNat/2^l
 ·rw[B0 h48]at h⊢;obtain⟨h1,h2⟩:=h.cat;rw[HR]at h2;have hval:=OU p 32 (m+48) v.toNat h2;rw[D0 F0]at hval;have hu:=xP (p:=p) (m:=m) (q:=48) (E1 _) F0 (by rw[B0 rfl,GY];exact h1);rw[B0 (by simpa using h48),QZ,gP,show(48:Int)=((48:Nat):Int)from rfl,hu,Aa];simp only;rw[B! B6,Ef,Q1 (x:=UInt64.ofNat v.toNat) (p:=p) (m:=m+48) (n:=32) F0 (by rw[dT F0,hval]),show(32:Int)=((32:Nat):Int)from rfl,show m+min (48+1) 48=m+48 by omega,put_eq p (m+48) 32 F0 F0,Aa,CR,HR,Sg,I!]
 ·rw[B! h48]at h⊢;generalize hq:v.toNat/2^l=q at*
  obtain⟨h1,h2⟩:=h.cat;rw[HR]at h2;obtain⟨h3,h4⟩:=h2.cons;have hval:=OU p l (m+q+1) (v.toNat %2^l) h4;rw[Y4]at hval;have hqa:At p m (List.replicate q true++[false]):=by
   have:List.replicate q true++(false::oD (v.toNat %2^l) l)=(List.replicate q true++[false])++oD (v.toNat %2^l) l:=by simp
   rw[this]at h;exact h.left
  have hu:=xP (p:=p) (m:=m) (q:=q) F0 F0 (by rw[B! F0];exact hqa);have hgq:(Ae (Cn v l):Int)=(q:Int):=by rw[Bku,RT,hq]
  have hrest:(Ae (Fb v (Ap (Dy (1:UInt32) l) 1)):UInt64)=Rq p (m+q+1) l:=by
   apply Q1 F0;have e1:(Dy (1:UInt32) l).toNat=2^l:=by rw[qH];show 1*2^l %_=_;rw[IX];exact D0 F0
   have e2:(Ap (Dy (1:UInt32) l) (1:UInt32)).toNat=2^l-1:=by
    rw[D',t? _ _ (by rw[tA,e1];exact hpos),e1];rfl
   have e3:(Fb v (Ap (Dy (1:UInt32) l) 1)).toNat=v.toNat %2^l:=by
    rw[a_,kG,e2,WQ]
   rw[Ef,dT (by rw[e3];have:=I7 v.toNat hpos;omega),e3,hval]
  rw[B! (by simpa using h48),QZ,gP,hz,hgq,hu,Aa];simp only;rw[B! B6,hrest,show m+min (q+1) 48=m+q+1 by omega,put_eq p (m+q+1) l F0 F0,Aa,CR,HR,G2,Sg,show m+q+1+l=m+(q+(l+1)) by omega]
theorem Aww{k l:Nat}{s t:UInt64}(h:okD k l s t)(v:UInt32):lX [] 0 (k:Int) (l:Int) s t v=
  some (Nh (Rs k l v),((Rs k l v).length:Int),((kS k (Zv s (sj v)):Nat):Int),((lK l t k v:Nat):Int),Zv s (sj v),lT t k v,0):=by
 obtain⟨h1,h2,h3,h4⟩:=h;have hvl:=v.toNat_lt;have hAt:At (Nh (Rs k l v)) 0 (Rs k l v):=λi hi=>by rw[HL,HK]
 have hlen:=iB v h1 h2;have hfull:Sn (Nh (Rs k l v)) 0 (Rs k l v).length=Nh (Rs k l v):=by
  apply Af0 (by rw[Km,Uy]);intro i hi;rw[D8,HL,HK];by_cases hlt:i<(Rs k l v).length
  ·rw[B0 hlt]
  ·rw[B! hlt,eT F0]
 generalize hP:Nh (Rs k l v)=P at*
 have h0:Sn P 0 0=[]:=rfl;have Bh8:∀(x:Int) (y:UInt64) (aj ai:Int),EA v (k:Int) s ai P x y=some (P,ai,((kS k (Zv s (sj v)):Nat):Int),x,Zv s (sj v),y,0):=by
  intro x y aj ai;rw[EA,fK,Ef,hU,iX k h1];rw[gI,fZ,cF,MU,Ef,hU];rfl
 have hp7:∀ai:Int,QY v (k:Int) (l:Int) s t 0 ai P=some (P,ai,((kS k (Zv s (sj v)):Nat):Int),((lK l t k v:Nat):Int),Zv s (sj v),lT t k v,0):=by
  intro ai;rw[QY,fF,B! B6,Q_ k l s t h1,Aa];by_cases hv:v.toNat<2^k
  ·rw[B0 hv];simp only;rw[B! SL,Bh8 _ _ 0,lK,B0 hv,lT,B0 hv]
  ·rw[B! hv];simp only;rw[B0 NG,Ef,hU,iX l h2 _ (λx=>EA v (k:Int) s ai P x (Zv t (UInt64.ofNat (oN k v).toNat))),Bh8 _ _ 0,lK,B! hv,lT,B! hv];rfl
 rw[lX,gR,show Le [] 0=some 0 from rfl,Aa,B! B6,As2 ⟨h1,h2,h3,h4⟩,Aa,B! B6,fM,gK,Q_ k l s t h1,Aa];have hput:=put_eq P 0 1 F0 F0;rw[h0,HL,show((0:Nat):Int)=0 from rfl,show((1:Nat):Int)=1 from rfl]at hput;by_cases hv:v.toNat<2^k
 ·have hc:Rs k l v=false::oD v.toNat k:=by rw[Rs,B0 hv]
  rw[hc]at hAt hfull;obtain⟨b0,b1⟩:=hAt.cons;have hval:=OU P k 1 v.toNat b1;rw[D0 hv]at hval;have hz:(Ae (0:Int):UInt64)=Rq P 0 1:=Q1 F0 (by rw[J1,b0];rfl);rw[B0 hv];simp only;rw[hz,hput,Aa];simp only;rw[B0 B6,Ef,Q1 (x:=UInt64.ofNat v.toNat) (p:=P) (m:=1) (n:=k) F0 (by rw[dT F0,hval]),show(1:Int)=((1:Nat):Int)from rfl,put_eq P 1 k F0 F0,Aa];simp only;rw[G2,Sg,N! k 1]at hfull;rw[hfull,hp7,hc,G2,Sg,N! k 1]
 ·have hc:Rs k l v=true::ZJ l (v.toNat-2^k):=by rw[Rs,B! hv]
  rw[hc]at hAt hfull;obtain⟨b0,b1⟩:=hAt.cons;have hsub:=Nat.sub_le v.toNat (2^k);have hlv:(oN k v).toNat=v.toNat-2^k:=by rw[oN,dP F0]
  have hz:(Ae (1:Int):UInt64)=Rq P 0 1:=Q1 F0 (by rw[J1,b0];rfl);have hr:=Auh (p:=P) (m:=1) (l:=l) (v:=oN k v) h2 F0 (by rw[hlv];exact b1);rw[hlv,show((1:Nat):Int)=1 from rfl]at hr;rw[B! hv];simp only;rw[hz,hput,Aa];simp only;rw[B! B6,B0 B6,hr,Aa];simp only;rw[G2,N! _ 1]at hfull;rw[hfull,hp7,hc,G2,N! _ 1]
end Go.Pl
