/- A part of a proof (see the text that ends in Proof). No conditions. -/
import Derived.Test.YtehlnpncgkmoaaaGreatDoorMcPA
import Derived.KernelRfl
set_option linter.unusedVariables false
set_option linter.unusedSimpArgs false
namespace Go.Lv
variable{a b:Int}{l:List UInt8}{n:Nat}{α:Type}
theorem Ag(h: -9223372036854775808<=a+b:=by omega)(h':a+b<=9223372036854775807:=by omega):Ad a b=a+b:=by rw[Auu,Cj h h']
theorem Ca(h: -9223372036854775808<=a-b:=by omega)(h':a-b<=9223372036854775807:=by omega):Ah a b=a-b:=by rw[Au6,Cj h h']
theorem Fj(h: -9223372036854775808<=a*b:=by omega)(h':a*b<=9223372036854775807:=by omega):Az a b=a*b:=by rw[Ala,Cj h h']
theorem VI(c:UInt8):(Ae c:Int)=(c.toNat:Int):=by rw[Am2,Cj]<;>have:=c.toNat_lt<;>omega
theorem zF(c:UInt32):(Ae c:Int)=(c.toNat:Int):=by rw[Ajf,Cj]<;>have:=c.toNat_lt<;>omega
theorem nL(c:UInt8):(Ae c:UInt64)=UInt64.ofNat c.toNat:=by simp only[Ae,ED,Gn]
theorem Cx(c:UInt32):(Ae c:UInt64)=UInt64.ofNat c.toNat:=by simp only[Ae,Ui,Gn]
theorem PU(c:UInt64):(Ae c:UInt8)=UInt8.ofNat c.toNat:=by simp only[Ae,Ia,Lf]
theorem nU(c:UInt32):(Ae c:UInt8)=UInt8.ofNat c.toNat:=by simp only[Ae,Ui,Lf]
theorem Us(n:Nat):(Ae (n:Int):UInt64)=UInt64.ofNat n:=by simp only[Ae];exact Gn n
theorem X8(n:Nat):(Ae (n:Int):UInt32)=UInt32.ofNat n:=by simp only[Ae];exact Ed n
theorem Amk(n:Nat):(Ae (n:Int):UInt8)=UInt8.ofNat n:=by simp only[Ae];exact Lf n
theorem Y6{c:UInt64}(h:c.toNat<9223372036854775808):(Ae c:Int)=(c.toNat:Int):=by rw[Ai9,Cj]<;>omega
theorem Ag8:xk=17179869184:=F5
theorem Ao:36893488147419103231<Ap:=F5
theorem Cr{l:List α}(h:n<l.length:=by omega):Aj l (n:Int)=some l[n]:=by simp[Aj,h]
theorem To{l:List α}(x:α)(h:n<l.length):Jm l (n:Int) x=some (l.set n x):=by simp[Jm,h]
theorem TL{l:List α}(h:0<=a:=by omega)(h1:a<=b:=by omega)(h2:b<=l.length:=by omega):Bg l a b=some ((l.take b.toNat).drop a.toNat):=by rw[Bg,Acu ⟨h,h1,h2⟩]
theorem AM{l:List α}(h:0<=a:=by omega)(h1:a<=l.length:=by omega):Bg l a (Ac l)=some (l.drop a.toNat):=by
 unfold Ac;rw[TL h h1 (Int.le_refl _),Ak3,Ay7]
theorem Qa{l:List α}(h:0<=b:=by omega)(h1:b<=l.length:=by omega):Bg l 0 b=some (l.take b.toNat):=by rw[TL (Int.le_refl _) h h1];rfl
theorem By{l m:List α}(h:l.length+m.length<=17179869184:=by omega):Cm l m=some (l++m):=by rw[Cm,Ag8,Acu h]
theorem M4{n:Int}{z:α}(h:0<=n:=by omega)(h':n<=17179869184:=by omega):mkI n z=some (List.replicate n.toNat z):=by rw[mkI,Ag8,Acu ⟨h,h'⟩]
theorem Bq{b:Bool}(h:b=true):Gu b=some ():=by rw[h];rfl
theorem Aa{β:Type}(a:α)(f:α->Option β):Option.bind (some a) f=f a:=rfl
theorem drop_cons{l:List α}(h:n<l.length):l.drop n=l[n]::l.drop (n+1):=List.drop_eq_getElem_cons h
theorem Mf{l:List α}(h:n<l.length):l.take (n+1)=l.take n++[l[n]]:=by rw[List.take_add_one,List.getElem?_eq_getElem h];rfl
def Hx:List UInt8->Nat
 |[]=>0
 |x::r=>x.toNat+256*Hx r
theorem sw:∀l:List UInt8,Hx l<256^l.length
 |[]=>by simp[Hx]
 |x::r=>by
  have h:=sw r;have:=x.toNat_lt;simp only[Hx,Am6,Atx];omega
theorem D5:∀l m:List UInt8,Hx (l++m)=Hx l+256^l.length*Hx m
 |[],m=>by simp[Hx]
 |x::r,m=>by
  simp only[Hx,Azi,D5 r m,Am6,Atx,Nat.mul_add];rw[Ak8 (256^r.length) 256,At1];omega
def sL(l:List UInt8):UInt64:=UInt64.ofNat (Hx l)
theorem Apt(h:l.length<=8):Hx l<18446744073709551616:=by
 have h1:=sw l;have h2:256^l.length<=256^8:=Ae8 F0 h;exact Ak1 h1 (by simpa using h2)
theorem Aso(h:l.length<=4):Hx l<4294967296:=by
 have h1:=sw l;have h2:256^l.length<=256^4:=Ae8 F0 h;exact Ak1 h1 (by simpa using h2)
theorem aK(h:l.length<=8):(sL l).toNat=Hx l:=by
 rw[sL,Aii,Adk (Apt h)]
theorem ZU(h:l.length<=4):(Ae (sL l):Int)=(Hx l:Int):=by
 have:=Aso h;rw[Y6]<;>rw[aK F0];omega
def Wu(n:Nat):Nat->List UInt8
 |0=>[]
 |w+1=>UInt8.ofNat n::Wu (n/256) w
theorem Di:∀(w n:Nat),(Wu n w).length=w
 |0,_=>rfl
 |w+1,n=>by simp[Wu,Di w]
theorem Aaq:∀(w n:Nat),Wu n (w+1)=Wu n w++[UInt8.ofNat (n/256^w)]
 |0,n=>by simp[Wu]
 |w+1,n=>by
  rw[Wu,Aaq w (n/256),Wu];simp[Ay2,Atx,Ak8]
def Fo(p:List UInt8)(i:Nat):Nat:=(p.getD (i/8) 0).toNat/2^(i %8) %2
theorem Wx(p:List UInt8)(i:Nat):Fo p i<2:=Axq _ F0
def Bo(p:List UInt8):Nat->Nat->Nat
 |_,0=>0
 |a,n+1=>Fo p a+2*Bo p (a+1) n
theorem Lt(p:List UInt8):∀(n a:Nat),Bo p a n<2^n
 |0,_=>by simp[Bo]
 |n+1,a=>by
  have:=Lt p n (a+1);have:=Wx p a;rw[Bo,Atx];omega
theorem IM(p:List UInt8):∀(m n a:Nat),Bo p a (m+n)=Bo p a m+2^m*Bo p (a+m) n
 |0,n,a=>by simp[Bo]
 |m+1,n,a=>by
  rw[show m+1+n=(m+n)+1 by omega,Bo,Bo,IM p m n (a+1),show a+1+m=a+(m+1) by omega,Atx,Nat.mul_add,Ak8 (2^m) 2,At1];omega
theorem qF(p:List UInt8)(a:Nat):Bo p a 1=Fo p a:=by simp[Bo]
theorem jL(p:List UInt8)(a n:Nat):Bo p a (n+1)=Bo p a n+2^n*Fo p (a+n):=by rw[IM p n 1 a,qF]
theorem WO(p:List UInt8)(a:Nat):∀t:Nat,a %8+t<=8->Bo p a t=(p.getD (a/8) 0).toNat/2^(a %8) %2^t
 |0,_=>by simp[Bo,Nat.mod_one]
 |t+1,h=>by
  have h1:(a+t)/8=a/8:=F0
  have h2:(a+t) %8=a %8+t:=F0
  rw[jL,WO p a t F0,Fo,h1,h2,Nat.mod_pow_succ,Ba6,Ay2]
theorem S9{p:List UInt8}:∀(n a:Nat),(∀k,k<n->Fo p (a+k)=0)->Bo p a n=0
 |0,_,_=>rfl
 |n+1,a,h=>by
  have h0:=h 0 F0;rw[Bo,S9 n (a+1) λk hk=>by have:=h (k+1) F0;rwa [show a+1+k=a+(k+1) by omega]];rw[Ayq]at h0;omega
def okB(p:List UInt8)(n:Nat):Prop:=n<=330000/\p.length=(n+7)/8/\∀k,n<=k->k<8*p.length->Fo p k=0
def Mv(p:List UInt8)(a n:Nat):List UInt8:=(List.range ((n+7)/8)).map λj=>UInt8.ofNat (Bo p (a+8*j) (min 8 (n-8*j)))
theorem Hc(p:List UInt8)(a n:Nat):(Mv p a n).length=(n+7)/8:=by simp[Mv]
theorem Aan(p:List UInt8):∀(n a k:Nat),k<n->Bo p a n/2^k %2=Fo p (a+k)
 |n+1,a,0,_=>by have:=Wx p a;rw[Bo];simp;omega
 |n+1,a,k+1,h=>by
  have hb:=Wx p a;have e:(Fo p a+2*Bo p (a+1) n)/2=Bo p (a+1) n:=F0
  rw[Bo,Atx,Ak8 (2^k) 2,<-Ay2,e,Aan p n (a+1) k F0,show a+1+k=a+(k+1) by omega]
theorem Ajg(p:List UInt8)(n a k:Nat)(h:n<=k):Bo p a n/2^k %2=0:=by
 have:=Lt p n a;rw[Ayd (Ak1 this (Ae8 F0 h))]
theorem zP(p:List UInt8)(a n k:Nat):Fo (Mv p a n) k=if k<n then Fo p (a+k)else 0:=by
 rw[Fo];by_cases hj:k/8<(n+7)/8
 ·have e:(Mv p a n).getD (k/8) 0=UInt8.ofNat (Bo p (a+8*(k/8)) (min 8 (n-8*(k/8)))):=by
   rw[List.getD_eq_getElem?_getD,List.getElem?_eq_getElem (by rw[Hc];exact hj)];simp[Mv]
  have hlt:Bo p (a+8*(k/8)) (min 8 (n-8*(k/8)))<256:=by
   have:=Lt p (min 8 (n-8*(k/8))) (a+8*(k/8));have h2:2^(min 8 (n-8*(k/8)))<=2^8:=Ae8 F0 F0;omega
  have hu:(UInt8.ofNat (Bo p (a+8*(k/8)) (min 8 (n-8*(k/8))))).toNat=Bo p (a+8*(k/8)) (min 8 (n-8*(k/8))):=by
   rw[Ak7];exact Adk hlt
  rw[e,hu];by_cases hk:k<n
  ·rw[Acu hk,Aan p _ _ _ F0,show a+8*(k/8)+k %8=a+k by omega]
  ·rw[Abw hk,Ajg p _ _ _ F0]
 ·have e:(Mv p a n).getD (k/8) 0=0:=by
   rw[List.getD_eq_getElem?_getD,List.getElem?_eq_none (by rw[Hc];omega)];rfl
  rw[e,Abw F0];simp
theorem pP(p:List UInt8)(a n:Nat)(h:n<=330000):okB (Mv p a n) n:=⟨h,Hc p a n,λk hk _=>by rw[zP,Abw F0]⟩
theorem zf{p q:List UInt8}(hl:p.length=q.length)(h:∀k,k<8*p.length->Fo p k=Fo q k):p=q:=by
 apply Awj hl;intro i h1 h2;have hp:Bo p (8*i) 8=Bo q (8*i) 8:=by
  have key:∀(n a:Nat),a+n<=8*p.length->Bo p a n=Bo q a n:=by
   intro n
   induction n with
   |zero=>intros;rfl
   |succ n ih=>intro a ha;rw[Bo,Bo,h a F0,ih (a+1) F0]
  exact key 8 (8*i) F0
 rw[WO p _ 8 F0,WO q _ 8 F0]at hp;have e1:8*i/8=i:=F0
 have e2:8*i %8=0:=F0
 rw[e1,e2]at hp;have a1:p.getD i 0=p[i]:=by simp[List.getD_eq_getElem?_getD,h1]
 have a2:q.getD i 0=q[i]:=by simp[List.getD_eq_getElem?_getD,h2]
 rw[a1,a2]at hp;apply UInt8.toNat_inj.1;have:=p[i].toNat_lt;have:=q[i].toNat_lt;simp at hp;omega
end Go.Lv
namespace Go.Pl
open Go Go.Lv
variable{p:Prop}
theorem F3(h:p:=by rw[Af,Ac];simp;omega):p:=h
theorem F7(h:p:=by rw[Af];simp;omega):p:=h
theorem Bbr(h:p:=by rw[Cz];simp;omega):p:=h
theorem Bbs(h:p:=by rw[Bl];simp;omega):p:=h
theorem Bbu(h:p:=by simp[Af,Ba];omega):p:=h
theorem Bbz(h:p:=by unfold Ac;omega):p:=h
theorem F9(h:p:=by have:=Ao;omega):p:=h
theorem Bbv(h:p:=by rw[Cz];simp):p:=h
theorem Bce(h:p:=by rw[Bl];simp):p:=h
theorem Bb4(h:p:=by rw[Bl];rfl):p:=h
end Go.Pl
namespace Go.Pl
open Go Go.Lv
variable{i:Nat}{p:Prop}
theorem Al2(b:LB)(hb:b.length<4611686018427387904):∀(j q:Nat),j<=b.length->j<q->Lm b q (sL (b.drop j)) ((j:Int)-1)=some (sL b)
 |0,q+1,_,_=>by
  rw[Lm,Zb,Abw Bbv];simp[PF,NY]
 |j+1,q+1,hj,hq=>by
  rw[Lm,Zb,Acu Bbv,show((j+1:Nat):Int)-1=(j:Int) by omega,Cr,Aa,Ca];have h:Ad (Az (256:UInt64) (sL (b.drop (j+1)))) (Ae b[j]:UInt64)=sL (b.drop j):=by
   rw[JH,JC,nL,drop_cons (n:=j) F0,sL,sL,Hx,UInt64.ofNat_add,UInt64.ofNat_mul];exact UInt64.add_comm _ _
  rw[h];exact Al2 b hb j q F0 F0
theorem An5(b:LB)(hb:b.length<4611686018427387904):Da b=some (sL b):=by
 have h:=Al2 b hb b.length Ap (Aqm _) F9;rw[Da,OQ,OS];have e:Ah (Ac b) 1=(b.length:Int)-1:=Ca Bbz Bbz;rw[e,<-h,Azs];rfl
theorem Ant{n c:UInt64}(hn:n.toNat<2^i)(hc:c.toNat*2^i<18446744073709551616):qO n (Ct c i)=UInt64.ofNat (n.toNat+c.toNat*2^i):=by
 rw[As0];apply UInt64.toNat_inj.1;rw[UInt64.toNat_or,QP,Adk hc,Ak8,Nat.or_comm,<-Awl hn,Aii,Adk,Baf,Ak8];have h:=Awl hn c.toNat;have h2:2^i*c.toNat+n.toNat<2^64:=by
  rw[h];exact Nat.or_lt_two_pow (by rw[Ak8];simpa using hc) n.toNat_lt
 rw[Baf];first|exact h2|(rw[Ak8];exact h2)
theorem Y3(b:LB)(hb:b.length<=8):∀(j i q:Nat),i+j=b.length->j<q->Zi b q (sL (b.take i)) (i:Int)=some (sL b,0)
 |0,i,q+1,hi,_=>by
  rw[Zi,SA,Abw F3,show i=b.length by omega,Ay7];rfl
 |j+1,i,q+1,hi,hq=>by
  have hlt:i<b.length:=F0
  rw[Zi,SA,Acu F3,Cr hlt,Aa,Fj,Bq Bbr,Aa,Ag];have h:qO (sL (b.take i)) (Ct (Ae b[i]:UInt64) (GI.toZ ((8:Int)*(i:Int))).toNat)=sL (b.take (i+1)):=by
   have e:(GI.toZ ((8:Int)*(i:Int))).toNat=8*i:=by show((8:Int)*(i:Int)).toNat=_;omega
   have e2:(2:Nat)^(8*i)=256^i:=by rw[Nat.pow_mul]
   have h1:=sw (b.take i);rw[Ajc,Awp F0]at h1;have h3:=b[i].toNat_lt;have hle:(256:Nat)^(i+1)<=256^8:=Ae8 F0 F0;rw[Atx]at hle;have h4:(Ae b[i]:UInt64).toNat=b[i].toNat:=by rw[nL,Aii];omega
   have h5:b[i].toNat*256^i<18446744073709551616:=by
    have:b[i].toNat*256^i<256*256^i:=Bar (by simpa using h3) (Ayw F0);simp at hle;omega
   rw[e,Ant (by rw[aK F6,e2];exact h1) (by rw[h4,e2];exact h5),aK F6,h4,e2,Mf hlt];rw[sL,D5];simp only[Hx,Ajc,Awp (Nat.le_of_lt hlt),Nat.mul_zero,Ayq];rw[Ak8]
  rw[h];exact Y3 b hb j (i+1) q F0 F0
theorem Acd(b:LB)(h1:1<=b.length)(h2:b.length<=8):fG b=some (sL b,0):=by
 have h:=Y3 b h2 b.length 0 Ap F0 F9;rw[fG,iX,Abw (by simp[Af,Ba,Ac];omega),wT];exact h
def part(b:LB)(at' w:Nat):LB:=(b.take (at'+w)).drop at'
theorem Hf{b:LB}{a w:Nat}(h:a+w<=b.length:=by omega):(part b a w).length=w:=by simp[part];omega
theorem Atg(b:LB)(a w:Nat)(h1:1<=w)(h2:w<=8)(h3:a+w<=b.length)(hb:b.length<4611686018427387904):iC b (a:Int) (w:Int)=some (sL (part b a w),0):=by
 rw[iC,Abw Bbu,Abw (by rw[Ba,Ca Bbz Bbz,Ac];simp;omega),Ag,TL,Aa];rw[show((a:Int)+(w:Int)).toNat=a+w by omega,show(a:Int).toNat=a by omega];rw[Acd _ (by rw[show((b.take (a+w)).drop a).length=_ from Hf h3];exact h1) (by rw[show((b.take (a+w)).drop a).length=_ from Hf h3];exact h2),Aa];rfl
theorem vP(w:Nat)(hw:w<=1000):∀(j i q:Nat) (n:UInt64) (acc:LB),i+j=w->j<q->acc.length+j<=1000000->Gk (w:Int) q n (i:Int) acc=some (acc++Wu n.toNat j)
 |0,i,q+1,n,acc,hi,_,_=>by
  rw[Gk,Pa,Abw F7];simp[Zg,Zu,Wu]
 |j+1,i,q+1,n,acc,hi,hq,ha=>by
  rw[Gk,Pa,Acu F7];have e:(Ae (AN n (256:UInt64)):UInt8)=UInt8.ofNat n.toNat:=by
   rw[PU,zy];apply UInt8.toNat_inj.1;rw[Ak7,Ak7,UInt64.toNat_mod]
   show n.toNat %256 %256=_;omega
  have e2:(Bf n (256:UInt64)).toNat=n.toNat/256:=by rw[rK,Ba9];rfl
  rw[By F6,Aa,Ag,e];have h:=vP w hw j (i+1) q (Bf n 256) (acc++[UInt8.ofNat n.toNat]) F0 F0 F6;rw[e2]at h;rw[show((i:Int)+1)=((i+1:Nat):Int) by omega,h,Wu];simp
theorem Aeq(n:UInt64)(w:Nat)(hw:w<=1000):Ds n (w:Int)=some (Wu n.toNat w):=by
 rw[Ds,AB,Zs];have h:=vP w hw w 0 Ap n [] F0 F9 F6;simpa using h
theorem oU{α:Type}{l m:List α}{x y:α}(h:l.length=i):(l++x::m).set i y=l++y::m:=by subst h;simp
theorem R8(n:UInt64)(l4:LB)(w:Nat)(hl:l4.length=w)(hw:w<=8):∀(j i q:Nat),i+j=w->j<q->AF n l4 q (i:Int) (Wu n.toNat i++List.replicate j 0)=some (Wu n.toNat w,0)
 |0,i,q+1,hi,_=>by
  rw[AF,RW,Abw F3];obtain rfl:i=w:=F0
  simp[eE,wO]
 |j+1,i,q+1,hi,hq=>by
  have hlen:(Wu n.toNat i++List.replicate (j+1) 0).length=i+(j+1):=by simp[Di]
  rw[AF,RW,Acu F3,Fj,Bq Bbr,Aa,Cr (by rw[hlen];omega),Aa,To _ (by rw[hlen];omega),Aa,Ag];have e:(Ae (Bv n (GI.toZ ((8:Int)*(i:Int))).toNat):UInt8)=UInt8.ofNat (n.toNat/256^i):=by
   have e:(GI.toZ ((8:Int)*(i:Int))).toNat=8*i:=by show((8:Int)*(i:Int)).toNat=_;omega
   rw[e,PU,DV,Nat.pow_mul]
  rw[e,Axr,oU (Di _ _)];have h:=R8 n l4 w hl hw j (i+1) q F0 F0;rw[Aaq]at h;simpa using h
theorem As8(n:UInt64)(w:Nat)(h1:1<=w)(h2:w<=8)(h:n.toNat<256^w):yY n (w:Int)=some true:=by
 rw[yY];by_cases h8:w=8
 ·subst h8;rw[Acu Bb4]
 ·rw[Abw Bbs,Fj,Bq Bbr,Aa];have e:(GI.toZ ((8:Int)*(w:Int))).toNat=8*w:=by show((8:Int)*(w:Int)).toNat=_;omega
  rw[e,yN];have:Bv n (8*w)=0:=by
   apply UInt64.toNat_inj.1;rw[DV,Nat.pow_mul];exact Ayd h
  rw[this];rfl
theorem PT(n:UInt64)(w:Nat)(h1:1<=w)(h2:w<=8)(h:n.toNat<256^w):Wm n (w:Int)=some (Wu n.toNat w,0):=by
 rw[Wm,gC,Abw Bbu,As8 n w h1 h2 h,Aa,Abw Bbn,M4,Aa,Bq Bce,Aa,wP];have h:=R8 n (List.replicate (w:Int).toNat 0) w Bbn h2 w 0 Ap F0 F9;simpa [Wu]using h
theorem Bbp(h:p:=by rw[Ba];simp;omega):p:=h
theorem Bbo(h:p:=by rw[Ay];simp):p:=h
end Go.Pl
namespace Go.Pl
open Go Go.Lv
variable{p:LB}
theorem wM(n:Nat)(h:n<4611686018427387904):Dr (n:Int) (7:Int)=((n %8:Nat):Int):=by
 have e:Dr (n:Int) (7:Int)=wrap64 ((BitVec.ofInt 64 (n:Int)&&&BitVec.ofInt 64 7).toNat:Int):=rfl;rw[e,BitVec.toNat_and,Ayx,Ayx];have h1:((n:Int) %((2^64:Nat):Int)).toNat=n:=F0
 have h2:((7:Int) %((2^64:Nat):Int)).toNat=2^3-1:=F5
 rw[h1,h2,Ayy,Cj F0 F0]
theorem Aww(n:Nat):qg (n:Int) (GI.toZ (3:UInt64)).toNat=((n/8:Nat):Int):=by
 have e:qg (n:Int) (GI.toZ (3:UInt64)).toNat=(n:Int).fdiv 8:=rfl;rw[e,Apm _ F0];omega
theorem Ax1{t:Nat}(h:t<=8):Ah (Ct (1:UInt8) t) (1:UInt8)=UInt8.ofNat (2^t-1):=by
 have:t=0\/t=1\/t=2\/t=3\/t=4\/t=5\/t=6\/t=7\/t=8:=F0
 rcases this with rfl|rfl|rfl|rfl|rfl|rfl|rfl|rfl|rfl<;>decide
theorem bitsOf(c:UInt8)(off t:Nat)(h:t<=8):(Dr (Bv c off) (Ah (Ct (1:UInt8) t) (1:UInt8))).toNat=c.toNat/2^off %2^t:=by
 have hp:2^t<=2^8:=Ae8 F0 h;rw[Ax1 h,Af2,UInt8.toNat_and,ug,Ak7,Adk (by have:=Ayw (n:=t) (show 0<2 by omega);omega),Ayy]
theorem J8{k:Nat}(h:k<p.length):Aj p (k:Int)=some (p.getD k 0):=by
 rw[Cr h];simp[List.getD_eq_getElem?_getD,h]
def Ly(p:LB)(a n:Nat):UInt64:=UInt64.ofNat (Bo p a n)
theorem Tv(p:LB)(a n:Nat)(h:n<=64):(Ly p a n).toNat=Bo p a n:=by
 have h1:=Lt p n a;have h2:2^n<=2^64:=Ae8 F0 h;rw[Ly,Aii,Adk F0]
theorem Aa5(p:LB)(N:Int)(a n:Nat)(hn:n<=64)(ha:a+n<=8*p.length)(hp:p.length<=1000000):∀(j h q:Nat),h+j=n->j<q->IU (a:Int) (n:Int) p N q (Ly p a h) (h:Int)=some (Ly p a n)
 |j,h,q+1,hj,hq=>by
  rw[IU,gJ];by_cases hlt:h<n
  ·have e1:Ad (a:Int) (h:Int)=((a+h:Nat):Int):=by rw[Ag];omega
   have e2:Dt (Ah (n:Int) (h:Int)) (Ah (8:Int) (((a+h) %8:Nat):Int))=((min (n-h) (8-(a+h) %8):Nat):Int):=by
    rw[Yd,Ca,Ca];omega
   have hm:(a+h)/8<p.length:=F0
   rw[Acu F7,e1,Aww,J8 hm,Aa,wM _ F0,Bq Bbr,Aa,e2,Bq Bbv,Aa,Bq Bbv,Aa];generalize hT:min (n-h) (8-(a+h) %8)=T;have hT8:T<=8:=F0
   have hT1:1<=T:=F0
   have hb:(a+h) %8+T<=8:=F0
   have hv:=WO p (a+h) T hb;have z1:(GI.toZ (((a+h) %8:Nat):Int)).toNat=(a+h) %8:=rfl;have z2:(GI.toZ ((T:Nat):Int)).toNat=T:=rfl;have z3:(GI.toZ ((h:Nat):Int)).toNat=h:=rfl;rw[z1,z2,z3];have hx:(Ae (Dr (Bv (p.getD ((a+h)/8) 0) ((a+h) %8)) (Ah (Ct (1:UInt8) T) (1:UInt8))):UInt64).toNat=Bo p (a+h) T:=by
    rw[nL,Aii,bitsOf _ _ _ hT8,<-hv];have:=Lt p T (a+h);have h2:2^T<=2^8:=Ae8 F0 hT8;omega
   have hlt2:=Lt p (h+T) a;rw[IM]at hlt2;have h64:2^(h+T)<=2^64:=Ae8 F0 F0;have hor:qO (Ly p a h) (Ct (Ae (Dr (Bv (p.getD ((a+h)/8) 0) ((a+h) %8)) (Ah (Ct (1:UInt8) T) (1:UInt8))):UInt64) h)=Ly p a (h+T):=by
    rw[Ant (by rw[Tv p a h F0];exact Lt p h a) (by rw[hx,Ak8];omega),hx,Tv p a h F0,Ly,IM,Ak8 (2^h)]
   rw[hor,Ag,show(h:Int)+((T:Nat):Int)=((h+T:Nat):Int) by omega];exact Aa5 p N a n hn ha hp (j-T) (h+T) q F0 F0
  ·rw[Abw F7,show h=n by omega];rfl
theorem get_eq(p:LB)(N:Int)(a n:Nat)(hn:n<=64)(ha:a+n<=8*p.length)(hp:p.length<=1000000):rJ p N (a:Int) (n:Int)=some (Ly p a n):=by
 have:=Aa5 p N a n hn ha hp n 0 Ap F0 F9;exact this
theorem Uj{n:Nat}(h:okB p n):Hp p (n:Int)=some 0:=by
 obtain⟨h1,h2,h3⟩:=h;have e7:Ad (n:Int) 7=((n+7:Nat):Int):=by rw[Ag];omega
 rw[Hp,e7,Aww,Abw (by simp[Af,Ba,Ay,Ac,h2];omega),wM _ F0];by_cases hz:n %8=0
 ·rw[Abw Bbp]
 ·have el:Ah (Ac p) 1=((p.length-1:Nat):Int):=by rw[Ac,Ca];omega
  rw[Acu Bbp,el,J8 F0,Aa,Bq Bbr,Aa];have z:(GI.toZ ((n %8:Nat):Int)).toNat=n %8:=rfl;have hs:Bv (p.getD (p.length-1) 0) (n %8)=0:=by
   apply UInt8.toNat_inj.1;rw[ug];have hv:=WO p n (8-n %8) F0;have h0:Bo p n (8-n %8)=0:=S9 _ _ λk hk=>h3 _ F0 F0;rw[h0,show n/8=p.length-1 by omega]at hv;have hlt:(p.getD (p.length-1) 0).toNat/2^(n %8)<2^(8-n %8):=by
    have:=(p.getD (p.length-1) 0).toNat_lt;rw[Nat.div_lt_iff_lt_mul (Ayw F0),<-Ba6,show 8-n %8+n %8=8 by omega];simpa using this
   rw[Adk hlt]at hv;exact hv.symm
  rw[z,hs,Abw (by rw[Anz];simp)]
theorem vC{N:Nat}(h:okB p N)(a n:Nat)(hn:n<=64):DA p (N:Int) (a:Int) (n:Int)=some (if N<a+n then(0,24)else(Ly p a n,0)):=by
 obtain⟨h1,h2,h3⟩:=h;rw[DA,Uj ⟨h1,h2,h3⟩,Aa,Abw Bbo,Abw Bbu,Ca];by_cases hl:N<a+n
 ·rw[Acu Bbp,Acu hl]
 ·rw[Abw Bbp,get_eq p N a n hn F0 F0,Aa,Abw hl]
theorem Bcf{p:Prop}(h:p:=by rw[Hc];simp;omega):p:=h
theorem Bcg{p:Prop}(h:p:=by rw[Ak8];omega):p:=h
end Go.Pl
namespace Go.Pl
open Go Go.Lv
theorem Ay5(c:Nat)(h:c<4611686018427387904):Bf (c:Int) (2:Int)=((c/2:Nat):Int):=by
 rw[KJ,Awn F0,Cj F0 F0];omega
theorem Awx(c:Nat)(h:c<4611686018427387904):Bf (c:Int) (8:Int)=((c/8:Nat):Int):=by
 rw[KJ,Awn F0,Cj F0 F0];omega
theorem Alq(c:Nat):Fi (c:Int) (8:Int)=((c %8:Nat):Int):=by rw[Fi,Az2 F0];omega
theorem Azh(c:Nat):Fi (c:Int) (2:Int)=((c %2:Nat):Int):=by rw[Fi,Az2 F0];omega
theorem Agx(i c:Nat)(hc:c<256):∀(j k q:Nat),k+j=i %8->j<q->Lp (i:Int) q ((c/2^k:Nat):Int) (k:Int)=some (((c/2^(i %8) %2:Nat):Int))
 |0,k,q+1,hk,_=>by
  rw[Lp,Yp,Alq,Abw F7,QR,QC,Azh,show k=i %8 by omega]
 |j+1,k,q+1,hk,hq=>by
  have hle:c/2^k<=c:=Atp _ _;rw[Lp,Yp,Alq,Acu F7,Ay5 _ F0,Ag,Ay2,<-Atx];exact Agx i c hc j (k+1) q F0 F0
theorem tB(p:LB)(N:Int)(i:Nat)(h:i/8<p.length)(hi:i<4611686018427387904):Ju p N (i:Int)=some ((Fo p i:Nat):Int):=by
 have hc:=(p.getD (i/8) 0).toNat_lt;have:=Agx i (p.getD (i/8) 0).toNat (by simpa using hc) (i %8) 0 Ap F0 F9;rw[Ju,QF,Awx _ hi,J8 h,Aa,VI,QD];simpa [Fo]using this
theorem H7(p:LB)(N:Int)(a n:Nat)(ha:a+n<=8*p.length)(hp:p.length<=1000000):∀(j q:Nat),j<=n->j<q->Ie (a:Int) p N q (Ly p (a+j) (n-j)) ((j:Int)-1)=some (Ly p a n)
 |0,q+1,_,_=>by
  rw[Ie,Rq,Abw Bbv];rfl
 |j+1,q+1,hj,hq=>by
  have hb:=Wx p (a+j);rw[Ie,Rq,show((j+1:Nat):Int)-1=(j:Int) by omega,Acu Bbv,Ag (a:=(a:Int)) F0 F0,show(a:Int)+(j:Int)=((a+j:Nat):Int) by omega,tB p N (a+j) F0 F0,Aa,Ca];have e:Ad (Az (2:UInt64) (Ly p (a+(j+1)) (n-(j+1)))) (Ae ((Fo p (a+j):Nat):Int):UInt64)=Ly p (a+j) (n-j):=by
   rw[JH,JC,Us,Ly,Ly,show n-j=(n-(j+1))+1 by omega,Bo,show a+j+1=a+(j+1) by omega,UInt64.ofNat_add,UInt64.ofNat_mul];exact UInt64.add_comm _ _
  rw[e];exact H7 p N a n ha hp j q F0 F0
theorem mT(p:LB)(N:Int)(a n:Nat)(ha:a+n<=8*p.length)(hp:p.length<=1000000):Qg p N (a:Int) (n:Int)=some (Ly p a n):=by
 have:=H7 p N a n ha hp n Ap (Aqm _) F9;have hz:Ly p (a+n) (n-n)=0:=by rw[Nat.sub_self];rfl
 rw[hz]at this;rw[Qg,EZ,ER,Ca];exact this
theorem Ahu(bit:Int)(N:Nat)(l:LB):∀(j k q:Nat),k+j=N %8->j<q->Km bit (N:Int) l q ((2^k:Nat):Int) (k:Int)=Vl bit ((2^(N %8):Nat):Int) (N:Int) l
 |0,k,q+1,hk,_=>by
  rw[Km,Wk,Alq,Abw F7,show k=N %8 by omega]
 |j+1,k,q+1,hk,hq=>by
  have hp:2^k<=2^8:=Ae8 F0 F0;have e:Az ((2^k:Nat):Int) 2=((2^(k+1):Nat):Int):=by
   rw[Atx];generalize 2^k=K at*
   rw[Fj];omega
  rw[Km,Wk,Alq,Acu F7,e,Ag];exact Ahu bit N l j (k+1) q F0 F0
theorem K4(p:LB)(a n j:Nat)(h:j<(n+7)/8):(Mv p a n)[j]'(by rw[Hc];exact h)=UInt8.ofNat (Bo p (a+8*j) (min 8 (n-8*j))):=by simp[Mv]
theorem sK(p:LB)(a t:Nat)(h:t<=8):Bo p a t<256:=by
 have h1:=Lt p t a;have h2:2^t<=2^8:=Ae8 F0 h;omega
def room(p:LB)(a n:Nat):LB:=if n %8=0 then Mv p a n++[0]else Mv p a n
theorem Lh(p:LB)(a n:Nat):(room p a n).length=n/8+1:=by
 rw[room];split<;>simp[Hc]<;>omega
theorem Acz(p:LB)(a n j:Nat)(h:j<n/8+1):(room p a n)[j]'(by rw[Lh];exact h)=UInt8.ofNat (Bo p (a+8*j) (min 8 (n-8*j))):=by
 have h0:(room p a n)[j]? =some (UInt8.ofNat (Bo p (a+8*j) (min 8 (n-8*j)))):=by
  rw[room];split
  ·by_cases hj:j<(n+7)/8
   ·rw[List.getElem?_append_left (by rw[Hc];exact hj),List.getElem?_eq_getElem (by rw[Hc];exact hj),K4 p a n j hj]
   ·rw[List.getElem?_append_right (by rw[Hc];omega),Hc,show j-(n+7)/8=0 by omega,show n-8*j=0 by omega];rfl
  ·rw[List.getElem?_eq_getElem (by rw[Hc];omega),K4 p a n j F0]
 rw[List.getElem?_eq_getElem (by rw[Lh];exact h)]at h0;exact Bap h0
theorem rS(p:LB)(a n T:Nat)(h1:1<=T)(h:n %8+T<=8):(room p a n).set (n/8) (UInt8.ofNat (Bo p (a+8*(n/8)) (n %8+T)))=Mv p a (n+T):=by
 apply Awj (by rw[Ay3,Lh,Hc];omega);intro j g1 g2;rw[Ay3,Lh]at g1;rw[Bba,K4 p a (n+T) j (by rw[Hc]at g2;exact g2)];split
 ·rename_i e;subst e;rw[show min 8 (n+T-8*(n/8))=n %8+T by omega]
 ·rw[Acz p a n j g1,show min 8 (n-8*j)=8 by omega,show min 8 (n+T-8*j)=8 by omega]
theorem jR(p:LB)(a n:Nat):(room p a n)[n/8]'(by rw[Lh];omega)=UInt8.ofNat (Bo p (a+8*(n/8)) (n %8)):=by
 rw[Acz p a n _ F0,show min 8 (n-8*(n/8))=n %8 by omega]
theorem Alk(p:LB)(a n:Nat)(hn:n<=400000):Uf (Mv p a n) (n:Int) ((Fo p (a+n):Nat):Int)=some (Mv p a (n+1),((n+1:Nat):Int)):=by
 have hb:=Wx p (a+n);have hp:2^(n %8)<=2^7:=Ae8 F0 F0;have hroom:Uf (Mv p a n) (n:Int) ((Fo p (a+n):Nat):Int)=Vr ((Fo p (a+n):Nat):Int) (n:Int) (room p a n):=by
  rw[Uf,LW,Alq,room];by_cases h0:n %8=0
  ·rw[Acu (by rw[Bl,h0];rfl),By Bcf,Aa,Acu h0]
  ·rw[Abw Bbs,Abw h0]
 have hl:=Ahu ((Fo p (a+n):Nat):Int) n (room p a n) (n %8) 0 Ap F0 F9;rw[hroom,Vr,MF,LO];refine Ayp hl ?_;have hg:Aj (room p a n) ((n/8:Nat):Int)=some (UInt8.ofNat (Bo p (a+8*(n/8)) (n %8))):=by
  rw[Cr (by rw[Lh];omega),jR]
 have hlt:=sK p (a+8*(n/8)) (n %8+1) F0;have hsn:=jL p (a+8*(n/8)) (n %8);rw[show a+8*(n/8)+n %8=a+n by omega]at hsn;have hm:Az ((Fo p (a+n):Nat):Int) ((2^(n %8):Nat):Int)=((2^(n %8)*Fo p (a+n):Nat):Int):=by
  have hle:2^(n %8)*Fo p (a+n)<=2^7*1:=Awg hp F0;rw[Ala,<-Ap8,Cj F0 Bcg,Ak8]
 have hx:Ad (UInt8.ofNat (Bo p (a+8*(n/8)) (n %8))) (Ae (((2^(n %8)*Fo p (a+n):Nat):Int)):UInt8)=UInt8.ofNat (Bo p (a+8*(n/8)) (n %8+1)):=by
  rw[Asw,Amk,hsn,UInt8.ofNat_add]
 rw[Vl,LR,Awx _ F0,hg,Aa,Aa,Aa,hm,hx,To _ (by rw[Lh];omega),Aa,rS p a n 1 F0 F0,Ag];rfl
theorem rN(p:LB)(N:Int)(a n:Nat)(ha:a+n<=8*p.length)(hp:p.length<=1000000)(hn:n<=300000):∀(j m q:Nat),m+j=n->j<q->Gm ((a+n:Nat):Int) p N q ((a+m:Nat):Int) (m:Int) (Mv p a m)=some (Mv p a n,(n:Int))
 |0,m,q+1,hm,_=>by
  rw[Gm,Oz,Abw F7,show m=n by omega];rfl
 |j+1,m,q+1,hm,hq=>by
  rw[Gm,Oz,Acu F7,tB p N (a+m) F0 F0,Aa,Alk p a m F0,Aa];simp only;rw[Ag];exact rN p N a n ha hp hn j (m+1) q F0 F0
theorem yx(p:LB)(N:Int)(a n:Nat)(ha:a+n<=8*p.length)(hp:p.length<=1000000)(hn:n<=300000):IZ p N (a:Int) ((a+n:Nat):Int)=some (Mv p a n,(n:Int)):=by
 have:=rN p N a n ha hp hn n 0 Ap F0 F9;exact this
theorem Bb8{p:Prop}(h:p:=by rw[Lh];omega):p:=h
theorem Bb5{p:Prop}(h:p:=by rw[Ba];simp):p:=h
end Go.Pl
namespace Go.Pl
open Go Go.Lv
variable{t:Nat}{p:Prop}
theorem Auf(h:t<=8):Ah (Ct (1:UInt64) t) (1:UInt64)=UInt64.ofNat (2^t-1):=by
 have:t=0\/t=1\/t=2\/t=3\/t=4\/t=5\/t=6\/t=7\/t=8:=F0
 rcases this with rfl|rfl|rfl|rfl|rfl|rfl|rfl|rfl|rfl<;>decide
theorem Axu(v:UInt64)(h:t<=8):(Dr v (Ah (Ct (1:UInt64) t) (1:UInt64))).toNat=v.toNat %2^t:=by
 have hp:2^t<=2^8:=Ae8 F0 h;rw[Auf h,J3,UInt64.toNat_and,Aii,Adk (by have:=Ayw (n:=t) (show 0<2 by omega);omega),Ayy]
theorem or8{v w i:Nat}(hv:v<2^i)(hw:w*2^i<256)(hi:i<8):qO (UInt8.ofNat v) (Ct (UInt8.ofNat w) i)=UInt8.ofNat (v+w*2^i):=by
 have hp:2^i<=2^8:=Ae8 F0 F0;have hpos:0<2^i:=Ayw F0;have hw2:w<256:=Ayl (Azf w hpos) hw;rw[Aup];apply UInt8.toNat_inj.1;have e1:(UInt8.ofNat v).toNat=v:=by rw[Ak7,Adk F0]
 have e2:(UInt8.ofNat w).toNat=w:=by rw[Ak7,Adk F0]
 rw[UInt8.toNat_or,Arf,e1,e2,Adk hw,Ak8 w,Nat.or_comm,<-Awl hv,Ak7,Baf v];rw[Ak8]at hw;have hb:2^i*w+v<256:=by
  rw[Awl hv];exact Nat.or_lt_two_pow (n:=8) hw F0
 rw[Adk hb]
theorem Aa7(p:LB)(a n T:Nat)(h:T<=n)(hn:n<=64):Bv (Ly p a n) T=Ly p (a+T) (n-T):=by
 apply UInt64.toNat_inj.1;rw[DV,Tv p a n hn,Tv p (a+T) (n-T) F0];have:=Lt p T a
 conv=>lhs;rw[show n=T+(n-T) by omega,IM,Nat.add_mul_div_left _ _ (Ayw F0),Ayd this,Axk]
theorem Acq(p:LB)(a n T:Nat)(h:T<=n)(hn:n<=64):(Ly p a n).toNat %2^T=Bo p a T:=by
 have:=Lt p T a;rw[Tv p a n hn]
 conv=>lhs;rw[show n=T+(n-T) by omega,IM,Nat.add_mul_mod_self_left,Adk this]
theorem I5(bk:Int->Int->LB->Option (LB×Int×Int))(to':Int)(p:LB)(N fr:Int)(r6:UInt64)(a:Nat):∀(j m q:Nat),m+j<=300000->j<=64->j<q->
  Mm bk to' p N fr r6 q (Ly p (a+m) j) (j:Int) (m:Int) (Mv p a m)=MP bk to' p N fr ((m+j:Nat):Int) (Mv p a (m+j))
 |0,m,q+1,_,_,_=>by
  rw[Mm,MT,Abw Bb5];rfl
 |j+1,m,q+1,hm,hj,hq=>by
  have hroom:Mm bk to' p N fr r6 (q+1) (Ly p (a+m) (j+1)) ((j+1:Nat):Int) (m:Int) (Mv p a m)=MX (Mm bk to' p N fr r6 q) to' fr p N r6 (Ly p (a+m) (j+1)) ((j+1:Nat):Int) (m:Int) (room p a m):=by
   rw[Mm,MT,Acu Bb5,wM m F0,room];by_cases h0:m %8=0
   ·rw[Acu (by rw[Bl,h0];rfl),By Bcf,Aa,Acu h0]
   ·rw[Abw Bbs,Abw h0]
  have hl:Ah (Ac (room p a m)) 1=((m/8:Nat):Int):=by
   rw[Ac,Lh,Ca];omega
  have e2:Dt ((j+1:Nat):Int) (Ah (8:Int) ((m %8:Nat):Int))=((min (j+1) (8-m %8):Nat):Int):=by
   rw[Yd,Ca];omega
  rw[hroom,MX,sJ,wM m F0,e2,hl];generalize hT:min (j+1) (8-m %8)=T;have hT1:1<=T:=F0
  have hT8:m %8+T<=8:=F0
  have hg:Aj (room p a m) ((m/8:Nat):Int)=some (UInt8.ofNat (Bo p (a+8*(m/8)) (m %8))):=by
   rw[Cr Bb8,jR]
  have z1:(GI.toZ ((m %8:Nat):Int)).toNat=m %8:=rfl;have z2:(GI.toZ ((T:Nat):Int)).toNat=T:=rfl;have hlt:=sK p (a+8*(m/8)) (m %8+T) F0;have hadd:=IM p (m %8) T (a+8*(m/8));rw[show a+8*(m/8)+m %8=a+m by omega]at hadd;have hbyte:(Ae (Dr (Ly p (a+m) (j+1)) (Ah (Ct (1:UInt64) T) (1:UInt64))):UInt8)=UInt8.ofNat (Bo p (a+m) T):=by
   rw[PU,Axu _ F0,Acq p (a+m) (j+1) T F0 hj]
  have hnew:qO (UInt8.ofNat (Bo p (a+8*(m/8)) (m %8))) (Ct (UInt8.ofNat (Bo p (a+m) T)) (m %8))=UInt8.ofNat (Bo p (a+8*(m/8)) (m %8+T)):=by
   rw[or8 (Lt _ _ _) Bcg F0,hadd,Ak8 (2^(m %8))]
  rw[hg,z1,z2,hbyte];simp only[Aa];rw[Bq Bbv,Aa,Bq Bbr,Aa,hnew,To _ Bb8,Aa,rS p a m T hT1 hT8,qW,qE,wM m F0,e2,hT,Bq Bbv,Aa,z2,Aa7 p (a+m) (j+1) T F0 hj,Ca,Ag];have ih:=I5 bk to' p N fr r6 a (j+1-T) (m+T) q F0 F0 F0;rw[show m+T+(j+1-T)=m+(j+1) by omega]at ih;rw[<-ih,show a+m+T=a+(m+T) by omega,show((j+1:Nat):Int)-((T:Nat):Int)=((j+1-T:Nat):Int) by omega,show(m:Int)+((T:Nat):Int)=((m+T:Nat):Int) by omega]
theorem Aa1(p:LB)(N:Int)(a n:Nat)(ha:a+n<=8*p.length)(hp:p.length<=1000000)(hn:n<=300000):∀(j m f q:Nat),(f=m\/n<=f/\m=n)->m+j=n->f<=n+64->j<q->Tz ((a+n:Nat):Int) p N q ((a+f:Nat):Int) (m:Int) (Mv p a m)=some (Mv p a n,(n:Int),0)
 |j,m,f,q+1,hf,hm,hf2,hq=>by
  rw[Tz,ZP];by_cases hlt:f<n
  ·obtain rfl:f=m:=F0
   have e1:Dt (64:Int) (Ah ((a+n:Nat):Int) ((a+f:Nat):Int))=((min 64 (n-f):Nat):Int):=by
    rw[Yd,Ca];omega
   rw[Acu F7,e1,get_eq p N (a+f) _ F0 F0 hp,Aa,ZS];have h1:=I5 (Tz ((a+n:Nat):Int) p N q) ((a+n:Nat):Int) p N ((a+f:Nat):Int) (Ly p (a+f) (min 64 (n-f))) a (min 64 (n-f)) f Ap F0 F0 F9;refine Ayp h1 ?_;rw[MP,qC,Ag,show((a+f:Nat):Int)+64=((a+(f+64):Nat):Int) by omega];exact Aa1 p N a n ha hp hn (j-min 64 (n-f)) (f+min 64 (n-f)) (f+64) q F0 F0 F0 F0
  ·rw[Abw F7,YH,rM,show m=n by omega]
theorem Aut{p:LB}{N:Nat}(h:okB p N)(a n:Nat)(ha:a+n<=N)(hn:n<=300000):gG p (N:Int) (a:Int) ((a+n:Nat):Int)=some (Mv p a n,(n:Int),0):=by
 obtain⟨h1,h2,h3⟩:=h;have:=Aa1 p N a n F0 F0 hn n 0 0 Ap F0 F0 F0 F9;rw[gG,gO,Uj ⟨h1,h2,h3⟩,Aa,Abw Bbo,Abw Bbu,oS];exact this
theorem Bb9(h:p:=by simp[Af];omega):p:=h
theorem Bbw(h:p:=by rw[Af];simp):p:=h
end Go.Pl
namespace Go.Pl
open Go Go.Lv
variable{p:LB}{n N a k l:Nat}{t s:UInt64}
def Fx(p:LB):Nat->Nat->Nat
 |_,0=>0
 |a,m+1=>if Fo p a=1 then 1+Fx p (a+1) m else 0
theorem RU(p:LB):∀(m a:Nat),Fx p a m<=m
 |0,_=>Aqm _
 |m+1,a=>by rw[Fx];split<;>have:=RU p m (a+1)<;>omega
theorem Abi(p:LB):∀(m a:Nat),∃s,Bo p a m+1=2^(Fx p a m+1)*s+2^Fx p a m/\ (Fx p a m=m->s=0)
 |0,a=>⟨0,by simp[Bo,Fx],λ_=>rfl⟩
 |m+1,a=>by
  have hb:=Wx p a;obtain⟨s,h1,h2⟩:=Abi p m (a+1);by_cases h:Fo p a=1
  ·refine⟨s,?_,λe=>h2 ?_⟩
   ·rw[Fx,Acu h,Bo,h,show 1+Fx p (a+1) m+1=(Fx p (a+1) m+1)+1 by omega,show 1+Fx p (a+1) m=Fx p (a+1) m+1 by omega,Atx,Atx (n:=2) (m:=Fx p (a+1) m)];rw[Atx]at h1;generalize Bo p (a+1) m=V at*
    generalize 2^Fx p (a+1) m=W at*
    have e1:W*2*2*s=2*(W*2*s):=by rw[Nat.mul_right_comm (W*2) 2 s,Ak8]
    omega
   ·rw[Fx,Acu h]at e;omega
  ·refine⟨Bo p (a+1) m,?_,λe=>?_⟩
   ·rw[Fx,Abw h,Bo];simp;omega
   ·rw[Fx,Abw h]at e;omega
theorem Ass{t s:Nat}(h:2^(t+1)*s+2^t<=2^n)(ht:t<n)(x:Nat)(hx:x=2^n-(2^(t+1)*s+2^t)):x&&& (2^(t+1)*s+2^t)=2^t:=by
 have hpos:0<2^t:=Ayw F0;have hlt:2^t<2^(t+1):=by rw[Atx];omega
 have e:x=2^n-((2^(t+1)*s+(2^t-1))+1):=by rw[hx];congr 1;omega
 apply Nat.eq_of_testBit_eq;intro i;rw[Nat.testBit_and,e,Nat.testBit_two_pow_sub_succ F0,Nat.testBit_two_pow_mul_add _ F0,Nat.testBit_two_pow_mul_add _ hlt];by_cases hi:i<t+1
 ·rw[Acu hi,Acu hi,Nat.testBit_two_pow_sub_one,Nat.testBit_two_pow];by_cases hit:t=i
  ·subst hit;simp;exact ht
  ·have:¬i=t:=λe=>hit e.symm;simp[hit]
 ·rw[Abw hi,Abw hi,Nat.testBit_two_pow];have:¬t=i:=F0
  simp[this]
theorem Aoi(a:UInt64):(K2 a).toNat=18446744073709551615-a.toNat:=by
 have h:=a.toNat_lt;have e:K2 a=UInt64.ofNat (BitVec.ofInt 64 18446744073709551615^^^BitVec.ofInt 64 (a.toNat:Int)).toNat:=Gn _;have h1:BitVec.ofInt 64 (a.toNat:Int)=a.toBitVec:=qj a;have h2:(BitVec.ofInt 64 18446744073709551615:BitVec 64)=BitVec.allOnes 64:=F5
 rw[e,Aii,h1,h2,BitVec.allOnes_xor,BitVec.toNat_not];show(18446744073709551616-1-a.toNat) %18446744073709551616=18446744073709551615-a.toNat;omega
theorem Ana(a:UInt64):(pL a).toNat=(18446744073709551616-a.toNat) %18446744073709551616:=by
 have h:=a.toNat_lt;have e:pL a=UInt64.ofNat ((0-(a.toNat:Int)) %18446744073709551616).toNat:=ko _;rw[e,Aii];show((0-(a.toNat:Int)) %18446744073709551616).toNat %18446744073709551616=_;omega
def Axs:LB:=[0,1,56,2,57,49,28,3,61,58,42,50,38,29,17,4,62,47,59,36,45,43,51,22,53,39,33,30,24,18,12,5,63,55,48,27,60,41,37,16,46,35,44,21,52,32,23,11,54,26,40,15,34,20,31,10,25,14,19,9,13,8,7,6]
theorem Aip:∀t:Fin 64,Aj Axs (GI.toZ (Bv (Az (UInt64.ofNat (2^t.val)) (285870213051353865:UInt64)) (GI.toZ (58:UInt64)).toNat))=some (UInt8.ofNat t.val):=by decide +kernel
theorem Axb(x:UInt64)(t s:Nat)(ht:t<64)(h:x.toNat+(2^(t+1)*s+2^t)=18446744073709551616):Fm x=some (t:Int):=by
 have hpos:0<2^t:=Ayw F0;have hx:x.toNat=2^64-(2^(t+1)*s+2^t):=by show x.toNat=18446744073709551616-_;omega
 have hle:2^t<=2^63:=Ae8 F0 F0;have hne:x≠0:=by
  intro e;rw[e]at h;have h':2^t*(2*s+1)=2^64:=by
   rw[Nat.mul_add,Nat.mul_one,<-At1,<-Atx]
   show _=18446744073709551616;simpa using h
  have h2:2^64=2^t*2^(64-t):=by rw[<-Ba6];congr 1;omega
  rw[h2]at h';have h3:=Nat.eq_of_mul_eq_mul_left hpos h';rw[show 64-t=(63-t)+1 by omega,Atx]at h3;omega
 have hx0:x.toNat≠0:=λe=>hne (UInt64.toNat_inj.1 e);have hl:Dr x (pL x)=UInt64.ofNat (2^t):=by
  apply UInt64.toNat_inj.1;rw[J3,UInt64.toNat_and,Ana,show(18446744073709551616-x.toNat) %18446744073709551616=2^(t+1)*s+2^t by omega,Ass (n:=64) (by show _<=18446744073709551616;omega) ht _ hx,Aii,Adk];exact Ayl hle F5
 have hb:=Aip ⟨t,ht⟩;rw[Fm,Abw (by rw[yN];simpa using hne),hl];refine Ayp (congrArg (λo=>Option.bind o λc=>some (Ae c:Int)) hb) ?_;rw[Aa,VI,Ak7,Adk (by show t<256;omega)]
theorem As2(p:LB)(a m:Nat)(hm:m<=48):Fm (K2 (Ly p a m))=some ((Fx p a m:Nat):Int):=by
 obtain⟨s,h1,h2⟩:=Abi p m a;have hle:=RU p m a;have hlt:=Lt p m a;have h48:2^m<=2^48:=Ae8 F0 hm;have hn:(K2 (Ly p a m)).toNat=18446744073709551615-Bo p a m:=by rw[Aoi,Tv p a m F0]
 have h3:(281474976710656:Nat)=2^48:=rfl;refine Axb _ (Fx p a m) s F0 ?_;rw[hn];omega
def zx(p:LB)(N a:Nat):Int×Int×Int:=
 if Fx p a (min 48 (N-a))<min 48 (N-a)then((Fx p a (min 48 (N-a)):Nat),((a+Fx p a (min 48 (N-a))+1:Nat):Int),0)else
 if Fx p a (min 48 (N-a))=48 then(48,((a+48:Nat):Int),0)else(0,0,24)
theorem An4(h:okB p N)(a:Nat)(ha:a<N):GM p (N:Int) (a:Int)=some (zx p N a):=by
 have hN:=h.1;have e1:Dt (48:Int) (Ah (N:Int) (a:Int))=((min 48 (N-a):Nat):Int):=by rw[Yd,Ca];omega
 have hle:=RU p (min 48 (N-a)) a;rw[GM,Xe,Uj h,Aa,Abw Bbo,Abw Bbw,Abw Bbr,e1,vC h a _ F0,Abw F0,Aa];simp only;rw[TM,mI,Abw Bbo,As2 p a _ F0,Aa,mL,mB,e1,zx];by_cases h1:Fx p a (min 48 (N-a))<min 48 (N-a)
 ·rw[Acu F7,Acu h1,Ag (a:=(a:Int)) F0 F0,show Ad (0:Int) 1=1 by decide,Ag];congr 3;omega
 ·rw[Abw F7,Abw h1,mF,lS];by_cases h2:Fx p a (min 48 (N-a))=48
  ·rw[Acu (by rw[Bl,h2];rfl),Acu h2,h2,Ag (a:=(a:Int)) F0 F0,Ag];congr 3;omega
  ·rw[Abw Bbs,Abw h2];rfl
theorem W9(p:LB):∀(m a:Nat),Fx p a m<m->Fo p (a+Fx p a m)≠1
 |0,_,h=>by simp[Fx]at h
 |m+1,a,h=>by
  by_cases hb:Fo p a=1
  ·rw[Fx,Acu hb]at h⊢;have:=W9 p m (a+1) F0;rwa [show a+(1+Fx p (a+1) m)=a+1+Fx p (a+1) m by omega]
  ·rw[Fx,Abw hb];exact hb
theorem T6(p:LB):∀(m a k:Nat),k<Fx p a m->Fo p (a+k)=1
 |0,a,k,h=>by simp[Fx]at h
 |m+1,a,k,h=>by
  by_cases hb:Fo p a=1
  ·rw[Fx,Acu hb]at h;cases k with
   |zero=>exact hb
   |succ k=>
    have:=T6 p m (a+1) k F0;rwa [show a+(k+1)=a+1+k by omega]
  ·rw[Fx,Abw hb]at h;omega
def unR(p:LB)(N a:Nat):Int×Int:=if(zx p N a).2.2=0 then((zx p N a).1,(zx p N a).2.1)else(-1,0)
theorem M2{p:LB}{N:Nat}(h:okB p N)(a:Nat)(ha:a<N):∀(j k q:Nat),k+j=Fx p a (min 48 (N-a))->j<q->Jz (a:Int) p (N:Int) q (k:Int)=some (unR p N a)
 |0,k,q+1,hk,_=>by
  obtain⟨hN,hl,hz⟩:=h;have hle:=RU p (min 48 (N-a)) a;have hk':k=Fx p a (min 48 (N-a)):=F0
  have e1:Ad (a:Int) (k:Int)=((a+k:Nat):Int):=by rw[Ag];omega
  have hend:Wj (a:Int) (k:Int) p (N:Int)=some (unR p N a):=by
   rw[Wj,MI,e1];by_cases h48:k=48
   ·have hu:zx p N a=(48,((a+48:Nat):Int),0):=by rw[zx,<-hk',Abw F0,Acu h48]
    rw[Acu (by rw[Bl,h48];rfl),unR,hu,h48];rfl
   ·rw[Abw Bbs];by_cases hN2:N<=a+k
    ·have hu:zx p N a=(0,0,24):=by rw[zx,<-hk',Abw F0,Abw h48]
     rw[Acu Bbr,unR,hu];rfl
    ·have hu:zx p N a=(((k:Nat):Int),((a+k+1:Nat):Int),0):=by rw[zx,<-hk',Acu F0]
     rw[Abw Bbr,unR,hu,Ag];rfl
  rw[Jz,We,e1];by_cases hc:a+k<N/\k<48
  ·have hb:=Wx p (a+k);have hs:=W9 p (min 48 (N-a)) a F0;rw[<-hk']at hs;rw[Acu Bb9,tB p _ (a+k) F0 F0,Aa,Abw Bbs,hend]
  ·rw[Abw Bb9,hend]
 |j+1,k,q+1,hk,hq=>by
  obtain⟨hN,hl,hz⟩:=h;have hle:=RU p (min 48 (N-a)) a;have hb:=T6 p (min 48 (N-a)) a k F0;have e1:Ad (a:Int) (k:Int)=((a+k:Nat):Int):=by rw[Ag];omega
  rw[Jz,We,e1,Acu Bb9,tB p _ (a+k) F0 F0,Aa,hb,Acu F5,Ag];exact M2 ⟨hN,hl,hz⟩ a ha j (k+1) q F0 F0
theorem Amf(h:okB p N)(a:Nat)(ha:a<N):VF p (N:Int) (a:Int)=some (unR p N a):=by
 have hle:=RU p (min 48 (N-a)) a;have:=M2 h a ha (Fx p a (min 48 (N-a))) 0 Ap F0 F9;exact this
theorem Amw(h:Fx p a (min 48 (N-a))<min 48 (N-a)):zx p N a=(((Fx p a (min 48 (N-a)):Nat):Int),((a+Fx p a (min 48 (N-a))+1:Nat):Int),0):=by rw[zx,Acu h]
theorem An7(h:¬Fx p a (min 48 (N-a))<min 48 (N-a))(h2:Fx p a (min 48 (N-a))=48):zx p N a=(48,((a+48:Nat):Int),0):=by rw[zx,Abw h,Acu h2]
theorem Alx(h:¬Fx p a (min 48 (N-a))<min 48 (N-a))(h2:¬Fx p a (min 48 (N-a))=48):zx p N a=(0,0,24):=by rw[zx,Abw h,Abw h2]
theorem Ai3(h:okB p N)(a:Nat)(ha:N<=a):GM p (N:Int) (a:Int)=some (0,0,24):=by
 rw[GM,Xe,Uj h,Aa,Abw Bbo,Abw Bbw,Acu Bbr]
def UO(p:LB)(N a k:Nat):UInt32×Int×Int:=
 if N<=a then(0,0,24)else
 if Fx p a (min 48 (N-a))<min 48 (N-a)then
  (if N<a+Fx p a (min 48 (N-a))+1+k then(0,0,24)else(UInt32.ofNat (Fx p a (min 48 (N-a))*2^k+Bo p (a+Fx p a (min 48 (N-a))+1) k),((a+Fx p a (min 48 (N-a))+1+k:Nat):Int),0))
 else if Fx p a (min 48 (N-a))=48 then
  (if N<a+48+32 then(0,0,24)else if Bo p (a+48) 32/2^k<48 then(0,0,12)else(UInt32.ofNat (Bo p (a+48) 32),((a+48+32:Nat):Int),0))
 else(0,0,24)
theorem pZ(h:n<=32):(Ae (Ly p a n):UInt32)=UInt32.ofNat (Bo p a n):=by
 have e:(Ae (Ly p a n):UInt32)=UInt32.ofNat (Ly p a n).toNat:=by simp only[Ae,Ia,Ed]
 rw[e,Tv p a n F0]
theorem RV(h:n<4294967296):(UInt32.ofNat n).toNat=n:=by rw[Aky];exact Adk h
theorem Abe(p:LB)(a:Nat)(h:n<=32):Bo p a n<4294967296:=by
 have h1:=Lt p n a;have h2:2^n<=2^32:=Ae8 F0 h;omega
theorem Avt{q v:Nat}(hq:q<48)(hv:v<2^k)(hk:k<=24):qO (Ct (Ae (q:Int):UInt32) k) (UInt32.ofNat v)=UInt32.ofNat (q*2^k+v):=by
 have hp:2^k<=2^24:=Ae8 F0 hk;have h1:q*2^k<=47*2^24:=Awg F0 hp;rw[Ard];apply UInt32.toNat_inj.1;rw[UInt32.toNat_or,dQ,X8,RV F0,RV (n:=v) F0,Adk F0,Ak8 q,<-Awl hv,RV Bcg]
theorem Aq7(h:okB p N)(a k:Nat)(hk:k<=24):jY p (N:Int) (a:Int) (k:Int)=some (UO p N a k):=by
 have hN:=h.1;rw[jY,qR,Uj h,Aa,Abw Bbo,Abw Bbu];by_cases ha:N<=a
 ·rw[Ai3 h a ha,Aa,UO,Acu ha];rfl
 have hle:=RU p (min 48 (N-a)) a;rw[An4 h a F0,Aa];by_cases h1:Fx p a (min 48 (N-a))<min 48 (N-a)
 ·have hS:UO p N a k=if N<a+Fx p a (min 48 (N-a))+1+k then(0,0,24)else(UInt32.ofNat (Fx p a (min 48 (N-a))*2^k+Bo p (a+Fx p a (min 48 (N-a))+1) k),((a+Fx p a (min 48 (N-a))+1+k:Nat):Int),0):=by rw[UO,Abw ha,Acu h1]
  rw[Amw h1,hS];generalize Fx p a (min 48 (N-a))=q at*
  simp only;rw[Abw Bbo,Abw Bbs,aB,ZC,vC h _ k F0,Aa];by_cases h2:N<a+q+1+k
  ·rw[Acu h2,Acu h2];rfl
  ·rw[Abw h2,Abw h2];simp only;have z:(GI.toZ (k:Int)).toNat=k:=rfl;rw[Abw Bbo,Acu F7,Bq Bbv,Aa,z,pZ F0,Avt F0 (Lt _ _ _) hk,Ag];rfl
 ·by_cases h2:Fx p a (min 48 (N-a))=48
  ·have hS:UO p N a k=if N<a+48+32 then(0,0,24)else if Bo p (a+48) 32/2^k<48 then(0,0,12)else(UInt32.ofNat (Bo p (a+48) 32),((a+48+32:Nat):Int),0):=by rw[UO,Abw ha,Abw h1,Acu h2]
   have hg:=vC h (a+48) 32 F0;rw[An7 h1 h2,hS];simp only;rw[Abw Bbo,Acu Bb4,aB,ZC];refine Ayp (congrArg (λo=>Option.bind o _) hg) ?_;rw[Aa];by_cases h3:N<a+48+32
   ·rw[Acu h3,Acu h3];rfl
   ·rw[Abw h3,Abw h3];simp only;have z:(GI.toZ (k:Int)).toNat=k:=rfl;have hv:=Abe p (a+48) (n:=32) F0;rw[Abw Bbo,Abw Bbw,Ur,Bq Bbv,Aa,Aa,z,pZ F0,Agh];have e:(decide ((48:UInt32).toNat<= (Bv (UInt32.ofNat (Bo p (a+48) 32)) k).toNat))=decide (¬Bo p (a+48) 32/2^k<48):=by
     rw[HS,RV hv];simp
    rw[e];by_cases h4:Bo p (a+48) 32/2^k<48
    ·rw[Acu (by simp[h4]),Acu h4]
    ·rw[Abw F6,Abw h4,Ag];rfl
  ·rw[Alx h1 h2,UO,Abw ha,Abw h1,Abw h2];rfl
theorem I3(k:Nat)(hk:k<=63):∀(j i q:Nat),i+j=k->j<q->Ic (k:Int) q (UInt64.ofNat (2^i)) (i:Int)=some (UInt64.ofNat (2^k))
 |0,i,q+1,hi,_=>by
  rw[Ic,Rs,Abw F7,show i=k by omega];rfl
 |j+1,i,q+1,hi,hq=>by
  have e:Az (UInt64.ofNat (2^i)) (2:UInt64)=UInt64.ofNat (2^(i+1)):=by
   rw[JC,Atx,UInt64.ofNat_mul];rfl
  rw[Ic,Rs,Acu F7,Ag,e];exact I3 k hk j (i+1) q F0 F0
theorem JE(k:Nat)(hk:k<=63):Ez (k:Int)=some (UInt64.ofNat (2^k)):=
 I3 k hk k 0 Ap F0 F9
theorem RN(hk:k<=63):(UInt64.ofNat (2^k)).toNat=2^k:=by
 have hp:2^k<=2^63:=Ae8 F0 hk;rw[Aii,Adk F0]
theorem Aqn(v:UInt32)(k:Nat)(hk:k<=24):AZ v (k:Int)=some ((min 48 (v.toNat/2^k):Nat):Int):=by
 have hpos:0<2^k:=Ayw F0;have hv:=v.toNat_lt;rw[AZ,JE k F0,Aa,Bq (by rw[jK];simp only[Bbm,ne_eq,<-Bat,RN (show k<=63 by omega)];simp),Aa];have e:(Bf (Ae v:UInt64) (UInt64.ofNat (2^k))).toNat=v.toNat/2^k:=by
  rw[rK,Ba9,Cx,RN F0,Aii,Adk F0]
 have hle:v.toNat/2^k<=v.toNat:=Atp _ _;have e2:Dt (48:UInt64) (Bf (Ae v:UInt64) (UInt64.ofNat (2^k)))=UInt64.ofNat (min 48 (v.toNat/2^k)):=by
  apply UInt64.toNat_inj.1;rw[Aii,Adk F0];show(if _ then _ else _:UInt64).toNat=_;rw[show(GI.toZ (Bf (Ae v:UInt64) (UInt64.ofNat (2^k))))=((v.toNat/2^k:Nat):Int) by rw[Ia,e],show GI.toZ (48:UInt64)=48 from rfl];split
  ·rw[e];omega
  ·show 48=_;omega
 rw[e2,Y6 (by rw[Aii,Adk]<;>omega),Aii,Adk F0]
theorem Amb(h:okB p N)(a k:Nat)(hk:k<=24):GG p (N:Int) (a:Int) (k:Int)=some (UO p N a k):=by
 obtain⟨hN,hl,hz⟩:=h;have h:okB p N:=⟨hN,hl,hz⟩;rw[GG,LK];by_cases ha:N<=a
 ·rw[Acu Bbr,UO,Acu ha]
 have hle:=RU p (min 48 (N-a)) a;rw[Abw Bbr,Amf h a F0,Aa,unR];by_cases h1:Fx p a (min 48 (N-a))<min 48 (N-a)
 ·have hS:UO p N a k=if N<a+Fx p a (min 48 (N-a))+1+k then(0,0,24)else(UInt32.ofNat (Fx p a (min 48 (N-a))*2^k+Bo p (a+Fx p a (min 48 (N-a))+1) k),((a+Fx p a (min 48 (N-a))+1+k:Nat):Int),0):=by rw[UO,Abw ha,Acu h1]
  rw[Amw h1,hS];generalize Fx p a (min 48 (N-a))=q at*
  rw[Acu rfl];simp only;rw[Abw Bbs,Wg,Vu,Ca];by_cases h2:N<a+q+1+k
  ·rw[Acu Bb9,Acu h2]
  ·have hp:2^k<=2^24:=Ae8 F0 hk;have hm:q*2^k<=47*2^24:=Awg F0 hp;have hv:=Lt p k (a+q+1);have e:(Ae (Ad (Az (Ae (q:Int):UInt64) (UInt64.ofNat (2^k))) (Ly p (a+q+1) k)):UInt32)=UInt32.ofNat (q*2^k+Bo p (a+q+1) k):=by
    have e1:Ad (Az (Ae (q:Int):UInt64) (UInt64.ofNat (2^k))) (Ly p (a+q+1) k)=UInt64.ofNat (q*2^k+Bo p (a+q+1) k):=by
     rw[JH,JC,Us,Ly,UInt64.ofNat_add,UInt64.ofNat_mul]
    rw[e1];have e2:∀x:UInt64,(Ae x:UInt32)=UInt32.ofNat x.toNat:=λx=>by simp only[Ae,Ia,Ed]
    rw[e2,Aii,Adk F0]
   rw[Abw Bb9,Abw h2,mT p _ _ k F0 F0,Aa,Acu F7,JE k F0,Aa,e,Ag];rfl
 ·by_cases h2:Fx p a (min 48 (N-a))=48
  ·have hS:UO p N a k=if N<a+48+32 then(0,0,24)else if Bo p (a+48) 32/2^k<48 then(0,0,12)else(UInt32.ofNat (Bo p (a+48) 32),((a+48+32:Nat):Int),0):=by rw[UO,Abw ha,Abw h1,Acu h2]
   rw[An7 h1 h2,hS,Acu rfl];simp only;rw[Acu Bb4,Wg,Vu,Ca];by_cases h3:N<a+48+32
   ·rw[Acu Bb9,Acu h3]
   ·have hg:=mT p (N:Int) (a+48) 32 F0 F0;have hv:=Abe p (a+48) (n:=32) F0;rw[Abw Bb9,Abw h3];refine Ayp (congrArg (λo=>Option.bind o _) hg) ?_;rw[Aa,Abw Bbw,pZ F0,Aqn _ k hk,Aa,RV hv];by_cases h4:Bo p (a+48) 32/2^k<48
    ·rw[Acu F7,Acu h4]
    ·rw[Abw F7,Abw h4,Ag];rfl
  ·rw[Alx h1 h2,UO,Abw ha,Abw h1,Abw h2];have e:(if((0:Int),(0:Int),(24:Int)).2.2=0 then(((0:Int),(0:Int),(24:Int)).1,((0:Int),(0:Int),(24:Int)).2.1)else((-1:Int),(0:Int)))=(-1,0):=F5
   rw[e];rfl
theorem Aum{v:UInt32}{n:Int}(h:UO p N a k=(v,n,0)):(a:Int)<n/\n<=N:=by
 unfold UO at h;split at h
 ·simp at h
 split at h
 ·split at h
  ·simp at h
  ·simp only[Avu]at h;omega
 ·split at h
  ·split at h
   ·simp at h
   ·split at h
    ·simp at h
    ·simp only[Avu]at h;omega
  ·simp at h
def okD(k l:Nat)(s t:UInt64):Prop:=k<=24/\l<=24/\s.toNat<=68719476735/\t.toNat<=68719476735
theorem Abh(a b:UInt64)(h:a.toNat<=b.toNat):Dt a b=a:=by
 show(if _ then _ else _)=_;rw[Ia,Ia,Abw F0]
theorem pE(a:UInt64):geq a a=true:=by rw[yN];simp
theorem Alf(h:okD k l s t):PW (k:Int) (l:Int) s t=some 0:=by
 obtain⟨h1,h2,h3,h4⟩:=h;have e1:Dt (fP (k:Int) 0) 24=(k:Int):=by rw[Yd,oB];omega
 have e2:Dt (fP (l:Int) 0) 24=(l:Int):=by rw[Yd,oB];omega
 have e3:Dt s (68719476735:UInt64)=s:=Abh _ _ (by simpa using h3);have e4:Dt t (68719476735:UInt64)=t:=Abh _ _ (by simpa using h4);have e5:∀a:Int,geq a a=true:=λa=>by rw[Bl];simp
 rw[PW,HD,UH,GY,TD,lP,e1,e2,e3,e4,e5,e5,pE,pE];rfl
def Sr(s n:UInt64):UInt64:=s+n-s/16
def kS(k:Nat)(s:UInt64):Nat:=if 0<k/\s.toNat<2^(k+4)then k-1 else if k<24/\2^(k+5)<s.toNat then k+1 else k
theorem Ats(h:k<=24)(s:UInt64):kS k s<=24:=by
 unfold kS;by_cases h1:0<k/\s.toNat<2^(k+4)
 ·rw[Acu h1];omega
 ·rw[Abw h1];split<;>omega
theorem Agg(h:¬(0<k/\s.toNat<2^(k+4))):(if k<24/\2^(k+5)<s.toNat then((k+1:Nat):Int)else(k:Int))=((kS k s:Nat):Int):=by
 rw[kS,Abw h];split<;>rfl
theorem Agi{n:UInt64}(h:s.toNat<=68719476735)(hn:n.toNat<=4294967295):(Sr s n).toNat<=68719476735:=by
 have h1:=s.toNat_lt;have e:(s+n).toNat=s.toNat+n.toNat:=by rw[UInt64.toNat_add];omega
 have e2:(s/16).toNat=s.toNat/16:=by rw[Ba9];rfl
 rw[Sr,UInt64.toNat_sub_of_le _ _ (by rw[UInt64.le_iff_toNat_le,e,e2];omega),e,e2];omega
theorem US(s n:UInt64):Ad s (Ah n (Bv s (GI.toZ (4:UInt64)).toNat))=Sr s n:=by
 have e:Bv s (GI.toZ (4:UInt64)).toNat=s/16:=by
  apply UInt64.toNat_inj.1;rw[DV,Ba9];rfl
 rw[e,JH,rV,Sr,UInt64.sub_eq_add_neg,UInt64.sub_eq_add_neg,UInt64.add_assoc]
theorem Agt(s n:UInt64):Ah (Ad s n) (Bf s (16:UInt64))=Sr s n:=by rw[JH,rV,rK,Sr]
theorem Awy(h:k<=24):(Ct (16:UInt64) k).toNat=2^(k+4):=by
 have hp:2^k<=2^24:=Ae8 F0 h;rw[QP,Ba6]
 show 16*2^k %_=2^k*16;rw[Adk F0,Ak8]
theorem Av2(h:k<=24):(Ct (32:UInt64) k).toNat=2^(k+5):=by
 have hp:2^k<=2^24:=Ae8 F0 h;rw[QP,Ba6]
 show 32*2^k %_=2^k*32;rw[Adk F0,Ak8]
theorem Atl(h:0<k)(h2:s.toNat<2^(k+4)):kS k s=k-1:=by rw[kS,Acu ⟨h,h2⟩]
theorem Atw(h:¬(0<k/\s.toNat<2^(k+4)))(h2:k<24)(h3:2^(k+5)<s.toNat):kS k s=k+1:=by rw[kS,Abw h,Acu ⟨h2,h3⟩]
theorem Agp(h:¬(0<k/\s.toNat<2^(k+4)))(h2:¬(k<24/\2^(k+5)<s.toNat)):kS k s=k:=by rw[kS,Abw h,Abw h2]
theorem Ah0{α:Type}(k:Nat)(hk:k<=24)(s:UInt64)(f:Int->Option α):
  (if(Eg (k:Int) (0:Int))=true then(
   Option.bind (Gu (Je (k:Int) (0:Int))) λ_=>
   if(Cg s (Ct (16:UInt64) (GI.toZ (k:Int)).toNat))=true then f (Ah (k:Int) (1:Int))
   else(if(Cg (k:Int) (24:Int))=true then(
    Option.bind (Gu (Je (k:Int) (0:Int))) λ_=>
    if(Eg s (Ct (32:UInt64) (GI.toZ (k:Int)).toNat))=true then f (Ad (k:Int) (1:Int))else f (k:Int))
    else f (k:Int)))
  else(if(Cg (k:Int) (24:Int))=true then(
    Option.bind (Gu (Je (k:Int) (0:Int))) λ_=>
    if(Eg s (Ct (32:UInt64) (GI.toZ (k:Int)).toNat))=true then f (Ad (k:Int) (1:Int))else f (k:Int))
    else f (k:Int)))=f ((kS k s:Nat):Int):=by
 have z:(GI.toZ (k:Int)).toNat=k:=rfl;rw[z,Bq Bbv];simp only[Aa];rw[yS,jM,Awy hk,Av2 hk];by_cases h0:0<k
 ·rw[Acu Bbp];by_cases h1:s.toNat<2^(k+4)
  ·rw[Acu (by simp[h1]),Atl h0 h1,Ca];congr 1;omega
  ·rw[Abw F6];by_cases h2:k<24
   ·rw[Acu F7];by_cases h3:2^(k+5)<s.toNat
    ·rw[Acu (by simp[h3]),Atw (λh=>h1 h.2) h2 h3,Ag];rfl
    ·rw[Abw F6,Agp (λh=>h1 h.2) (λh=>h3 h.2)]
   ·rw[Abw F7,Agp (λh=>h1 h.2) (λh=>h2 h.1)]
 ·rw[Abw Bbp];by_cases h2:k<24
  ·rw[Acu F7];by_cases h3:2^(k+5)<s.toNat
   ·rw[Acu (by simp[h3]),Atw (λh=>h0 h.1) h2 h3,Ag];rfl
   ·rw[Abw F6,Agp (λh=>h0 h.1) (λh=>h3 h.2)]
  ·rw[Abw F7,Agp (λh=>h0 h.1) (λh=>h2 h.1)]
theorem Ahp(k:Nat)(hk:k<=24)(s n:UInt64):Sd (k:Int) s n=some (((kS k (Sr s n):Nat):Int),Sr s n):=by
 have g1:Ad (k:Int) 4=((k+4:Nat):Int):=by rw[Ag];omega
 have g2:Ad (k:Int) 5=((k+5:Nat):Int):=by rw[Ag];omega
 have hp:Tc (k:Int) s n=some (if k<24/\2^(k+5)<(Sr s n).toNat then((k+1:Nat):Int)else(k:Int),Sr s n):=by
  rw[Tc,JV,g2,JE _ F0,Aa,Agt,jM,RN F0];by_cases h2:k<24
  ·rw[Acu F7];by_cases h3:2^(k+5)<(Sr s n).toNat
   ·rw[Acu (by simp[h3]),Acu ⟨h2,h3⟩,Ag];rfl
   ·rw[Abw F6,Abw (λh=>h3 h.2)]
  ·rw[Abw F7,Abw (λh=>h2 h.1)]
 rw[Sd,IK,g1,JE _ F0,Aa,Agt,yS,RN F0,hp];by_cases h0:0<k
 ·rw[Acu Bbp];by_cases h1:(Sr s n).toNat<2^(k+4)
  ·rw[Acu (by simp[h1]),Atl h0 h1,Ca];congr 2;omega
  ·rw[Abw F6,Agg (λh=>h1 h.2)]
 ·rw[Abw Bbp,Agg (λh=>h0 h.1)]
def yL(v:UInt32):UInt64:=UInt64.ofNat v.toNat
theorem Amn(v:UInt32):(yL v).toNat<=4294967295:=by have:=v.toNat_lt;rw[yL,Aii,Adk F0];omega
def bG(k:Nat)(v:UInt32):UInt32:=UInt32.ofNat (v.toNat-2^k)
def lK(l:Nat)(t:UInt64)(k:Nat)(v:UInt32):Nat:=if v.toNat<2^k then l else kS l (Sr t (yL (bG k v)))
def lT(t:UInt64)(k:Nat)(v:UInt32):UInt64:=if v.toNat<2^k then t else Sr t (yL (bG k v))
theorem Alp(h:okD k l s t)(v:UInt32):okD (kS k (Sr s (yL v))) (lK l t k v) (Sr s (yL v)) (lT t k v):=by
 obtain⟨h1,h2,h3,h4⟩:=h;refine⟨Ats h1 _,?_,Agi h3 (Amn v),?_⟩
 ·unfold lK;split; · exact h2
  exact Ats h2 _
 ·unfold lT;split; · exact h4
  exact Agi h4 (Amn _)
theorem Au3(k l:Nat)(s t:UInt64)(hk:k<=24)(v:UInt32):FZ (k:Int) (l:Int) s t v=some (decide (v.toNat<2^k)):=by
 have:=v.toNat_lt;rw[FZ,JE k F0,Aa,yS,RN F0,Cx,Aii,Adk F0]
theorem left_eq(k l:Nat)(s t:UInt64)(hk:k<=24)(v:UInt32)(h:¬v.toNat<2^k):CO (k:Int) (l:Int) s t v=some (bG k v):=by
 have:=v.toNat_lt;have e2:∀x:UInt64,(Ae x:UInt32)=UInt32.ofNat x.toNat:=λx=>by simp only[Ae,Ia,Ed]
 have e3:(UInt64.ofNat v.toNat).toNat=v.toNat:=by rw[Aii,Adk F0]
 rw[CO,JE k F0,Aa,e2,rV,Cx,UInt64.toNat_sub_of_le _ _ (by rw[UInt64.le_iff_toNat_le,RN F0,e3];omega),RN F0,e3,bG]
theorem Akh(h:okD k l s t)(v:UInt32):Vi (k:Int) (l:Int) s t v=some (((kS k (Sr s (yL v)):Nat):Int),((lK l t k v:Nat):Int),Sr s (yL v),lT t k v):=by
 obtain⟨h1,h2,h3,h4⟩:=h;have hp:∀(r1:Int) (r2:UInt64),Ps v (k:Int) (l:Int) s t r1 r2=some (((kS k (Sr s (yL v)):Nat):Int),r1,Sr s (yL v),r2):=by
  intro r1 r2;rw[Ps,DD,Cx,Ahp k h1,Aa];rfl
 rw[Vi,BI,Au3 k l s t h1,Aa];by_cases hv:v.toNat<2^k
 ·rw[Abw (by simp[hv]),hp,lK,Acu hv,lT,Acu hv]
 ·rw[Acu F6,left_eq k l s t h1 v hv,Aa,Cx,Ahp l h2,Aa];simp only;rw[hp,lK,Abw hv,lT,Abw hv];rfl
theorem D7(k l:Nat)(s t:UInt64)(hk:k<=24)(v:UInt32):GQ (k:Int) (l:Int) s t v=some (if v.toNat<2^k then(0,v)else(1,bG k v)):=by
 have hp:2^k<=2^24:=Ae8 F0 hk;have hpos:0<2^k:=Ayw F0;have hl:=v.toNat_lt;have z:(GI.toZ (k:Int)).toNat=k:=rfl;have e1:geq (Bv v k) (0:UInt32)=decide (v.toNat<2^k):=by
  rw[jq,Apc];simp only[Bad,<-UInt32.toNat_inj,HS,Adp]
  show _/_=0↔_;rw[Nat.div_eq_zero_iff];omega
 have e2:¬v.toNat<2^k->Ah v (Ct (1:UInt32) k)=bG k v:=by
  intro h;have e3:(Ct (1:UInt32) k).toNat=2^k:=by rw[dQ];show 1*2^k %_=_;rw[Adk F0,Avd]
  apply UInt32.toNat_inj.1;rw[B9,UInt32.toNat_sub_of_le _ _ (by rw[UInt32.le_iff_toNat_le,e3];omega),e3,bG,RV F0]
 rw[GQ,Bq Bbv,Aa,Aa,z,e1];by_cases h:v.toNat<2^k
 ·rw[Acu (by simp[h]),Acu h]
 ·rw[Abw F6,Abw h,e2 h]
abbrev Rd:=UInt32×Int×Int×Int×UInt64×UInt64×Int
theorem zX(h:okD k l s t)(v:UInt32)(r:Int):YM (k:Int) (l:Int) s t v r=some (v,r,((kS k (Sr s (yL v)):Nat):Int),((lK l t k v:Nat):Int),Sr s (yL v),lT t k v,0):=by
 obtain⟨h1,h2,h3,h4⟩:=h;have hp:∀(x:Int) (y:UInt64),DQ v r (k:Int) s x y=some (v,r,((kS k (Sr s (yL v)):Nat):Int),x,Sr s (yL v),y,0):=by
  intro x y;rw[DQ,sC,Cx,US,Ah0 k h1];rw[oX,rH,lY,lO,Cx,US];rfl
 rw[YM,YI,D7 k l s t h1,Aa];by_cases hv:v.toNat<2^k
 ·rw[Acu hv];simp only;rw[Abw Bce,hp,lK,Acu hv,lT,Acu hv]
 ·rw[Abw hv];simp only;rw[Acu Bb4,Cx,US,Ah0 l h2 _ (λx=>DQ v r (k:Int) s x (Sr t (UInt64.ofNat (bG k v).toNat))),hp,lK,Abw hv,lT,Abw hv];rfl
def cL(p:LB)(N a k l:Nat):UInt32×Int×Int:=
 if N<=a then(0,0,24)else
 if Fo p a=0 then(if N<a+1+k then(0,0,24)else(UInt32.ofNat (Bo p (a+1) k),((a+1+k:Nat):Int),0))else
 if(UO p N (a+1) l).2.2≠0 then(0,0,(UO p N (a+1) l).2.2)else
 if 4294967295<(UO p N (a+1) l).1.toNat+2^k then(0,0,12)else(UInt32.ofNat ((UO p N (a+1) l).1.toNat+2^k),(UO p N (a+1) l).2.1,0)
theorem Avg(h:(cL p N a k l).2.2=0):(a:Int)<(cL p N a k l).2.1/\ (cL p N a k l).2.1<=N:=by
 revert h
 unfold cL;split
 ·simp
 split
 ·split
  ·simp
  ·simp only;omega
 ·split
  ·intro h;contradiction
  ·rename_i h1;split
   ·simp
   ·intro _;have:=Aum (p:=p) (N:=N) (a:=a+1) (k:=l) (v:=(UO p N (a+1) l).1) (n:=(UO p N (a+1) l).2.1) (by
     have e:(UO p N (a+1) l).2.2=0:=by simpa using h1
     rw[<-e])
    simp only;omega
theorem Aq5(h:okB p N)(a:Nat)(hd:okD k l s t):GB p (N:Int) (a:Int) (k:Int) (l:Int) s t=
  some (if(cL p N a k l).2.2≠0 then(0,0,0,0,0,0,(cL p N a k l).2.2)else((cL p N a k l).1,(cL p N a k l).2.1,((kS k (Sr s (yL (cL p N a k l).1)):Nat):Int),((lK l t k (cL p N a k l).1:Nat):Int),Sr s (yL (cL p N a k l).1),lT t k (cL p N a k l).1,0)):=by
 obtain⟨h1,h2,h3,h4⟩:=hd;have hd:okD k l s t:=⟨h1,h2,h3,h4⟩;have hN:=h.1;have hg:=vC h a 1 F0;have hb:=Wx p a;rw[GB,aO,Uj h,Aa,Abw Bbo,Alf hd,Aa,Abw Bbo,sG,YR];refine Ayp (congrArg (λo=>Option.bind o _) hg) ?_;rw[Aa];by_cases ha:N<=a
 ·have hS:cL p N a k l=(0,0,24):=by rw[cL,Acu ha]
  rw[Acu F0,hS];rfl
 rw[Abw F0];simp only;have e0:geq (Ly p a 1) (0:UInt64)=decide (Fo p a=0):=by
  rw[yN,Apc];simp only[Bad,<-Bat,Adp,Tv p a 1 F0,qF];rfl
 have e1:Ad (a:Int) 1=((a+1:Nat):Int):=by rw[Ag];omega
 rw[Abw Bbo,e0,e1];by_cases hz:Fo p a=0
 ·rw[Acu (by simp[hz]),vC h (a+1) k F0,Aa];by_cases h5:N<a+1+k
  ·have hS:cL p N a k l=(0,0,24):=by rw[cL,Abw ha,Acu hz,Acu h5]
   rw[Acu h5,hS];rfl
  ·have hS:cL p N a k l=(UInt32.ofNat (Bo p (a+1) k),((a+1+k:Nat):Int),0):=by rw[cL,Abw ha,Acu hz,Abw h5]
   rw[Abw h5,hS];simp only;rw[Abw Bbo,zX hd,pZ F0,Ag];rfl
 ·rw[Abw (by simp[hz]),Aq7 h (a+1) l h2,Aa];have hp:2^k<=2^24:=Ae8 F0 h1;by_cases h5:(UO p N (a+1) l).2.2≠0
  ·have hS:cL p N a k l=(0,0,(UO p N (a+1) l).2.2):=by rw[cL,Abw ha,Abw hz,Acu h5]
   rw[hS];generalize UO p N (a+1) l=R at*
   obtain⟨v,n,e⟩:=R;simp only at*
   rw[Acu (by rw[Ay];simpa using h5),Acu h5]
  ·have hv:=(UO p N (a+1) l).1.toNat_lt;have z:(GI.toZ (k:Int)).toNat=k:=rfl;have e3:(Ct (1:UInt32) k).toNat=2^k:=by rw[dQ];show 1*2^k %_=_;rw[Adk F0,Avd]
   by_cases h6:4294967295<(UO p N (a+1) l).1.toNat+2^k
   ·have hS:cL p N a k l=(0,0,12):=by rw[cL,Abw ha,Abw hz,Abw h5,Acu h6]
    rw[hS];generalize UO p N (a+1) l=R at*
    obtain⟨v,n,e⟩:=R;simp only at*
    rw[Abw (by rw[Ay];simpa using h5),Bq Bbv,Aa,z,Acu (by rw[Agj,zD,UInt32.toNat_add,e3];simp;omega),Acu F5]
   ·have hS:cL p N a k l=(UInt32.ofNat ((UO p N (a+1) l).1.toNat+2^k),(UO p N (a+1) l).2.1,0):=by rw[cL,Abw ha,Abw hz,Abw h5,Abw h6]
    rw[hS];generalize UO p N (a+1) l=R at*
    obtain⟨v,n,e⟩:=R;simp only at*
    have e4:Ad v (Ct (1:UInt32) k)=UInt32.ofNat (v.toNat+2^k):=by
     apply UInt32.toNat_inj.1;rw[zD,UInt32.toNat_add,e3,RV F0,Adk F0]
    rw[Abw (by rw[Ay];simpa using h5),Bq Bbv,Aa,z,Abw (by rw[Agj,zD,UInt32.toNat_add,e3];simp;omega),e4,zX hd];rfl
theorem Aol(h:okB p N)(a:Nat)(k l:Nat)(s t:UInt64)(h1:k<=24)(h2:l<=24):GC p (N:Int) (a:Int) (k:Int) (l:Int) s t=some (cL p N a k l):=by
 have hN:=h.1;have hl:=h.2.1;have hb:=Wx p a;rw[GC];by_cases ha:N<=a
 ·rw[Acu Bbr,cL,Acu ha]
 rw[Abw Bbr,tB p _ a F0 F0,Aa,Ca (a:=(N:Int)) (b:=(a:Int)) F0 F0,Ca];have e1:Ad (a:Int) 1=((a+1:Nat):Int):=by rw[Ag];omega
 rw[e1];by_cases hz:Fo p a=0
 ·rw[Acu (by rw[Bl];simp[hz])];by_cases h5:N<a+1+k
  ·rw[Acu F7,cL,Abw ha,Acu hz,Acu h5]
  ·rw[Abw F7,mT p _ (a+1) k F0 F0,Aa,cL,Abw ha,Acu hz,Abw h5,pZ F0,Ag];rfl
 ·rw[Abw Bbs,Amb h (a+1) l h2,Aa];have hp:2^k<=2^24:=Ae8 F0 h1;have hv:=(UO p N (a+1) l).1.toNat_lt;have e2:∀x:UInt64,(Ae x:UInt32)=UInt32.ofNat x.toNat:=λx=>by simp only[Ae,Ia,Ed]
  by_cases h5:(UO p N (a+1) l).2.2≠0
  ·have hS:cL p N a k l=(0,0,(UO p N (a+1) l).2.2):=by rw[cL,Abw ha,Abw hz,Acu h5]
   rw[hS];generalize UO p N (a+1) l=R at*
   obtain⟨v,n,e⟩:=R;simp only at*
   rw[Acu (by rw[Ay];simpa using h5)]
  ·have hsum:∀v:UInt32,(Ad (Ae v:UInt64) (UInt64.ofNat (2^k))).toNat=v.toNat+2^k:=by
    intro v;have:=v.toNat_lt;have:=Ayw (n:=k) (show 0<2 by omega);rw[JH,UInt64.toNat_add,Cx,RN F0,Aii];omega
   by_cases h6:4294967295<(UO p N (a+1) l).1.toNat+2^k
   ·have hS:cL p N a k l=(0,0,12):=by rw[cL,Abw ha,Abw hz,Abw h5,Acu h6]
    rw[hS];generalize UO p N (a+1) l=R at*
    obtain⟨v,n,e⟩:=R;simp only at*
    rw[Abw (by rw[Ay];simpa using h5),JE k F0,Aa,Acu (by rw[jM,hsum];simpa using h6)]
   ·have hS:cL p N a k l=(UInt32.ofNat ((UO p N (a+1) l).1.toNat+2^k),(UO p N (a+1) l).2.1,0):=by rw[cL,Abw ha,Abw hz,Abw h5,Abw h6]
    rw[hS];generalize UO p N (a+1) l=R at*
    obtain⟨v,n,e⟩:=R;simp only at*
    rw[Abw (by rw[Ay];simpa using h5),JE k F0,Aa,Abw (by rw[jM,hsum];simpa using h6),e2,hsum]
theorem Bbt{p:Prop}(h:p:=by rw[Ay];simp;omega):p:=h
theorem Bby{p:Prop}(h:p:=by rw[<-Ap8];omega):p:=h
end Go.Pl
namespace Go.Pl
open Go Go.Lv
variable{out v:LU}
abbrev DuN:=Nat×Nat×UInt64×UInt64
def okN(d:DuN):Prop:=okD d.1 d.2.1 d.2.2.1 d.2.2.2
def nxt(d:DuN)(v:UInt32):DuN:=(kS d.1 (Sr d.2.2.1 (yL v)),lK d.2.1 d.2.2.2 d.1 v,Sr d.2.2.1 (yL v),lT d.2.2.2 d.1 v)
def uf:DuN:=(10,10,16384,16384)
theorem Amz:okN uf:=⟨F5,F5,F5,F5⟩
theorem Avi{d:DuN}(h:okN d)(v:UInt32):okN (nxt d v):=Alp h v
abbrev DuL:=Int×Int×UInt64×UInt64×Unit
def toI(d:DuN):DuL:=((d.1:Int),(d.2.1:Int),d.2.2.1,d.2.2.2,())
def cZ(ch:Nat)(v:LU)(c:Nat):Nat->DuN
 |0=>uf
 |m+1=>if m %ch=c then nxt (cZ ch v c m) (v.getD m 0)else cZ ch v c m
theorem fZ(ch:Nat)(v:LU)(c:Nat):∀m,okN (cZ ch v c m)
 |0=>Amz
 |m+1=>by rw[cZ];split;exact Avi (fZ ch v c m) _;exact fZ ch v c m
theorem Ahs(ch:Nat)(v w:LU)(c:Nat):∀m,m<=v.length->cZ ch (v++w) c m=cZ ch v c m
 |0,_=>rfl
 |m+1,h=>by
  have e:(v++w).getD m 0=v.getD m 0:=by simp[List.getD_eq_getElem?_getD,List.getElem?_append_left (show m<v.length by omega)]
  rw[cZ,cZ,Ahs ch v w c m F0,e]
theorem jk(ch:Nat)(v:LU)(c:Nat):∀m,m<=c->c<ch->cZ ch v c m=uf
 |0,_,_=>rfl
 |m+1,h,h2=>by rw[cZ,Abw (by rw[Adk F0];omega),jk ch v c m F0 h2]
theorem Ab9(ch:Nat)(v:LU)(c i:Nat)(hi:i %ch=c)(hc:c<ch):∀j,j<ch->cZ ch v c (i+1+j)=cZ ch v c (i+1)
 |0,_=>rfl
 |j+1,h=>by
  have hne:(i+1+j) %ch≠c:=by
   intro e;have h1:(i+(1+j)) %ch=i %ch:=by rw[hi,<-e];congr 1;omega
   have h2:(1+j) %ch=0:=by
    have h3:=Nat.sub_mod_eq_zero_of_mod_eq h1;rwa [Ayu]at h3
   rw[Adk F0]at h2;omega
  rw[show i+1+(j+1)=(i+1+j)+1 by omega,cZ,Abw hne,Ab9 ch v c i hi hc j F0]
theorem Ang(ch:Nat)(v:LU)(c i:Nat)(hi:i %ch=c)(hc:c<ch):cZ ch v c (i+ch)=nxt (cZ ch v c i) (v.getD i 0):=by
 have h:=Ab9 ch v c i hi hc (ch-1) F0;rw[show i+1+(ch-1)=i+ch by omega]at h;rw[h,cZ,Acu hi]
theorem rW{l:LU}{k:Nat}(h:k<l.length):Aj l (k:Int)=some (l.getD k 0):=by
 rw[Cr h];simp[List.getD_eq_getElem?_getD,h]
theorem KF(a b:Nat):Fi (a:Int) (b:Int)=((a %b:Nat):Int):=by rw[Fi,Az2 F0];omega
theorem xA(ch:Nat)(v:LU)(hch:1<=ch)(Awe:ch<=6)(hv:v.length<=4000):∀(j i q:Nat),i %ch=v.length %ch->i<=v.length->v.length-i<=j->j<q->
  Ks (ch:Int) v q (i:Int) ((cZ ch v (v.length %ch) i).1:Int) ((cZ ch v (v.length %ch) i).2.1:Int) (cZ ch v (v.length %ch) i).2.2.1 (cZ ch v (v.length %ch) i).2.2.2=
   some (((cZ ch v (v.length %ch) v.length).1:Int),((cZ ch v (v.length %ch) v.length).2.1:Int),(cZ ch v (v.length %ch) v.length).2.2.1,(cZ ch v (v.length %ch) v.length).2.2.2)
 |j,i,q+1,hi,hl,hj,hq=>by
  have hc:v.length %ch<ch:=Axq _ F0;rw[Ks,DB];by_cases h:i<v.length
  ·have h1:=Akh (fZ ch v (v.length %ch) i) (v.getD i 0);rw[Acu F3,rW h,Aa,h1,Aa];have hle:i+ch<=v.length:=by
    have h2:=Ba2 i ch;have h3:=Ba2 v.length ch;rw[hi]at h2;have h4:ch*(i/ch)<ch*(v.length/ch):=F0
    have h5:=Nat.lt_of_mul_lt_mul_left h4;have h6:ch*(i/ch+1)<=ch*(v.length/ch):=Aw7 _ h5;rw[Nat.mul_add]at h6;omega
   have ih:=xA ch v hch Awe hv (j-ch) (i+ch) q (by rw[Bay];exact hi) hle F0 F0;rw[Ang ch v _ i hi hc]at ih;simp only;rw[Ag];exact ih
  ·rw[Abw F3,show i=v.length by omega];rfl
theorem Ajp(ch:Nat)(v:LU)(hch:1<=ch)(Awe:ch<=6)(hv:v.length<=4000):Nj (ch:Int) v=some (((cZ ch v (v.length %ch) v.length).1:Int),((cZ ch v (v.length %ch) v.length).2.1:Int),(cZ ch v (v.length %ch) v.length).2.2.1,(cZ ch v (v.length %ch) v.length).2.2.2):=by
 have hc:v.length %ch<ch:=Axq _ F0;have hle:v.length %ch<=v.length:=Baz _ _;have h:=xA ch v hch Awe hv v.length (v.length %ch) Ap (by rw[Nat.mod_mod]) hle F0 F9;rw[jk ch v _ _ (Aqm _) hc]at h;rw[Nj,BZ,Lg,Aa];simp only;rw[Bq Bbt,Aa,Ac,KF];exact h
def now(ch:Nat)(v:LU):DuN:=cZ ch v (v.length %ch) v.length
def win(N a:Nat):Nat:=min 81 (N-a)
def Ko(ch:Nat)(p:LB)(N a:Nat)(out:LU):UInt32×Int×Int:=cL (Mv p a (win N a)) (win N a) 0 (now ch out).1 (now ch out).2.1
def AO(ch:Nat)(p:LB)(N:Nat):Nat->Nat->LU->LU×Nat×Int
 |0,a,out=>(out,a,0)
 |j+1,a,out=>if(Ko ch p N a out).2.2≠0 then(out,a,(Ko ch p N a out).2.2)else AO ch p N j (a+(Ko ch p N a out).2.1.toNat) (out++[(Ko ch p N a out).1])
theorem jT{ch:Nat}{p:LB}{N a:Nat}(h:(Ko ch p N a out).2.2=0):0<(Ko ch p N a out).2.1/\ (Ko ch p N a out).2.1<=win N a:=by
 have:=Avg h;exact⟨this.1,this.2⟩
theorem Y0{ch:Nat}{p:LB}{N a:Nat}(h:(Ko ch p N a out).2.2=0):((a:Int)+(Ko ch p N a out).2.1)=((a+(Ko ch p N a out).2.1.toNat:Nat):Int):=by
 have:=jT h;omega
def sts(ch:Nat)(v:LU):List DuL:=(List.range 6).map λc=>toI (cZ ch v c v.length)
theorem mo{ch:Nat}{c:Nat}(h:c<6):Aj (sts ch v) (c:Int)=some (toI (cZ ch v c v.length)):=by
 rw[Cr (by simp[sts];exact h)];simp[sts]
theorem Aht{ch:Nat}{c:Nat}(x:UInt32)(h:c<6)(hc:c=v.length %ch):Jm (sts ch v) (c:Int) (toI (nxt (cZ ch v c v.length) x))=some (sts ch (v++[x])):=by
 rw[To _ (by simp[sts];exact h)];congr 1;apply Awj (by simp[sts]);intro i h1 h2;rw[Bba];simp only[sts,Bak,Bai];have e:(v++[x]).getD v.length 0=x:=by simp
 rw[Ac2,Aw2,cZ,e,Ahs ch v [x] i v.length (Aqm _)];by_cases hi:c=i
 ·subst hi;rw[Acu rfl,Acu hc.symm]
 ·rw[Abw hi,Abw F0]
theorem As1{ch:Nat}{c:Nat}(hc:c=v.length %ch):cZ ch v c v.length=now ch v:=by rw[now,hc]
section
variable {p:LB} {N ch n:Nat}
theorem yj(hp:okB p N)(h1:1<=ch)(h6:ch<=6)(hn:n*ch<=4000):∀(j a q:Nat) (out:LU),out.length+j=n*ch->j<q->a<=N->
  Ld (ch:Int) (n:Int) p (N:Int) q (a:Int) (out.length:Int) (sts ch out) out=
   some (if(AO ch p N j a out).2.2≠0 then([],0,(AO ch p N j a out).2.2)else((AO ch p N j a out).1,((AO ch p N j a out).2.1:Int),0))
 |j,a,q+1,out,hj,hq,ha=>by
  have hN:=hp.1;have hnn:n<=n*ch:=Azf n F0;have em:Az (n:Int) (ch:Int)=((n*ch:Nat):Int):=by rw[Fj Bby Bby,Ap8]
  rw[Ld,Qn,em];cases j with
  |zero=>
   rw[Abw F7];rfl
  |succ j=>
   have hc:out.length %ch<6:=Ak1 (Axq _ F0) h6;have ew:Dt (Ad (a:Int) 81) (N:Int)=((a+win N a:Nat):Int):=by rw[Yd,Ag];unfold win;omega
   have hw:a+win N a<=N:=by unfold win;omega
   have hw2:win N a<=81:=by unfold win;omega
   have hd:=Aq5 (pP p a (win N a) F0) 0 (fZ ch out (out.length %ch) out.length);have Apk:cL (Mv p a (win N a)) (win N a) 0 (cZ ch out (out.length %ch) out.length).1 (cZ ch out (out.length %ch) out.length).2.1=Ko ch p N a out:=rfl;rw[Acu F7,ew,Aut hp a _ hw F0,Aa];simp only;rw[Abw Bbo,Bq Bbt,Aa,KF,mo hc,Aa,Aa];refine Ayp (congrArg (λo=>Option.bind o _) hd) ?_;rw[Aa,Apk,AO];by_cases he:(Ko ch p N a out).2.2≠0
   ·rw[Acu he,Acu he];simp only;rw[Pw,Yi,Acu (by rw[Ay];simpa using he),Acu he]
   ·have he0:(Ko ch p N a out).2.2=0:=by simpa using he
    have hok:=jT he0;have hset:=Aht (ch:=ch) (v:=out) (Ko ch p N a out).1 hc rfl;rw[Abw he,Abw he];simp only;rw[Pw,Yi,Abw Bbo,Bq Bbt,Aa,KF,mo hc,Aa];refine Ayp (congrArg (λo=>Option.bind o _) hset) ?_;rw[Aa,OA,PR,By F6,Aa,Ag,Ag,Y0 he0];have ih:=yj hp h1 h6 hn j (a+(Ko ch p N a out).2.1.toNat) q (out++[(Ko ch p N a out).1]) F6 F0 F0;rw[Ac2,Aw2]at ih;exact ih
theorem Aih{p:LB}(hN:N=8*p.length)(hN2:N<=330000)(h1:1<=ch)(h6:ch<=6)(hn:n*ch<=4000):∀(j a q:Nat) (out:LU),out.length+j=n*ch->j<q->a<=N->
  Ei (ch:Int) (n:Int) p q (a:Int) (out.length:Int) out=
   if(AO ch p N j a out).2.2≠0 then some ((AO ch p N j a out).1,(AO ch p N j a out).2.2)else Ru ((AO ch p N j a out).2.1:Int) p (AO ch p N j a out).1
 |j,a,q+1,out,hj,hq,ha=>by
  have hnn:n<=n*ch:=Azf n F0;have em:Az (n:Int) (ch:Int)=((n*ch:Nat):Int):=by rw[Fj Bby Bby,Ap8]
  have e8:Az (8:Int) (Ac p)=(N:Int):=by rw[Ac,Fj];omega
  rw[Ei,FF,em];cases j with
  |zero=>
   rw[Abw F7];rfl
  |succ j=>
   have ew:Dt (Ad (a:Int) 81) (N:Int)=((a+win N a:Nat):Int):=by rw[Yd,Ag];unfold win;omega
   have hw:a+win N a<=N:=by unfold win;omega
   have hw2:win N a<=81:=by unfold win;omega
   have hpre:(Option.bind Lg λ(r_4,r_5,r_6,r_7)=>
     if(Je (out.length:Int) (ch:Int))=true then(
     Option.bind (Nj (ch:Int) out) λ(r_8,r_9,r_10,r_11)=>
     Ig (Ei (ch:Int) (n:Int) p q) (ch:Int) (n:Int) p (a:Int) (out.length:Int) out r_8 r_9 r_10 r_11)
     else Ig (Ei (ch:Int) (n:Int) p q) (ch:Int) (n:Int) p (a:Int) (out.length:Int) out r_4 r_5 r_6 r_7)=
     Ig (Ei (ch:Int) (n:Int) p q) (ch:Int) (n:Int) p (a:Int) (out.length:Int) out ((now ch out).1:Int) ((now ch out).2.1:Int) (now ch out).2.2.1 (now ch out).2.2.2:=by
    rw[Lg,Aa];by_cases hc:ch<=out.length
    ·simp only;rw[Acu Bbr,Ajp ch out h1 h6 F0,Aa];rfl
    ·have e:now ch out=uf:=by rw[now,Adk F0,jk ch out _ _ (Aqm _) F0]
     simp only;rw[Abw Bbr,e];rfl
   have hd:=Aol (pP p a (win N a) F0) 0 (now ch out).1 (now ch out).2.1 (now ch out).2.2.1 (now ch out).2.2.2 (fZ ch out _ _).1 (fZ ch out _ _).2.1;have Apk:cL (Mv p a (win N a)) (win N a) 0 (now ch out).1 (now ch out).2.1=Ko ch p N a out:=rfl;rw[Acu F7,hpre,Ig,FA,e8,ew,yx p (N:Int) a _ F0 F0 F0,Aa];simp only;refine Ayp (congrArg (λo=>Option.bind o _) hd) ?_;rw[Aa,Apk,AO];by_cases he:(Ko ch p N a out).2.2≠0
   ·rw[Acu he,Acu (by rw[Ay];simpa using he),Acu he]
   ·have he0:(Ko ch p N a out).2.2=0:=by simpa using he
    have hok:=jT he0;have ih:=Aih hN hN2 h1 h6 hn j (a+(Ko ch p N a out).2.1.toNat) q (out++[(Ko ch p N a out).1]) F6 F0 F0;have hx:=Y0 he0;rw[Ac2,Aw2]at ih;rw[Abw he];generalize Ko ch p N a out=R at*
    obtain⟨v,nx,e⟩:=R;simp only at*
    rw[Abw (by rw[Ay];simpa using he),By F6,Aa,Ag,Ag,hx];exact ih
end
theorem Z7{ch:Nat}{p:LB}{N:Nat}:∀(j a:Nat) (out:LU),a<=N-> (AO ch p N j a out).2.1<=N/\ (AO ch p N j a out).1.length<=out.length+j/\ ((AO ch p N j a out).2.2=0-> (AO ch p N j a out).1.length=out.length+j)
 |0,a,out,h=>⟨h,Aqm _,λ_=>rfl⟩
 |j+1,a,out,h=>by
  rw[AO];split
  ·rename_i he;exact⟨h,Bbn,λe=>absurd e he⟩
  ·rename_i he;have hok:=jT (ch:=ch) (p:=p) (N:=N) (a:=a) (out:=out) (by simpa using he);have hw:a+win N a<=N:=by unfold win;omega
   have ih:=Z7 (ch:=ch) (p:=p) (N:=N) j (a+(Ko ch p N a out).2.1.toNat) (out++[(Ko ch p N a out).1]) F0;rw[Ac2,Aw2]at ih;exact⟨ih.1,F0,λe=>by have:=ih.2.2 e;omega⟩
theorem zm(ch n:Int)(b:LB)(N:Int):Yz ch n b N 0 (List.replicate 6 ((0:Int),(0:Int),(0:UInt64),(0:UInt64),()))=NO ch n b N (List.replicate 6 ((10:Int),(10:Int),(16384:UInt64),(16384:UInt64),())):=by
 have e:Ap=(Ap-7)+1+1+1+1+1+1+1:=by have:=Ao;omega
 rw[Yz,e];rfl
theorem values_eq{p:LB}{N ch n:Nat}(hp:okB p N)(h1:1<=ch)(h6:ch<=6)(hn:n*ch<=4000):CK (ch:Int) (n:Int) p (N:Int)=
  some (if(AO ch p N (n*ch) 0 []).2.2≠0 then([],0,(AO ch p N (n*ch) 0 []).2.2)else((AO ch p N (n*ch) 0 []).1,((AO ch p N (n*ch) 0 []).2.1:Int),0)):=by
 have h:=yj hp h1 h6 hn (n*ch) 0 Ap [] Bbn F9 F0;rw[CK,CJ,zm];exact h
theorem U9(p:LB)(x:LU)(N:Nat)(hN:N=8*p.length)(hN2:N<=330000):∀(j a q:Nat),a+j=N->j<q->Ii p x q (a:Int)=some (x,if Bo p a j=0 then 0 else 12)
 |0,a,q+1,ha,_=>by
  have e8:Az (8:Int) (Ac p)=(N:Int):=by rw[Ac,Fj];omega
  rw[Ii,Rl,e8,Abw F7,Bo,Acu rfl];rfl
 |j+1,a,q+1,ha,hq=>by
  have e8:Az (8:Int) (Ac p)=(N:Int):=by rw[Ac,Fj];omega
  have hb:=Wx p a;rw[Ii,Rl,e8,Acu F7,tB p _ a F0 F0,Aa,Bo];by_cases h:Fo p a=0
  ·rw[Abw (by rw[Ay];simp[h]),Ag,h];have ih:=U9 p x N hN hN2 j (a+1) q F0 F0;rw[show((a:Int)+1)=((a+1:Nat):Int) by omega,ih];congr 2;by_cases hv:Bo p (a+1) j=0
   ·rw[Acu hv,Acu F0]
   ·rw[Abw hv,Abw F0]
  ·rw[Acu Bbt,Abw F0]
theorem Aro{p:LB}{N ch n:Nat}(hN:N=8*p.length)(hN2:N<=330000)(h1:1<=ch)(h6:ch<=6)(hn:n*ch<=4000):BC (ch:Int) (n:Int) p=
  some (if(AO ch p N (n*ch) 0 []).2.2≠0 then((AO ch p N (n*ch) 0 []).1,(AO ch p N (n*ch) 0 []).2.2)else
   ((AO ch p N (n*ch) 0 []).1,if 7<N-(AO ch p N (n*ch) 0 []).2.1\/Bo p (AO ch p N (n*ch) 0 []).2.1 (N-(AO ch p N (n*ch) 0 []).2.1)≠0 then 12 else 0)):=by
 have h:=Aih hN hN2 h1 h6 hn (n*ch) 0 Ap [] Bbn F9 F0;have hat:=(Z7 (ch:=ch) (p:=p) (N:=N) (n*ch) 0 [] F0).1;have e8:Az (8:Int) (Ac p)=(N:Int):=by rw[Ac,Fj];omega
 rw[BC,JL];refine Ayp h ?_;generalize AO ch p N (n*ch) 0 []=V at*
 obtain⟨v,a,e⟩:=V;simp only at*
 by_cases he:e≠0
 ·rw[Acu he,Acu he]
 ·rw[Abw he,Abw he,Ru,EM,e8,Ca];by_cases h7:7<N-a
  ·rw[Acu Bbp,Acu (.inl h7)]
  ·rw[Abw Bbp,ES,U9 p v N hN hN2 (N-a) a Ap F0 F9];by_cases hv:Bo p a (N-a)=0
   ·rw[Acu hv,Abw F0]
   ·rw[Abw hv,Acu (.inr hv)]
theorem vk(n:Int):(GI.ofZ n:Int32)=Int32.ofInt n:=rfl
theorem SK(a:Int32):GI.toZ a=a.toInt:=rfl
theorem VC(a b:Int32):Ad a b=a+b:=by
 rw[Ad,SK,SK,vk,Int32.ofInt_add,Av7,Av7]
theorem OT(a b:Int32):Ah a b=a-b:=by
 rw[Ah,SK,SK,vk,Int32.ofInt_sub,Av7,Av7]
theorem Agm(a b:Int32):geq a b=(a==b):=by
 rw[geq,SK,SK,Apc];simp[Int32.toInt_inj]
def YT(p:Nat->Bool)(a b:LX):LX:=(List.range a.length).map λk=>if p k=true then a.getD k 0 else b.getD k 0
section
variable {p q:Nat->Bool} {a b:LX}
theorem HG:(YT p a b).length=a.length:=by simp[YT]
theorem Kq{k:Nat}(h:k<a.length):a.getD k 0=a[k]:=by simp[List.getD_eq_getElem?_getD,h]
theorem Pg{k:Nat}(h:k<(YT p a b).length):(YT p a b)[k]=if p k=true then a.getD k 0 else b.getD k 0:=by simp[YT]
theorem Xq{k:Nat}(h:k<a.length):Aj (YT p a b) (k:Int)=some (if p k=true then a.getD k 0 else b.getD k 0):=by
 rw[Cr (by rw[HG];exact h),Pg]
theorem Qy(h:∀k,k<a.length->p k=q k):YT p a b=YT q a b:=by
 apply Baq;intro k hk;rw[h k (List.mem_range.1 hk)]
theorem ZZ{k:Nat}(h:k<a.length):Jm (YT p a b) (k:Int) (a.getD k 0)=some (YT (λj=>p j||decide (j=k)) a b):=by
 rw[To _ (by rw[HG];exact h)];congr 1;apply Awj (by simp[HG]);intro i h1 h2;rw[Bba,Pg,Pg];by_cases hi:k=i
 ·subst hi;simp
 ·have:¬i=k:=λe=>hi e.symm;simp[hi,this]
theorem kA(h:∀k,k<a.length->p k=true):YT p a b=a:=by
 apply Awj (by simp[HG]);intro i h1 h2;rw[Pg,Acu (h i h2),Kq h2]
theorem eD(hl:b.length=a.length)(h:∀k,k<a.length->p k=false):YT p a b=b:=by
 apply Awj (by simp[HG,hl]);intro i h1 h2;rw[Pg,h i F0];simp[List.getD_eq_getElem?_getD,h2]
end
theorem Bb2{p:Prop}(h:p:=by rw[Bl];decide):p:=h
end Go.Pl
namespace Go.Pl
open Go Go.Lv
variable{s bits:Int}{x w:Int32}{t p a b:LX}{i:Nat}
theorem zL(a b:Int32):Az a b=a*b:=by
 rw[Az,SK,SK,vk,Int32.ofInt_mul,Av7,Av7]
theorem Wc(a:Int32): -2147483648<=a.toInt/\a.toInt<2147483648:=⟨a.le_toInt,a.toInt_lt⟩
theorem Ec(a:Int32):(Ae a:Int)=a.toInt:=by
 have:=Wc a
 show wrap64 a.toInt=_;rw[Cj]<;>omega
theorem NK(n:Int):(Ae n:Int32)=Int32.ofInt n:=rfl
theorem Aj8(x:Int):Int32.ofInt (x %4294967296)=Int32.ofInt x:=by
 apply Int32.toInt_inj.1;rw[Ays,Ays];exact Int.emod_bmod x 4294967296
theorem yR(x:Int):Cl x=some (Int32.ofInt x):=by
 have e1:(Ae x:UInt64).toNat=(x %18446744073709551616).toNat:=by
  rw[Abc,Aii,Adk F0]
 have e2:(Ae (Ae x:UInt64):UInt32).toNat=(x %4294967296).toNat:=by
  have e:(Ae (Ae x:UInt64):UInt32)=UInt32.ofNat (Ae x:UInt64).toNat:=by simp only[Ae,Ia,Ed]
  rw[e,Aky,e1];show(x %18446744073709551616).toNat %4294967296=_;omega
 have e3:(Ae (Ae (Ae x:UInt64):UInt32):Int32)=Int32.ofInt ((Ae (Ae x:UInt64):UInt32).toNat:Int):=rfl;rw[Cl,e3,e2,<-Aj8 x];congr 2;omega
theorem pO(a b:Int32):Cl (Ad (Ae a:Int) (Ae b:Int))=some (a+b):=by
 have:=Wc a;have:=Wc b;rw[Ec,Ec,Ag,yR,Int32.ofInt_add,Av7,Av7]
theorem An3(a b:Int32):Cl (Az (Ae a:Int) (Ae b:Int))=some (a*b):=by
 have ha:=Wc a;have hb:=Wc b;have h1: -9223372036854775808<=a.toInt*b.toInt/\a.toInt*b.toInt<=9223372036854775807:=by
  have h2:(a.toInt*b.toInt).natAbs<=2147483648*2147483648:=by
   rw[Int.natAbs_mul];exact Awg F0 F0
  omega
 rw[Ec,Ec,Fj h1.1 h1.2,yR,Int32.ofInt_mul,Av7,Av7]
def OkF(s:Int)(t p:LX):Prop:=(s=9\/s=10)/\t.length=16/\p.length=16
theorem tO(h:OkF s t p):GH s t p=some 0:=by
 obtain⟨rfl|rfl,_,_⟩:=h<;>rfl
theorem g32{l:LX}{k:Nat}(h:k<l.length):Aj l (k:Int)=some (l.getD k 0):=by
 rw[Cr h];simp[List.getD_eq_getElem?_getD,h]
def gK(t p:LX):Nat->Int32
 |0=>0
 |i+1=>gK t p i+t.getD i 0*p.getD i 0
def half(s:Int):Int32:=if s=9 then 256 else 512
def gF(s:Int)(t p:LX):Int32:=Int32.ofInt ((half s+gK t p 16).toInt.fdiv (if s=9 then 512 else 1024))
theorem T9{s:Int}{t p:LX}(h:OkF s t p):∀(j i q:Nat),i+j=16->j<q->Rf t s p q (half s+gK t p i) (i:Int)=some (gF s t p,0)
 |0,i,q+1,hi,_=>by
  obtain rfl:i=16:=F0
  have hs:=h.1;rw[Rf,HB,Abw Bbw,TO,mN,Bq Bbr,Aa];obtain rfl|rfl:=hs<;>rfl
 |j+1,i,q+1,hi,hq=>by
  obtain⟨hs,ht,hp⟩:=h;rw[Rf,HB,Acu F7,g32 F0,Aa,g32 F0,Aa,Aa,Ag (b:=1) F0 F0,VC,zL,Int32.add_assoc];exact T9 ⟨hs,ht,hp⟩ j (i+1) q F0 F0
theorem Abl(h:OkF s t p):PB s t p=some (gF s t p,0):=by
 have hs:=h.1;have h1:=T9 h 16 0 Ap F0 F9;have e:Ct (1:Int32) (GI.toZ (Ah s (1:Int))).toNat=half s+gK t p 0:=by
  obtain rfl|rfl:=hs<;>rfl
 rw[PB,TJ,tO h,Aa,Abw Bbo,Bq (by rw[Cz,Ca];simp;omega),Aa,mC,e];exact h1
theorem N3{s:Int}{t p:LX}(ht:t.length=16)(hp:p.length=16){g:Int32}(hg:gK t p 16=g):∀(j i q:Nat),i+j=16->j<q->Kg s t p q (gK t p i).toInt (i:Int)=some g
 |0,i,q+1,hi,_=>by
  obtain rfl:i=16:=F0
  rw[Kg,Vh,Abw Bbw,LN,MM,NK,Av7,hg]
 |j+1,i,q+1,hi,hq=>by
  have ih:=N3 (s:=s) ht hp hg j (i+1) q F0 F0;rw[gK]at ih;rw[Kg,Vh,Acu F7,g32 F0,g32 F0,Aa,Aa,Aa,Aa,An3,Aa,<-Ec (gK t p i),pO,Aa,Ec,Ag];exact ih
theorem Amv(h:OkF s t p):UU s t p=some (gK t p 16):=
 N3 h.2.1 h.2.2 rfl 16 0 Ap F0 F9
theorem Akl(x n:Int)(hn:n=512\/n=1024\/n=16\/n=32):(if x.tmod n<0 then x.tdiv n-1 else x.tdiv n)=x.fdiv n:=by
 have hs:n.sign=1:=by obtain rfl|rfl|rfl|rfl:=hn<;>rfl
 rw[Int.tdiv_eq_ediv,Int.tmod_eq_emod,hs,Apm _ F0];by_cases h:0<=x\/n∣x
 ·rw[Acu h,Acu h];obtain rfl|rfl|rfl|rfl:=hn<;>(rw[Abw F0];omega)
 ·rw[Abw h,Abw h];obtain rfl|rfl|rfl|rfl:=hn<;>(rw[Acu F0];omega)
theorem O2(x n:Int)(hn:n=512\/n=1024\/n=16\/n=32)(h: -1000000000000<=x)(h':x<=1000000000000): -1000000000000<=x.tdiv n/\x.tdiv n<=1000000000000:=by
 have hs:n.sign=1:=by obtain rfl|rfl|rfl|rfl:=hn<;>rfl
 rw[Int.tdiv_eq_ediv,hs];by_cases h:0<=x\/n∣x
 ·rw[Acu h];obtain rfl|rfl|rfl|rfl:=hn<;>omega
 ·rw[Abw h];obtain rfl|rfl|rfl|rfl:=hn<;>omega
theorem Axd(x n:Int)(hn:n=512\/n=1024\/n=16\/n=32)(h: -1000000000000<=x)(h':x<=1000000000000):Bf x n=x.tdiv n:=by
 have:=O2 x n hn h h';rw[KJ,Cj F0 F0]
theorem Abt(x n:Int)(hn:n=512\/n=1024\/n=16\/n=32)(h: -1000000000000<=x)(h':x<=1000000000000):
  (if(Cg (Fi x n) (0:Int))=true then some (Ae (Ah (Bf x n) (1:Int)):Int32)else some (Ae (Bf x n):Int32))=some (Int32.ofInt (x.fdiv n)):=by
 have hb:=O2 x n hn h h';rw[Af,Fi,Axd x n hn h h',Ca,NK,NK,<-Akl x n hn];by_cases hx:x.tmod n<0
 ·rw[Acu (by simpa using hx),Acu hx]
 ·rw[Abw (by simpa using hx),Abw hx]
theorem Aqg(h:OkF s t p):CF s t p=some (gF s t p):=by
 obtain⟨hs,ht,hp⟩:=h;have h:OkF s t p:=⟨hs,ht,hp⟩;have hx:=Wc (gK t p 16+half s);have key:∀n:Int,(n=512\/n=1024)-> (half s).toInt=n/2->gF s t p=Int32.ofInt ((half s+gK t p 16).toInt.fdiv n)->Ts s t p n=some (gF s t p):=by
  intro n hn hh hg;have e2:Bf n (2:Int)=(half s).toInt:=by rw[hh];obtain rfl|rfl:=hn<;>rfl
  rw[Ts,HR,Amv h,Aa,e2,<-Ec (half s),pO,Aa,Bq Bbt,Aa,Aa,Ec,Abt _ n F0 F0 F0,hg,Int32.add_comm]
 rw[CF,HX];obtain rfl|rfl:=hs
 ·rw[Acu Bb4];exact key 512 (.inl rfl) rfl rfl
 ·rw[Abw Bb2];exact key 1024 (.inr rfl) rfl rfl
def xw(i:Nat):Int32:=if i=0 then 4 else if i<4 then 2 else 1
def sg(x:Int32):Int32:=if x.toInt<0 then -1 else if 0<x.toInt then 1 else 0
def zM(t p:LX)(w:Int32):LX:=(List.range 16).map λi=>t.getD i 0+xw i*sg (p.getD i 0)*sg w
theorem DI(t p:LX)(w:Int32):(zM t p w).length=16:=by simp[zM]
theorem og(t p:LX)(w:Int32)(h:i<16):(zM t p w).getD i 0=t.getD i 0+xw i*sg (p.getD i 0)*sg w:=by
 rw[Kq (by rw[DI];exact h)];simp[zM]
theorem step_eq(i:Nat):VH (i:Int)=some (xw i):=by
 rw[VH,xw];by_cases h:i=0
 ·rw[Acu (by rw[Bl];simp[h]),Acu h]
 ·rw[Abw Bbs,Abw h];by_cases h2:i<4
  ·rw[Acu F7,Acu h2]
  ·rw[Abw F7,Abw h2]
theorem Ajl(i:Nat):DP (i:Int)=some (xw i):=by
 rw[DP,xw];by_cases h:i=0
 ·rw[Acu (by rw[Bl];simp[h]),Acu h]
 ·rw[Abw Bbs,Abw h];by_cases h2:i<4
  ·rw[Acu (by rw[bO];simp;omega),Acu h2]
  ·rw[Abw (by rw[bO];simp;omega),Abw h2]
theorem oh(a b:Int32):Cg a b=decide (a.toInt<b.toInt):=rfl
theorem Aed(a b:Int32):Eg a b=decide (b.toInt<a.toInt):=rfl
theorem sign_eq(x:Int32):Rw x=some (sg x):=by
 rw[Rw,sg,oh,Aed,show(0:Int32).toInt=0 from rfl];by_cases h:x.toInt<0
 ·rw[Acu (by simpa using h),Acu h]
 ·rw[Abw (by simpa using h),Abw h];by_cases h2:0<x.toInt
  ·rw[Acu (by simpa using h2),Acu h2]
  ·rw[Abw (by simpa using h2),Abw h2]
theorem Ag5:sg 0=0:=rfl
theorem toInt_ne(h:x≠0):x.toInt≠0:=λe=>h (Int32.toInt_inj.1 (by rw[e];rfl))
theorem iy(h:x.toInt<0):sg x= -1:=by rw[sg,Acu h]
theorem jf(h:x≠0)(h2:¬x.toInt<0):sg x=1:=by
 have:=toInt_ne h;rw[sg,Abw h2,Acu F0]
theorem jX(i:Nat):xw i=4\/xw i=2\/xw i=1:=by
 unfold xw;by_cases h:i=0
 ·rw[Acu h];exact .inl rfl
 ·rw[Abw h];split;exact .inr (.inl rfl);exact .inr (.inr rfl)
theorem Ajw(hx:x≠0)(hw:w≠0)(h:(x.toInt<0)=(w.toInt<0))(i:Nat):xw i*sg x*sg w=xw i:=by
 by_cases h1:x.toInt<0
 ·rw[iy h1,iy (by rw[<-h];exact h1)];obtain e|e|e:=jX i<;>rw[e]<;>decide
 ·rw[jf hx h1,jf hw (by rw[<-h];exact h1)];obtain e|e|e:=jX i<;>rw[e]<;>decide
theorem Adz(hx:x≠0)(hw:w≠0)(h:¬(x.toInt<0)=(w.toInt<0))(i:Nat)(a:Int32):a+xw i*sg x*sg w=a-xw i:=by
 have key:xw i*sg x*sg w=-xw i:=by
  by_cases h1:x.toInt<0
  ·have h2:¬w.toInt<0:=λh2=>h (propext ⟨λ_=>h2,λ_=>h1⟩);rw[iy h1,jf hw h2];obtain e|e|e:=jX i<;>rw[e]<;>decide
  ·have h2:w.toInt<0:=Decidable.by_contra λh2=>h (propext ⟨λh3=>absurd h3 h1,λh3=>absurd h3 h2⟩);rw[jf hx h1,iy h2];obtain e|e|e:=jX i<;>rw[e]<;>decide
 rw[key,Int32.sub_eq_add_neg]
def rI(i:Nat):Nat->Bool:=λj=>decide (j<i)
theorem O7(h:i<a.length):Jm (YT (rI i) a b) (i:Int) (a.getD i 0)=some (YT (rI (i+1)) a b):=by
 rw[ZZ h];congr 1;apply Qy;intro k _;rw[Apc];simp only[rI,Awo,Adp];omega
theorem Akf(e:a.getD i 0=b.getD i 0):YT (rI i) a b=YT (rI (i+1)) a b:=by
 apply Baq;intro k _;simp only[rI,Adp];by_cases h1:k<i
 ·rw[Acu h1,Acu F0]
 ·by_cases h2:k=i
  ·subst h2;rw[Abw h1,Acu F0,e]
  ·rw[Abw h1,Abw F0]
theorem Acl(h:i<a.length):Aj (YT (rI i) a b) (i:Int)=some (b.getD i 0):=by
 rw[Xq h,Abw (by simp[rI])]
theorem Y9{s:Int}{t p:LX}{w:Int32}(hw:w≠0)(ht:t.length=16)(hp:p.length=16):∀(j i q:Nat),i+j=16->j<q->Qw w p s q (i:Int) (YT (rI i) (zM t p w) t)=some (s,zM t p w,p,0)
 |0,i,q+1,hi,_=>by
  obtain rfl:i=16:=F0
  rw[Qw,HC,Abw Bbw,kA (λk hk=>by rw[DI]at hk;simpa [rI]using hk)];rfl
 |j+1,i,q+1,hi,hq=>by
  have hl:=DI t p w;have hg:=og t p w (i:=i) F0;rw[Qw,HC,Acu F7,g32 F0,Aa,Ag (b:=1) F0 F0,Acl F0,step_eq];simp only[Aa];rw[VC,OT,Agm,oh,oh,show(0:Int32).toInt=0 from rfl];have ih:=Y9 (s:=s) hw ht hp j (i+1) q F0 F0;by_cases hx:p.getD i 0=0
  ·rw[Acu (by rw[hx];rfl),Akf (by rw[hg,hx,Ag5,Int32.mul_zero,Int32.zero_mul,Int32.add_zero])];exact ih
  ·rw[Abw (by simpa using hx)];by_cases hs:((p.getD i 0).toInt<0)=(w.toInt<0)
   ·rw[Acu (by rw[Bad];simp only[hs]),show t.getD i 0+xw i=(zM t p w).getD i 0 by rw[hg,Ajw hx hw hs],O7 F0,Aa];exact ih
   ·rw[Abw (by rw[Bad,decide_eq_decide];exact λh=>hs (propext h)),show t.getD i 0-xw i=(zM t p w).getD i 0 by rw[hg,Adz hx hw hs],O7 F0,Aa];exact ih
theorem Ald(p:LX)(ht:t.length=16):zM t p 0=t:=by
 apply Awj (by rw[DI,ht]);intro i h1 h2;have:=og t p 0 (i:=i) F0;rw[Kq h1,Kq h2]at this;rw[this,Ag5,Int32.mul_zero,Int32.add_zero]
theorem Abb(h:OkF s t p)(w:Int32):aR s t p w=some (s,zM t p w,p,0):=by
 rw[aR,TZ,tO h,Aa,Abw Bbo,Agm];by_cases hw:w=0
 ·rw[Acu (by simpa using hw),hw,Ald p h.2.1]
 ·have h1:=Y9 (s:=s) hw h.2.1 h.2.2 16 0 Ap F0 F9;rw[eD (by rw[DI,h.2.1]) (λk _=>by simp[rI])]at h1;rw[Abw (by simpa using hw)];exact h1
theorem qI{s:Int}{t p:LX}{w:Int32}(ht:t.length=16)(hp:p.length=16):∀(j i q:Nat),i+j=16->j<q->Gp w s p q (i:Int) (YT (rI i) (zM t p w) t)=some (s,zM t p w,p)
 |0,i,q+1,hi,_=>by
  obtain rfl:i=16:=F0
  rw[Gp,Od,Abw Bbw,kA (λk hk=>by rw[DI]at hk;simpa [rI]using hk)];rfl
 |j+1,i,q+1,hi,hq=>by
  have hl:=DI t p w;have hg:=og t p w (i:=i) F0;rw[Gp,Od,Acu F7,g32 (l:=p) F0,Ag (b:=1) F0 F0,Acl F0,Ajl,sign_eq w,Aa,Aa,Aa,Aa,Aa,sign_eq,Aa,Aa,Aa,VC,zL,zL,<-hg,O7 F0,Aa];exact qI ht hp j (i+1) q F0 F0
theorem Afe(h:OkF s t p)(w:Int32):HQ s t p w=some (s,zM t p w,p):=by
 have h1:=qI (s:=s) (w:=w) h.2.1 h.2.2 16 0 Ap F0 F9;rw[eD (by rw[DI,h.2.1]) (λk _=>by simp[rI])]at h1;exact h1
theorem Aqq(h:p.length=16):∃a0 a1 a2 a3 a4 a5 a6 a7 a8 a9 b0 b1 b2 b3 b4 b5,p=[a0,a1,a2,a3,a4,a5,a6,a7,a8,a9,b0,b1,b2,b3,b4,b5]:=by
 match p,h with
 |[a0,a1,a2,a3,a4,a5,a6,a7,a8,a9,b0,b1,b2,b3,b4,b5],_=>exact⟨a0,a1,a2,a3,a4,a5,a6,a7,a8,a9,b0,b1,b2,b3,b4,b5,rfl⟩
theorem Af1(h:OkF s t p)(x:Int32):kK s t p x=some (s,t,x::p.take 15,0):=by
 obtain⟨hs,ht,hp⟩:=h;rw[kK,MY,tO ⟨hs,ht,hp⟩,Aa,Abw Bbo,show jS (16:Int) 1 16=some ()from rfl,Aa,show jS (16:Int) 0 16=some ()from rfl,Aa,ZH,pK];obtain⟨a0,a1,a2,a3,a4,a5,a6,a7,a8,a9,b0,b1,b2,b3,b4,b5,rfl⟩:=Aqq hp;rfl
def kr(p:LX)(i:Nat):LX:=(List.range 16).map λk=>if k<=i then p.getD k 0 else p.getD (k-1) 0
theorem Xu(p:LX)(i:Nat):(kr p i).length=16:=by simp[kr]
theorem Arh(p:LX)(i k:Nat)(h:k<16):(kr p i).getD k 0=if k<=i then p.getD k 0 else p.getD (k-1) 0:=by
 rw[Kq (by rw[Xu];exact h)];simp[kr]
theorem Ars(p:LX)(i:Nat)(h:i+1<16):Jm (kr p (i+1)) ((i+1:Nat):Int) (p.getD i 0)=some (kr p i):=by
 rw[To _ (by rw[Xu];exact h)];congr 1;apply Awj (by simp[Xu]);intro k h1 h2;rw[Xu]at h2;rw[Bba];simp only[kr,Bak,Bai];by_cases hk:i+1=k
 ·subst hk;rw[Acu rfl,Abw F0];rfl
 ·rw[Abw hk];by_cases h3:k<=i
  ·rw[Acu F0,Acu h3]
  ·rw[Abw F0,Abw h3]
theorem wX(s:Int)(t p:LX)(x:Int32)(hp:p.length=16):∀(i q:Nat),i<16->i<q->Ho x s t q (i:Int) (kr p i)=some (s,t,x::p.take 15)
 |0,q+1,_,_=>by
  have hg:Aj (kr p 0) (0:Int)=some ((kr p 0).getD 0 0):=g32 (l:=kr p 0) (k:=0) (by rw[Xu];omega);have hset:Jm (kr p 0) (0:Int) x=some ((kr p 0).set 0 x):=To (l:=kr p 0) (n:=0) x (by rw[Xu];omega);rw[Ho,Qk,Abw Bb5,AX,BY,hg,Aa,hset,Aa];congr 3;apply Awj (by simp[Xu,hp]);intro k h1 h2;rw[Ay3,Xu]at h1;rw[Bba];cases k with
  |zero=>rw[Acu rfl];rfl
  |succ k=>
   rw[Abw F0];simp only[kr,Bak,Bai,List.getElem_cons_succ,List.getElem_take];rw[Abw F0,Nat.add_sub_cancel,Kq F0]
 |i+1,q+1,hi,hq=>by
  have hg:=g32 (l:=kr p (i+1)) (k:=i) (by rw[Xu];omega);rw[Arh p (i+1) i F0,Acu F0]at hg;have e1:Ah ((i+1:Nat):Int) (1:Int)=(i:Int):=by rw[Ca];omega
  have hg2:=g32 (l:=kr p (i+1)) (k:=i+1) (by rw[Xu];omega);rw[Ho,Qk,Acu Bb5,e1,hg,Aa,Aa,hg2,Aa,Ars p i hi,Aa];exact wX s t p x hp i q F0 F0
theorem Aka(hp:p.length=16)(x:Int32):LG s t p x=some (s,t,x::p.take 15):=by
 have h:=wX s t p x hp 15 Ap F0 F9;have e:kr p 15=p:=by
  apply Awj (by rw[Xu,hp]);intro k h1 h2;rw[Xu]at h1;simp only[kr,Bak,Bai];rw[Acu F0,Kq h2]
 rw[e]at h;exact h
theorem Alz(h:OkF s t p)(w x:Int32):OkF s (zM t p w) (x::p.take 15):=⟨h.1,DI _ _ _,by simp[h.2.2]⟩
theorem Arz(h:OkF s t p)(y:Int32):iR s t p y=some (y+gF s t p,s,zM t p y,(y+gF s t p)::p.take 15,0):=by
 rw[iR,Abl h,Aa];simp only;rw[Abw Bbo,VC,NZ,Abb h,Aa];simp only;rw[Af1 (s:=s) (t:=zM t p y) (p:=p) ⟨h.1,DI _ _ _,h.2.2⟩,Aa];rfl
theorem Ail(h:OkF s t p)(y:Int32):Tg s t p y=some (y+gF s t p,s,zM t p y,(y+gF s t p)::p.take 15):=by
 rw[Tg,Aqg h,Aa,pO,Aa,Afe h,Aa];simp only;rw[Aka h.2.2,Aa]
def sB(bits:Int):Int:=if bits=16 then 9 else 10
def shB(bits:Int):Int:=if bits=8 then 4 else 5
def Bw(bits:Int):Prop:=bits=8\/bits=16\/bits=24
def gs(sh:Int)(last:Int32):Int32:=Ae (qg (Ah (Ct (Ae last:Int) sh.toNat) (Ae last)) sh.toNat)
theorem Axl(bits:Int):sB bits=9\/sB bits=10:=by unfold sB;split<;>simp
theorem Aru(bits:Int):0<=shB bits:=by unfold shB;split<;>omega
theorem Aze(h:Bw bits)(t:LX):qY bits t=some (sB bits,t,List.replicate 16 0,0):=by
 obtain rfl|rfl|rfl:=h<;>rfl
theorem Av8(h:Bw bits):fU bits=some (shB bits,0):=by
 obtain rfl|rfl|rfl:=h<;>rfl
theorem Auq{sh:Int}(h:0<=sh)(last:Int32):RI sh last=some (gs sh last):=by
 rw[RI,Bq (by rw[Cz];simpa using h),Aa,Aa];rfl
theorem Am3(h:Bw bits)(last:Int32):Ti bits last=some (gs (shB bits) last,0):=by
 rw[Ti,Av8 h,Aa];simp only;rw[Abw Bbo,Auq (Aru bits),Aa]
theorem N6(h:Bw bits)(last:Int32)(t p:LX):Th bits last (sB bits) t p=some 0:=by
 rw[Th,Aze h,Aa];simp only;rw[Abw (by rw[Ay,Ay];simp)]
theorem Ai6(h:Bw bits)(hF:OkF (sB bits) t p)(last y:Int32):
  Jv bits last (sB bits) t p y=some (y+gF (sB bits) t p+gs (shB bits) last,bits,y+gF (sB bits) t p+gs (shB bits) last,sB bits,zM t p y,(y+gF (sB bits) t p)::p.take 15,0):=by
 rw[Jv,N6 h,Aa,Abw Bbo,Am3 h,Aa];simp only;rw[Arz hF,Aa];simp only;rw[VC]
theorem uN(sh:Int)(hs:sh=4\/sh=5)(last:Int32):Nq sh last=some (gs sh last):=by
 have hl:=Wc last;have key:∀n:Int,n=16\/n=32->gs sh last=Int32.ofInt (((n-1)*last.toInt).fdiv n)->Qe last n=some (gs sh last):=by
  intro n hn hg;have e:Az (Ah n (1:Int)) (Ae last:Int)=(n-1)*last.toInt:=by
   obtain rfl|rfl:=hn<;>(rw[Ec,Ca,Fj])
  rw[Qe,BB,Bq Bbt,Aa,Aa,e,Abt _ n F0 (by obtain rfl|rfl:=hn<;>omega) (by obtain rfl|rfl:=hn<;>omega),hg]
 rw[Nq,DG];obtain rfl|rfl:=hs
 ·rw[Abw Bb2];refine key 16 (.inl rfl) ?_;have e:Ct (Ae last:Int) (4:Int).toNat=last.toInt*16:=by
   rw[Ec];show wrap64 (last.toInt*2^4)=_;rw[Cj]<;>omega
  rw[gs,e,Ec,Ca,NK]
  show Int32.ofInt ((last.toInt*16-last.toInt).fdiv 16)=_;congr 2;omega
 ·rw[Acu Bb4];refine key 32 (.inr rfl) ?_;have e:Ct (Ae last:Int) (5:Int).toNat=last.toInt*32:=by
   rw[Ec];show wrap64 (last.toInt*2^5)=_;rw[Cj]<;>omega
  rw[gs,e,Ec,Ca,NK]
  show Int32.ofInt ((last.toInt*32-last.toInt).fdiv 32)=_;congr 2;omega
theorem Akt(h:Bw bits)(hF:OkF (sB bits) t p)(last y:Int32):
  Td bits last (sB bits) t p y=some (y+gF (sB bits) t p+gs (shB bits) last,bits,y+gF (sB bits) t p+gs (shB bits) last,sB bits,zM t p y,(y+gF (sB bits) t p)::p.take 15):=by
 have hb:Vy bits last (sB bits) t p=some (Ae (gs (shB bits) last):Int):=by
  rw[Vy];obtain rfl|rfl|rfl:=h
  ·rw[Acu Bb4,uN 4 (.inl rfl),Aa];rfl
  ·rw[Abw Bb2,uN 5 (.inr rfl),Aa];rfl
  ·rw[Abw Bb2,uN 5 (.inr rfl),Aa];rfl
 rw[Td,Ail hF,Aa];simp only;rw[hb,Aa,pO,Aa]
theorem Ax5(h:Bw bits)(t:LX):UQ bits t=some (bits,0,sB bits,t,List.replicate 16 0,0):=by
 obtain rfl|rfl|rfl:=h<;>rfl
def NU(n:UInt32):Int32:=if n.toNat %2=0 then Int32.ofInt ((n.toNat/2:Nat):Int)else Int32.ofInt (-((n.toNat/2:Nat):Int)-1)
theorem Ab6(a b:Int32):(Tu a b).toBitVec=a.toBitVec^^^b.toBitVec:=by
 show(Int32.ofInt ((BitVec.ofInt 32 a.toBitVec.toInt^^^BitVec.ofInt 32 b.toBitVec.toInt).toNat:Int)).toBitVec=_;rw[BitVec.ofInt_toInt,BitVec.ofInt_toInt,Int32.toBitVec_ofInt,BitVec.ofInt_natCast,BitVec.ofNat_toNat,BitVec.setWidth_eq]
theorem Ax4(m:Nat)(h:m<2147483648):Tu (Int32.ofInt (m:Int)) (Int32.ofInt (-1))=Int32.ofInt (-(m:Int)-1):=by
 apply Int32.toBitVec_inj.1;have e1:(Int32.ofInt (-1)).toBitVec=BitVec.allOnes 32:=F5
 rw[Ab6,e1,BitVec.xor_allOnes,Int32.toBitVec_ofInt,Int32.toBitVec_ofInt];apply Bau;rw[BitVec.toNat_not,Ayx,Ayx];omega
theorem Ane(n:UInt32):Uq n=some (NU n):=by
 have hn:=n.toNat_lt;have e1:(Ae (Bv n (GI.toZ (1:UInt64)).toNat):Int32)=Int32.ofInt ((n.toNat/2:Nat):Int):=by
  show Int32.ofInt ((Bv n 1).toNat:Int)=_;rw[HS]
 have e2:(Ae (Dr n (1:UInt32)):Int32)=Int32.ofInt ((n.toNat %2:Nat):Int):=by
  show Int32.ofInt ((Dr n (1:UInt32)).toNat:Int)=_;rw[E8,UInt32.toNat_and]
  show Int32.ofInt ((n.toNat&&&1:Nat):Int)=_;rw[Nat.and_one_is_mod]
 rw[Uq,e1,e2,NU];congr 1;by_cases h:n.toNat %2=0
 ·have e3:pL (Int32.ofInt ((n.toNat %2:Nat):Int))=Int32.ofInt 0:=by rw[h];decide
  rw[Acu h,e3];apply Int32.toBitVec_inj.1;rw[Ab6,show(Int32.ofInt 0).toBitVec=0#32 from rfl,BitVec.xor_zero]
 ·have e3:pL (Int32.ofInt ((n.toNat %2:Nat):Int))=Int32.ofInt (-1):=by rw[show n.toNat %2=1 by omega];decide
  rw[Abw h,e3,Ax4 _ F0]
theorem Aqo(n:UInt32):BU n=some (NU n):=by
 have hn:=n.toNat_lt;have e1:geq (AN n (2:UInt32)) (0:UInt32)=decide (n.toNat %2=0):=by
  rw[jq,zn,Apc];simp only[Bad,<-UInt32.toNat_inj,UInt32.toNat_mod,Adp];rfl
 rw[BU,e1,NU];by_cases h:n.toNat %2=0
 ·rw[Acu (by simpa using h),Acu h,Aaf];rfl
 ·have e2:(Ae n:Int)=(n.toNat:Int):=zF n;rw[Abw (by simpa using h),Abw h,e2,Ag,jw,Cj F0 F0,KJ,Int.tdiv_eq_ediv,NK];congr 2;rw[Acu (.inr F0),Cj F0 F0];omega
theorem Bbq{p:Prop}(h:p:=by rw[Ba,Ac];simp;omega):p:=h
end Go.Pl
namespace Go.Pl
open Go Go.Lv
theorem lV{c:Prop} [Decidable c](h:c):Gu (decide c)=some ():=by rw[decide_eq_true h];rfl
def unV(f:Nat->Int32)(ch:Nat):Nat->Int32
 |0=>if 1<ch then f (ch-1)+Bf (f (ch-2)) (2:Int32)else f (ch-1)
 |j+1=>unV f ch j-f (ch-2-j)
def H9(ch:Nat)(m:LX):LX:=(List.range m.length).map λk=>unV (λi=>m.getD (k-k %ch+i) 0) ch (ch-1-k %ch)
theorem jV(ch:Nat)(m:LX):(H9 ch m).length=m.length:=by simp[H9]
theorem yT{ch:Nat}{m:LX}{a i:Nat}(ha:a %ch=0)(hi:i<ch)(h:a+i<m.length):(H9 ch m).getD (a+i) 0=unV (λi=>m.getD (a+i) 0) ch (ch-1-i):=by
 have hb:(a+i) %ch=i:=by rw[Nat.add_mod,ha,Axk,Nat.mod_mod,Adk hi]
 rw[Kq (by rw[jV];exact h)];simp only[H9,Bak,Bai,hb];rw[show a+i-i=a by omega]
section
variable (ch:Nat) (m:LX)
theorem Aak(h1:1<=ch)(h6:ch<=6)(hm:m.length %ch=0)(hl2:m.length<=4000):WG (ch:Int) m=some 0:=by
 rw[WG,Abw Bbu,Abw Bbq,Bq Bbt,Aa,Abw];rw[Ay,Fi,Ac,<-Int.ofNat_tmod,hm];simp
theorem zJ(bk:Int->LX->Option (LX×Int))(at':Nat)(h1:1<=ch)(h6:ch<=6)(hm:at' %ch=0)(hl:at'+ch<=m.length)(hl2:m.length<=4000):∀(i q:Nat),i<=ch-1->i<q->
  Un bk (ch:Int) (at':Int) q ((i:Int)-1) (YT (λk=>decide (k<at'\/ (at'+i<=k/\k<at'+ch))) (H9 ch m) m)=bk ((at'+ch:Nat):Int) (YT (λk=>decide (k<at'+ch)) (H9 ch m) m)
 |0,q+1,hi,_=>by
  have e4:Ad (at':Int) (ch:Int)=((at'+ch:Nat):Int):=by rw[Ag];omega
  rw[Un,MR,Abw Bbv,ZE,qL,e4];congr 1;apply Qy;intro k _;rw[Apc];simp;omega
 |i+1,q+1,hi,hq=>by
  have hlen:=jV ch m;have e2:Ad (at':Int) (ch:Int)-(at':Int)=(ch:Int):=by rw[Ag];omega
  have e3:Ad (i:Int) 1=((i+1:Nat):Int):=by rw[Ag];omega
  have hv:((H9 ch m).getD (at'+(i+1)) 0-m.getD (at'+i) 0)=(H9 ch m).getD (at'+i) 0:=by
   rw[yT hm F0 F0,yT hm F0 F0,show ch-1-i=(ch-1-(i+1))+1 by omega,unV,show ch-2-(ch-1-(i+1))=i by omega]
  rw[Un,MR,show((i+1:Nat):Int)-1=(i:Int) by omega,Acu Bbv,e2,e3,lV F0,Aa,lV F0,Aa,
   show(at':Int)+((i+1:Nat):Int)=((at'+(i+1):Nat):Int) by omega,show(at':Int)+(i:Int)=((at'+i:Nat):Int) by omega,
   Xq F0,Aa,Xq F0,Aa,Aa,Acu F6,Abw F6,OT,hv,ZZ F0,Aa,Ca]
  have ih:=zJ bk at' h1 h6 hm hl hl2 i q F0 F0;rw[<-ih];congr 1;apply Qy;intro k _;rw[Apc];simp;omega
theorem K8{at' ch n:Nat}(ha:at' %ch=0)(hm:n %ch=0)(h:at'<n):at'+ch<=n:=by
 have d1:=Ba2 at' ch;have d2:=Ba2 n ch;rw[ha,Ayq]at d1;rw[hm,Ayq]at d2;have hlt:at'/ch<n/ch:=by
  rcases Bal (at'/ch) (n/ch)with h'|h'
  ·exact h'
  ·have:=Aw7 ch h';omega
 have:=Aw7 ch (show at'/ch+1<=n/ch from hlt);rw[Nat.mul_add]at this;omega
theorem S7(h1:1<=ch)(h6:ch<=6)(hm:m.length %ch=0)(hl2:m.length<=4000):∀(j at' q:Nat),at' %ch=0->at'<=m.length->m.length-at'<=j->j<q->
  Pz (ch:Int) q (at':Int) (YT (λk=>decide (k<at')) (H9 ch m) m)=some (H9 ch m,0)
 |j,at',q+1,ha,hle,hj,hq=>by
  have hlen:=jV ch m;have hl:Ac (YT (λk=>decide (k<at')) (H9 ch m) m)=(m.length:Int):=by rw[Ac,HG,hlen]
  rw[Pz,YB,hl];by_cases h:at'<m.length
  ·have hb:=K8 ha hm h;obtain⟨j,rfl⟩:∃k,j=k+1:=⟨j-1,F0⟩;have e1:Ah (Ad (at':Int) (ch:Int)-(at':Int)) 1=((ch-1:Nat):Int):=by rw[Ag,Ca];omega
   have e2:Ad (at':Int) (ch:Int)-(at':Int)=(ch:Int):=by rw[Ag];omega
   have e4:Ad (at':Int) (ch:Int)=((at'+ch:Nat):Int):=by rw[Ag];omega
   have hi:=zJ ch m (Pz (ch:Int) q) at' h1 h6 ha hb hl2 (ch-1) Ap F0 F9;have hrest:=S7 h1 h6 hm hl2 j (at'+ch) q (by rw[Bay,ha]) hb F0 F0;have hstart:ZQ (Pz (ch:Int) q) (ch:Int) (at':Int) (YT (λk=>decide (k<at'\/ (at'+(ch-1)<=k/\k<at'+ch))) (H9 ch m) m)=some (H9 ch m,0):=by
    have e6:Ah ((ch-1:Nat):Int) 1=((ch-1:Nat):Int)-1:=Ca;rw[ZQ,XR,YG,e1,e6];exact Ayp hi hrest
   rw[Acu F7,show jS (m.length:Int) (at':Int) (Ad (at':Int) (ch:Int))=some () by rw[e4,jS,lV];omega,Aa,e1,e2];have hlast:=yT (m:=m) ha (show ch-1<ch by omega) F0;rw[show ch-1-(ch-1)=0 by omega,unV]at hlast;by_cases hc:1<ch
   ·have e5:Ah ((ch-1:Nat):Int) 1=((ch-2:Nat):Int):=by rw[Ca];omega
    rw[Acu hc]at hlast;rw[Acu Bbp,lV F0,Aa,e5,lV F0,Aa,show(at':Int)+((ch-1:Nat):Int)=((at'+(ch-1):Nat):Int) by omega,show(at':Int)+((ch-2:Nat):Int)=((at'+(ch-2):Nat):Int) by omega,
     Xq F0,Aa,Xq F0,Aa,Aa,Abw Bbn,Abw Bbn,VC,<-hlast,ZZ F0,Aa]
    rw[<-hstart];congr 1;apply Qy;intro k _;rw[Apc];simp;omega
   ·have hc1:ch=1:=F0
    rw[Abw Bbp,<-hstart];congr 1;rw[Abw hc]at hlast;apply Baq;intro k hk;by_cases hk2:k=at'
    ·subst hk2;rw[Abw Bbn,Acu F6];rw[show k+(ch-1)=k by omega]at hlast;exact hlast.symm
    ·by_cases hk3:k<at'
     ·rw[Acu F6,Acu F6]
     ·rw[Abw F6,Abw F6]
  ·rw[Abw F7,kA (λk hk=>by simp;omega)];rfl
theorem Aqw(h1:1<=ch)(h6:ch<=6)(hm:m.length %ch=0)(hl2:m.length<=4000):qA (ch:Int) m=some (H9 ch m,0):=by
 have hlen:=jV ch m;have h:=S7 ch m h1 h6 hm hl2 m.length 0 Ap Bbn F0 F0 F9;rw[qA,iU,Aak ch m h1 h6 hm hl2,Aa,Abw Bbo,Ci,By F6,Aa,Aa,Awd,qU];rw[eD hlen.symm (λk _=>by simp)]at h;exact h
end
def vA(f:Nat->Int32)(ch:Nat):LX:=(List.range ch).map λi=>unV f ch (ch-1-i)
theorem VY(f:Nat->Int32)(ch:Nat):(vA f ch).length=ch:=by simp[vA]
theorem rY(f:Nat->Int32){ch i:Nat}(h:i<ch):(vA f ch).getD i 0=unV f ch (ch-1-i):=by
 rw[Kq (by rw[VY];exact h)];simp[vA]
theorem Aoc(a b:Int32):Cl (Ah (Ae a:Int) (Ae b:Int))=some (a-b):=by
 have:=Wc a;have:=Wc b;rw[Ec,Ec,Ca,yR,Int32.ofInt_sub,Av7,Av7]
theorem Aj5(a b:Int32):Cl (Ad (Ae a:Int) (Bf (Ae b:Int) (2:Int)))=some (a+Bf b (2:Int32)):=by
 have:=Wc a;have hb:=Wc b;have hd: -2147483648<=b.toInt.tdiv 2/\b.toInt.tdiv 2<=2147483648:=by
  rw[Int.tdiv_eq_ediv,show Int.sign 2=1 from rfl];by_cases h:0<=b.toInt\/2∣b.toInt
  ·rw[Acu h];omega
  ·rw[Abw h];omega
 have e:Bf b (2:Int32)=Int32.ofInt (b.toInt.tdiv 2):=rfl;rw[Ec,Ec,KJ,Cj F0 F0,Ag,yR,Int32.ofInt_add,Av7,e]
theorem pX(seg z:LX)(ch:Nat)(h6:ch<=6)(hs:seg.length=ch)(hz:z.length=ch):∀(i q:Nat),i+1<=ch->i<q->
  Gl seg q ((i:Int)-1) (YT (λk=>decide (i<=k)) (vA (λi=>seg.getD i 0) ch) z)=some (vA (λi=>seg.getD i 0) ch)
 |0,q+1,hi,_=>by
  rw[Gl,Ot,Abw Bbv,kA (λk hk=>by simp)];rfl
 |i+1,q+1,hi,hq=>by
  have hlen:=VY (λi=>seg.getD i 0) ch;have e3:Ad (i:Int) 1=((i+1:Nat):Int):=by rw[Ag];omega
  have hv:(vA (λi=>seg.getD i 0) ch).getD (i+1) 0-seg.getD i 0=(vA (λi=>seg.getD i 0) ch).getD i 0:=by
   rw[rY _ F0,rY _ F0,show ch-1-i=(ch-1-(i+1))+1 by omega,unV,show ch-2-(ch-1-(i+1))=i by omega]
  rw[Gl,Ot,show((i+1:Nat):Int)-1=(i:Int) by omega,Acu Bbv,e3,Xq F0,Aa,g32 F0,Aa,Aa,Acu Bbn,Aoc,Aa,Xq F0,Aa,hv,ZZ F0,Aa,Ca];have ih:=pX seg z ch h6 hs hz i q F0 F0;rw[<-ih];congr 1;apply Qy;intro k _;rw[Apc];simp;omega
theorem Aca{l:LX}{i:Nat}(v:Int32)(h:i<l.length):(l.set i v).getD i 0=v:=by
 rw[Kq (by rw[Ay3];exact h)];simp
theorem Adr(seg:LX)(ch:Nat)(h1:1<=ch)(h6:ch<=6)(hs:seg.length=ch):Tq seg=some (vA (λi=>seg.getD i 0) ch):=by
 have hlen:=VY (λi=>seg.getD i 0) ch;have hzl:(List.replicate ch (0:Int32)).length=ch:=by simp
 have e1:Ah (Ac seg) 1=((ch-1:Nat):Int):=by rw[Ac,hs,Ca];omega
 have e2:Ah (Ac seg) 2=((ch-1:Nat):Int)-1:=by rw[Ac,hs,Ca];omega
 have hlast:=rY (λi=>seg.getD i 0) (show ch-1<ch by omega);rw[show ch-1-(ch-1)=0 by omega,unV]at hlast;have hend:∀z:LX,z.length=ch->z.getD (ch-1) 0=(vA (λi=>seg.getD i 0) ch).getD (ch-1) 0->Og seg z=some (vA (λi=>seg.getD i 0) ch):=by
  intro z hz hzl;have h:=pX seg z ch h6 hs hz (ch-1) Ap F0 F9;have e:YT (λk=>decide (ch-1<=k)) (vA (λi=>seg.getD i 0) ch) z=z:=by
   apply Awj (by rw[HG,hlen,hz]);intro k k1 k2;rw[Pg];by_cases hk:ch-1<=k
   ·obtain rfl:k=ch-1:=F0
    rw[Acu Bbn,<-hzl,Kq k2]
   ·rw[Abw (by simpa using hk),Kq k2]
  rw[e]at h;rw[Og,AK,e2];exact h
 rw[Tq,Zk,Ac,hs,M4,Aa,Bq Bce,Aa];rw[Ac,hs]at e1;rw[Ac,hs]at e2;have hz1:(List.replicate (Int.toNat (ch:Int)) (0:Int32)).length=ch:=by simp
 have hs1:=g32 (l:=seg) (k:=ch-1) F0;rw[e1,hs1,Aa,g32 F0,Aa,To _ F0,Aa];by_cases hc:1<ch
 ·rw[Acu hc]at hlast;have e3:((ch-1:Nat):Int)-1=((ch-2:Nat):Int):=F0
  have hs2:=g32 (l:=seg) (k:=ch-2) F0;rw[Acu Bbp,Aa,e2,e3,hs2,Aa,Aj5,Aa,g32 (by rw[Ay3];omega),Aa,To _ (by rw[Ay3];omega),Aa];refine hend _ Bbn ?_;rw[hlast,Aca _ (by rw[Ay3];omega)]
 ·rw[Abw hc]at hlast;rw[Abw Bbp];refine hend _ Bbn ?_;rw[hlast,Aca _ F0]
theorem Arx(ch:Nat)(m:LX)(h1:1<=ch)(h6:ch<=6)(hm:m.length %ch=0)(hl2:m.length<=4000):Pu (ch:Int) m=some 0:=by
 rw[Pu,Abw Bbu,Abw Bbq,Bq Bbt,Aa,Abw];rw[Ba,Fi,Ac,<-Int.ofNat_tmod,hm];simp
theorem vS(ch:Nat)(m:LX)(h1:1<=ch)(h6:ch<=6)(hm:m.length %ch=0)(hl2:m.length<=4000):∀(j at' q:Nat),at' %ch=0->at'<=m.length->m.length-at'<=j->j<q->
  Mp (ch:Int) m q (at':Int) ((H9 ch m).take at')=some (H9 ch m,0)
 |j,at',q+1,ha,hle,hj,hq=>by
  have hlen:=jV ch m;rw[Mp,JX];by_cases h:at'<m.length
  ·have hb:=K8 ha hm h;have e4:Ad (at':Int) (ch:Int)=((at'+ch:Nat):Int):=by rw[Ag];omega
   have hrest:=vS ch m h1 h6 hm hl2 (j-1) (at'+ch) q (by rw[Bay,ha]) hb F0 F0;have hseg:((m.take (at'+ch)).drop at').length=ch:=by simp;omega
   have htl:((H9 ch m).take at').length=at':=by simp[hlen];omega
   rw[Acu F3,e4,TL,Aa,show((at'+ch:Nat):Int).toNat=at'+ch from rfl,show(at':Int).toNat=at' from rfl,Adr _ ch h1 h6 hseg,Aa,By (by rw[htl,VY];omega),Aa];have e:(H9 ch m).take at'++vA (λi=>((m.take (at'+ch)).drop at').getD i 0) ch=(H9 ch m).take (at'+ch):=by
    apply Awj (by rw[Ac2,htl,VY,Ajc,hlen];omega);intro k k1 k2;rw[Ajc,hlen]at k2;rw[List.getElem_append,List.getElem_take];by_cases hk:k<at'
    ·rw[dif_pos (by rw[htl];exact hk),List.getElem_take]
    ·rw[dif_neg (by rw[htl];exact hk)];have hu:=yT (m:=m) ha (show k-at'<ch by omega) F0;rw[show at'+(k-at')=k by omega,Kq F0]at hu;have hx:∀n,n<=ch->unV (λi=>((m.take (at'+ch)).drop at').getD i 0) ch n=unV (λi=>m.getD (at'+i) 0) ch n:=by
      have hf:∀i,i<ch-> ((m.take (at'+ch)).drop at').getD i 0=m.getD (at'+i) 0:=by
       intro i hi;rw[Kq F0,Kq F0];simp
      intro n
      induction n with
      |zero=>
       intro _;rw[unV,unV,hf _ F0];split
       ·rw[hf _ F0]
       ·rfl
      |succ n ih=>intro hn;rw[unV,unV,ih F0,hf _ F0]
     have hy:=rY (λi=>((m.take (at'+ch)).drop at').getD i 0) (show k-at'<ch by omega);rw[Kq (by rw[VY];omega)]at hy;rw[hu,<-hx _ F0,<-hy];congr 1;rw[htl]
   rw[e];exact hrest
  ·rw[Abw F3,Apn F0];rfl
theorem Ajs(ch:Nat)(m:LX)(h1:1<=ch)(h6:ch<=6)(hm:m.length %ch=0)(hl2:m.length<=4000):BW (ch:Int) m=some (H9 ch m,0):=by
 have h:=vS ch m h1 h6 hm hl2 m.length 0 Ap Bbn F0 F0 F9;rw[BW,HV,Arx ch m h1 h6 hm hl2,Aa,Abw Bbo];exact h
def pre{α:Type}(ch c:Nat)(f:α->Nat->α)(a0:α):Nat->α
 |0=>a0
 |m+1=>if m %ch=c then f (pre ch c f a0 m) m else pre ch c f a0 m
theorem Ah2{α:Type}(ch c:Nat)(f:α->Nat->α)(a0:α):∀m,m<=c->c<ch->pre ch c f a0 m=a0
 |0,_,_=>rfl
 |m+1,h,h2=>by rw[pre,Abw (by rw[Adk F0];omega),Ah2 ch c f a0 m F0 h2]
theorem yg{α:Type}(ch c i:Nat)(f:α->Nat->α)(a0:α)(hi:i %ch=c)(hc:c<ch):∀j,j<ch->pre ch c f a0 (i+1+j)=pre ch c f a0 (i+1)
 |0,_=>rfl
 |j+1,h=>by
  have hne:(i+1+j) %ch≠c:=by
   intro e;have h1:(i+(1+j)) %ch=i %ch:=by rw[hi,<-e];congr 1;omega
   have h2:(1+j) %ch=0:=by
    have h3:=Nat.sub_mod_eq_zero_of_mod_eq h1;rwa [Ayu]at h3
   rw[Adk F0]at h2;omega
  rw[show i+1+(j+1)=(i+1+j)+1 by omega,pre,Abw hne,yg ch c i f a0 hi hc j F0]
theorem Amt{α:Type}(ch c i:Nat)(f:α->Nat->α)(a0:α)(hi:i %ch=c)(hc:c<ch):pre ch c f a0 (i+ch)=f (pre ch c f a0 i) i:=by
 have h:=yg ch c i f a0 hi hc (ch-1) F0;rw[show i+1+(ch-1)=i+ch by omega]at h;rw[h,pre,Acu hi]
abbrev CS:=Int32×LX×LX
def yu(bits:Int)(s:CS)(y:Int32):Int32:=y+gF (sB bits) s.2.1 s.2.2+gs (shB bits) s.1
def U5(bits:Int)(s:CS)(y:Int32):CS:=(yu bits s y,zM s.2.1 s.2.2 y,(y+gF (sB bits) s.2.1 s.2.2)::s.2.2.take 15)
def cst(bits:Int)(ch:Nat)(t:LX)(v:LU)(c:Nat):Nat->CS:=pre ch c (λs i=>U5 bits s (NU (v.getD i 0))) (0,t,List.replicate 16 0)
def OkC(bits:Int)(s:CS):Prop:=OkF (sB bits) s.2.1 s.2.2
theorem uq(bits:Int)(ch:Nat){t:LX}(ht:t.length=16)(v:LU)(c:Nat):∀m,OkC bits (cst bits ch t v c m)
 |0=>⟨Axl bits,ht,by simp[cst,pre]⟩
 |m+1=>by
  have ih:=uq bits ch ht v c m;rw[cst,pre];split
  ·exact Alz ih _ _
  ·exact ih
def yP(bits:Int)(ch:Nat)(t:LX)(v:LU):LX:=(List.range v.length).map λi=>yu bits (cst bits ch t v (i %ch) i) (NU (v.getD i 0))
theorem kD(bits:Int)(ch:Nat)(t:LX)(v:LU):(yP bits ch t v).length=v.length:=by simp[yP]
theorem Ahi(bits:Int)(ch:Nat)(t:LX)(v:LU){i:Nat}(h:i<v.length):(yP bits ch t v).getD i 0=yu bits (cst bits ch t v (i %ch) i) (NU (v.getD i 0)):=by
 rw[Kq (by rw[kD];exact h)];simp[yP]
abbrev CL:=Int×Int32×(Int×LX×LX×Unit)×Unit
def toC(bits:Int)(s:CS):CL:=(bits,s.1,(sB bits,s.2.1,s.2.2,()),())
def cts(bits:Int)(ch:Nat)(t:LX)(v:LU)(i:Nat):List CL:=(List.range 6).map λc=>toC bits (cst bits ch t v c i)
theorem Ahr{bits:Int}{ch:Nat}{t:LX}{v:LU}{i c:Nat}(h:c<6):Aj (cts bits ch t v i) (c:Int)=some (toC bits (cst bits ch t v c i)):=by
 rw[Cr (by simp[cts];exact h)];simp[cts]
theorem Aah(bits:Int)(ch:Nat)(t:LX)(v:LU)(c m:Nat):cst bits ch t v c (m+1)=if m %ch=c then U5 bits (cst bits ch t v c m) (NU (v.getD m 0))else cst bits ch t v c m:=rfl
theorem Ag9{bits:Int}{ch:Nat}{t:LX}{v:LU}{i c:Nat}(h:c<6)(hc:i %ch=c):Jm (cts bits ch t v i) (c:Int) (toC bits (U5 bits (cst bits ch t v c i) (NU (v.getD i 0))))=some (cts bits ch t v (i+1)):=by
 rw[To _ (by simp[cts];exact h)];congr 1;apply Awj (by simp[cts]);intro k h1 h2;rw[Bba];simp only[cts,Bak,Bai];by_cases hk:c=k
 ·subst hk;rw[Acu rfl,Aah,Acu hc]
 ·rw[Abw hk,Aah,Abw F0]
section
variable {bits:Int} {ch:Nat} {t:LX} {v:LU}
theorem ze(hb:Bw bits)(ht:t.length=16)(h1:1<=ch)(h6:ch<=6)(hv:v.length<=4000):∀(j i q:Nat),i+j=v.length->j<q->
  Hs v (ch:Int) bits q (i:Int) (cts bits ch t v i) ((yP bits ch t v).take i)=Kf (ch:Int) bits (yP bits ch t v)
 |0,i,q+1,hi,_=>by
  rw[Hs,Kb,Abw F3,Apn (by rw[kD];omega)]
 |j+1,i,q+1,hi,hq=>by
  have hlen:=kD bits ch t v;have hc:i %ch<6:=Ak1 (Axq _ F0) h6;have hok:=uq bits ch ht v (i %ch) i;have hs:=Ag9 (bits:=bits) (ch:=ch) (t:=t) (v:=v) (i:=i) hc rfl;have hx:=Ahi bits ch t v (i:=i) F0;have hcb:=Ai6 hb hok (cst bits ch t v (i %ch) i).1 (NU (v.getD i 0));have ih:=ze hb ht h1 h6 hv j (i+1) q F0 F0;rw[Mf F0,<-Kq F0,hx]at ih;rw[Hs,Kb,Acu F3,rW F0,Aa,Bq Bbt,Aa,KF,Ahr hc,Aa,Aa,Ane,Aa];refine Ayp (congrArg (λo=>Option.bind o _) hcb) ?_;rw[Aa];simp only;rw[Vx,MA,Abw Bbo,KF];refine Ayp (congrArg (λo=>Option.bind o _) hs) ?_;rw[Aa,By F6,Aa,Ag];exact ih
theorem Akp(hb:Bw bits)(ht:t.length=16)(h1:1<=ch)(h6:ch<=6)(hv:v.length<=4000):Qr (ch:Int) bits t v=Kf (ch:Int) bits (yP bits ch t v):=by
 have h:=ze hb ht h1 h6 hv v.length 0 Ap F0 F9;have e:Ap=(Ap-7)+1+1+1+1+1+1+1:=by have:=Ao;omega
 have hs:Wb v (ch:Int) bits t 0 (List.replicate 6 ((0:Int),(0:Int32),((0:Int),(List.replicate 16 (0:Int32)),(List.replicate 16 (0:Int32)),()),()))=MN v (ch:Int) bits (cts bits ch t v 0):=by
  rw[Wb,e];obtain rfl|rfl|rfl:=hb<;>rfl
 rw[Qr,Yw,hs];exact h
theorem T3(bk:Int->LX->Option LX)(hb:Bw bits)(ht:t.length=16)(h1:1<=ch)(h6:ch<=6)(hv:v.length<=4000)(z:LX)(c:Nat)(hc:c<ch):∀(j i q:Nat),i %ch=c->v.length-i<=j->i<=5000->j<q->
  Jp bk v (ch:Int) bits t (c:Int) q (i:Int) (YT (λk=>decide (k %ch<c\/ (k %ch=c/\k<i))) (yP bits ch t v) z) bits (cst bits ch t v c i).1 (sB bits) (cst bits ch t v c i).2.1 (cst bits ch t v c i).2.2=
   bk ((c+1:Nat):Int) (YT (λk=>decide (k %ch<c+1)) (yP bits ch t v) z)
 |j,i,q+1,hi,hj,hi5,hq=>by
  have hlen:=kD bits ch t v;rw[Jp,Zv];by_cases h:i<v.length
  ·have hok:=uq bits ch ht v c i;have hst:=Akt hb hok (cst bits ch t v c i).1 (NU (v.getD i 0));have hx:=Ahi bits ch t v (i:=i) h;rw[hi]at hx;have ih:=T3 bk hb ht h1 h6 hv z c hc (j-1) (i+ch) q (by rw[Bay];exact hi) F0 F0 F0;have M8:cst bits ch t v c (i+ch)=U5 bits (cst bits ch t v c i) (NU (v.getD i 0)):=Amt ch c i _ _ hi hc;rw[M8]at ih;have hset:=ZZ (p:=λk=>decide (k %ch<c\/ (k %ch=c/\k<i))) (a:=yP bits ch t v) (b:=z) (k:=i) F0;rw[hx]at hset;have Adm:YT (λj=>decide (j %ch<c\/ (j %ch=c/\j<i))||decide (j=i)) (yP bits ch t v) z=YT (λk=>decide (k %ch<c\/ (k %ch=c/\k<i+ch))) (yP bits ch t v) z:=by
    apply Qy;intro k _;rw[Apc];simp only[Awo,Adp];constructor
    ·rintro((h1|h1)|h1)
     ·exact .inl h1
     ·exact .inr ⟨h1.1,F0⟩
     ·subst h1;exact .inr ⟨hi,F0⟩
    ·rintro(h1|⟨h1,h2⟩)
     ·exact .inl (.inl h1)
     ·by_cases h3:k<i
      ·exact .inl (.inr ⟨h1,h3⟩)
      ·refine .inr ?_;have h4:(i+(k-i)) %ch=i %ch:=by rw[show i+(k-i)=k by omega,h1,hi]
       have h5:=Nat.sub_mod_eq_zero_of_mod_eq h4;rw[Ayu,Adk F0]at h5;omega
   rw[Adm]at hset;rw[Acu F3,rW h,Aa,Aqo,Aa];refine Ayp (congrArg (λo=>Option.bind o _) hst) ?_;rw[Aa];simp only;rw[AE,Zw,Xq F0,Aa];refine Ayp (congrArg (λo=>Option.bind o _) hset) ?_;rw[Aa,Zf,Zp,Ag];exact ih
  ·rw[Abw F3,Zm,AA,Ag];have Adm:YT (λk=>decide (k %ch<c\/ (k %ch=c/\k<i))) (yP bits ch t v) z=YT (λk=>decide (k %ch<c+1)) (yP bits ch t v) z:=by
    apply Qy;intro k hk;rw[Apc];simp only[Adp];omega
   rw[Adm];rfl
theorem W8(hb:Bw bits)(ht:t.length=16)(h1:1<=ch)(h6:ch<=6)(hv:v.length<=4000)(z:LX):∀(j c q:Nat),c+j=ch->j<q->
  Eu v (ch:Int) bits t q (c:Int) (YT (λk=>decide (k %ch<c)) (yP bits ch t v) z)=Oe (ch:Int) bits (yP bits ch t v)
 |0,c,q+1,hc,_=>by
  rw[Eu,Of,Abw F7,kA (λk hk=>by have:=Axq k (show 0<ch by omega);simp;omega)]
 |j+1,c,q+1,hc,hq=>by
  have ih:=W8 hb ht h1 h6 hv z j (c+1) q F0 F0;have hin:=T3 (Eu v (ch:Int) bits t q) hb ht h1 h6 hv z c F0 v.length c Ap (Adk F0) F0 F0 F9;have h0:cst bits ch t v c c=(0,t,List.replicate 16 0):=Ah2 ch c _ _ c (Aqm _) F0;rw[h0]at hin;have Adm:YT (λk=>decide (k %ch<c\/ (k %ch=c/\k<c))) (yP bits ch t v) z=YT (λk=>decide (k %ch<c)) (yP bits ch t v) z:=by
   apply Qy;intro k hk;have:=Baz k ch;rw[Apc];simp only[Adp];omega
  rw[Adm]at hin;rw[Eu,Of,Acu F7,Ax5 hb,Aa];simp only;rw[Zz];exact Ayp hin ih
theorem Aj9(hb:Bw bits)(ht:t.length=16)(h1:1<=ch)(h6:ch<=6)(hv:v.length<=4000)(hm:v.length %ch=0):Nl (ch:Int) bits t v=some (H9 ch (yP bits ch t v)):=by
 have hlen:=kD bits ch t v;have h:=W8 hb ht h1 h6 hv (List.replicate v.length 0) ch 0 Ap F0 F9;rw[eD (by rw[hlen];simp) (λk _=>by simp)]at h;rw[Nl,BQ,Ac,M4,Aa,Bq Bce,Aa,AL];refine Ayp h ?_;rw[Oe,Zx,Ajs ch _ h1 h6 (by rw[hlen];exact hm) F0,Aa]
end
def hB(bits:Int):Int:=if bits=8 then 128 else if bits=16 then 32768 else 8388608
theorem jo{bits:Int}(h:Bw bits):Mu bits=some (Int32.ofInt (-(hB bits)),Int32.ofInt (hB bits-1),0):=by
 obtain rfl|rfl|rfl:=h<;>decide
theorem wC{bits:Int}(h:Bw bits):Hr bits=some (hB bits):=by
 obtain rfl|rfl|rfl:=h<;>rfl
theorem eL(bits:Int):0<hB bits/\hB bits<=8388608:=by
 unfold hB;split; · omega
 ·split<;>omega
theorem I1{bits:Int}(h:Bw bits)(l:LX)(hl:l.length<=4000):∀(j i q:Nat),i+j=l.length->j<q->
  Oc (Int32.ofInt (-(hB bits))) (Int32.ofInt (hB bits-1)) l q (i:Int)=Bm l (hB bits) q (i:Int)
 |0,i,q+1,hi,_=>by
  rw[Oc,BF,Bm,Df,Abw F3,Abw F3];rfl
 |j+1,i,q+1,hi,hq=>by
  have hh:=eL bits;have ih:=I1 h l hl j (i+1) q F0 F0;have e1:(Int32.ofInt (-(hB bits))).toInt= -(hB bits):=by rw[Ays,Bbe (by show -(4294967296/2:Int)<= _;omega) (by show _<(4294967296+1)/2;omega)]
  have e2:(Int32.ofInt (hB bits-1)).toInt=hB bits-1:=by rw[Ays,Bbe (by show -(4294967296/2:Int)<= _;omega) (by show _<(4294967296+1)/2;omega)]
  rw[Oc,BF,Bm,Df,Acu F3,Acu F3,g32 F0,Aa,Aa,Aa,Ec,jw,Cj F0 F0,Ag,oh,Aed,e1,e2,Af,Cz];generalize(l.getD i 0).toInt=X;by_cases h1:X< -(hB bits)
  ·rw[Acu F6,Acu F6]
  ·rw[Abw (c:=decide (X<0-hB bits)=true) F6];by_cases h2:hB bits<=X
   ·rw[Acu F6,Acu F6]
   ·rw[Abw F6,Abw F6];exact ih
theorem ZN{bits:Int}(h:Bw bits)(l:LX)(hl:l.length<=4000):Mn bits l=Bk bits l:=by
 have hh:=eL bits;rw[Mn,PH,jo h,Aa,Bk,Ih,wC h,Aa];simp only;rw[Abw Bbo,Abw Bbq,Abw Bbs,Abw Bbq];exact I1 h l hl l.length 0 Ap F0 F9
theorem Afk{bits:Int}(h:Bw bits)(l:LX)(hl:l.length<=4000):∃e,Bk bits l=some e:=by
 have hh:=eL bits;have key:∀(j i q:Nat),i+j=l.length->j<q->∃e,Bm l (hB bits) q (i:Int)=some e:=by
  intro j
  induction j with
  |zero=>
   intro i q hi hq;obtain⟨q,rfl⟩:∃k,q=k+1:=⟨q-1,F0⟩;rw[Bm,Df,Abw F3];exact⟨_,rfl⟩
  |succ j ih=>
   intro i q hi hq;obtain⟨q,rfl⟩:∃k,q=k+1:=⟨q-1,F0⟩;rw[Bm,Df,Acu F3,g32 F0,Aa,Aa,Ag];split
   ·exact⟨_,rfl⟩
   ·split
    ·exact⟨_,rfl⟩
    ·exact ih (i+1) q F0 F0
 obtain⟨e,he⟩:=key l.length 0 Ap F0 F9;rw[Bk,Ih,wC h,Aa,Abw Bbs,Abw Bbq];exact⟨e,he⟩
theorem nk{bits:Int}{ch:Nat}{t:LX}{v:LU}(hb:Bw bits)(ht:t.length=16)(h1:1<=ch)(h6:ch<=6)(hv:v.length<=4000)(hm:v.length %ch=0):
  ∃l e,Nl (ch:Int) bits t v=some l/\Wd (ch:Int) bits l=some (if e≠0 then([],e)else(l,0))/\Qr (ch:Int) bits t v=some (if e≠0 then([],e)else(l,0))/\Bk bits l=some e/\l.length=v.length:=by
 have hlen:=kD bits ch t v;have hul:=jV ch (yP bits ch t v);obtain⟨e,he⟩:=Afk hb (H9 ch (yP bits ch t v)) F0;refine⟨H9 ch (yP bits ch t v),e,Aj9 hb ht h1 h6 hv hm,?_,?_,he,F0⟩
 ·rw[Wd,he,Aa];by_cases h:e=0
  ·rw[Abw (by rw[Ay];simpa using h),Abw (by simpa using h)]
  ·rw[Acu (by rw[Ay];simpa using h),Acu h]
 ·rw[Akp hb ht h1 h6 hv,Kf,LH,Aqw ch _ h1 h6 (by rw[hlen];exact hm) F0,Aa];simp only;rw[Abw Bbo,ZN hb _ F0,he,Aa];by_cases h:e=0
  ·rw[Abw (by rw[Ay];simpa using h),Abw (by simpa using h)]
  ·rw[Acu (by rw[Ay];simpa using h),Acu h]
def fR(s:Nat):Nat:=(s/2)^^^ (if s %2=1 then 3988292384 else 0)
theorem N2{s:Nat}(h:s<4294967296):fR s<4294967296:=by
 unfold fR;exact Awk (n:=32) F6 (by split<;>decide)
theorem Aaz(x y:Nat):(x^^^y)/2=(x/2)^^^ (y/2):=by
 have:=Nat.shiftRight_xor_distrib (a:=x) (b:=y) (i:=1);simpa [Nat.shiftRight_eq_div_pow]using this
theorem Ajx(x y:Nat):fR (x^^^y)=fR x^^^fR y:=by
 have h:(x^^^y) %2=(x %2+y %2) %2:=by
  have:=Nat.xor_mod_two_eq_one (a:=x) (b:=y);have h1:(x^^^y) %2<2:=Axq _ F0;omega
 simp only[fR,Aaz,h];have hx:x %2=0\/x %2=1:=F0
 have hy:y %2=0\/y %2=1:=F0
 rcases hx with hx|hx<;>rcases hy with hy|hy<;>simp only[hx,hy]<;>simp
 ·rw[Aym]
 ·rw[Aym,Bbh (y/2),Aym,Bbh 3988292384 (y/2)]
 ·rw[Aym,Bbh 3988292384,Aym,Nat.xor_self];simp
def Ux:Nat->Nat->Nat
 |0,s=>s
 |k+1,s=>Ux k (fR s)
theorem U8:∀(k x y:Nat),Ux k (x^^^y)=Ux k x^^^Ux k y
 |0,_,_=>rfl
 |k+1,x,y=>by rw[Ux,Ajx,U8 k];rfl
theorem S8:∀(k h:Nat),Ux k (2^k*h)=h
 |0,h=>by simp[Ux]
 |k+1,h=>by
  have:fR (2^(k+1)*h)=2^k*h:=by
   rw[Atx,Ak8 (2^k) 2,At1,fR,Abw F0,Nat.mul_div_cancel_left _ F0];simp
  rw[Ux,this,S8 k]
theorem B2:∀(k:Nat) {s:Nat},s<4294967296->Ux k s<4294967296
 |0,_,h=>h
 |k+1,_,h=>B2 k (N2 h)
def wI(s c:Nat):Nat:=Ux 8 (s^^^c)
theorem A4{s c:Nat}(h:s<4294967296)(hc:c<256):wI s c<4294967296:=B2 8 (Awk (n:=32) (by simpa using h) F6)
theorem Aaw{s c:Nat}(hc:c<256):wI s c=(s/256)^^^Ux 8 ((s %256)^^^c):=by
 have h:s=(2^8*(s/256))^^^ (s %256):=by
  have h1:s %256<2^8:=by simpa using Axq s (by omega:256>0)
  have:=Awl h1 (s/256);have h2:2^8*(s/256)|||s %256=(2^8*(s/256))^^^ (s %256):=by
   apply Nat.eq_of_testBit_eq;intro i;rw[Nat.testBit_or,Nat.testBit_xor];by_cases hi:i<8
   ·have:(2^8*(s/256)).testBit i=false:=by rw[Nat.testBit_two_pow_mul];simp;omega
    rw[this];simp
   ·have:(s %256).testBit i=false:=Nat.testBit_lt_two_pow (Ak1 h1 (Ae8 F0 F0));rw[this];simp
  omega
 rw[wI]
 conv=>lhs;rw[h]
 rw[Aym,U8,S8]
def Ai7(s:Nat)(l:LB):Nat:=l.foldl (λs c=>wI s c.toNat) s
def Gd(b:LB):UInt32:=4294967295-UInt32.ofNat (Ai7 4294967295 b)
theorem Aqj(s:UInt32)(c:Nat)(hc:c<256):DE s (Ae (AN (UInt8.ofNat c) (2:UInt8)):Int)=some (UInt32.ofNat (s.toNat/2^^^ (if(s.toNat^^^c) %2=1 then 3988292384 else 0))):=by
 have h1:(Ae (AN (UInt8.ofNat c) (2:UInt8)):Int)=((c %2:Nat):Int):=by
  rw[VI,Asj,UInt8.toNat_mod,Ak7];show((c %256 %2:Nat):Int)=_;omega
 have h2:geq (AN s (2:UInt32)) (1:UInt32)=decide (s.toNat %2=1):=by
  rw[jq,zn,Apc];simp only[Bad,Adp];rw[<-UInt32.toNat_inj,UInt32.toNat_mod];rfl
 have h3:Bf s (2:UInt32)=UInt32.ofNat (s.toNat/2):=by
  apply UInt32.toNat_inj.1;rw[Aaf,UInt32.toNat_div,Aky]
  show s.toNat/2=_;have:=s.toNat_lt;omega
 have h4:Tu (Bf s (2:UInt32)) (3988292384:UInt32)=UInt32.ofNat (s.toNat/2^^^3988292384):=by
  apply UInt32.toNat_inj.1;rw[h3,UW,Ba8,Aky,Aky];have:=s.toNat_lt;rw[Adk (a:=s.toNat/2) F0,Adk]
  ·rfl
  ·exact Awk (n:=32) F0 F5
 have hx:(s.toNat^^^c) %2=(s.toNat %2+c %2) %2:=by
  have:=Nat.xor_mod_two_eq_one (a:=s.toNat) (b:=c);have h1:(s.toNat^^^c) %2<2:=Axq _ F0;omega
 have hs:s.toNat %2=0\/s.toNat %2=1:=F0
 have hc2:c %2=0\/c %2=1:=F0
 rw[DE,HN,h1,h2,hx];rcases hs with hs|hs<;>rcases hc2 with hc2|hc2<;>simp[hs,hc2,Bl,HW,JD,UW,h3]
theorem vZ:∀(j i q:Nat) (s:UInt32) (c:Nat),i+j=8->j<q->c<2^j->Jg q s (UInt8.ofNat c) (i:Int)=some (UInt32.ofNat (Ux j (s.toNat^^^c)))
 |0,i,q+1,s,c,hi,_,hc=>by
  obtain rfl:i=8:=F0
  obtain rfl:c=0:=by simpa using hc
  rw[Jg,Tr,Abw Bbw,KA,JO,Ux];simp
 |j+1,i,q+1,s,c,hi,hq,hc=>by
  have hc8:c<256:=Ak1 hc (show 2^(j+1)<=2^8 from Ae8 F0 F0);rw[Jg,Tr,Acu F7,Aqj s c hc8,Aa,Ag];have e:Bf (UInt8.ofNat c) (2:UInt8)=UInt8.ofNat (c/2):=by
   apply UInt8.toNat_inj.1;rw[Ary,UInt8.toNat_div,Ak7,Ak7]
   show c %256/2=_;omega
  rw[e];have h:=vZ j (i+1) q (UInt32.ofNat (s.toNat/2^^^ (if(s.toNat^^^c) %2=1 then 3988292384 else 0))) (c/2) F0 F0 (by rw[Atx]at hc;omega);rw[show((i:Int)+1)=((i+1:Nat):Int) by omega,h,Aky,Ux];congr 3;have:=s.toNat_lt;rw[Adk,fR,Aaz,Aym,Aym,Bbh (c/2)];exact Awk (n:=32) F0 (by split<;>decide)
theorem Arv(s:UInt32)(c:UInt8):SP s c=some (UInt32.ofNat (wI s.toNat c.toNat)):=by
 have h:=vZ 8 0 Ap s c.toNat F0 F9 (by simpa using c.toNat_lt);rw[UInt8.ofNat_toNat]at h;exact h
theorem lW(b:LB)(hb:b.length<4611686018427387904):∀(j i q:Nat) (s:UInt32),i+j=b.length->j<q->Hm b q s (i:Int)=some (UInt32.ofNat (Ai7 s.toNat (b.drop i)))
 |0,i,q+1,s,hi,_=>by
  rw[Hm,Pp,Abw F3,show i=b.length by omega,Azs];simp[EB,CI,Ai7]
 |j+1,i,q+1,s,hi,hq=>by
  have hlt:i<b.length:=F0
  rw[Hm,Pp,Acu F3,Cr hlt,Aa,Arv,Aa,Ag];have h:=lW b hb j (i+1) q (UInt32.ofNat (wI s.toNat b[i].toNat)) F0 F0;rw[show((i:Int)+1)=((i+1:Nat):Int) by omega,h,drop_cons hlt,Aky,Adk (A4 s.toNat_lt b[i].toNat_lt)];rfl
theorem Ate(b:LB)(hb:b.length<4611686018427387904):Qt b=some (Gd b):=by
 have h:=lW b hb b.length 0 Ap 4294967295 F0 F9;rw[Qt,LJ,CD,CY,show((0:Int))=((0:Nat):Int)from rfl,h,Aa,B9];rfl
theorem Asl(c:UInt32):Tu (Bv c (GI.toZ (1:UInt64)).toNat) (Az (3988292384:UInt32) (Dr c (1:UInt32)))=UInt32.ofNat (fR c.toNat):=by
 apply UInt32.toNat_inj.1;have e:(GI.toZ (1:UInt64)).toNat=1:=rfl;have h1:(Bv c 1).toNat=c.toNat/2:=by rw[HS]
 have h2:(Az (3988292384:UInt32) (Dr c (1:UInt32))).toNat=if c.toNat %2=1 then 3988292384 else 0:=by
  rw[Aon,E8,UInt32.toNat_mul,UInt32.toNat_and]
  show 3988292384*(c.toNat&&&1) %4294967296=_;rw[Nat.and_one_is_mod];have:c.toNat %2=0\/c.toNat %2=1:=F0
  rcases this with h|h<;>simp[h]
 rw[e,UW,Ba8,h1,h2,Aky,Adk (N2 c.toNat_lt)];rfl
theorem yw(Gc:Int->LU->Option (UInt32×Int))(s:UInt32)(b:LB)(x:Int)(t:LU):∀(j i q:Nat) (c:UInt32),i+j=8->j<q->
  Ny Gc s b x t q c (i:Int)=CB Gc s b x (UInt32.ofNat (Ux j c.toNat)) t
 |0,i,q+1,c,hi,_=>by
  obtain rfl:i=8:=F0
  rw[Ny,BO,Abw Bbw,Ux,UInt32.ofNat_toNat]
 |j+1,i,q+1,c,hi,hq=>by
  rw[Ny,BO,Acu F7,Asl,Ag,show((i:Int)+1)=((i+1:Nat):Int) by omega,yw Gc s b x t j (i+1) q _ F0 F0,Aky,Adk (N2 c.toNat_lt)];rfl
def tbl(n:Nat):LU:=(List.range n).map λi=>UInt32.ofNat (Ux 8 i)
theorem Ah5(s:UInt32)(b:LB):∀(j i q:Nat),i+j=256->j<q->Le s b q (i:Int) (tbl i++List.replicate j 0)=OV s b (tbl 256)
 |0,i,q+1,hi,_=>by
  obtain rfl:i=256:=F0
  rw[Le,DJ,Abw Bbw];simp
 |j+1,i,q+1,hi,hq=>by
  have hlen:(tbl i++List.replicate (j+1) 0).length=i+(j+1):=by simp[tbl]
  rw[Le,DJ,Acu F7,NT];have h:=yw (Le s b q) s b (i:Int) (tbl i++List.replicate (j+1) 0) 8 0 Ap (Ae (i:Int)) F0 F9;rw[show((0:Int))=((0:Nat):Int)from rfl,h,CB,fW,Cr (by rw[hlen];omega),Aa,To _ (by rw[hlen];omega),Aa,iH,eQ,Ag];have e:(Ae (i:Int):UInt32).toNat=i:=by rw[X8,Aky,Adk F0]
  rw[e,Axr,oU (by simp[tbl])];have h2:=Ah5 s b j (i+1) q F0 F0;have h3:tbl (i+1)=tbl i++[UInt32.ofNat (Ux 8 i)]:=by simp[tbl,List.range_succ]
  rw[h3]at h2;rw[show((i:Int)+1)=((i+1:Nat):Int) by omega,<-h2];simp
theorem Aq4{i:Nat}(h:i<256):Aj (tbl 256) (i:Int)=some (UInt32.ofNat (Ux 8 i)):=by
 rw[Cr (by simpa [tbl]using h)];simp[tbl]
theorem Aoz(s:UInt32)(c:UInt8):Aj (tbl 256) (GI.toZ (Tu (Ae s:UInt8) c))=some (UInt32.ofNat (Ux 8 ((s.toNat %256)^^^c.toNat))):=by
 have e:GI.toZ (Tu (Ae s:UInt8) c)=(((s.toNat %256)^^^c.toNat:Nat):Int):=by
  rw[ED,Af8,UInt8.toNat_xor,nU,Ak7]
 rw[e,Aq4];exact Awk (n:=8) F6 (by simpa using c.toNat_lt)
theorem Ajt(s:UInt32)(c:UInt8):Tu (Bv s (GI.toZ (8:UInt64)).toNat) (UInt32.ofNat (Ux 8 ((s.toNat %256)^^^c.toNat)))=UInt32.ofNat (wI s.toNat c.toNat):=by
 apply UInt32.toNat_inj.1;have hlt:Ux 8 ((s.toNat %256)^^^c.toNat)<4294967296:=B2 8 (Awk (n:=32) F6 (by have:=c.toNat_lt;simp;omega));have e:(GI.toZ (8:UInt64)).toNat=8:=rfl;rw[e,UW,Ba8,HS,Aky,Aky,Adk hlt,Adk (A4 s.toNat_lt c.toNat_lt),Aaw c.toNat_lt]
theorem Aby(b:LB)(hb:b.length<4611686018427387904):∀(j i q:Nat) (s:UInt32),i+j=b.length->j<q->Oi b (tbl 256) q s (i:Int)=some (UInt32.ofNat (Ai7 s.toNat (b.drop i)),0)
 |0,i,q+1,s,hi,_=>by
  rw[Oi,DH,Abw F3,show i=b.length by omega,Azs];simp[OJ,fI,Ai7]
 |j+1,i,q+1,s,hi,hq=>by
  have hlt:i<b.length:=F0
  rw[Oi,DH,Acu F3,Cr hlt,Aa,Aoz,Aa,Aa,Ajt,Ag];have h:=Aby b hb j (i+1) q (UInt32.ofNat (wI s.toNat b[i].toNat)) F0 F0;rw[show((i:Int)+1)=((i+1:Nat):Int) by omega,h,drop_cons hlt,Aky,Adk (A4 s.toNat_lt b[i].toNat_lt)];rfl
theorem Aqc(s:UInt32)(b:LB)(hb:b.length<=100000):aF s b=some (UInt32.ofNat (Ai7 s.toNat b),0):=by
 have h:=Ah5 s b 256 0 Ap F0 F9;have h2:=Aby b F0 b.length 0 Ap s F0 F9;rw[aF,TR,Abw Bbq,eX];refine Ayp h ?_;rw[OV,OL,fJ,OR,OX];exact h2
theorem Amg(a:UInt32):K2 a=4294967295-a:=by
 have h:=a.toNat_lt;have e:K2 a=UInt32.ofNat (BitVec.ofInt 32 4294967295^^^BitVec.ofInt 32 (a.toNat:Int)).toNat:=Ed _;apply UInt32.toNat_inj.1;rw[e,Aky,UInt32.toNat_sub_of_le _ _ (by rw[UInt32.le_iff_toNat_le];show a.toNat<=4294967295;omega)];have h1:BitVec.ofInt 32 (a.toNat:Int)=a.toBitVec:=qz a;have h2:(BitVec.ofInt 32 4294967295:BitVec 32)=BitVec.allOnes 32:=F5
 rw[h1,h2,BitVec.allOnes_xor,BitVec.toNat_not];show(4294967296-1-a.toNat) %4294967296=4294967295-a.toNat;omega
theorem ng(b:LB)(hb:b.length<=100000):Ub b=some (Gd b,0):=by
 rw[Ub,Aqc _ _ hb,Aa];simp only[Ay,Amg];rfl
theorem Afz:∀{l m:LB},l.length=m.length->Hx l=Hx m->l=m
 |[],[],_,_=>rfl
 |x::l,y::m,h,e=>by
  simp only[Hx]at e;have hx:=x.toNat_lt;have hy:=y.toNat_lt;have h1:x=y:=UInt8.toNat_inj.1 F0;rw[h1,Afz (l:=l) (m:=m) (by simpa using h) F0]
theorem qd:∀(w n:Nat),Hx (Wu n w)=n %256^w
 |0,n=>by simp[Wu,Hx,Nat.mod_one]
 |w+1,n=>by
  rw[Wu,Hx,qd w (n/256),Ak7,show(256:Nat)^(w+1)=256*256^w by rw[Atx,Ak8],Nat.mod_mul]
def Zq(b:LB):Int:=
 if b.length<5 then 24 else if 41254<b.length then 4 else if(Gd (b.take (b.length-4))).toNat≠Hx (b.drop (b.length-4))then 22 else 0
theorem Abr(b:LB):CN b=some (if Zq b≠0 then([],Zq b)else(b.take (b.length-4),0)):=by
 rw[CN];by_cases h1:b.length<5
 ·have hS:Zq b=24:=by rw[Zq,Acu h1]
  rw[Acu F3,hS];rfl
 rw[Abw F3];by_cases h2:41254<b.length
 ·have hS:Zq b=4:=by rw[Zq,Abw h1,Acu h2]
  rw[Acu Bbq,hS];rfl
 have e4:Ah (Ac b) 4=((b.length-4:Nat):Int):=by rw[Ac,Ca];omega
 have hd:(b.drop (b.length-4)).length=4:=by simp;omega
 rw[Abw Bbq,e4,Qa,Aa,show((b.length-4:Nat):Int).toNat=b.length-4 from rfl,ng _ F6,Aa];simp only;rw[Abw Bbo,AM,Aa,show((b.length-4:Nat):Int).toNat=b.length-4 from rfl,Acd _ F0 F0,Aa];have hne:Bc (sL (b.drop (b.length-4))) (Ae (Gd (b.take (b.length-4))):UInt64)=decide ((Gd (b.take (b.length-4))).toNat≠Hx (b.drop (b.length-4))):=by
  have hlt:=(Gd (b.take (b.length-4))).toNat_lt;rw[jK,Apc];simp only[Bbm,ne_eq,<-Bat,Adp];rw[aK F0,Cx,Aii,Adk F0];exact⟨λh e=>h e.symm,λh e=>h e.symm⟩
 simp only;rw[hne,Aa];by_cases h3:(Gd (b.take (b.length-4))).toNat≠Hx (b.drop (b.length-4))
 ·have hS:Zq b=22:=by rw[Zq,Abw h1,Abw h2,Acu h3]
  rw[Acu (by simp[h3]),hS];rfl
 ·have hS:Zq b=0:=by rw[Zq,Abw h1,Abw h2,Abw h3]
  rw[Abw (by rw[Bao h3];decide),hS];rfl
theorem Aj3(b:LB)(hb:b.length<=1000000):Vs b=some (b++Wu (Gd b).toNat 4):=by
 have h:∀k:Nat,(Ae (Bv (Gd b) k):UInt8)=UInt8.ofNat ((Gd b).toNat/2^k):=by
  intro k;rw[nU,HS]
 have h0:(Ae (Gd b):UInt8)=UInt8.ofNat (Gd b).toNat:=nU _;have h1:=h 8;have h2:=h 16;have h3:=h 24;rw[Vs,Ate b F0,Aa,By F6,Aa,By F6,Aa,h0,show(GI.toZ (8:UInt64)).toNat=8 from rfl,show(GI.toZ (16:UInt64)).toNat=16 from rfl,show(GI.toZ (24:UInt64)).toNat=24 from rfl,h1,h2,h3];simp only[Wu,Ay2,Awd]
theorem Ad9(b:LB):Nn b=some (Zq b):=by
 rw[Nn];by_cases h1:b.length<5
 ·rw[Acu F3,Zq,Acu h1]
 rw[Abw F3];by_cases h2:41254<b.length
 ·rw[Acu Bbq,Zq,Abw h1,Acu h2]
 have e4:Ah (Ac b) 4=((b.length-4:Nat):Int):=by rw[Ac,Ca];omega
 have hd:(b.drop (b.length-4)).length=4:=by simp;omega
 rw[Abw Bbq,e4,Qa,Aa,show((b.length-4:Nat):Int).toNat=b.length-4 from rfl,Aj3 _ F6,Aa];have hlt:=(Gd (b.take (b.length-4))).toNat_lt;have hiff:(b.take (b.length-4)++Wu (Gd (b.take (b.length-4))).toNat 4 !=b)=decide ((Gd (b.take (b.length-4))).toNat≠Hx (b.drop (b.length-4))):=by
  rw[Apc];simp only[Bbm,ne_eq,Adp];constructor
  ·intro h e;apply h;have:Wu (Gd (b.take (b.length-4))).toNat 4=b.drop (b.length-4):=Afz (by rw[Di,hd]) (by rw[qd,Adk F0,e]);rw[this,Ayr]
  ·intro h e;apply h;have hx:Wu (Gd (b.take (b.length-4))).toNat 4=b.drop (b.length-4):=by
    have e2:b.take (b.length-4)++Wu (Gd (b.take (b.length-4))).toNat 4=b.take (b.length-4)++b.drop (b.length-4):=by rw[e,Ayr]
    exact List.append_cancel_left e2
   rw[<-hx,qd,Adk F0]
 rw[hiff];by_cases h3:(Gd (b.take (b.length-4))).toNat≠Hx (b.drop (b.length-4))
 ·rw[Acu (by simp[h3]),Zq,Abw h1,Abw h2,Acu h3]
 ·rw[Abw (by rw[Bao h3];decide),Zq,Abw h1,Abw h2,Abw h3]
theorem Aop{b:LB}(h:Zq b=0):5<=b.length/\b.length<=41254:=by
 unfold Zq at h;split at h
 ·simp at h
 ·split at h
  ·simp at h
  ·omega
theorem Aps{c:Nat}(h1:1<=c)(h6:c<=6):Bf (4000:Int) (c:Int)=((4000/c:Nat):Int):=by
 have:c=1\/c=2\/c=3\/c=4\/c=5\/c=6:=F0
 rcases this with rfl|rfl|rfl|rfl|rfl|rfl<;>rfl
theorem Ap0(p:LB)(h:p.length<=41250):okB p (8*p.length):=⟨F0,F0,λk h1 h2=>by omega⟩
theorem Aao{bits:Int}{ch n:Nat}{t:LX}(b:LB)(hb:Bw bits)(ht:t.length=16)(h1:1<=ch)(h6:ch<=6)(n1:1<=n)(n2:n<=4000/ch):
  ∃l e,Lc (ch:Int) bits t (n:Int) b=some (l,e)/\Ki (ch:Int) bits t (n:Int) b=some (l,e)/\ (e=0->Bk bits l=some 0/\l.length<=4000/\l.length=n*ch)/\ (e≠0->l=[]):=by
 have hn:n*ch<=4000:=by
  have:=Ado ch n2;have h2:=Ay9 4000 ch;omega
 have hq4:=Aps h1 h6;generalize 4000/ch=mm at*
 have hck:Jf (ch:Int) bits=some 0:=by
  have hr:∃x y,Mu bits=some (x,y,0):=⟨_,_,jo hb⟩;obtain⟨x,y,hr⟩:=hr;rw[Jf,hr,Aa];simp only;rw[Abw (by simp[Ay,Af,Ba];omega)]
 have hh:=eL bits;have Awf:Yv (ch:Int) bits (n:Int)=some 0:=by
  rw[Yv,Dx,Abw Bbu,wC hb,Aa,Abw Bbs,Aa,Abw (by simp[Ay,Af];omega),Bq Bbt,Aa,hq4,Abw Bbp]
 rw[Lc,Ki,EF,hck,Awf,Aa,Aa,Abw Bbo,Abw F7,Bq Bbt,Aa,hq4,Abw Bbp,Abw Bbo,Abr,Ad9];by_cases hs:Zq b≠0
 ·rw[Acu hs];simp only[Aa];rw[Acu (by rw[Ay];simpa using hs),Acu (by rw[Ay];simpa using hs)];exact⟨[],Zq b,rfl,rfl,λe=>absurd e hs,λ_=>rfl⟩
 have hs0:Zq b=0:=by simpa using hs
 have hlen:=Aop hs0;have e4:Ah (Ac b) 4=((b.length-4:Nat):Int):=by rw[Ac,Ca];omega
 rw[Abw hs,hs0];simp only[Aa];rw[Abw Bbo,Abw Bbo,e4,Qa,Aa,show((b.length-4:Nat):Int).toNat=b.length-4 from rfl];have hpl:(b.take (b.length-4)).length=b.length-4:=by simp
 generalize b.take (b.length-4)=p at*
 have e8:Az (8:Int) (Ac p)=((8*p.length:Nat):Int):=by rw[Ac,Fj];omega
 have hp:=Ap0 p F0;have hv:=values_eq hp h1 h6 hn;have hr:=Aro (N:=8*p.length) (p:=p) rfl F0 h1 h6 hn;have hat:=Z7 (ch:=ch) (p:=p) (N:=8*p.length) (n*ch) 0 [] F0;rw[su,Abw Bbq,Bb,By F6,Aa,Aa,Aa,Awd,e8];simp only;rw[Abw Bbo,hv,hr,Aa,Aa];generalize AO ch p (8*p.length) (n*ch) 0 []=V at*
 obtain⟨v,at',e⟩:=V;simp only at*
 by_cases he:e≠0
 ·rw[Acu he,Acu he];simp only;rw[Acu (by rw[Ay];simpa using he),Pv,Qi,Acu (by rw[Ay];simpa using he)];exact⟨[],e,rfl,rfl,λh=>absurd h he,λ_=>rfl⟩
 have he0:e=0:=by simpa using he
 have hvl:=hat.2.2 he0;simp only[Ba1,Axk]at hvl;rw[Abw he,Abw he];simp only;rw[Abw Bbo,Ca,show((8*p.length:Nat):Int)-(at':Int)=((8*p.length-at':Nat):Int) by omega,Pv,Qi];by_cases h7:7<8*p.length-at'
 ·have hE:(if 7<8*p.length-at'\/Bo p at' (8*p.length-at')≠0 then(12:Int)else 0)=12:=Acu (.inl h7);rw[Acu Bbr,hE,Acu F5];exact⟨[],12,rfl,rfl,λh=>absurd h F5,λ_=>rfl⟩
 rw[Abw Bbr,vC hp at' _ F0,Abw F0,Aa];have hz:Bc (Ly p at' (8*p.length-at')) (0:UInt64)=decide (Bo p at' (8*p.length-at')≠0):=by
  rw[jK,Apc];simp only[Bbm,ne_eq,<-Bat,Adp];rw[Tv p _ _ F0];rfl
 simp only;rw[hz];by_cases hv0:Bo p at' (8*p.length-at')≠0
 ·have hE:(if 7<8*p.length-at'\/Bo p at' (8*p.length-at')≠0 then(12:Int)else 0)=12:=Acu (.inr hv0);rw[Acu (by simp[hv0]),hE,Acu F5];exact⟨[],12,rfl,rfl,λh=>absurd h F5,λ_=>rfl⟩
 have hm:v.length %ch=0:=by rw[hvl];exact Ayc n ch
 obtain⟨l,e,g1,g2,g3,g4,g5⟩:=nk (v:=v) hb ht h1 h6 F0 hm;have hE:(if 7<8*p.length-at'\/Bo p at' (8*p.length-at')≠0 then(12:Int)else 0)=0:=Abw F0;rw[Abw (by rw[Bao hv0];decide),hE,Abw F5,g1,g3,Aa,Aa,g2];by_cases hl:e≠0
 ·rw[Acu hl];exact⟨[],e,rfl,rfl,λh=>absurd h hl,λ_=>rfl⟩
 ·rw[Abw hl];have hl0:e=0:=by simpa using hl
  exact⟨l,0,rfl,rfl,λ_=>⟨by rw[g4,hl0],F0,F0⟩,λe=>absurd rfl e⟩
theorem gQ(a b:Int32):a-b+b=a:=by
 apply Int32.toBitVec_inj.1;simp only[Int32.toBitVec_sub,Int32.toBitVec_add];apply Bau;simp only[BitVec.toNat_sub,BitVec.toNat_add];have:=a.toBitVec.isLt;have:=b.toBitVec.isLt;omega
def mxV(f:Nat->Int32)(ch i:Nat):Int32:=if i+1<ch then f (i+1)-f i else if 1<ch then f (ch-1)-Bf (f (ch-1)-f (ch-2)) (2:Int32)else f (ch-1)
def mx(ch:Nat)(x:LX):LX:=(List.range x.length).map λk=>mxV (λi=>x.getD (k-k %ch+i) 0) ch (k %ch)
theorem eS(ch:Nat)(x:LX):(mx ch x).length=x.length:=by simp[mx]
theorem Aus{ch:Nat}{x:LX}{k:Nat}(h:k<x.length):(mx ch x).getD k 0=mxV (λi=>x.getD (k-k %ch+i) 0) ch (k %ch):=by
 rw[Kq (by rw[eS];exact h)];simp[mx]
def rL(x:Int32):UInt32:=UInt32.ofNat (if 0<=x.toInt then 2*x.toInt.toNat else 2*(-x.toInt-1).toNat+1)
theorem Avb(x:Int32):NU (rL x)=x:=by
 have h:=Wc x;have e:(rL x).toNat=if 0<=x.toInt then 2*x.toInt.toNat else 2*(-x.toInt-1).toNat+1:=by
  rw[rL,Aky];split<;>exact Adk F0
 rw[NU,e];by_cases h0:0<=x.toInt
 ·rw[Acu h0,Acu F0,show((2*x.toInt.toNat/2:Nat):Int)=x.toInt by omega,Av7]
 ·rw[Abw h0,Abw F0,show -(((2*(-x.toInt-1).toNat+1)/2:Nat):Int)-1=x.toInt by omega,Av7]
theorem S6{α:Type}(ch c:Nat)(f g:α->Nat->α)(a0:α):∀m:Nat,(∀i,i<m->∀a,f a i=g a i)->pre ch c f a0 m=pre ch c g a0 m
 |0,_=>rfl
 |m+1,h=>by
  rw[pre,pre,S6 ch c f g a0 m λi hi=>h i F0,h m F0]
theorem Ar3(bits:Int)(ch:Nat)(t:LX)(v w:LU)(c i:Nat)(h:i<=v.length):cst bits ch t (v++w) c i=cst bits ch t v c i:=by
 unfold cst;apply S6;intro j hj a;have:(v++w).getD j 0=v.getD j 0:=by
  rw[List.getD_eq_getElem?_getD,List.getD_eq_getElem?_getD,List.getElem?_append_left F0]
 rw[this]
def Q2(bits:Int)(s:CS)(x:Int32):Int32:=x-gs (shB bits) s.1-gF (sB bits) s.2.1 s.2.2
theorem Ai4(bits:Int)(s:CS)(x:Int32):yu bits s (Q2 bits s x)=x:=by
 rw[yu,Q2,gQ,gQ]
def evl(bits:Int)(ch:Nat)(t m:LX):Nat->LU
 |0=>[]
 |i+1=>evl bits ch t m i++[rL (Q2 bits (cst bits ch t (evl bits ch t m i) (i %ch) i) (m.getD i 0))]
theorem sj(bits:Int)(ch:Nat)(t m:LX):∀i,(evl bits ch t m i).length=i
 |0=>rfl
 |i+1=>by rw[evl,Ac2,sj bits ch t m i];rfl
theorem Ahz(bits:Int)(ch:Nat)(t m:LX):∀(j i:Nat),∃w,evl bits ch t m (i+j)=evl bits ch t m i++w
 |0,i=>⟨[],Bbn⟩
 |j+1,i=>by
  obtain⟨w,hw⟩:=Ahz bits ch t m j i;rw[<-At3,evl,hw];exact⟨_,Atj _ _ _⟩
theorem Bb3{p:Prop}(h:p:=by rw[Ac2];omega):p:=h
end Go.Pl
namespace Go.Pl
open Go Go.Lv
variable{c d:List Bool}{a k s i:Nat}{p:Prop}
def tb(l:List Bool)(k:Nat):Nat:=if l.getD k false=true then 1 else 0
theorem Afx(b:Bool)(l:List Bool):tb (b::l) 0=if b=true then 1 else 0:=rfl
theorem Agr(b:Bool)(l:List Bool)(k:Nat):tb (b::l) (k+1)=tb l k:=by simp[tb]
theorem Ari{a b:List Bool}(h:k<a.length):tb (a++b) k=tb a k:=by
 rw[tb,tb,List.getD_eq_getElem?_getD,List.getD_eq_getElem?_getD,List.getElem?_append_left h]
theorem Agc(a b:List Bool)(k:Nat):tb (a++b) (a.length+k)=tb b k:=by
 rw[tb,tb,List.getD_eq_getElem?_getD,List.getD_eq_getElem?_getD,List.getElem?_append_right F0,Ayu]
theorem Aev{l:List Bool}(h:l.length<=k):tb l k=0:=by
 rw[tb,List.getD_eq_getElem?_getD,List.getElem?_eq_none h];rfl
def At(p:LB)(a:Nat)(c:List Bool):Prop:=∀i,i<c.length->Fo p (a+i)=tb c i
theorem At.left{p:LB}(h:At p a (c++d)):At p a c:=λi hi=>by
 rw[h i Bb3,Ari hi]
theorem At.right{p:LB}(h:At p a (c++d)):At p (a+c.length) d:=λi hi=>by
 rw[At3,h (c.length+i) Bb3,Agc]
theorem At.cons{p:LB}{b:Bool}(h:At p a (b::c)):Fo p a=(if b=true then 1 else 0)/\At p (a+1) c:=by
 have h0:=h 0 Bbn;rw[Ayq,Afx]at h0;refine⟨h0,λi hi=>?_⟩;have:=h (i+1) F6;rw[Agr]at this;rw[show a+1+i=a+(i+1) by omega,this]
def eA:Nat->Nat->List Bool
 |_,0=>[]
 |v,n+1=>decide (v %2=1)::eA (v/2) n
theorem Zj:∀(v n:Nat),(eA v n).length=n
 |_,0=>rfl
 |v,n+1=>by rw[eA,Am6,Zj (v/2) n]
theorem jJ(p:LB):∀(n a v:Nat),At p a (eA v n)->Bo p a n=v %2^n
 |0,a,v,_=>by rw[Bo,Nat.pow_zero,Nat.mod_one]
 |n+1,a,v,h=>by
  rw[eA]at h;obtain⟨h0,h1⟩:=h.cons;rw[Bo,h0,jJ p n (a+1) (v/2) h1,Atx,Ak8 (2^n) 2,Nat.mod_mul];have:=Nat.mod_two_eq_zero_or_one v;rcases this with e|e<;>simp[e]
def pQ(l v:Nat):List Bool:=if 48<=v/2^l then List.replicate 48 true++eA v 32 else List.replicate (v/2^l) true++(false::eA (v %2^l) l)
theorem Aj6{l v:Nat}(hl:l<=24):1<= (pQ l v).length/\ (pQ l v).length<=80:=by
 rw[pQ];generalize v/2^l=q;split
 ·rw[Ac2,Au7,Zj];omega
 ·rw[Ac2,Au7,Am6,Zj];omega
def DM(k l:Nat)(v:UInt32):List Bool:=if v.toNat<2^k then false::eA v.toNat k else true::pQ l (v.toNat-2^k)
theorem jE{l:Nat}(v:UInt32)(hk:k<=24)(hl:l<=24):1<= (DM k l v).length/\ (DM k l v).length<=81:=by
 have:=Aj6 (v:=v.toNat-2^k) hl;rw[DM];split
 ·rw[Am6,Zj];omega
 ·rw[Am6];omega
def bv:List Bool->Nat
 |[]=>0
 |b::r=>(if b=true then 1 else 0)+2*bv r
theorem At0:∀l:List Bool,bv l<2^l.length
 |[]=>by decide
 |b::r=>by
  have:=At0 r;rw[bv,Am6,Atx];split<;>omega
theorem Anf:∀(l:List Bool) (k:Nat),bv l/2^k %2=tb l k
 |[],k=>by simp[bv,tb]
 |b::r,0=>by
  rw[bv,Afx,Nat.pow_zero,Nat.div_one];split<;>omega
 |b::r,k+1=>by
  have:((if b=true then 1 else 0)+2*bv r)/2=bv r:=by split<;>omega
  rw[bv,Agr,Atx,Ak8 (2^k) 2,<-Ay2,this,Anf r k]
def Kk(c:List Bool):LB:=(List.range ((c.length+7)/8)).map λj=>UInt8.ofNat (bv ((c.drop (8*j)).take 8))
theorem Ua(c:List Bool):(Kk c).length=(c.length+7)/8:=by simp[Kk]
theorem NI(c:List Bool)(i:Nat):Fo (Kk c) i=tb c i:=by
 rw[Fo];by_cases h:i/8<(c.length+7)/8
 ·have hg:(Kk c).getD (i/8) 0=UInt8.ofNat (bv ((c.drop (8*(i/8))).take 8)):=by
   rw[List.getD_eq_getElem?_getD,List.getElem?_eq_getElem (by rw[Ua];exact h)];simp[Kk]
  have hlt:=At0 ((c.drop (8*(i/8))).take 8);have hl8:((c.drop (8*(i/8))).take 8).length<=8:=by rw[Ajc];omega
  have hp:=Ae8 (show 0<2 by omega) hl8;have hn:(UInt8.ofNat (bv ((c.drop (8*(i/8))).take 8))).toNat=bv ((c.drop (8*(i/8))).take 8):=by
   rw[Ak7];exact Adk F0
  rw[hg,hn,Anf,tb,tb];have:((c.drop (8*(i/8))).take 8).getD (i %8) false=c.getD i false:=by
   rw[List.getD_eq_getElem?_getD,List.getD_eq_getElem?_getD,List.getElem?_take,Acu F0,List.getElem?_drop,show 8*(i/8)+i %8=i by omega]
  rw[this]
 ·have hg:(Kk c).getD (i/8) 0=0:=by
   rw[List.getD_eq_getElem?_getD,List.getElem?_eq_none (by rw[Ua];omega)];rfl
  rw[hg,Aev F0];simp
def QZ(ch:Nat)(V:LU):Nat->List Bool
 |0=>[]
 |i+1=>QZ ch V i++DM (now ch (V.take i)).1 (now ch (V.take i)).2.1 (V.getD i 0)
theorem Adu(ch:Nat)(v:LU):(now ch v).1<=24/\ (now ch v).2.1<=24:=by
 have:=fZ ch v (v.length %ch) v.length;exact⟨this.1,this.2.1⟩
theorem UX(ch:Nat)(V:LU):∀i,(QZ ch V i).length<=81*i
 |0=>by simp[QZ]
 |i+1=>by
  have h:=Adu ch (V.take i);have:=jE (V.getD i 0) h.1 h.2;rw[QZ,Ac2];have:=UX ch V i;omega
def P64:Nat:=4823603603198064275
def KW(s:Nat):Nat:=(2*s %18446744073709551616)^^^ (s/9223372036854775808*P64)
theorem XF(h:s<18446744073709551616):KW s<18446744073709551616:=by
 have h1:s/9223372036854775808=0\/s/9223372036854775808=1:=F0
 exact Awk (n:=64) (Axq _ F5) (by rcases h1 with e|e<;>rw[e]<;>decide)
theorem Ah9(x y:Nat):(x^^^y)/9223372036854775808=(x/9223372036854775808)^^^ (y/9223372036854775808):=by
 have:=Nat.shiftRight_xor_distrib (a:=x) (b:=y) (i:=63);simpa [Nat.shiftRight_eq_div_pow]using this
theorem Ag6(x y:Nat):2*(x^^^y) %18446744073709551616=(2*x %18446744073709551616)^^^ (2*y %18446744073709551616):=by
 have h1:=Nat.shiftLeft_xor_distrib (a:=x) (b:=y) (i:=1);have h2:=Nat.xor_mod_two_pow (a:=2*x) (b:=2*y) (n:=64);have e:2*(x^^^y)=(2*x)^^^ (2*y):=by simpa [Nat.shiftLeft_eq,Ak8]using h1
 rw[e];exact h2
theorem Arc{b:Nat}(ha:a=0\/a=1)(hb:b=0\/b=1)(p:Nat):(a^^^b)*p=(a*p)^^^ (b*p):=by
 rcases ha with rfl|rfl<;>rcases hb with rfl|rfl<;>simp
theorem Ay6(a b c d:Nat):(a^^^b)^^^ (c^^^d)=(a^^^c)^^^ (b^^^d):=by
 rw[Aym,Aym,<-Aym b c d,Bbh b c,Aym c b d]
theorem Aeg{x y:Nat}(hx:x<18446744073709551616)(hy:y<18446744073709551616):KW (x^^^y)=KW x^^^KW y:=by
 rw[KW,KW,KW,Ag6,Ah9,Arc F0 F0,Ay6]
def Mb:Nat->Nat->Nat
 |0,s=>s
 |k+1,s=>Mb k (KW s)
theorem tA:∀(k:Nat) {s:Nat},s<18446744073709551616->Mb k s<18446744073709551616
 |0,_,h=>h
 |k+1,_,h=>tA k (XF h)
theorem H5:∀(k:Nat) {x y:Nat},x<18446744073709551616->y<18446744073709551616->Mb k (x^^^y)=Mb k x^^^Mb k y
 |0,_,_,_,_=>rfl
 |k+1,x,y,hx,hy=>by rw[Mb,Aeg hx hy,H5 k (XF hx) (XF hy)];rfl
theorem zK:∀(k h:Nat),2^k*h<18446744073709551616->Mb k h=2^k*h
 |0,h,_=>by simp[Mb]
 |k+1,h,hl=>by
  have hpos:0<2^k:=Ayw F0;rw[Atx,At1]at hl;have h2:2*h<18446744073709551616:=Ayl (Nat.le_mul_of_pos_left _ hpos) hl;have:KW h=2*h:=by rw[KW,Adk h2,show h/9223372036854775808=0 by omega];simp
  rw[Mb,this,zK k _ hl,Atx,At1]
def iE(s c:Nat):Nat:=Mb 8 (s^^^ (c*72057594037927936))
theorem c56{c:Nat}(hc:c<256):c*72057594037927936<18446744073709551616:=F0
theorem uF{c:Nat}(h:s<18446744073709551616)(hc:c<256):iE s c<18446744073709551616:=tA 8 (Awk (n:=64) h (c56 hc))
theorem Aqy(s:Nat):s=(s/72057594037927936*72057594037927936)^^^ (s %72057594037927936):=by
 have h1:s %72057594037927936<2^56:=Axq _ F5;have:=Awl h1 (s/72057594037927936);have h2:2^56*(s/72057594037927936)|||s %72057594037927936=(2^56*(s/72057594037927936))^^^ (s %72057594037927936):=by
  apply Nat.eq_of_testBit_eq;intro i;rw[Nat.testBit_or,Nat.testBit_xor];by_cases hi:i<56
  ·have:(2^56*(s/72057594037927936)).testBit i=false:=by rw[Nat.testBit_two_pow_mul];simp;omega
   rw[this];simp
  ·have:(s %72057594037927936).testBit i=false:=Nat.testBit_lt_two_pow (Ak1 h1 (Ae8 F0 F0));rw[this];simp
 rw[Ak8 (s/72057594037927936)]
 show s=(2^56*(s/72057594037927936))^^^ _;rw[<-h2,<-this];have:=Ba2 s 72057594037927936
 show s=72057594037927936*_+_;omega
theorem Aix(a c:Nat):(a^^^c)*72057594037927936=(a*72057594037927936)^^^ (c*72057594037927936):=by
 have h1:=Nat.shiftLeft_xor_distrib (a:=a) (b:=c) (i:=56);simpa [Nat.shiftLeft_eq]using h1
theorem jm{c:Nat}(h:s<18446744073709551616)(hc:c<256):iE s c=(256*s %18446744073709551616)^^^Mb 8 (((s/72057594037927936)^^^c)*72057594037927936):=by
 have hs:s/72057594037927936<2^8:=by show _<256;omega
 have hx:(s/72057594037927936)^^^c<256:=Awk (n:=8) hs (by simpa using hc);have hl:s %72057594037927936<72057594037927936:=Axq _ F5;rw[iE]
 conv=>lhs;rw[Aqy s]
 rw[Bbh (s/72057594037927936*72057594037927936),Aym,<-Aix,H5 8 F0 (c56 hx),zK 8 _ (by show 256*_<_;omega)];congr 1
 show 256*(s %72057594037927936)=_;omega
def E3(s:Nat)(l:LB):Nat:=l.foldl (λs c=>iE s c.toNat) s
theorem P8{n:Nat}(h:n<18446744073709551616):(UInt64.ofNat n).toNat=n:=by rw[Aii];exact Adk h
theorem Aua(s:UInt64)(bit:Nat)(hb:bit=0\/bit=1):DF s (bit:Int)=some (UInt64.ofNat ((2*s.toNat %18446744073709551616)^^^ (((s.toNat/9223372036854775808)^^^bit)*P64))):=by
 have hs:=s.toNat_lt;have ht:s.toNat/9223372036854775808=0\/s.toNat/9223372036854775808=1:=F0
 have e1:(Az s (2:UInt64)).toNat=2*s.toNat %18446744073709551616:=by
  rw[JC,UInt64.toNat_mul];show s.toNat*2 %_=_;rw[Ak8]
 have hlt:2*s.toNat %18446744073709551616<18446744073709551616:=Axq _ F5;have ey:Tu (Az s (2:UInt64)) (4823603603198064275:UInt64)=UInt64.ofNat ((2*s.toNat %18446744073709551616)^^^P64):=by
  apply UInt64.toNat_inj.1;rw[zV,UInt64.toNat_xor,e1,P8 (Awk (n:=64) hlt F5)];rfl
 have en:Az s (2:UInt64)=UInt64.ofNat (2*s.toNat %18446744073709551616):=by
  apply UInt64.toNat_inj.1;rw[e1,P8 hlt]
 have eg:Je s (9223372036854775808:UInt64)=decide (s.toNat/9223372036854775808=1):=by
  rw[Apz,decide_eq_decide]
  show 9223372036854775808<=s.toNat↔_;omega
 have hp:∀b:Bool,Ta s b=some (if b=true then UInt64.ofNat ((2*s.toNat %18446744073709551616)^^^P64)else UInt64.ofNat (2*s.toNat %18446744073709551616)):=by
  intro b;rw[Ta,JP,ey,en];cases b<;>rfl
 rw[DF,IP,hp,hp,eg];rcases hb with rfl|rfl<;>rcases ht with h|h<;>rw[h]<;>simp[Bl]
theorem xB(c:UInt8):∀(j q:Nat) (s:UInt64),j<=8->j<q->Jh c q s ((2^j/2:Nat):Int)=some (UInt64.ofNat (Mb j (s.toNat^^^ (c.toNat %2^j*2^(64-j)))))
 |0,q+1,s,_,_=>by
  rw[Jh,Tw,Abw Bb5,HP,JS];simp[Mb,Nat.mod_one]
 |j+1,q+1,s,hj,hq=>by
  have hc:=c.toNat_lt;have hs:=s.toNat_lt;have hj2:2^j<=2^7:=Ae8 F0 F0;have hpos:0<2^j:=Ayw F0;have e1:2^(j+1)/2=2^j:=by rw[Atx];omega
  have e2:Bf ((2^j:Nat):Int) 2=((2^j/2:Nat):Int):=by
   generalize 2^j=K at*
   rw[KJ,Awn F0,Cj F0 F0];omega
  have e3:Fi (Bf (Ae c:Int) ((2^j:Nat):Int)) (2:Int)=((c.toNat/2^j %2:Nat):Int):=by
   have hX:=Atp c.toNat (2^j);rw[VI,KJ,<-Int.ofNat_tdiv];generalize c.toNat/2^j=X at*
   rw[Cj F0 F0,Fi,Az2 F0];omega
  have hbit:c.toNat/2^j %2=0\/c.toNat/2^j %2=1:=F0
  rw[Jh,Tw,e1,Acu (by rw[Ba,Adp];omega),Bq (by rw[Ay,Bbm];omega),Aa,e3,Aua s _ hbit,Aa,e2,xB c j q _ F0 F0];congr 2;rw[Mb];congr 1;have hx:c.toNat %2^(j+1)*2^(64-(j+1))=(c.toNat/2^j %2)*9223372036854775808+c.toNat %2^j*2^(63-j):=by
   have h63:(9223372036854775808:Nat)=2^j*2^(63-j):=by rw[<-Ba6,show j+(63-j)=63 by omega]
   rw[Nat.mod_pow_succ,h63,show 64-(j+1)=63-j by omega,Ajz,Baf,At1,Nat.mul_left_comm]
  have hr:c.toNat %2^j<2^j:=Axq _ hpos;have Bb6:c.toNat %2^j*2^(63-j)<9223372036854775808:=by
   have h63:(9223372036854775808:Nat)=2^j*2^(63-j):=by rw[<-Ba6,show j+(63-j)=63 by omega]
   rw[h63];exact Bar hr (Ayw F0)
  have h64:c.toNat %2^j*2^(64-j)=2*(c.toNat %2^j*2^(63-j)):=by
   rw[show 64-j=(63-j)+1 by omega,Atx,<-At1,Ak8]
  rw[hx,h64];generalize c.toNat %2^j*2^(63-j)=R at*
  generalize c.toNat/2^j %2=b at*
  have ht:s.toNat/9223372036854775808=0\/s.toNat/9223372036854775808=1:=F0
  have hp:((s.toNat/9223372036854775808^^^b)*P64)<18446744073709551616:=by
   rcases ht with h|h<;>rcases hbit with h2|h2<;>rw[h,h2]<;>decide
  rw[P8 (Awk (n:=64) (Axq _ F5) hp),KW,Ag6,Ah9,show(b*9223372036854775808+R)/9223372036854775808=b by omega,show 2*(b*9223372036854775808+R) %18446744073709551616=2*R by omega,Aym,Aym,Bbh (2*R)]
theorem Aug(c:UInt8)(s:UInt64):RH s c=some (UInt64.ofNat (iE s.toNat c.toNat)):=by
 have h:=xB c 8 Ap s (Aqm _) F9;have hc:=c.toNat_lt;rw[Adk (show c.toNat<2^8 by simpa using hc)]at h;exact h
theorem mG(b:LB)(hb:b.length<4611686018427387904):∀(j i q:Nat) (s:UInt64),i+j=b.length->j<q->Hl b q s (i:Int)=some (UInt64.ofNat (E3 s.toNat (b.drop i)))
 |0,i,q+1,s,hi,_=>by
  rw[Hl,Py,Abw F3,show i=b.length by omega,Azs];simp[CT,CX,E3]
 |j+1,i,q+1,s,hi,hq=>by
  have hlt:i<b.length:=F0
  have hc:=b[i].toNat_lt;rw[Hl,Py,Acu F3,Cr hlt,Aa,Aug,Aa,Ag];have h:=mG b hb j (i+1) q (UInt64.ofNat (iE s.toNat b[i].toNat)) F0 F0;rw[show((i:Int)+1)=((i+1:Nat):Int) by omega,h,drop_cons hlt,P8 (uF s.toNat_lt (by simpa using hc))];rfl
def RC(b:LB):UInt64:=UInt64.ofNat (E3 0 b)
theorem An0(b:LB)(hb:b.length<=100000):Vp 0 b=some (RC b):=
 mG b F0 b.length 0 Ap 0 F0 F9
theorem Ael(c:UInt64):Tu (Ct c (GI.toZ (1:UInt64)).toNat) (Az (4823603603198064275:UInt64) (Bv c (GI.toZ (63:UInt64)).toNat))=UInt64.ofNat (KW c.toNat):=by
 have hc:=c.toNat_lt;apply UInt64.toNat_inj.1;have h1:(Ct c (GI.toZ (1:UInt64)).toNat).toNat=2*c.toNat %18446744073709551616:=by
  rw[show(GI.toZ (1:UInt64)).toNat=1 from rfl,QP,Ak8]
 have h2:(Az (4823603603198064275:UInt64) (Bv c (GI.toZ (63:UInt64)).toNat)).toNat=c.toNat/9223372036854775808*P64:=by
  rw[show(GI.toZ (63:UInt64)).toNat=63 from rfl,JC,UInt64.toNat_mul,DV]
  show 4823603603198064275*(c.toNat/9223372036854775808) %18446744073709551616=_;have h1:c.toNat/9223372036854775808=0\/c.toNat/9223372036854775808=1:=F0
  rcases h1 with e|e<;>rw[e]<;>decide
 rw[zV,UInt64.toNat_xor,h1,h2,P8 (XF hc)];rfl
theorem vT(Gc:Int->LQ->Option (UInt64×Int))(s:UInt64)(b:LB)(x:Int)(t:LQ):∀(j i q:Nat) (c:UInt64),i+j=8->j<q->
  Ou Gc s b x t q c (i:Int)=BP Gc s b x (UInt64.ofNat (Mb j c.toNat)) t
 |0,i,q+1,c,hi,_=>by
  obtain rfl:i=8:=F0
  rw[Ou,AW,Abw Bbw,Mb,UInt64.ofNat_toNat]
 |j+1,i,q+1,c,hi,hq=>by
  rw[Ou,AW,Acu F7,Ael,Ag,show((i:Int)+1)=((i+1:Nat):Int) by omega,vT Gc s b x t j (i+1) q _ F0 F0,P8 (XF c.toNat_lt)];rfl
def SV(n:Nat):LQ:=(List.range n).map λi=>UInt64.ofNat (Mb 8 (i*72057594037927936))
theorem G2(s:UInt64)(b:LB):∀(j i q:Nat),i+j=256->j<q->Ln s b q (i:Int) (SV i++List.replicate j 0)=OZ s b (SV 256)
 |0,i,q+1,hi,_=>by
  obtain rfl:i=256:=F0
  rw[Ln,CG,Abw Bbw];simp
 |j+1,i,q+1,hi,hq=>by
  have hlen:(SV i++List.replicate (j+1) 0).length=i+(j+1):=by simp[SV]
  rw[Ln,CG,Acu F7,QH];have h:=vT (Ln s b q) s b (i:Int) (SV i++List.replicate (j+1) 0) 8 0 Ap (Ct (Ae (i:Int):UInt64) (GI.toZ (56:UInt64)).toNat) F0 F9;rw[show((0:Int))=((0:Nat):Int)from rfl,h,BP,eR,Cr (by rw[hlen];omega),Aa,To _ (by rw[hlen];omega),Aa,fC,dY,Ag];have e:(Ct (Ae (i:Int):UInt64) (GI.toZ (56:UInt64)).toNat).toNat=i*72057594037927936:=by
   rw[QP,Us,P8 F0]
   show i*72057594037927936 %18446744073709551616=_;omega
  rw[e,Axr,oU (by simp[SV])];have h2:=G2 s b j (i+1) q F0 F0;have h3:SV (i+1)=SV i++[UInt64.ofNat (Mb 8 (i*72057594037927936))]:=by simp[SV,List.range_succ]
  rw[h3]at h2;rw[show((i:Int)+1)=((i+1:Nat):Int) by omega,<-h2];simp
theorem Aj4(h:i<256):Aj (SV 256) (i:Int)=some (UInt64.ofNat (Mb 8 (i*72057594037927936))):=by
 rw[Cr (by simpa [SV]using h)];simp[SV]
theorem Ac7(s:UInt64)(c:UInt8):Aj (SV 256) (GI.toZ (Tu (Ae (Bv s (GI.toZ (56:UInt64)).toNat):UInt8) c))=some (UInt64.ofNat (Mb 8 (((s.toNat/72057594037927936)^^^c.toNat)*72057594037927936))):=by
 have hs:=s.toNat_lt;have e:GI.toZ (Tu (Ae (Bv s (GI.toZ (56:UInt64)).toNat):UInt8) c)=(((s.toNat/72057594037927936)^^^c.toNat:Nat):Int):=by
  have e2:((Ae (Bv s (GI.toZ (56:UInt64)).toNat):UInt8)).toNat=s.toNat/72057594037927936:=by
   rw[PU,Ak7,DV]
   show s.toNat/72057594037927936 %256=_;omega
  rw[ED,Af8,UInt8.toNat_xor,e2]
 rw[e,Aj4];exact Awk (n:=8) (by show _<256;omega) (by simpa using c.toNat_lt)
theorem jr(s:UInt64)(c:UInt8):Tu (Ct s (GI.toZ (8:UInt64)).toNat) (UInt64.ofNat (Mb 8 (((s.toNat/72057594037927936)^^^c.toNat)*72057594037927936)))=UInt64.ofNat (iE s.toNat c.toNat):=by
 have hs:=s.toNat_lt;have hc:c.toNat<256:=by simpa using c.toNat_lt
 apply UInt64.toNat_inj.1;have hlt:Mb 8 (((s.toNat/72057594037927936)^^^c.toNat)*72057594037927936)<18446744073709551616:=tA 8 (c56 (Awk (n:=8) (by show _<256;omega) (by simpa using c.toNat_lt)));have e:(GI.toZ (8:UInt64)).toNat=8:=rfl;rw[e,zV,UInt64.toNat_xor,QP,P8 hlt,P8 (uF hs hc),jm hs hc,Ak8 s.toNat]
theorem vW(b:LB)(s0:UInt64)(hb:b.length<4611686018427387904):∀(j i q:Nat) (s:UInt64),i+j=b.length->j<q->Oh b s0 (SV 256) q s (i:Int)=some (UInt64.ofNat (E3 s.toNat (b.drop i)),0)
 |0,i,q+1,s,hi,_=>by
  rw[Oh,CE,Abw F3,show i=b.length by omega,Azs];simp[PG,eH,gD,gB,E3]
 |j+1,i,q+1,s,hi,hq=>by
  have hlt:i<b.length:=F0
  have hc:=b[i].toNat_lt;rw[Oh,CE,Acu F3,Cr hlt,Aa,Ac7,Aa,Aa,jr,Ag];have h:=vW b s0 hb j (i+1) q (UInt64.ofNat (iE s.toNat b[i].toNat)) F0 F0;rw[show((i:Int)+1)=((i+1:Nat):Int) by omega,h,drop_cons hlt,P8 (uF s.toNat_lt (by simpa using hc))];rfl
theorem Ab7(b:LB)(hb:b.length<=100000):VR b=some (RC b,0):=by
 have h:=G2 0 b 256 0 Ap F0 F9;have h2:=vW b 0 F0 b.length 0 Ap 0 F0 F9;have hn:ZR 0 b=some (RC b,0):=by
  rw[ZR,UB,Abw Bbq,fS];refine Ayp h ?_;rw[OZ,NX,OH];exact h2
 rw[VR,hn,Aa]
theorem Ai2(p:LB)(hp:p.length<=64):Um p=some (Wu (RC p).toNat 8,0):=by
 rw[Um,uD,Abw Bbq,Ab7 p F0,Aa,Aa];simp only;have h:=PT (RC p) 8 F0 F0 (by simpa using(RC p).toNat_lt);rw[Abw Bbo];exact congrArg (λo=>Option.bind o λx:LB×Int=>some (x.1,x.2)) h
def s8(n:Nat):Int32:=Int32.ofInt (if n<128 then(n:Int)else(n:Int)-256)
def SC(d:UInt64)(n:Nat):LX:=(List.range n).map λi=>s8 (d.toNat/256^i %256)
theorem WB(d:UInt64)(n:Nat):(SC d n).length=n:=by simp[SC]
theorem N0(d:UInt64)(n:Nat):SC d (n+1)=SC d n++[s8 (d.toNat/256^n %256)]:=by simp[SC,List.range_succ]
theorem bm8(z:Nat):(z:Int).bmod Int8.size=if z %256<128 then((z %256:Nat):Int)else((z %256:Nat):Int)-256:=by
 rw[show Int8.size=256 from rfl,Int.bmod_def];split<;>split<;>omega
theorem Ag7(d:UInt64):∀(j i q:Nat),i+j=8->j<q->GO d q (i:Int) (SC d i++List.replicate (16-i) 0)=some (SC d 8++List.replicate 8 0)
 |0,i,q+1,hi,_=>by
  obtain rfl:i=8:=F0
  rw[GO,aQ,Abw Bbw];rfl
 |j+1,i,q+1,hi,hq=>by
  have hlen:(SC d i++List.replicate (16-i) 0).length=16:=by simp[WB];omega
  have ih:=Ag7 d j (i+1) q F0 F0;have e8:Az (8:Int) (i:Int)=((8*i:Nat):Int):=by rw[Fj];omega
  have ev:(Ae (Ae (Bv d (GI.toZ (((8*i:Nat):Int))).toNat):Int8):Int32)=s8 (d.toNat/256^i %256):=by
   have e1:(Bv d (GI.toZ (((8*i:Nat):Int))).toNat).toNat=d.toNat/256^i:=by
    rw[show(GI.toZ (((8*i:Nat):Int))).toNat=8*i from rfl,DV,Nat.pow_mul]
   show Int32.ofInt (Int8.ofInt ((Bv d (GI.toZ (((8*i:Nat):Int))).toNat).toNat:Int)).toInt=_;rw[e1,s8,Int8.toInt_ofInt,bm8]
  rw[GO,aQ,Acu F7,e8,Bq Bbr,Aa,ev,Cr,Aa,To _ F0,Aa,Ag,show 16-i=(15-i)+1 by omega,Axr,oU (WB d i)];rw[N0,show 16-(i+1)=15-i by omega,Atj]at ih;exact ih
theorem Amh(d:UInt64):∀(j i q:Nat) (e:UInt64),i+j=8->j<q->e.toNat=d.toNat/256^i->Iy q e (i:Int) (SC d i++List.replicate (16-i) 0)=some (SC d 8++List.replicate 8 0)
 |0,i,q+1,e,hi,_,he=>by
  obtain rfl:i=8:=F0
  rw[Iy,Yh,Abw Bbw];rfl
 |j+1,i,q+1,e,hi,hq,he=>by
  have hlen:(SC d i++List.replicate (16-i) 0).length=16:=by simp[WB];omega
  have hq2:(Bf e (256:UInt64)).toNat=d.toNat/256^(i+1):=by
   rw[rK,Ba9,he,Atx,<-Ay2];rfl
  have ih:=Amh d j (i+1) q (Bf e (256:UInt64)) F0 F0 hq2;have ev:(Ae (AN e (256:UInt64)):Int32)=Int32.ofInt ((d.toNat/256^i %256:Nat):Int):=by
   show Int32.ofInt ((AN e (256:UInt64)).toNat:Int)=_;rw[zy,UInt64.toNat_mod,he];rfl
  have hz:d.toNat/256^i %256<256:=Axq _ F0;have et:(Int32.ofInt ((d.toNat/256^i %256:Nat):Int)).toInt=((d.toNat/256^i %256:Nat):Int):=by
   rw[Ays,Bbe (by show -(4294967296/2:Int)<= _;omega) (by show _<(4294967296+1)/2;omega)]
  have hp8:∀x:Int32,x=s8 (d.toNat/256^i %256)->Yo (Iy q) e (i:Int) (SC d i++List.replicate (16-i) 0) x=some (SC d 8++List.replicate 8 0):=by
   intro x hx;rw[Yo,PD,hx,Cr,Aa,To _ F0,Aa,Ag,show 16-i=(15-i)+1 by omega,Axr,oU (WB d i)];rw[N0,show 16-(i+1)=15-i by omega,Atj]at ih;exact ih
  rw[Iy,Yh,Acu F7,ev,Aed,et,show(127:Int32).toInt=127 from rfl];by_cases h:d.toNat/256^i %256<128
  ·rw[Abw (by simp only[Adp];omega)];exact hp8 _ (by rw[s8,Acu h])
  ·rw[Acu (by simp only[Adp];omega)];refine hp8 _ ?_;rw[s8,Abw h,OT,Int32.ofInt_sub];rfl
def Ox(p:LB):LX:=SC (RC p) 8++List.replicate 8 0
theorem nJ(p:LB):(Ox p).length=16:=by simp[Ox,WB]
theorem W7(p:LB)(hp:p.length<=64):Mh p=some (Ox p,0):=by
 have h:=Ag7 (RC p) 8 0 Ap F0 F9;have h2:iw (RC p)=some (Ox p):=h;rw[Mh,Abw Bbq,Ab7 p F0,Aa];simp only;rw[Abw Bbo,h2,Aa]
theorem Ann(p:LB)(hp:p.length<=64):Rz p=some (Ox p,0):=by
 have h:=Amh (RC p) 8 0 Ap (RC p) F0 F9 Bbn;have h2:bH (RC p)=some (Ox p):=h;rw[Rz,Abw Bbq,WN,SF,Abw Bbq,An0 p F0,Aa,Aa,Aa];simp only;rw[h2,Aa]
def u8(z:Int):UInt8:=UInt8.ofNat (z %256).toNat
theorem cu(z:Int):u8 (z %256)=u8 z:=by rw[u8,u8];congr 2;omega
def wB(bits:Int):Nat:=if bits=8 then 1 else if bits=16 then 2 else 3
theorem Afd{bits:Int}(h:Bw bits):Bf bits 8=(wB bits:Int):=by obtain rfl|rfl|rfl:=h<;>rfl
theorem S3(bits:Int):1<=wB bits/\wB bits<=3:=by
 unfold wB;split; · omega
 ·split<;>omega
def FU(bits:Int)(x:Int):LB:=if bits=8 then [u8 (x+128)]else if bits=16 then [u8 x,u8 (x/256)]else [u8 x,u8 (x/256),u8 (x/65536)]
theorem yc(bits x:Int):(FU bits x).length<=3:=by
 unfold FU;split; · simp
 ·split<;>simp
theorem Anb(x:Int32)(k:Nat)(hk:k<=32):(Ae (Bv x k):UInt8)=u8 (x.toInt.fdiv (2^k)):=by
 have h:=Wc x;have e:Bv x k=Int32.ofInt (x.toInt.fdiv (2^k)):=by
  show Int32.ofInt (x.toInt.fdiv (2^min k 32))=_;rw[Awp hk]
 have hb: -2147483648<=x.toInt.fdiv (2^k)/\x.toInt.fdiv (2^k)<2147483648:=by
  have hpos:(0:Int)<2^k:=Int.pow_pos F0;rw[Apm _ F0];constructor
  ·refine(Int.le_ediv_iff_mul_le hpos).2 ?_;have:(1:Int)<=2^k:=F0
   have h2: -2147483648*(2^k:Int)<= -2147483648*1:=Int.mul_le_mul_of_nonpos_left F0 this;omega
  ·refine Int.ediv_lt_of_lt_mul hpos ?_;have:(1:Int)<=2^k:=F0
   have h2:(2147483648:Int)*1<=2147483648*2^k:=Int.mul_le_mul_of_nonneg_left this F0;omega
 show UInt8.ofNat ((Bv x k).toInt %256).toNat=_;rw[e,Ays,Bbe (by show -(4294967296/2:Int)<= _;omega) (by show _<(4294967296+1)/2;omega)];rfl
section
variable (bk:Int->LB->Option (LB×Int)) (l:LX)
theorem yJ{bits:Int}(h:Bw bits)(c:Int32)(x:Int)(i q:Nat)(acc:LB)(hi:i<wB bits)(ha:acc.length<=100000):
  Hy bk bits l c x (q+1) (i:Int) acc=Hy bk bits l c x q ((i+1:Nat):Int) (acc++[u8 (c.toInt.fdiv (2^(8*i)))]):=by
 have hw:=S3 bits;have e8:Az (8:Int) (i:Int)=((8*i:Nat):Int):=by rw[Fj];omega
 rw[Hy,Xk,Afd h,Acu F7,e8,Bq Bbr,Aa,show(GI.toZ (((8*i:Nat):Int))).toNat=8*i from rfl,Anb _ _ F0,By F6,Aa,Ag];rfl
theorem Aej{bits:Int}(h:Bw bits)(c:Int32)(x:Int)(q:Nat)(acc:LB):Hy bk bits l c x (q+1) ((wB bits:Nat):Int) acc=bk (Ad x 1) acc:=by
 rw[Hy,Xk,Afd h,Abw Bbw,KQ,bP]
theorem Aue{bits:Int}(h:Bw bits)(c:Int32)(x:Int)(acc:LB)(ha:acc.length<=90000)(hr: -(hB bits)<=c.toInt/\c.toInt<hB bits):
  Mk bk bits l x acc (if bits=8 then Ad c (128:Int32)else c)=bk (Ad x 1) (acc++FU bits c.toInt):=by
 have e:Ap=(Ap-4)+1+1+1+1:=by have:=Ao;omega
 have hc:=Wc c;rw[Mk,KC,LA,e];have g0:=λ(c:Int32) q acc ha=>yJ bk l h c x 0 q acc (by have:=S3 bits;omega) ha;obtain rfl|rfl|rfl:=h
 ·have hh:hB 8=128:=rfl;rw[hh]at hr;have e1:(Ad c (128:Int32)).toInt=c.toInt+128:=by
   show(Int32.ofInt (c.toInt+(128:Int32).toInt)).toInt=_;rw[show(128:Int32).toInt=128 from rfl,Ays,Bbe (by show -(4294967296/2:Int)<= _;omega) (by show _<(4294967296+1)/2;omega)]
  have g1:=Aej bk l (bits:=8) (.inl rfl) (Ad c (128:Int32)) x (Ap-4+1+1);rw[Acu rfl,show(0:Int)=((0:Nat):Int)from rfl,g0 _ _ _ F0];refine Ayp (g1 _) ?_;rw[e1,FU,Acu rfl]
  show bk _ (acc++[u8 ((c.toInt+128).fdiv 1)])=_;rw[Int.fdiv_one]
 ·have g1:=λq acc ha=>yJ bk l (bits:=16) (.inr (.inl rfl)) c x 1 q acc F5 ha;have g2:=Aej bk l (bits:=16) (.inr (.inl rfl)) c x (Ap-4+1);rw[Abw F5,show(0:Int)=((0:Nat):Int)from rfl,g0 _ _ _ F0,g1 _ _ F6];refine Ayp (g2 _) ?_;rw[FU,Abw F5,Acu rfl,Atj]
  show bk _ (acc++[u8 (c.toInt.fdiv 1),u8 (c.toInt.fdiv 256)])=_;rw[Int.fdiv_one,Apm _ F0]
 ·have g1:=λq acc ha=>yJ bk l (bits:=24) (.inr (.inr rfl)) c x 1 q acc F5 ha;have g2:=λq acc ha=>yJ bk l (bits:=24) (.inr (.inr rfl)) c x 2 q acc F5 ha;have g3:=Aej bk l (bits:=24) (.inr (.inr rfl)) c x (Ap-4);rw[Abw F5,show(0:Int)=((0:Nat):Int)from rfl,g0 _ _ _ F0,g1 _ _ F6,g2 _ _ F6];refine Ayp (g3 _) ?_;rw[FU,Abw F5,Abw F5,Atj,Atj]
  show bk _ (acc++[u8 (c.toInt.fdiv 1),u8 (c.toInt.fdiv 256),u8 (c.toInt.fdiv 65536)])=_;rw[Int.fdiv_one,Apm _ F0,Apm _ F0]
end
def Fl(bits:Int)(l:LX):LB:=l.flatMap λx=>FU bits x.toInt
theorem aE(bits:Int):∀l:LX,(Fl bits l).length<=3*l.length
 |[]=>by simp[Fl]
 |x::l=>by
  have h1:=aE bits l;have h2:=yc bits x.toInt;simp only[Fl,List.flatMap_cons,Ac2,Am6]at*
  omega
def inR(bits:Int)(l:LX):Prop:=∀x∈l, -(hB bits)<=x.toInt/\x.toInt<hB bits
theorem Agb{bits:Int}(h:Bw bits)(l:LX)(hl:l.length<=4000)(hr:inR bits l):∀(j i q:Nat),i+j=l.length->j<q->Ff bits l q (i:Int) (Fl bits (l.take i))=some (Fl bits l,0)
 |0,i,q+1,hi,_=>by
  rw[Ff,Xr,Abw F3,Apn F0];rfl
 |j+1,i,q+1,hi,hq=>by
  have hlt:i<l.length:=F0
  have ih:=Agb h l hl hr j (i+1) q F0 F0;have hlen:=aE bits (l.take i);have hx:=hr l[i] (Awc _);have h1:=Aue (Ff bits l q) l h l[i] (i:Int) (Fl bits (l.take i)) (by rw[Ajc]at hlen;omega) hx;rw[Ff,Xr,Acu F3,Cr hlt,Aa];have e:(if(geq bits (8:Int))=true then Mk (Ff bits l q) bits l (i:Int) (Fl bits (l.take i)) (Ad l[i] (128:Int32))else Mk (Ff bits l q) bits l (i:Int) (Fl bits (l.take i)) l[i])=Mk (Ff bits l q) bits l (i:Int) (Fl bits (l.take i)) (if bits=8 then Ad l[i] (128:Int32)else l[i]):=by
   by_cases h8:bits=8
   ·rw[Acu (by rw[Bl];simpa using h8),Acu h8]
   ·rw[Abw (by rw[Bl];simpa using h8),Abw h8]
  rw[e,h1,Ag];rw[Mf hlt]at ih;have e2:Fl bits (l.take i++[l[i]])=Fl bits (l.take i)++FU bits l[i].toInt:=by unfold Fl;rw[List.flatMap_append,List.flatMap_singleton]
  rw[e2]at ih;exact ih
theorem uY{bits:Int}(h:Bw bits){l:LX}(hl:l.length<=4000)(hc:Bk bits l=some 0):inR bits l:=by
 have hh:=eL bits;have key:∀(j i q:Nat),i+j=l.length->j<q->Bm l (hB bits) q (i:Int)=some 0->∀k,i<=k-> (hk:k<l.length)-> -(hB bits)<=l[k].toInt/\l[k].toInt<hB bits:=by
  intro j
  induction j with
  |zero=>intro i q hi hq _ k h1 h2;omega
  |succ j ih=>
   intro i q hi hq hs k h1 h2;obtain⟨q,rfl⟩:∃k,q=k+1:=⟨q-1,F0⟩;rw[Bm,Df,Acu F3,Cr,Aa,Aa,Ec,jw,Cj F0 F0,Ag,Af,Cz]at hs;by_cases g1:l[i].toInt<0-hB bits
   ·rw[Acu (by simpa using g1)]at hs;simp at hs
   ·rw[Abw (by simpa using g1)]at hs;by_cases g2:hB bits<=l[i].toInt
    ·rw[Acu (by simpa using g2)]at hs;simp at hs
    ·rw[Abw (by simpa using g2)]at hs;by_cases hk:k=i
     ·subst hk;omega
     ·exact ih (i+1) q F0 F0 hs k F0 h2
 rw[Bk,Ih,wC h,Aa,Abw Bbs,Abw Bbq]at hc;have:=key l.length 0 Ap F0 F9 hc;intro x hx;obtain⟨k,hk,rfl⟩:=List.getElem_of_mem hx;exact this k F0 hk
theorem Aen{bits:Int}(h:Bw bits){l:LX}(hl:l.length<=4000)(hc:Bk bits l=some 0):Ph bits l=some (Fl bits l,0):=by
 have h1:=Agb h l hl (uY h hl hc) l.length 0 Ap F0 F9;rw[Ph,PJ,ZN h l hl,hc,Aa,Abw Bbo];exact h1
theorem Apr{bits:Int}(h:Bw bits)(x:Int32)(hr: -(hB bits)<=x.toInt/\x.toInt<hB bits):FM bits x=some (FU bits x.toInt):=by
 have hx:=Wc x;have gu:∀z:Int,(Ae z:UInt8)=u8 z:=λz=>rfl;have hq:∀n:Int,0<=n->n<=20000000->Bf n (256:Int)=n/256/\Bf n (65536:Int)=n/65536:=by
  intro n h1 h2;constructor<;>(rw[KJ,Awn h1,Cj F0 F0])
 have hm:∀n:Int,0<=n->Fi n (256:Int)=n %256:=λn h1=>by rw[Fi,Az2 h1]
 rw[FM,ME,Ec];obtain rfl|rfl|rfl:=h
 ·rw[Acu Bb4,Ag,gu,FU,Acu rfl]
 ·have hh:hB 16=32768:=rfl;rw[hh]at hr;have hp:∀n:Int,0<=n->n<=70000->u8 n=u8 x.toInt->u8 (n/256)=u8 (x.toInt/256)->Kh 16 n=some (FU 16 x.toInt):=by
   intro n h1 h2 h3 h4;rw[Kh,Vz,Abw Bb2,hm n h1,(hq n h1 F0).1,hm _ F0,gu,gu,cu,cu,h3,h4,FU,Abw F5,Acu rfl]
  rw[Abw Bb2];by_cases hn:x.toInt<0
  ·rw[Acu (by rw[Af];simpa using hn),wC (.inr (.inl rfl)),Aa,hh,Fj,Ag];refine hp _ F0 F0 ?_ ?_
   ·rw[u8,u8];congr 2;omega
   ·rw[u8,u8];congr 2;omega
  ·rw[Abw (by rw[Af];simpa using hn)];exact hp _ F0 F0 rfl rfl
 ·have hh:hB 24=8388608:=rfl;rw[hh]at hr;have hp:∀n:Int,0<=n->n<=16777215->u8 n=u8 x.toInt->u8 (n/256)=u8 (x.toInt/256)->u8 (n/65536)=u8 (x.toInt/65536)->Kh 24 n=some (FU 24 x.toInt):=by
   intro n h1 h2 h3 h4 h5;rw[Kh,Vz,Acu Bb4,hm n h1,(hq n h1 F0).1,(hq n h1 F0).2,hm _ F0,gu,gu,gu,cu,cu,h3,h4,h5,By Bbn,Aa,FU,Abw F5,Abw F5];rfl
  rw[Abw Bb2];by_cases hn:x.toInt<0
  ·rw[Acu (by rw[Af];simpa using hn),wC (.inr (.inr rfl)),Aa,hh,Fj,Ag];refine hp _ F0 F0 ?_ ?_ ?_
   ·rw[u8,u8];congr 2;omega
   ·rw[u8,u8];congr 2;omega
   ·rw[u8,u8];congr 2;omega
  ·rw[Abw (by rw[Af];simpa using hn)];exact hp _ F0 F0 rfl rfl rfl
theorem Af4{bits:Int}(h:Bw bits)(l:LX)(hl:l.length<=4000)(hr:inR bits l):∀(j i q:Nat),i+j=l.length->j<q->Ij bits l q (i:Int) (Fl bits (l.take i))=some (Fl bits l,0)
 |0,i,q+1,hi,_=>by
  rw[Ij,Rp,Abw F3,Apn F0];rfl
 |j+1,i,q+1,hi,hq=>by
  have hlt:i<l.length:=F0
  have ih:=Af4 h l hl hr j (i+1) q F0 F0;have hlen:=aE bits (l.take i);have hol:=yc bits l[i].toInt;rw[Ajc]at hlen;have e2:Fl bits (l.take i++[l[i]])=Fl bits (l.take i)++FU bits l[i].toInt:=by unfold Fl;rw[List.flatMap_append,List.flatMap_singleton]
  rw[Mf hlt,e2]at ih;rw[Ij,Rp,Acu F3,Cr hlt,Aa,Apr h _ (hr l[i] (Awc _)),Aa,By,Aa,Ag];exact ih
theorem Ajk{bits:Int}(h:Bw bits){l:LX}(hl:l.length<=4000)(hc:Bk bits l=some 0):Pq bits l=some (Fl bits l,0):=by
 have h1:=Af4 h l hl (uY h hl hc) l.length 0 Ap F0 F9;rw[Pq,FB,hc,Aa,Abw Bbo];exact h1
def nK:LB->Nat->Int×Int
 |[],n=>((n:Int),0)
 |c::r,n=>if 128<=c.toNat then(0,12)else nK r (128*n+c.toNat)
theorem Ah8:∀(l:LB) (n k:Nat),n<128^k->0<= (nK l n).1/\ (nK l n).1<((128^(k+l.length):Nat):Int)
 |[],n,k,h=>by simp[nK];exact_mod_cast h
 |c::r,n,k,h=>by
  rw[nK];split
  ·have:0<128^(k+(c::r).length):=Ayw F0;exact⟨Int.le_refl _,by simp only;exact_mod_cast this⟩
  ·have:=Ah8 r (128*n+c.toNat) (k+1) (by rw[Atx];omega);rw[Am6,show k+(r.length+1)=k+1+r.length by omega];exact this
theorem Aou(b:LB)(hb:b.length=4):∀(j i q n:Nat),i+j=4->j<q->n<128^i->Im b q (n:Int) (i:Int)=some (nK (b.drop i) n)
 |0,i,q+1,n,hi,_,_=>by
  rw[Im,Rr,Abw F7,show b.drop i=[] by simp;omega];rfl
 |j+1,i,q+1,n,hi,hq,hn=>by
  have hlt:i<b.length:=F0
  have hn2:n<268435456:=Ak1 hn (show 128^i<=128^4 from Ae8 F0 F0);rw[Im,Rr,Acu F7,Cr hlt,Aa,drop_cons hlt,nK,Avc];have h128:(128:UInt8).toNat=128:=rfl;by_cases hc:128<=b[i].toNat
  ·rw[Acu (by simpa using hc),Acu hc]
  ·have h3:=b[i].toNat_lt;rw[Abw (by simpa using hc),Abw hc,Aa,VI,Fj,Ag,Ag];have:=Aou b hb j (i+1) q (128*n+b[i].toNat) F0 F0 (by rw[Atx];omega);rw[<-this];rfl
theorem Akj(b:LB)(hb:b.length=4):Ys b=some (nK b 0):=by
 have h:=Aou b hb 4 0 Ap 0 F0 F9 Bbn;rw[Ys,FC,Abw (by rw[Ay,Ac];simp;omega),EN];exact h
theorem Al9{b:LB}(hb:b.length=4):0<= (nK b 0).1/\ (nK b 0).1<268435456:=by
 have:=Ah8 b 0 0 Bbn;rw[hb]at this;simpa using this
theorem mg(s p:LB):Jt s p=some (decide (p.length<=s.length/\s.take p.length=p)):=by
 rw[Jt];by_cases h:p.length<=s.length
 ·rw[Acu (by rw[Cz,Ac,Ac];simp;omega),show Ac p=(p.length:Int)from rfl,Qa,Aa,Mt,Aa,Ak3];congr 1;rw[Apc];simp[h]
 ·rw[Abw (by rw[Cz,Ac,Ac];simp;omega)];simp[h]
def Agl(b:LB)(n:Int):Int×Int:=
 if 4000<n then(0,4)else if(b.length:Int)<n then(0,24)else
 if b.getD 5 0=16/\ (b.take n.toNat).drop (n-10).toNat≠ [51,68,73]++part b 3 7 then(0,12)else(n,0)
def Ag3(b:LB)(r:Int):Int×Int:=Agl b (r+10+(if b.getD 5 0=16 then 10 else 0))
def E5(b:LB):Int×Int:=
 if ¬(3<=b.length/\b.take 3=[73,68,51])then(0,6)else if b.length<10 then(0,24)else
 if(nK (part b 6 4) 0).2≠0\/b.getD 4 0≠0\/ ¬((b.getD 5 0=0/\2<= (b.getD 3 0).toNat/\ (b.getD 3 0).toNat<=4)\/ (b.getD 5 0=16/\b.getD 3 0=4))then(0,12)else
 Ag3 b (nK (part b 6 4) 0).1
theorem Z4{b:LB}(h:i<b.length):Aj b (i:Int)=some (b.getD i 0):=by
 rw[Cr h];simp[List.getD_eq_getElem?_getD,h]
theorem Ww{b:LB}(a w:Nat)(h:a+w<=b.length:=by omega):Bg b (a:Int) ((a+w:Nat):Int)=some (part b a w):=by
 rw[TL];rfl
theorem Aq1(b:LB)(r:Int)(h10:10<=b.length)(h0:0<=r)(h1:r<268435456):Te b r=some (Ag3 b r):=by
 have g5:Aj b (5:Int)=some (b.getD 5 0):=Z4 (i:=5) F0;have key:∀n:Int,10<=n->n<268435500->Sy b n=some (Agl b n):=by
  intro n hn hn2;rw[Sy,JG,Agl];by_cases c1:4000<n
  ·rw[Acu (by rw[Ba];simpa using c1),Acu c1]
  ·rw[Abw (by rw[Ba];simpa using c1),Abw c1];by_cases c2:(b.length:Int)<n
   ·rw[Acu (by rw[Af,Ac];simpa using c2),Acu c2]
   ·have e3:Bg b (3:Int) (10:Int)=some (part b 3 7):=Ww 3 7;rw[Abw (by rw[Af,Ac];simpa using c2),Abw c2,g5,Aa];by_cases c3:b.getD 5 0=16
    ·rw[Acu (by rw[lq];simpa using c3),Ca,TL,Aa,e3,Aa,By (by rw[Hf];simp),Aa];by_cases c4:(b.take n.toNat).drop (n-10).toNat=[51,68,73]++part b 3 7
     ·rw[Abw (by simpa using c4),Abw (by intro h;exact h.2 c4)]
     ·rw[Acu (by simpa using c4),Acu ⟨c3,c4⟩]
    ·rw[Abw (by rw[lq];simpa using c3),Abw (λh=>c3 h.1)]
 rw[Te,HU,g5,Aa,Ag3];by_cases c3:b.getD 5 0=16
 ·rw[Acu (by rw[lq];simpa using c3),Ag (by rw[Ag]<;>omega) (by rw[Ag]<;>omega),Ag,key _ F0 F0,Acu c3,show 10+r+10=r+10+10 by omega]
 ·rw[Abw (by rw[lq];simpa using c3),Ag,key _ F0 F0,Abw c3,show 10+r=r+10+0 by omega]
theorem Aod(b:LB)(hb:b.length<4611686018427387904):BR b=some (E5 b):=by
 rw[BR,IA,E5];by_cases h3:3<=b.length
 ·rw[Abw F3,Qa,Aa];by_cases hp:b.take 3=[73,68,51]
  ·rw[Abw (by simpa using hp),Abw (by simp[h3,hp]),JY,IJ];by_cases h10:b.length<10
   ·rw[Acu F3,Acu h10]
   ·have e6:Bg b (6:Int) (10:Int)=some (part b 6 4):=Ww 6 4;have g3:Aj b (3:Int)=some (b.getD 3 0):=Z4 (i:=3) F0;have g4:Aj b (4:Int)=some (b.getD 4 0):=Z4 (i:=4) F0;have g5:Aj b (5:Int)=some (b.getD 5 0):=Z4 (i:=5) F0;obtain⟨v1,v2⟩:=Al9 (b:=part b 6 4) (Hf);rw[Abw F3,Abw h10,e6,Aa,Akj _ (Hf),Aa];have ht:=Aq1 b (nK (part b 6 4) 0).1 F0 v1 v2;generalize nK (part b 6 4) 0=v at*
    obtain⟨v,e⟩:=v;simp only at ht v1 v2⊢;simp only[Aa,g3,g4,g5,ht];generalize b.getD 3 0=x at*
    generalize b.getD 4 0=y at*
    generalize b.getD 5 0=z at*
    simp only[Anz,Au4,Av5,Ay];by_cases he:e=0<;>by_cases hy:y=0<;>by_cases hz:z=0<;>by_cases hz2:z=16<;>by_cases hx:x=4<;>by_cases hx2:x.toNat<2<;>by_cases hx4:4<x.toNat<;>simp_all<;>(rw[Abw F0,Abw F0])
  ·rw[Acu (by simpa using hp),Acu (by simp[hp])]
 ·rw[Acu F3,Acu (by simp[h3])]
theorem Ao8{b:LB}{n:Int}(h:E5 b=(n,0)):10<=n/\n<=b.length/\n<=4000:=by
 unfold E5 at h;split at h; · simp at h
 split at h; · simp at h
 split at h; · simp at h
 rename_i h10 _;obtain⟨v1,v2⟩:=Al9 (b:=part b 6 4) (Hf);unfold Ag3 at h;generalize hm:(nK (part b 6 4) 0).1+10+(if b.getD 5 0=16 then 10 else 0)=m at h;unfold Agl at h;split at h; · simp at h
 split at h; · simp at h
 split at h; · simp at h
 simp only[Avu,and_true]at h;subst h;refine⟨?_,F0,F0⟩;rw[<-hm];split<;>omega
theorem Bcl(h:p:=by rw[Af,Ac];simp):p:=h
theorem Bb0(h:p:=by rw[Hf];omega):p:=h
theorem Bca(h:p:=by simp[Di]):p:=h
end Go.Pl
namespace Go.Pl
open Go Go.Lv
variable{n w r g c f:Nat}
def APE:LB:=[65,80,69,84,65,71,69,88]
def Zd(n m fl:Nat):LB:=APE++Wu 2000 4++Wu (n+32) 4++Wu m 4++Wu fl 4++List.replicate 8 0
theorem kM(h:n<18446744073709551616):(UInt64.ofNat n).toNat=n:=by rw[Aii,Adk h]
theorem kH(n m:Int)(fl:UInt64)(c:UInt64)(i q:Nat)(acc:LB)(hi:i<6)(hc:Aj ([(2000:UInt64),(Ae (Ad n (32:Int)):UInt64),(Ae m:UInt64),fl,(0:UInt64),(0:UInt64)]:LQ) (i:Int)=some c)(h:c.toNat<4294967296)(ha:acc.length<=1000000):
  Zc n m fl (q+1) (i:Int) acc=Zc n m fl q ((i+1:Nat):Int) (acc++Wu c.toNat 4):=by
 have hb:=PT c 4 F0 F0 (by simpa using h);rw[Zc,YY,Acu F3,hc,Aa,Aa,show((4:Int))=((4:Nat):Int)from rfl,hb,Aa];simp only;rw[By (by rw[Di];omega),Aa,Ag];rfl
theorem zq(n m:Nat)(fl:UInt64)(hn:n<=3000)(hm:m<=1000)(hf:fl.toNat<4294967296):jP (n:Int) (m:Int) fl=some (Zd n m fl.toNat):=by
 have e1:(Ae (Ad (n:Int) (32:Int)):UInt64).toNat=n+32:=by rw[Ag,show(n:Int)+32=((n+32:Nat):Int) by omega,Us,kM F0]
 have e2:(Ae (m:Int):UInt64).toNat=m:=by rw[Us,kM F0]
 have hF:Ap=(Ap-7)+1+1+1+1+1+1+1:=by have:=Ao;omega
 rw[jP,oE,C8,hF];rw[show((0:Int))=((0:Nat):Int)from rfl,kH n m fl 2000 0 _ _ F0 rfl F5 Bbn,kH n m fl _ 1 _ _ F0 rfl (by rw[e1];omega) Bca,kH n m fl _ 2 _ _ F0 rfl (by rw[e2];omega) Bca,
  kH n m fl fl 3 _ _ F0 rfl hf Bca,kH n m fl 0 4 _ _ F0 rfl F5 Bca,kH n m fl 0 5 _ _ F0 rfl F5 Bca,e1,e2]
 rw[Zc,YY,Abw Bcl,nM,L7,Zd];have z:Wu (0:UInt64).toNat 4++Wu (0:UInt64).toNat 4=List.replicate 8 0:=F5
 have z2:Wu (2000:UInt64).toNat 4=Wu 2000 4:=rfl;rw[Atj _ (Wu (0:UInt64).toNat 4),z,z2];rfl
theorem Ah6(n m:Nat)(fl:UInt64)(hn:n<=3000)(hm:m<=1000)(hf:fl.toNat<4294967296):On (n:Int) (m:Int) fl=some (Zd n m fl.toNat):=by
 have e1:(Ae (Ad (n:Int) (32:Int)):UInt64).toNat=n+32:=by rw[Ag,show(n:Int)+32=((n+32:Nat):Int) by omega,Us,kM F0]
 have e2:(Ae (m:Int):UInt64).toNat=m:=by rw[Us,kM F0]
 have w:∀c:UInt64,Ds c 4=some (Wu c.toNat 4):=λc=>Aeq c 4 F0;have z2:Wu (2000:UInt64).toNat 4=Wu 2000 4:=rfl;rw[On];simp only[w,e1,e2,Aa];rw[By Bca,Aa,By Bca,Aa,By Bca,Aa,By Bca,Aa,M4,Aa,By Bca,Aa,z2];rfl
theorem jC{b:LB}{a k:Nat}(h:a+w<=k):part (b.take k) a w=part b a w:=by rw[part,part,List.take_take,Awp h]
def PC(b:LB):Bool:=decide (Hx (part b 12 4)<32\/3032<Hx (part b 12 4)\/1000<Hx (part b 16 4))
theorem Aoq(b:LB)(h:20<=b.length):(((Cg (sL (part b 12 4)) (32:UInt64))||(Eg (sL (part b 12 4)) (3032:UInt64)))||(Eg (sL (part b 16 4)) (1000:UInt64)))=PC b:=by
 rw[yS,jM,jM,aK Bb0,aK Bb0,PC];show((decide (Hx (part b 12 4)<32)||decide (3032<Hx (part b 12 4)))||decide (1000<Hx (part b 16 4)))=_;simp[Bool.or_assoc]
theorem lu(b:LB)(h:20<=b.length)(hb:PC b=false):Ah (Ae (sL (part b 12 4)):Int) (32:Int)=((Hx (part b 12 4)-32:Nat):Int)/\ (Ae (sL (part b 16 4)):Int)=((Hx (part b 16 4):Nat):Int)/\Hx (part b 12 4)-32<=3000/\Hx (part b 16 4)<=1000:=by
 simp only[PC,Ayv]at hb;refine⟨?_,ZU Bb0,F0,F0⟩;rw[ZU Bb0,Ca];omega
theorem nS(b:LB)(fl:UInt64)(h:20<=b.length)(hl:b.length<4611686018427387904)(hf:fl.toNat<4294967296):
  NJ b fl=some (if PC b=true then(0,0,false)else(((Hx (part b 12 4)-32:Nat):Int),((Hx (part b 16 4):Nat):Int),b==Zd (Hx (part b 12 4)-32) (Hx (part b 16 4)) fl.toNat)):=by
 have a1:iC b 12 4=some (sL (part b 12 4),0):=Atg b 12 4 F0 F0 F0 hl;have a2:iC b 16 4=some (sL (part b 16 4),0):=Atg b 16 4 F0 F0 F0 hl;rw[NJ,a1,Aa];simp only;rw[a2,Aa];simp only;rw[Aoq b h];cases hb:PC b with
 |true=>rfl
 |false=>
  obtain⟨i1,i2,i3,i4⟩:=lu b h hb;rw[i1,i2,zq _ _ _ i3 i4 hf];rfl
theorem Alh(b:LB)(h:20<=b.length)(hl:b.length<4611686018427387904):
  BD b=some (if PC b=true then(0,0,false)else(((Hx (part b 12 4)-32:Nat):Int),((Hx (part b 16 4):Nat):Int),true)):=by
 have a1:Bg b 12 16=some (part b 12 4):=Ww 12 4;have a2:Bg b 16 20=some (part b 16 4):=Ww 16 4;rw[BD,a1,Aa,An5 _ Bb0,Aa,a2,Aa,An5 _ Bb0,Aa,Aoq b h];cases hb:PC b with
 |true=>rfl
 |false=>
  obtain⟨i1,i2,i3,i4⟩:=lu b h hb;rw[i1,i2];rfl
def Rv(b:LB):Int×Int:=
 if ¬(8<=b.length/\b.take 8=APE)then(0,6)else if b.length<32 then(0,24)else
 if PC b=true\/b.take 32≠Zd (Hx (part b 12 4)-32) (Hx (part b 16 4)) 2684354560 then(0,12)else
 if b.length<Hx (part b 12 4)+32 then(0,24)else
 if(b.take (Hx (part b 12 4)+32)).drop (Hx (part b 12 4))≠Zd (Hx (part b 12 4)-32) (Hx (part b 16 4)) 2147483648 then(0,12)else(((Hx (part b 12 4)+32:Nat):Int),0)
theorem Amu(b:LB):PC (b.take 32)=PC b:=by rw[PC,PC,jC F0,jC F0]
section
variable {b:LB}
theorem fa1(h:¬(8<=b.length/\b.take 8=APE)):Rv b=(0,6):=by rw[Rv,Acu h]
theorem fa2(h:8<=b.length/\b.take 8=APE)(h2:b.length<32):Rv b=(0,24):=by rw[Rv,Abw (λh'=>h' h),Acu h2]
variable (h:8<=b.length/\b.take 8=APE) (h2:¬b.length<32)
include h h2
theorem fa3(h3:PC b=true):Rv b=(0,12):=by rw[Rv,Abw (λh'=>h' h),Abw h2,Acu (.inl h3)]
theorem fa4(h4:b.take 32≠Zd (Hx (part b 12 4)-32) (Hx (part b 16 4)) 2684354560):Rv b=(0,12):=by rw[Rv,Abw (λh'=>h' h),Abw h2,Acu (.inr h4)]
variable (h3:PC b=false) (h4:b.take 32=Zd (Hx (part b 12 4)-32) (Hx (part b 16 4)) 2684354560)
include h3 h4
theorem fa5(h5:b.length<Hx (part b 12 4)+32):Rv b=(0,24):=by
 rw[Rv,Abw (λh'=>h' h),Abw h2,Abw (λh'=>h'.elim (λe=>by rw[h3]at e;cases e) λe=>e h4),Acu h5]
theorem fa6(h5:¬b.length<Hx (part b 12 4)+32)(h6:(b.take (Hx (part b 12 4)+32)).drop (Hx (part b 12 4))≠Zd (Hx (part b 12 4)-32) (Hx (part b 16 4)) 2147483648):Rv b=(0,12):=by
 rw[Rv,Abw (λh'=>h' h),Abw h2,Abw (λh'=>h'.elim (λe=>by rw[h3]at e;cases e) λe=>e h4),Abw h5,Acu h6]
theorem fa7(h5:¬b.length<Hx (part b 12 4)+32)(h6:(b.take (Hx (part b 12 4)+32)).drop (Hx (part b 12 4))=Zd (Hx (part b 12 4)-32) (Hx (part b 16 4)) 2147483648):Rv b=(((Hx (part b 12 4)+32:Nat):Int),0):=by
 rw[Rv,Abw (λh'=>h' h),Abw h2,Abw (λh'=>h'.elim (λe=>by rw[h3]at e;cases e) λe=>e h4),Abw h5,Abw (λh'=>h' h6)]
end
theorem Ajb(b:LB)(hl:b.length<4611686018427387904):Yn b=some (Rv b):=by
 rw[Yn,EL];by_cases h8:8<=b.length
 ·rw[Abw F3,Qa,Aa,show(8:Int).toNat=8 from rfl];by_cases ha:b.take 8=APE
  ·have hp:=And.intro h8 ha;rw[Abw (by simpa [APE]using ha),EX,EP];by_cases h32:b.length<32
   ·rw[Acu F3,fa2 hp h32]
   ·have t:=Alh (b.take 32) F6 F6;rw[Amu,jC F0,jC F0]at t;rw[Abw F3,Qa,Aa,show(32:Int).toNat=32 from rfl,t,Aa];cases hb:PC b with
    |true=>rw[fa3 hp h32 hb];simp
    |false=>
     obtain⟨i1,i2,i3,i4⟩:=lu b F0 hb;have i5:32<=Hx (part b 12 4):=by simp only[PC,Ayv]at hb;omega
     simp only[Atv,Bae,false_or,Aa,Ba5];rw[RT,Ah6 _ _ _ i3 i4 F5,Aa,Aa];by_cases c1:b.take 32=Zd (Hx (part b 12 4)-32) (Hx (part b 16 4)) 2684354560
     ·have c1':b.take 32=Zd (Hx (part b 12 4)-32) (Hx (part b 16 4)) (2684354560:UInt64).toNat:=c1;rw[Abw (by simpa using c1'),FI,EY,Ag];have e1:64+((Hx (part b 12 4)-32:Nat):Int)=((Hx (part b 12 4)+32:Nat):Int):=F0
      rw[e1];by_cases c2:b.length<Hx (part b 12 4)+32
      ·rw[Acu F3,fa5 hp h32 hb c1 c2]
      ·rw[Abw F3,Ca,TL,Aa,SX,Acu rfl,Ah6 _ _ _ i3 i4 F5,Aa,Aa];rw[show(((Hx (part b 12 4)+32:Nat):Int)).toNat=Hx (part b 12 4)+32 by omega,show(((Hx (part b 12 4)+32:Nat):Int)-32).toNat=Hx (part b 12 4) by omega];by_cases c3:(b.take (Hx (part b 12 4)+32)).drop (Hx (part b 12 4))=Zd (Hx (part b 12 4)-32) (Hx (part b 16 4)) 2147483648
       ·have c3':(b.take (Hx (part b 12 4)+32)).drop (Hx (part b 12 4))=Zd (Hx (part b 12 4)-32) (Hx (part b 16 4)) (2147483648:UInt64).toNat:=c3;rw[Abw (by simpa using c3'),fa7 hp h32 hb c1 c2 c3]
       ·have c3':¬(b.take (Hx (part b 12 4)+32)).drop (Hx (part b 12 4))=Zd (Hx (part b 12 4)-32) (Hx (part b 16 4)) (2147483648:UInt64).toNat:=c3;rw[Acu (by simpa using c3'),fa6 hp h32 hb c1 c2 c3]
     ·have c1':¬b.take 32=Zd (Hx (part b 12 4)-32) (Hx (part b 16 4)) (2684354560:UInt64).toNat:=c1;rw[Acu (by simpa using c1'),fa4 hp h32 c1]
  ·rw[Acu (by simpa [APE]using ha),fa1 (λh=>ha h.2)]
 ·rw[Acu F3,fa1 (λh=>h8 h.1)]
theorem Akn{b:LB}{n:Int}(h:Rv b=(n,0)):64<=n/\n<=b.length:=by
 unfold Rv at h;split at h; · simp at h
 split at h; · simp at h
 split at h; · simp at h
 rename_i hb;split at h; · simp at h
 split at h; · simp at h
 simp only[Avu,and_true]at h;have hb':¬PC b=true:=λe=>hb (.inl e);simp only[PC,Adp]at hb';omega
def Lj(b:LB):Int×Int:=if(E5 b).2≠6 then E5 b else Rv b
theorem Ab0{b:LB}{n:Int}(h:Lj b=(n,0)):10<=n/\n<=b.length:=by
 unfold Lj at h;split at h
 ·have:=Ao8 h;omega
 ·have:=Akn h;omega
def Gf(b:LB):Nat->Nat->LI×Int
 |0,_=>([],6)
 |j+1,p=>if(Lj (b.drop p)).2=6 then([],0)else if(Lj (b.drop p)).2≠0 then([],(Lj (b.drop p)).2)else
  if 4000<(p:Int)+(Lj (b.drop p)).1 then([],4)else
  if(Gf b j (p+(Lj (b.drop p)).1.toNat)).2=0 then((Lj (b.drop p)).1::(Gf b j (p+(Lj (b.drop p)).1.toNat)).1,0)else([],(Gf b j (p+(Lj (b.drop p)).1.toNat)).2)
theorem uW(b:LB):∀(j p:Nat),p<=b.length->p<=4000-> (Gf b j p).2=0-> (∀x∈(Gf b j p).1,10<=x)/\ (p:Int)+(Gf b j p).1.sum<=b.length/\ (p:Int)+(Gf b j p).1.sum<=4000
 |0,p,_,_,h=>by simp[Gf]at h
 |j+1,p,hp,hq,h=>by
  rw[Gf]at h⊢;split at h
  ·rename_i h6;rw[Acu h6];simp;omega
  ·rename_i h6;split at h
   ·rename_i h0;exact absurd h h0
   ·rename_i h0;rw[Abw h6,Abw h0];have hz:Lj (b.drop p)=((Lj (b.drop p)).1,0):=by rw[Prod.ext_iff];exact⟨rfl,Classical.not_not.1 h0⟩
    have hs:=Ab0 hz;rw[Apl]at hs;split at h
    ·simp at h
    ·rename_i h4;rw[Abw h4];split at h
     ·rename_i h00;rw[Acu h00];obtain⟨i1,i2,i3⟩:=uW b j _ F0 F0 h00;refine⟨λx hx=>?_,?_,?_⟩
      ·rcases List.mem_cons.1 hx with rfl|hx
       ·exact hs.1
       ·exact i1 x hx
      ·simp only[Aw4];omega
      ·simp only[Aw4];omega
     ·rename_i h00;exact absurd h h00
def Auv(b:LB)(j p:Nat):Int×Int:=if(Gf b j p).2=0 then((p:Int)+(Gf b j p).1.sum,0)else(0,(Gf b j p).2)
def Al3(b:LB)(j p:Nat)(xs:LI):LI×Int:=if(Gf b j p).2=0 then(xs++(Gf b j p).1,0)else([],(Gf b j p).2)
theorem Ama(bk:Int->LI->Option (LI×Int))(b:LB)(p:Nat)(hp:p<=b.length)(xs:LI)(hx:xs.length<=4000)(hl:b.length<4611686018427387904):Rt (Lu bk b) b (p:Int) xs=Lu bk b (p:Int) xs (Lj (b.drop p)).1 (Lj (b.drop p)).2:=by
 have hf:=Ajb (b.drop p) F6;rw[Rt,AM,Aa,Ak3,Aod _ F6,Aa];by_cases h:(E5 (b.drop p)).2=6
 ·simp[Lj,h,Bl,hf]
 ·simp[Lj,h,Bl]
theorem W4(b:LB)(hl:b.length<4611686018427387904):∀(j p q:Nat) (xs:LI),p<=b.length->p<=4000->b.length-p<j->j<=q->xs.length<=p->Lq b q (p:Int) xs=some (Al3 b j p xs)
 |0,p,q,_,_,_,h,_,_=>by omega
 |j+1,p,q,xs,hp,hp4,hj,hq,hx=>by
  obtain⟨q,rfl⟩:∃k,q=k+1:=⟨q-1,F0⟩;rw[Lq,Ama _ b p hp xs F0 hl,Lu,EW,Bl,Ay,Al3];by_cases h6:(Lj (b.drop p)).2=6
  ·rw[Acu (by simpa using h6)];have:Gf b (j+1) p=([],0):=by rw[Gf,Acu h6]
   rw[this];simp
  ·rw[Abw (by simpa using h6)];by_cases h0:(Lj (b.drop p)).2=0
   ·have hz:Lj (b.drop p)=((Lj (b.drop p)).1,0):=by rw[Prod.ext_iff];exact⟨rfl,h0⟩
    have hs:=Ab0 hz;rw[Apl]at hs;rw[Abw (by simpa using h0),Ag,Ba];by_cases h4:4000<(p:Int)+(Lj (b.drop p)).1
    ·rw[Acu F6];have:Gf b (j+1) p=([],4):=by rw[Gf,Abw h6,Abw (λh=>h h0),Acu h4]
     rw[this];simp
    ·rw[Abw F6,By F6,Aa];have ih:=W4 b hl j (p+(Lj (b.drop p)).1.toNat) q (xs++[(Lj (b.drop p)).1]) F0 F0 F0 F0 F6;rw[show(p:Int)+(Lj (b.drop p)).1=((p+(Lj (b.drop p)).1.toNat:Nat):Int) by omega,ih,Al3];have:Gf b (j+1) p=if(Gf b j (p+(Lj (b.drop p)).1.toNat)).2=0 then((Lj (b.drop p)).1::(Gf b j (p+(Lj (b.drop p)).1.toNat)).1,0)else([],(Gf b j (p+(Lj (b.drop p)).1.toNat)).2):=by
      rw[Gf,Abw h6,Abw (λh=>h h0),Abw h4]
     rw[this];by_cases hr:(Gf b j (p+(Lj (b.drop p)).1.toNat)).2=0
     ·simp only[hr,Bbk];simp
     ·simp only[hr,Bae]
   ·rw[Acu (by simpa using h0)];have:Gf b (j+1) p=([],(Lj (b.drop p)).2):=by rw[Gf,Abw h6,Acu h0]
    rw[this];simp[h0]
theorem yO:∀{l:LI},(∀x∈l,10<=x)->0<=l.sum/\ (l.length:Int)<=l.sum
 |[],_=>by simp
 |x::l,h=>by
  have h1:=h x Av3;have h2:=yO (l:=l) λy hy=>h y (Ak6 _ hy);simp only[Aw4,Am6];omega
theorem zQ(r:Int)(l:LI)(hl:l.length<=4000)(hx:∀x∈l,10<=x):∀(j i q:Nat) (n:Int),i+j=l.length->j<q->0<=n->n+(l.drop i).sum<=4000->If r l q n (i:Int)=some (n+(l.drop i).sum,r)
 |0,i,q+1,n,hi,_,_,_=>by
  rw[If,Rg,Abw F3,show i=l.length by omega,Azs];simp[FH,EK]
 |j+1,i,q+1,n,hi,hq,hn,hs=>by
  have hlt:i<l.length:=F0
  rw[drop_cons hlt,Aw4]at hs⊢;have h1:=hx l[i] (Awc hlt);have h2:=yO (l:=l.drop (i+1)) λy hy=>hx y (Azg hy);rw[If,Rg,Acu F3,Cr hlt,Aa,Aa,Ag,Ag];have ih:=zQ r l hl hx j (i+1) q (n+l[i]) F0 F0 F0 F0;rw[show((i:Int)+1)=((i+1:Nat):Int) by omega,ih];congr 2;omega
def Oa(b:LB):Int×Int:=Auv b (b.length+1) 0
theorem lg(b:LB)(hl:b.length<4611686018427387904):Qo b=some (Oa b):=by
 have h:=W4 b hl (b.length+1) 0 Ap [] F0 F0 F0 F9 Bbn;have h':OG b=some (Al3 b (b.length+1) 0 []):=h;rw[Qo,EV,h',Aa,Oa,Auv,Al3];have ho:=uW b (b.length+1) 0 F0 F0;by_cases h0:(Gf b (b.length+1) 0).2=0
 ·obtain⟨i1,i2,i3⟩:=ho h0;have hp:=yO i1;simp only[h0,Bbk,Awd];have:=zQ 0 (Gf b (b.length+1) 0).1 F0 i1 (Gf b (b.length+1) 0).1.length 0 Ap 0 F0 F9 F0 (by simpa using i3);simpa [Rh]using this
 ·simp only[h0,Bae];have:=zQ (Gf b (b.length+1) 0).2 [] Bbn Bbn 0 0 Ap 0 Bbn F9 F0 Bbn;simpa [Rh]using this
theorem Ait{b:LB}(h:(Oa b).2=0):0<= (Oa b).1/\ (Oa b).1<=b.length/\ (Oa b).1<=4000:=by
 unfold Oa Auv at h⊢;split at h
 ·rename_i h0;rw[Acu h0];obtain⟨i1,i2,i3⟩:=uW b (b.length+1) 0 F0 F0 h0;have hp:=yO i1;exact⟨by simp;omega,i2,i3⟩
 ·rename_i h0;exact absurd h h0
def Ak(r:Nat):Nat:=max 1 (256*r/245)
theorem Hw(r:Nat):1<=Ak r:=Nat.le_max_left _ _
theorem IQ(h:r<=1048576):Ak r<=1100000:=by unfold Ak;omega
theorem K6(h:r<=1048576):fP (1:Int) (Bf (Az (256:Int) (r:Int)) (245:Int))=(Ak r:Int):=by
 rw[Fj,KJ,Awn F0,Cj F0 F0,oB,Ak];omega
def Cv(g n:Nat):LI:=List.replicate ((n-1)/g) (g:Int)++[((n-(n-1)/g*g:Nat):Int)]
theorem vY(g n:Nat):(Cv g n).length=(n-1)/g+1:=by simp[Cv]
theorem Q8(h:n<=g)(h1:1<=n):Cv g n=[(n:Int)]:=by
 rw[Cv,Ayd F0];simp
theorem Ac6(hg:1<=g)(h:g<n):Cv g n=(g:Int)::Cv g (n-g):=by
 have e:(n-1)/g=(n-g-1)/g+1:=by rw[<-Nat.add_div_right _ F0];congr 1;omega
 rw[Cv,Cv,e,Axr,Azi];congr 4;have:=Ay9 (n-g-1) g;rw[Ajz,Avd];omega
theorem pA(hg:1<=g)(h1:1<=n):(n+g-1)/g=(n-1)/g+1:=by
 rw[<-Nat.add_div_right _ F0];congr 1;omega
theorem jB(h1:1<=r)(h:r<=1048576):Pn (r:Int)=some ((Ak r:Int),0):=by
 rw[Pn,Abw Bbu,K6 h]
theorem Am8(h:r<=1048576):Sk (r:Int)=some (Ak r:Int):=by rw[Sk,K6 h]
theorem Aeh(h1:1<=r)(h:r<=1048576)(n1:1<=n)(n2:n<=4000):Rc (r:Int) (n:Int)=some (if 1000<(n-1)/Ak r+1 then(0,4)else((((n-1)/Ak r+1:Nat):Int),0)):=by
 have hp:=Hw r;have hl:=IQ h;have e:Bf (Ah (Ad (n:Int) (Ak r:Int)) (1:Int)) (Ak r:Int)=(((n-1)/Ak r+1:Nat):Int):=by
  have:(n+Ak r-1)/Ak r<=n+Ak r-1:=Atp _ _;rw[Ag,Ca,KJ,Awn F0,show(n:Int)+(Ak r:Int)-1=((n+Ak r-1:Nat):Int) by omega,<-Int.natCast_ediv,pA hp n1];rw[pA hp n1]at this;generalize(n-1)/Ak r=k at*
  exact Cj F0 F0
 rw[Rc,jB h1 h,Aa];simp only;rw[Abw Bbo,Abw Bbu,Bq Bbt,Aa,e];by_cases hk:1000<(n-1)/Ak r+1
 ·rw[Acu Bbp,Acu hk]
 ·rw[Abw Bbp,Abw hk]
theorem L8{r:Nat}(h:r<=1048576):∀(j n q:Nat) (acc:LI),n<=4000->n<=j->j<q->acc.length+n<=10000->Ef (r:Int) q (n:Int) acc=some (acc++(if n=0 then []else Cv (Ak r) n))
 |0,n,q+1,acc,hn,hj,hq,ha=>by
  obtain rfl:n=0:=F0
  rw[Ef,Ik,Abw Bb5];simp[Lw,Ls]
 |j+1,n,q+1,acc,hn,hj,hq,ha=>by
  have hp:=Hw r;have hl:=IQ h;by_cases h0:n=0
  ·subst h0;rw[Ef,Ik,Abw Bb5];simp[Lw,Ls]
  ·rw[Ef,Ik,Acu Bbp,Am8 h,Aa,By F6,Aa,Aa,Ca,Yd];by_cases hs:n<=Ak r
   ·rw[show min (n:Int) (Ak r:Int)=(n:Int) by omega,Abw h0,Q8 hs F0];have hz:∃k,q=k+1:=⟨q-1,F0⟩;obtain⟨q,rfl⟩:=hz;rw[Ef,Ik,Abw Bbp];simp[Lw,Ls]
   ·rw[show min (n:Int) (Ak r:Int)=(Ak r:Int) by omega,show(n:Int)-(Ak r:Int)=((n-Ak r:Nat):Int) by omega,L8 h j (n-Ak r) q _ F0 F0 F0 F6,Abw F0,Abw h0,Ac6 hp (show Ak r<n by omega)];simp
theorem Abg(h:r<=1048576)(n1:1<=n)(n2:n<=4000):Iv (r:Int) (n:Int)=some (Cv (Ak r) n):=by
 have:=L8 h n n Ap [] n2 (Aqm _) F9 F6;rw[Iv,EU,EJ,this,Abw F0];rfl
theorem mul_one(m:Nat)(h:m<=100000):HH (1:UInt64) (UInt64.ofNat m)=some (0,UInt64.ofNat m):=by
 have y1:(UInt64.ofNat m).toNat=m:=kM F0;have s1:Bv (1:UInt64) (GI.toZ (32:UInt64)).toNat=0:=F5
 have s2:Bv (UInt64.ofNat m) (GI.toZ (32:UInt64)).toNat=0:=by
  apply UInt64.toNat_inj.1;rw[DV,y1];exact Ayd (Ayl h F5)
 have s0:Bv (0:UInt64) (GI.toZ (32:UInt64)).toNat=0:=F5
 have a1:Dr (1:UInt64) (4294967295:UInt64)=1:=F5
 have a0:Dr (0:UInt64) (4294967295:UInt64)=0:=F5
 have a2:Dr (UInt64.ofNat m) (4294967295:UInt64)=UInt64.ofNat m:=by
  apply UInt64.toNat_inj.1;rw[J3,UInt64.toNat_and,y1]
  show m&&& (2^32-1)=m;rw[Ayy,Adk F0]
 have m1:∀x:UInt64,Az 1 x=x:=λx=>by rw[JC,UInt64.one_mul]
 have m0:∀x:UInt64,Az 0 x=0:=λx=>by rw[JC,UInt64.zero_mul]
 have p0:∀x:UInt64,Ad 0 x=x:=λx=>by rw[JH,UInt64.zero_add]
 have p1:∀x:UInt64,Ad x 0=x:=λx=>by rw[JH,UInt64.add_zero]
 rw[HH,KU];simp only[s1,s2,a1,a2,m1,m0,p0,p1,s0,a0,Aa]
def Lz(f c w r n:Nat):Bool:=decide ((f=1\/f=2)/\ (1<=c/\c<=6)/\ (w=8\/w=16\/w=24)/\ (1<=r/\r<=1048576)/\1<=n)
def cQ(c r n:Nat):Bool:=decide (n<=4000/c/\ (n-1)/Ak r+1<=1000)
theorem zk(f c w r n:Nat):Wl (f:Int) (c:Int) (w:Int) (r:Int) (n:Int)=some (Lz f c w r n):=by
 have e2:GF (f:Int) (c:Int) (w:Int) (r:Int) (n:Int)=some (decide ((f=1\/f=2)/\ (1<=c/\c<=6)/\ (1<=r/\r<=1048576)/\1<=n)):=by
  rw[GF,VM];congr 1;rw[Apc];simp only[Bl,Ba,bO,Adn,Awo,Bad,Adp];omega
 have g:∀k:Nat,geq (w:Int) (k:Int)=decide (w=k):=λk=>by rw[Bl,Apc];simp;omega
 have g8:geq (w:Int) (8:Int)=decide (w=8):=g 8;have g16:geq (w:Int) (16:Int)=decide (w=16):=g 16;have g24:geq (w:Int) (24:Int)=decide (w=24):=g 24;rw[Wl,VE,e2,g8,g16,g24,Lz];by_cases h8:w=8
 ·subst h8;simp
 ·by_cases h16:w=16
  ·subst h16;simp
  ·by_cases h24:w=24
   ·subst h24;simp
   ·simp[h8,h16,h24]
theorem Afb(f c w r n:Nat):Wa (f:Int) (c:Int) (w:Int) (r:Int) (n:Int)=some (Lz f c w r n):=by
 rw[Wa,Lz];simp only[Bl,Cz,bO,Adn,Awo,Bad,Adp,Bbb];split
 ·rename_i h;congr 1;rw[Apc];simp only[Adn,Awo,Bad,Adp];omega
 ·rename_i h;congr 1;symm;rw[Ayv];omega
theorem Atn(h:1<=c):Bf (4000:Int) (c:Int)=((4000/c:Nat):Int):=by
 have:4000/c<=4000:=Atp _ _;rw[KJ,Awn F0,show(4000:Int)=((4000:Nat):Int)from rfl,<-Int.natCast_ediv];generalize 4000/c=k at*
 exact Cj F0 F0
theorem Ajd(h:Lz f c w r n=true):JR (f:Int) (c:Int) (w:Int) (r:Int) (n:Int)=some (cQ c r n):=by
 simp only[Lz,Adp]at h;have hd:4000/c<=4000:=Atp _ _;rw[JR,Bq Bbt,Aa,Atn F0,cQ];generalize 4000/c=m at*
 by_cases h1:n<=m
 ·rw[Abw Bbp,Aeh F0 F0 F0 F0,Aa];generalize(n-1)/Ak r+1=k;by_cases h2:1000<k
  ·rw[Acu h2];simp[Bl,bO];omega
  ·rw[Abw h2];simp[Bl,bO,h1];omega
 ·rw[Acu Bbp];simp[h1]
theorem Ao2(h:Lz f c w r n=true):DO (f:Int) (c:Int) (w:Int) (r:Int) (n:Int)=some (!cQ c r n):=by
 simp only[Lz,Adp]at h;have hd:4000/c<=4000:=Atp _ _;rw[DO,Bq Bbt,Aa,Atn F0,cQ];generalize 4000/c=m at*
 by_cases h1:n<=m
 ·rw[Abw Bbp,Abg F0 F0 F0,Aa,Ac,vY];generalize(n-1)/Ak r+1=k;congr 1;rw[Ba,Apc];simp only[Adp,Atz,Ayv];omega
 ·rw[Acu Bbp];simp[h1]
def JF:LB:=[84,84,65,49]
def f0(b:LB):Nat:=Hx (part b 4 2)
def f1(b:LB):Nat:=Hx (part b 6 2)
def f2(b:LB):Nat:=Hx (part b 8 2)
def f3(b:LB):Nat:=Hx (part b 10 4)
def f4(b:LB):Nat:=Hx (part b 14 4)
abbrev H6:=Int×Int×Int×Int×Int×Int
def Va(b:LB):H6:=
 if b.take (min 4 b.length)≠JF.take (min 4 b.length)then(0,0,0,0,0,12)else if b.length<22 then(0,0,0,0,0,24)else
 if(Gd (b.take 18)).toNat≠Hx (part b 18 4)then(0,0,0,0,0,22)else
 if Lz (f0 b) (f1 b) (f2 b) (f3 b) (f4 b)=false then(0,0,0,0,0,12)else
 if cQ (f1 b) (f3 b) (f4 b)=false then(0,0,0,0,0,4)else((f0 b:Int),(f1 b:Int),(f2 b:Int),(f3 b:Int),(f4 b:Int),0)
section
variable {b:LB}
theorem rs1(h:b.take (min 4 b.length)≠JF.take (min 4 b.length)):Va b=(0,0,0,0,0,12):=by rw[Va,Acu h]
variable (h:b.take (min 4 b.length)=JF.take (min 4 b.length))
include h
theorem rs2(h2:b.length<22):Va b=(0,0,0,0,0,24):=by rw[Va,Abw (λe=>e h),Acu h2]
variable (h2:¬b.length<22)
include h2
theorem rs3(h3:(Gd (b.take 18)).toNat≠Hx (part b 18 4)):Va b=(0,0,0,0,0,22):=by rw[Va,Abw (λe=>e h),Abw h2,Acu h3]
variable (h3:(Gd (b.take 18)).toNat=Hx (part b 18 4))
include h3
theorem rs4(h4:Lz (f0 b) (f1 b) (f2 b) (f3 b) (f4 b)=false):Va b=(0,0,0,0,0,12):=by rw[Va,Abw (λe=>e h),Abw h2,Abw (λe=>e h3),Acu h4]
variable (h4:Lz (f0 b) (f1 b) (f2 b) (f3 b) (f4 b)=true)
include h4
theorem rs5(h5:cQ (f1 b) (f3 b) (f4 b)=false):Va b=(0,0,0,0,0,4):=by rw[Va,Abw (λe=>e h),Abw h2,Abw (λe=>e h3),Abw (by rw[h4];simp),Acu h5]
theorem rs6(h5:cQ (f1 b) (f3 b) (f4 b)=true):Va b=((f0 b:Int),(f1 b:Int),(f2 b:Int),(f3 b:Int),(f4 b:Int),0):=by rw[Va,Abw (λe=>e h),Abw h2,Abw (λe=>e h3),Abw (by rw[h4];simp),Abw (by rw[h5];simp)]
end
theorem Auc(b:LB)(h2:¬b.length<22):Bc (Ae (Gd (b.take 18)):UInt64) (sL (part b 18 4))=decide ((Gd (b.take 18)).toNat≠Hx (part b 18 4)):=by
 rw[jK,Cx,Apc];simp only[Bbm,ne_eq,Adp];rw[<-Bat,kM (by have:=(Gd (b.take 18)).toNat_lt;omega),aK Bb0]
theorem Azc(b:LB):Dt (4:Int) (Ac b)=((min 4 b.length:Nat):Int):=by rw[Yd,Ac];omega
theorem Al7(b:LB)(hb:b.length<4611686018427387904):Sp b=some (Va b):=by
 rw[Sp,IE,Azc,Qa,Aa,Ak3,Qa F0 F6,Aa,Ak3];by_cases h:b.take (min 4 b.length)=JF.take (min 4 b.length)
 ·rw[Abw (by rw[h];simp[JF]),JN,IH];by_cases h2:b.length<22
  ·rw[Acu F3,rs2 h h2]
  ·have a1:Bg b 18 22=some (part b 18 4):=Ww 18 4;have c1:Bg b 4 6=some (part b 4 2):=Ww 4 2;have c2:Bg b 6 8=some (part b 6 2):=Ww 6 2;have c3:Bg b 8 10=some (part b 8 2):=Ww 8 2;have c4:Bg b 10 14=some (part b 10 4):=Ww 10 4;have c5:Bg b 14 18=some (part b 14 4):=Ww 14 4;have hs:Bc (sL (part b 18 4)) (Ae (Gd (b.take 18)):UInt64)=decide ((Gd (b.take 18)).toNat≠Hx (part b 18 4)):=by
    rw[<-Auc b h2,jK,jK,Apc];simp only[Bbm,ne_eq];exact not_congr eq_comm
   have lp:∀a w,a+w<=b.length->Da (part b a w)=some (sL (part b a w)):=λa w h=>An5 _ (by rw[Hf h];omega);rw[Abw F3,a1,Aa,Qa,Aa,show(18:Int).toNat=18 from rfl,lp _ _ F0,Aa,Ate _ F6,Aa,hs];by_cases h3:(Gd (b.take 18)).toNat=Hx (part b 18 4)
   ·rw[Abw (by simpa using h3),JQ,IW,c1,Aa,c2,Aa,c3,Aa,c4,Aa,c5,Aa,lp _ _ F0,Aa,lp _ _ F0,Aa,lp _ _ F0,Aa,lp _ _ F0,Aa,lp _ _ F0,Aa,
     JK,IV,ZU Bb0,ZU Bb0,ZU Bb0,ZU Bb0,ZU Bb0]
    rw[show Hx (part b 4 2)=f0 b from rfl,show Hx (part b 6 2)=f1 b from rfl,show Hx (part b 8 2)=f2 b from rfl,show Hx (part b 10 4)=f3 b from rfl,show Hx (part b 14 4)=f4 b from rfl,Afb,Aa];cases h4:Lz (f0 b) (f1 b) (f2 b) (f3 b) (f4 b)with
    |false=>rw[rs4 h h2 h3 h4];rfl
    |true=>
     rw[Ao2 h4,Abw Bbn,Aa];cases h5:cQ (f1 b) (f3 b) (f4 b)with
     |false=>rw[rs5 h h2 h3 h4 h5];rfl
     |true=>rw[rs6 h h2 h3 h4 h5];rfl
   ·rw[Acu (by simpa using h3),rs3 h h2 h3]
 ·rw[Acu (by simpa [JF]using h),rs1 h]
def okL:LI->Int->Bool
 |[],_=>true
 |x::l,left=>decide (5<=x/\x<=left)&&okL l (left-x)
theorem Ami:∀l:LI,(∀x∈l,5<=x)->0<=l.sum
 |[],_=>by simp
 |x::l,h=>by
  have h1:=h x Av3;have h2:=Ami l λy hy=>h y (Ak6 _ hy);rw[Aw4];omega
theorem pz:∀(l:LI) (left:Int),0<=left-> (okL l left=true↔(∀x∈l,5<=x)/\l.sum<=left)
 |[],left,h=>by simp[okL];exact h
 |x::l,left,h=>by
  rw[okL,Adn,Adp,Aw4];by_cases hx:5<=x/\x<=left
  ·rw[pz l (left-x) F0];constructor
   ·rintro⟨_,h1,h2⟩;exact⟨λy hy=>(List.mem_cons.1 hy).elim (λe=>e▸hx.1) (h1 y),F0⟩
   ·rintro⟨h1,h2⟩;exact⟨hx,λy hy=>h1 y (Ak6 _ hy),F0⟩
  ·constructor
   ·rintro⟨h1,_⟩;exact absurd h1 hx
   ·rintro⟨h1,h2⟩;have h3:=h1 x Av3;have:0<=l.sum:=Ami l λy hy=>h1 y (Ak6 _ hy);omega
theorem M9(l:LI)(hl:l.length<=1000):∀(j i q:Nat) (left:Int),i+j=l.length->j<q->0<=left->left<=100000->Oj l q left (i:Int)=some (if okL (l.drop i) left=true then 0 else 8)
 |0,i,q+1,left,hi,_,_,_=>by
  rw[Oj,DX,Abw F3,show i=l.length by omega,Azs];rfl
 |j+1,i,q+1,left,hi,hq,h0,h1=>by
  have hlt:i<l.length:=F0
  rw[Oj,DX,Acu F3,Cr hlt,Aa,drop_cons hlt];by_cases h:5<=l[i]/\l[i]<=left
  ·rw[Abw Bbu,Ca,Ag];have ih:=M9 l hl j (i+1) q (left-l[i]) F0 F0 F0 F0;rw[show((i:Int)+1)=((i+1:Nat):Int) by omega,ih];simp[okL,h]
  ·rw[Acu Bbu];have:okL (l[i]::l.drop (i+1)) left=false:=by rw[okL,Bao h];rfl
   rw[this];rfl
def yC(l:LI):Bool:=decide (1<=l.length/\l.length<=1000)&&okL l 100000
theorem wz(l:LI)(hl:l.length<=1000):Pj l=some (if yC l=true then 0 else 8):=by
 rw[Pj,DC,yC];by_cases h:1<=l.length
 ·rw[Abw (by rw[Bl,Ba,Ac];simp;constructor;(intro e;subst e;simp at h);omega),gI];have:=M9 l hl l.length 0 Ap 100000 F0 F9 F0 F0;rw[List.drop_zero]at this;rw[decide_eq_true (show 1<=l.length/\l.length<=1000 from⟨h,hl⟩),Ba3];exact this
 ·have:l=[]:=by
   cases l with
   |nil=>rfl
   |cons _ _=>simp at h
  subst this;rfl
theorem Alr:∀{l:LI},(∀x∈l,5<=x)->∀x∈l,x<=l.sum
 |[],_,x,hx=>by simp at hx
 |y::l,h,x,hx=>by
  have h1:=h y Av3;have h2:=Ami l λz hz=>h z (Ak6 _ hz);rw[Aw4];rcases List.mem_cons.1 hx with rfl|hx
  ·omega
  ·have:=Alr (l:=l) (λz hz=>h z (Ak6 _ hz)) x hx;omega
theorem zE(l:LI):Pj l=some (if yC l=true then 0 else 8):=by
 by_cases hl:l.length<=1000
 ·exact wz l hl
 ·rw[Pj,DC,Acu Bbq,yC,Bao F0];rfl
def Aya(b:LB)(n:Nat):LI:=(List.range n).map λi=>(Hx (part b (4*i) 4):Int)
def Axj(b:LB)(n:Nat):LI×Int:=
 if ¬(1<=n/\n<=1000)then([],2)else if b.length<4*n+4 then([],24)else if(Gd (b.take (4*n))).toNat≠Hx (part b (4*n) 4)then([],22)else
 if yC (Aya b n)=true then(Aya b n,0)else([],12)
def xu(b:LB):LB:=b.drop (Oa b).1.toNat
structure Opn (b p:LB) (f c w r n A:Nat) (l:LI):Prop where
 prog:Aci b p=some ((f:Int),(c:Int),(w:Int),(r:Int),(n:Int),(A:Int),l,0)
 ref:lA b p=some ((f:Int),(c:Int),(w:Int),(r:Int),(n:Int),(A:Int),l,0)
 pass:p.length<=64
 file:b.length<=100000
 shape:Lz f c w r n=true
 fit:cQ c r n=true
 len:l.length=(Cv (Ak r) n).length
 some1:1<=l.length/\l.length<=1000
 five:∀x∈l,5<=x
 sum:l.sum<=100000
 at':A<=b.length
 tag:(Oa b).2=0
 head:Va (xu b)=((f:Int),(c:Int),(w:Int),(r:Int),(n:Int),0)
 tab:Axj (b.drop ((Oa b).1.toNat+22+(if f=2 then 8 else 0))) l.length=(l,0)
 pos:A=(Oa b).1.toNat+22+(if f=2 then 8 else 0)+4*l.length+4
theorem Y4(l:LI)(i:Nat):(l.take i).sum+(l.drop i).sum=l.sum:=by
 conv=>rhs;rw[<-Ayr i l,List.sum_append]
theorem Yl{l:LI}(h5:∀x∈l,5<=x)(i:Nat):0<= (l.take i).sum/\ (l.take i).sum<=l.sum:=by
 have h1:=Ami (l.take i) λx hx=>h5 x (List.mem_of_mem_take hx);have h2:=Ami (l.drop i) λx hx=>h5 x (Azg hx);have:=Y4 l i;omega
theorem TQ{l:LI}{i:Nat}(h:i<l.length):(l.take (i+1)).sum=(l.take i).sum+l[i]:=by
 rw[Mf h,List.sum_append];simp
section
variable {l:LI} (hl:l.length<=1000) (h5:∀x∈l,5<=x) (hs:l.sum<=100000)
include hl h5 hs
theorem I6(f c w r n A:Int)(hA:0<=A)(hA2:A<=200000)(k:Nat)(hk:k<=l.length):∀(j i q:Nat),i+j=k->j<q->Il (k:Int) f c w r n A l q (A+(l.take i).sum) (i:Int)=some (A+(l.take k).sum)
 |0,i,q+1,hi,_=>by
  rw[Il,Rk,Abw F7,show i=k by omega];rfl
 |j+1,i,q+1,hi,hq=>by
  have hlt:i<l.length:=F0
  have ih:=I6 f c w r n A hA hA2 k hk j (i+1) q F0 F0;have b1:=Yl h5 i;have b2:=Yl h5 (i+1);have e:=TQ hlt;rw[e,<-Int.add_assoc]at ih;rw[Il,Rk,Acu F7,Cr hlt,Aa,Ag,Ag];exact ih
theorem Air(f c w r n A:Int)(hA:0<=A)(hA2:A<=200000)(k:Nat)(hk:k<=l.length):NQ f c w r n A l (k:Int)=some (A+(l.take k).sum):=by
 have h:=I6 hl h5 hs f c w r n A hA hA2 k hk k 0 Ap F0 F9;rw[Ban,List.sum_nil,Int.add_zero]at h;exact h
end
theorem zW(hg:1<=g)(hn:1<=n){x:Int}(h:x∈Cv g n):∃m:Nat,x=m/\1<=m/\m<=n:=by
 have hmul:=Ay9 (n-1) g;rw[Cv,List.mem_append]at h;rcases h with h|h
 ·rw[List.mem_replicate]at h;have h1:1<= (n-1)/g:=Nat.pos_of_ne_zero h.1;have:=Ado g h1;exact⟨g,h.2,hg,F0⟩
 ·rw[List.mem_singleton]at h;exact⟨_,h,F0,F0⟩
theorem A9(h:Lz f c w r n=true):(1<=c/\c<=6)/\Bw (w:Int)/\ (1<=r/\r<=1048576)/\1<=n/\ (f=1\/f=2):=by
 simp only[Lz,Adp]at h;refine⟨h.2.1,?_,h.2.2.2.1,h.2.2.2.2,h.1⟩;rcases h.2.2.1 with rfl|rfl|rfl
 ·exact .inl rfl
 ·exact .inr (.inl rfl)
 ·exact .inr (.inr rfl)
theorem Bch{p:Prop}(h:p:=by rw[Ajc];omega):p:=h
end Go.Pl
namespace Go.Pl
open Go Go.Lv
variable{bits e:Int}{l:LI}{x:LX}{n f c w r A k m v:Nat}
def Dv(b:LB):LB:=b.drop (b.length-32)
theorem Amx{b:LB}(h:32<=b.length):(Dv b).length=32:=by rw[Dv,Apl];omega
def dI(t:LB):Nat:=Hx (part t 12 4)-32
def mnA(t:LB):Nat:=Hx (part t 16 4)
def Wv(b:LB):Int×Int:=
 if ¬(32<=b.length/\ (Dv b).take 8=APE)then(0,6)else if PC (Dv b)=true then(0,12)else
 if Dv b=Zd (dI (Dv b)) (mnA (Dv b)) 0 then(if b.length<dI (Dv b)+32 then(0,24)else(((dI (Dv b)+32:Nat):Int),0))else
 if Dv b≠Zd (dI (Dv b)) (mnA (Dv b)) 2147483648 then(0,12)else
 if b.length<dI (Dv b)+64 then(0,24)else
 if(b.take (b.length-(dI (Dv b)+64)+32)).drop (b.length-(dI (Dv b)+64))≠Zd (dI (Dv b)) (mnA (Dv b)) 2684354560 then(0,12)else(((dI (Dv b)+64:Nat):Int),0)
section
variable {b:LB}
theorem ba1(h:¬(32<=b.length/\ (Dv b).take 8=APE)):Wv b=(0,6):=by rw[Wv,Acu h]
variable (h:32<=b.length/\ (Dv b).take 8=APE)
include h
theorem ba2(h2:PC (Dv b)=true):Wv b=(0,12):=by rw[Wv,Abw (λh'=>h' h),Acu h2]
variable (h2:PC (Dv b)=false)
include h2
theorem ba3(h3:Dv b=Zd (dI (Dv b)) (mnA (Dv b)) 0):Wv b=if b.length<dI (Dv b)+32 then(0,24)else(((dI (Dv b)+32:Nat):Int),0):=by
 rw[Wv,Abw (λh'=>h' h),Abw (by rw[h2];simp),Acu h3]
variable (h3:Dv b≠Zd (dI (Dv b)) (mnA (Dv b)) 0)
include h3
theorem ba4(h4:Dv b≠Zd (dI (Dv b)) (mnA (Dv b)) 2147483648):Wv b=(0,12):=by
 rw[Wv,Abw (λh'=>h' h),Abw (by rw[h2];simp),Abw h3,Acu h4]
variable (h4:Dv b=Zd (dI (Dv b)) (mnA (Dv b)) 2147483648)
include h4
theorem ba5(h5:b.length<dI (Dv b)+64):Wv b=(0,24):=by
 rw[Wv,Abw (λh'=>h' h),Abw (by rw[h2];simp),Abw h3,Abw (λe=>e h4),Acu h5]
theorem ba6(h5:¬b.length<dI (Dv b)+64):Wv b=if(b.take (b.length-(dI (Dv b)+64)+32)).drop (b.length-(dI (Dv b)+64))≠Zd (dI (Dv b)) (mnA (Dv b)) 2684354560 then(0,12)else(((dI (Dv b)+64:Nat):Int),0):=by
 rw[Wv,Abw (λh'=>h' h),Abw (by rw[h2];simp),Abw h3,Abw (λe=>e h4),Abw h5]
end
theorem Ams{b:LB}{n:Int}(h:Wv b=(n,0)):32<=n/\n<=b.length:=by
 unfold Wv at h;split at h; · simp at h
 rename_i h32;split at h; · simp at h
 split at h
 ·split at h; · simp at h
  simp only[Avu,and_true]at h;omega
 split at h; · simp at h
 split at h; · simp at h
 split at h; · simp at h
 simp only[Avu,and_true]at h;omega
theorem Aja{b:LB}(h:(Wv b).2≠0):(Wv b).1=0:=by
 revert h
 unfold Wv;split; · simp
 split; · simp
 split
 ·split<;>simp
 split; · simp
 split; · simp
 split<;>simp
theorem Avp{b:LB}(h:32<=b.length)(hl:b.length<4611686018427387904):Ah (Ac b) 32=((b.length-32:Nat):Int)/\Bg b ((b.length-32:Nat):Int) (Ac b)=some (Dv b):=by
 refine⟨by rw[Ac,Ca];omega,?_⟩;rw[AM];rfl
theorem Akx(b:LB)(hl:b.length<4611686018427387904):D9 b=some (Wv b):=by
 rw[D9,wJ];by_cases h32:32<=b.length
 ·obtain⟨e1,e2⟩:=Avp h32 hl;have hl3:=Amx h32;rw[Abw (by rw[e1,Af];simp),e1,e2,Aa,mg,Aa];by_cases hp:(Dv b).take 8=APE
  ·have h:=And.intro h32 hp;rw[Abw (by simpa [APE,hl3]using hp),vE,wV,e1,e2,Aa,nS _ 0 F0 F0 F5,Aa];cases hb:PC (Dv b)with
   |true=>
    rw[ba2 h hb];simp only[Bbk,Atv,Bae];rw[Aa,nS _ 2147483648 F0 F0 F5,Aa,hb];rfl
   |false=>
    obtain⟨i1,i2,i3,i4⟩:=lu (Dv b) F0 hb;have eI:Hx (part (Dv b) 12 4)-32=dI (Dv b):=rfl;have eM:Hx (part (Dv b) 16 4)=mnA (Dv b):=rfl;simp only[Atv,Bae];rw[eI]at i3;rw[eM]at i4;rw[eI,eM];by_cases c1:Dv b=Zd (dI (Dv b)) (mnA (Dv b)) 0
    ·have c1':Dv b=Zd (dI (Dv b)) (mnA (Dv b)) (0:UInt64).toNat:=c1;rw[Acu (by simpa using c1'),ba3 h hb c1];by_cases c2:b.length<dI (Dv b)+32
     ·rw[Acu F7,Acu c2]
     ·rw[Abw F7,Abw c2,Ag];rfl
    ·have c1':¬Dv b=Zd (dI (Dv b)) (mnA (Dv b)) (0:UInt64).toNat:=c1;rw[Abw (by simpa using c1'),Aa,nS _ 2147483648 F0 F0 F5,Aa,hb];simp only[Atv,Bae];rw[eI,eM];by_cases c2:Dv b=Zd (dI (Dv b)) (mnA (Dv b)) 2147483648
     ·have c2':Dv b=Zd (dI (Dv b)) (mnA (Dv b)) (2147483648:UInt64).toNat:=c2;rw[Abw (by simpa using c2'),Ag];by_cases c3:b.length<dI (Dv b)+64
      ·rw[Acu F3,ba5 h hb c1 c2 c3]
      ·rw[Abw F3,Ac,Ca,Ag,TL,Aa,zq _ _ _ i3 i4 F5,Aa,Mt,Aa,ba6 h hb c1 c2 c3];rw[show((b.length:Int)-(((dI (Dv b):Nat):Int)+64)).toNat=b.length-(dI (Dv b)+64) by omega,show((b.length:Int)-(((dI (Dv b):Nat):Int)+64)+32).toNat=b.length-(dI (Dv b)+64)+32 by omega];have e7:(2684354560:UInt64).toNat=2684354560:=rfl;rw[e7];by_cases c4:(b.take (b.length-(dI (Dv b)+64)+32)).drop (b.length-(dI (Dv b)+64))=Zd (dI (Dv b)) (mnA (Dv b)) 2684354560
       ·rw[Abw (by simpa using c4),Abw (λe=>e c4)];rfl
       ·rw[Acu (by simpa using c4),Acu c4]
     ·have c2':¬Dv b=Zd (dI (Dv b)) (mnA (Dv b)) (2147483648:UInt64).toNat:=c2;rw[Acu (by simpa using c2'),ba4 h hb c1 c2]
  ·rw[Acu (by rw[Atz,Ayv];intro h;exact hp h.2),ba1 (λh=>hp h.2)]
 ·rw[Acu (by rw[Ac,Ca,Af];simp;omega),ba1 (λh=>h32 h.1)]
def Asf:Nat->LB->Nat->Int×Int
 |0,_,_=>(0,38)
 |j+1,b,a=>if b=[]then((a:Int),0)else if(Wv b).2≠0 then(0,38)else Asf j (b.take (b.length-(Wv b).1.toNat)) (a+1)
theorem Abn:∀(j q a:Nat) (b:LB),b.length<j->j<=q->b.length<=4000->a+b.length<=4000->Xj q (a:Int) b=some (Asf j b a)
 |0,_,_,_,h,_,_,_=>by omega
 |j+1,q+1,a,b,h,hq,h4,ha=>by
  rw[Xj,bX,Asf];by_cases hb:b=[]
  ·subst hb;rw[Abw F5,Acu rfl];rfl
  ·have hpos:0<b.length:=List.length_pos_iff.2 hb;rw[Acu Bbq,Abw hb,Akx b F0,Aa];have hbad:=Aja (b:=b);have hok:=λn=>Ams (b:=b) (n:=n);generalize Wv b=v at*
   obtain⟨n,e⟩:=v;simp only at hbad⊢;rw[VP,WX];by_cases he:e≠0
   ·rw[Acu he,hbad he,Acu F5]
   ·obtain⟨k1,k2⟩:=hok n (by rw[show e=0 by simpa using he]);rw[Abw he,Abw Bbs,Ac,Ca,Qa,Aa,XB,XG,Ag];rw[show((b.length:Int)-n).toNat=b.length-n.toNat by omega];have ih:=Abn j q (a+1) (b.take (b.length-n.toNat)) Bch F0 Bch Bch;rw[<-ih];rfl
def yV(b:LB):Int×Int:=if 4000<b.length then(0,38)else Asf (b.length+1) b 0
theorem Aar(b:LB)(hl:b.length<4611686018427387904):YL b=some (yV b):=by
 rw[YL,bS,yV];by_cases h:4000<b.length
 ·rw[Acu Bbq,Acu h]
 ·rw[Abw Bbq,Abw h];exact Abn _ Ap 0 b F0 F9 F0 F0
theorem UG{a b:Nat}(h:a<9223372036854775808:=by omega):Bf (a:Int) (b:Int)=((a/b:Nat):Int):=by
 have:a/b<=a:=Atp _ _;rw[KJ,Awn F0,<-Int.natCast_ediv];generalize a/b=k at*
 exact Cj F0 F0
theorem sU(h:Bw bits)(x:Int):(FU bits x).length=wB bits:=by
 obtain rfl|rfl|rfl:=h<;>rfl
theorem eB{bits:Int}(h:Bw bits):∀l:LX,(Fl bits l).length=l.length*wB bits
 |[]=>by simp[Fl]
 |x::l=>by
  have h1:=eB h l;have h2:=sU h x.toInt;simp only[Fl,List.flatMap_cons,Ac2,Am6,Bam]at*
  omega
def Aog(b:LB)(A:Nat)(l:LI)(k:Nat):LB:=(b.take ((A:Int)+(l.take (k+1)).sum).toNat).drop ((A:Int)+(l.take k).sum).toNat
structure Gts (b p:LB) (f c w r n A:Nat) (l:LI) (k m:Nat) (x:LX) (s:LB) (e:Int):Prop where
 mom:Aj (Cv (Ak r) n) (k:Int)=some (m:Int)
 pos:1<=m/\m*c<=4000
 got:Oo b p (f:Int) (c:Int) (w:Int) (r:Int) (n:Int) (A:Int) l (k:Int)=some (s,e)
 none':e≠0->s=[]/\x=[]
 some':e=0->s=Fl (w:Int) x/\x.length=m*c/\Bk (w:Int) x=some 0/\Ph (w:Int) x=some (s,0)/\ (A:Int)+(l.take (k+1)).sum<=b.length
 way:((b.length:Int)<(A:Int)+(l.take (k+1)).sum/\e=24)\/ ((A:Int)+(l.take (k+1)).sum<=b.length/\Lc (c:Int) (w:Int) (Ox p) (m:Int) (Aog b A l k)=some (x,e)/\Ki (c:Int) (w:Int) (Ox p) (m:Int) (Aog b A l k)=some (x,e))
theorem Ain{b p:LB}(o:Opn b p f c w r n A l)(k:Nat)(hk:k<l.length):∃m x s e,Gts b p f c w r n A l k m x s e:=by
 obtain⟨hc,hw,hr,hn,_⟩:=A9 o.shape;have hfit:n<=4000/c:=by have:=o.fit;simp only[cQ,Adp]at this;exact this.1
 have hn4:n<=4000:=by have:=Atp 4000 c;omega
 have hA:=o.at';have At6:=o.file;have hlen:=o.len;have b1:=Yl o.five k;have b2:=Yl o.five (k+1);have e:=TQ hk;have h5:=o.five l[k] (Awc _);have hsum:=o.sum;have hs1:=o.some1;have hkf:k<(Cv (Ak r) n).length:=F0
 obtain⟨m,hm,m1,m2⟩:=zW (Hw r) hn (Awc hkf);have Atd:Aj (Cv (Ak r) n) (k:Int)=some (m:Int):=by rw[Cr hkf,hm]
 have hpos:1<=m/\m*c<=4000:=by
  refine⟨m1,?_⟩;have:=Ado c (Nat.le_trans m2 hfit);have:=Ay9 4000 c;omega
 have hR:Oo b p (f:Int) (c:Int) (w:Int) (r:Int) (n:Int) (A:Int) l (k:Int)=Oo b p (f:Int) (c:Int) (w:Int) (r:Int) (n:Int) (A:Int) l (k:Int):=rfl
 conv at hR=>rhs;rw[Oo,LZ,Air hs1.2 o.five o.sum _ _ _ _ _ (A:Int) F0 F0 k F0,Aa,Cr hk,Aa,Ca (by rw[Ac];omega) (by rw[Ac];omega)]
 by_cases hto:(b.length:Int)<(A:Int)+(l.take (k+1)).sum
 ·rw[Acu (by rw[Af,Ac,Adp];omega)]at hR;exact⟨m,[],[],24,Atd,hpos,hR,λ_=>⟨rfl,rfl⟩,λh=>by simp at h, .inl ⟨hto,rfl⟩⟩
 ·rw[Abw (by rw[Af,Ac,Adp];omega),Ann p o.pass,Abg hr.2 hn hn4]at hR;simp only[Aa]at hR;rw[Ag (a:=(A:Int)+(l.take k).sum) (b:=l[k]) F0 F0,Int.add_assoc,<-e,Atd]at hR;simp only[Aa]at hR;rw[TL,Aa]at hR;obtain⟨x,er,g1,g2,g3,g4⟩:=Aao (ch:=c) (n:=m) (t:=Ox p) (Aog b A l k) hw (nJ p) hc.1 hc.2 m1 F0;rw[show(b.take ((A:Int)+(l.take (k+1)).sum).toNat).drop ((A:Int)+(l.take k).sum).toNat=Aog b A l k from rfl,g2,Aa]at hR;simp only at hR;rw[MB,MG]at hR;by_cases her:er=0
  ·obtain⟨g5,g6,g7⟩:=g3 her;rw[Abw (by rw[Ay];simpa using her),Ajk hw g6 g5,Aa]at hR;subst her;exact⟨m,x,_,0,Atd,hpos,hR,λh=>absurd rfl h,λ_=>⟨rfl,g7,g5,Aen hw g6 g5,F0⟩, .inr ⟨F0,g1,g2⟩⟩
  ·rw[Acu (by rw[Ay];simpa using her)]at hR;exact⟨m,x,_,er,Atd,hpos,hR,λh=>⟨rfl,g4 h⟩,λh=>absurd h her, .inr ⟨F0,g1,g2⟩⟩
theorem Gts.lens{b p:LB}{s:LB}(hw:Bw (w:Int))(g:Gts b p f c w r n A l k m x s e):s.length<=12000/\x.length<=4000/\ (e=0->s.length=m*c*wB (w:Int)):=by
 by_cases he:e=0
 ·obtain⟨h1,h2,_⟩:=g.some' he;have h3:=aE (w:Int) x;have h4:=eB hw x;have h5:=g.pos;rw[<-h1]at h3 h4;refine⟨F0,F0,λ_=>by rw[h4,h2]⟩
 ·obtain⟨h1,h2⟩:=g.none' he;exact⟨by simp[h1],by simp[h2],λh=>absurd h he⟩
def Arl(b p:LB)(f c w r n A:Nat)(l:LI)(k:Nat):LB×Int:=(Oo b p (f:Int) (c:Int) (w:Int) (r:Int) (n:Int) (A:Int) l (k:Int)).getD ([],0)
theorem Gts.eq{b p:LB}{s:LB}(g:Gts b p f c w r n A l k m x s e):Arl b p f c w r n A l k=(s,e):=by rw[Arl,g.got];rfl
def Axv(b:LB)(A:Nat)(l:LI):Int:=(yV (b.drop ((A:Int)+l.sum).toNat)).2
def Nd(b:LB)(k:Nat):Nat:=(b.getD k 0).toNat
theorem rQ(b:LB)(k:Nat):Nd b k<256:=(b.getD k 0).toNat_lt
def sx(n:Nat)(b:LB)(a:Nat):Int:=
 if n=1 then(Nd b a:Int)-128 else
 if n=2 then(if Nd b a+256*Nd b (a+1)<32768 then(Nd b a+256*Nd b (a+1):Nat)else((Nd b a+256*Nd b (a+1):Nat):Int)-65536)else
 (if Nd b a+256*Nd b (a+1)+65536*Nd b (a+2)<8388608 then(Nd b a+256*Nd b (a+1)+65536*Nd b (a+2):Nat)else((Nd b a+256*Nd b (a+1)+65536*Nd b (a+2):Nat):Int)-16777216)
def dP(n m:Nat)(b:LB):LX:=(List.range m).map λx=>Int32.ofInt (sx n b (x*n))
theorem qK(n m:Nat)(b:LB):(dP n m b).length=m:=by simp[dP]
theorem Anl(n m:Nat)(b:LB):dP n (m+1) b=dP n m b++[Int32.ofInt (sx n b (m*n))]:=by simp[dP,List.range_succ]
theorem hH{n:Int}(h: -2147483648<=n)(h':n<2147483648):(Int32.ofInt n).toInt=n:=by
 rw[Ays,Int.bmod_def,show((Int32.size:Nat):Int)=4294967296 from rfl];split<;>omega
theorem kI{b:LB}(h:k<b.length):Aj b (k:Int)=some (b.getD k 0):=by
 rw[Cr h];simp[List.getD_eq_getElem?_getD,h]
theorem PM(c:UInt8):(Ae c:Int32)=Int32.ofInt (c.toNat:Int):=rfl
theorem tU(k:Nat)(hk:k<=32)(h:v<2147483648):Ct (Int32.ofInt (v:Int)) k=Int32.ofInt ((v*2^k:Nat):Int):=by
 have e:Ct (Int32.ofInt (v:Int)) k=Int32.ofInt ((Int32.ofInt (v:Int)).toInt*2^min k 32):=rfl;rw[e,hH F0 F0,Awp hk];simp
theorem Asv{i:Nat}(hv:v<2^i)(hw:w*2^i<2147483648)(hi:i<=31):qO (Int32.ofInt (v:Int)) (Int32.ofInt ((w*2^i:Nat):Int))=Int32.ofInt ((v+w*2^i:Nat):Int):=by
 have hv2:v<2147483648:=Ak1 hv (show 2^i<=2^31 from Ae8 F0 hi);have e:qO (Int32.ofInt (v:Int)) (Int32.ofInt ((w*2^i:Nat):Int))=Int32.ofInt ((BitVec.ofInt 32 (Int32.ofInt (v:Int)).toInt|||BitVec.ofInt 32 (Int32.ofInt ((w*2^i:Nat):Int)).toInt).toNat:Int):=rfl;rw[e,hH F0 F0,hH F0 F0,BitVec.toNat_or,Ayx,Ayx];have a1:((v:Int) %((2^32:Nat):Int)).toNat=v:=F0
 have a2:(((w*2^i:Nat):Int) %((2^32:Nat):Int)).toNat=w*2^i:=F0
 rw[a1,a2,Nat.or_comm,Ak8 w,<-Awl hv,Baf]
theorem Z1(w:Nat)(h:w<2147483648):qO (0:Int32) (Int32.ofInt (w:Int))=Int32.ofInt (w:Int):=by
 have:=Asv (v:=0) (w:=w) (i:=0) Bbn (by simpa using h) F0;simpa using this
theorem carry(hk:k<=31)(h:v*2^k<4294967296)(hv:v<2147483648):Bv (Ct (Int32.ofInt (v:Int)) k) k=Int32.ofInt ((if v*2^k<2147483648 then((v*2^k:Nat):Int)else((v*2^k:Nat):Int)-4294967296).fdiv (2^k)):=by
 rw[tU k F0 hv];have e:∀x:Int32,Bv x k=Int32.ofInt (x.toInt.fdiv (2^min k 32)):=λ_=>rfl;have hX:(Int32.ofInt ((v*2^k:Nat):Int)).toInt=if v*2^k<2147483648 then((v*2^k:Nat):Int)else((v*2^k:Nat):Int)-4294967296:=by
  rw[Ays,Int.bmod_def,show((Int32.size:Nat):Int)=4294967296 from rfl];generalize v*2^k=X at*
  split<;>split<;>omega
 rw[e,Awp F0,hX]
theorem sx2(b:LB)(a:Nat):sx 2 b a=if Nd b a+256*Nd b (a+1)<32768 then((Nd b a+256*Nd b (a+1):Nat):Int)else((Nd b a+256*Nd b (a+1):Nat):Int)-65536:=rfl
theorem sx3(b:LB)(a:Nat):sx 3 b a=if Nd b a+256*Nd b (a+1)+65536*Nd b (a+2)<8388608 then((Nd b a+256*Nd b (a+1)+65536*Nd b (a+2):Nat):Int)else((Nd b a+256*Nd b (a+1)+65536*Nd b (a+2):Nat):Int)-16777216:=rfl
variable (b:LB)
theorem Axt(bk:Int->LX->Option (LX×Int))(a:Nat)(acc:LX)(h:a+1<=b.length)(hl:b.length<=100000)(ha:acc.length<=100000)(j25:Int->LX->Int32->Int->Option (LX×Int))(j30:LX->Option (LX×Int)):
  Es (Hh bk 8 b) j25 j30 8 b (a:Int) acc=bk ((a+1:Nat):Int) (acc++[Int32.ofInt (sx 1 b a)]):=by
 have hb:=rQ b a;have e:Ah (Ae (b.getD a 0):Int32) (128:Int32)=Int32.ofInt (sx 1 b a):=by
  have e1:Ah (Ae (b.getD a 0):Int32) (128:Int32)=Int32.ofInt ((Int32.ofInt ((b.getD a 0).toNat:Int)).toInt-(128:Int32).toInt):=rfl;rw[e1,hH F0 (by have:=(b.getD a 0).toNat_lt;omega)];rfl
 have q8:Bf (8:Int) 8=1:=F5
 rw[Es,Acu F3,Acu Bb4,kI F0,Aa,e,By F6,Aa,Hh,Sa,q8,Ag];rfl
theorem Avo(bk:Int->LX->Option (LX×Int))(a:Nat)(acc:LX)(h:a+2<=b.length)(hl:b.length<=100000)(ha:acc.length<=100000)(j28:Int->LX->Option (LX×Int))(j30:LX->Option (LX×Int)):
  Es j28 (Jq bk 16 b) j30 16 b (a:Int) acc=bk ((a+2:Nat):Int) (acc++[Int32.ofInt (sx 2 b a)]):=by
 have h0:=rQ b a;have h1:=rQ b (a+1);have q:Bf (16:Int) 8=2:=F5
 have hF:Ap=(Ap-3)+1+1+1:=by have:=Ao;omega
 have z0:(GI.toZ (Az (8:Int) 0)).toNat=0:=F5
 have z1:(GI.toZ (Az (8:Int) 1)).toNat=8:=F5
 have z16:(GI.toZ (Ah (32:Int) 16)).toNat=16:=F5
 have s0:Ct (Int32.ofInt (Nd b a:Int)) 0=Int32.ofInt (Nd b a:Int):=by have:=tU (v:=Nd b a) 0 F0 F0;simpa using this
 have s1:Ct (Int32.ofInt (Nd b (a+1):Int)) 8=Int32.ofInt ((Nd b (a+1)*2^8:Nat):Int):=tU 8 F0 F0;have o1:=Asv (v:=Nd b a) (w:=Nd b (a+1)) (i:=8) (by simpa using h0) F0 F0;have c:=carry (v:=Nd b a+Nd b (a+1)*2^8) (k:=16) F0 F0 F0;rw[Es,Acu F3,Abw Bb2,Jq,hF,Dq,Ek,q,Acu F5,show Ad (a:Int) 0=((a:Nat):Int) by rw[Ag];omega,kI F0,Aa,Bq F5,Aa,z0,
  PM,show((b.getD a 0).toNat:Int)=(Nd b a:Int)from rfl,s0,Z1 _ F0,show Ad (0:Int) 1=1 by decide,
  Dq,Ek,q,Acu F5,show Ad (a:Int) 1=((a+1:Nat):Int) by rw[Ag];omega,kI F0,Aa,Bq F5,Aa,z1,
  PM,show((b.getD (a+1) 0).toNat:Int)=(Nd b (a+1):Int)from rfl,s1,o1,show Ad (1:Int) 1=2 by decide,
  Dq,Ek,q,Abw F5,Sm,AR,Bq F5,Aa,Aa,z16,c,By F6,Aa,Hh,Sa,q,Ag]
 have e:((if(Nd b a+Nd b (a+1)*2^8)*2^16<2147483648 then(((Nd b a+Nd b (a+1)*2^8)*2^16:Nat):Int)else(((Nd b a+Nd b (a+1)*2^8)*2^16:Nat):Int)-4294967296).fdiv (2^16))=sx 2 b a:=by
  rw[Apm _ F0,sx2];split<;>split<;>omega
 rw[e];rfl
theorem Avv(bk:Int->LX->Option (LX×Int))(a:Nat)(acc:LX)(h:a+3<=b.length)(hl:b.length<=100000)(ha:acc.length<=100000)(j28:Int->LX->Option (LX×Int))(j30:LX->Option (LX×Int)):
  Es j28 (Jq bk 24 b) j30 24 b (a:Int) acc=bk ((a+3:Nat):Int) (acc++[Int32.ofInt (sx 3 b a)]):=by
 have h0:=rQ b a;have h1:=rQ b (a+1);have h2:=rQ b (a+2);have q:Bf (24:Int) 8=3:=F5
 have hF:Ap=(Ap-4)+1+1+1+1:=by have:=Ao;omega
 have z0:(GI.toZ (Az (8:Int) 0)).toNat=0:=F5
 have z1:(GI.toZ (Az (8:Int) 1)).toNat=8:=F5
 have z2:(GI.toZ (Az (8:Int) 2)).toNat=16:=F5
 have z8:(GI.toZ (Ah (32:Int) 24)).toNat=8:=F5
 have s0:Ct (Int32.ofInt (Nd b a:Int)) 0=Int32.ofInt (Nd b a:Int):=by have:=tU (v:=Nd b a) 0 F0 F0;simpa using this
 have s1:Ct (Int32.ofInt (Nd b (a+1):Int)) 8=Int32.ofInt ((Nd b (a+1)*2^8:Nat):Int):=tU 8 F0 F0;have s2:Ct (Int32.ofInt (Nd b (a+2):Int)) 16=Int32.ofInt ((Nd b (a+2)*2^16:Nat):Int):=tU 16 F0 F0;have o1:=Asv (v:=Nd b a) (w:=Nd b (a+1)) (i:=8) (by simpa using h0) F0 F0;have o2:=Asv (v:=Nd b a+Nd b (a+1)*2^8) (w:=Nd b (a+2)) (i:=16) F0 F0 F0;have c:=carry (v:=Nd b a+Nd b (a+1)*2^8+Nd b (a+2)*2^16) (k:=8) F0 F0 F0;rw[Es,Acu F3,Abw Bb2,Jq,hF,Dq,Ek,q,Acu F5,show Ad (a:Int) 0=((a:Nat):Int) by rw[Ag];omega,kI F0,Aa,Bq F5,Aa,z0,
  PM,show((b.getD a 0).toNat:Int)=(Nd b a:Int)from rfl,s0,Z1 _ F0,show Ad (0:Int) 1=1 by decide,
  Dq,Ek,q,Acu F5,show Ad (a:Int) 1=((a+1:Nat):Int) by rw[Ag];omega,kI F0,Aa,Bq F5,Aa,z1,
  PM,show((b.getD (a+1) 0).toNat:Int)=(Nd b (a+1):Int)from rfl,s1,o1,show Ad (1:Int) 1=2 by decide,
  Dq,Ek,q,Acu F5,show Ad (a:Int) 2=((a+2:Nat):Int) by rw[Ag];omega,kI F0,Aa,Bq F5,Aa,z2,
  PM,show((b.getD (a+2) 0).toNat:Int)=(Nd b (a+2):Int)from rfl,s2,o2,show Ad (2:Int) 1=3 by decide,
  Dq,Ek,q,Abw F5,Sm,AR,Bq F5,Aa,Aa,z8,c,By F6,Aa,Hh,Sa,q,Ag]
 have e:((if(Nd b a+Nd b (a+1)*2^8+Nd b (a+2)*2^16)*2^8<2147483648 then(((Nd b a+Nd b (a+1)*2^8+Nd b (a+2)*2^16)*2^8:Nat):Int)else(((Nd b a+Nd b (a+1)*2^8+Nd b (a+2)*2^16)*2^8:Nat):Int)-4294967296).fdiv (2^8))=sx 3 b a:=by
  rw[Apm _ F0,sx3];split<;>split<;>omega
 rw[e];rfl
theorem pI(bits:Int)(n m:Nat)(hn:1<=n)(hm:b.length=m*n)(hl:b.length<=100000)(step:∀(q a:Nat) (acc:LX),a+n<=b.length->acc.length<=100000->Db bits b (q+1) (a:Int) acc=Db bits b q ((a+n:Nat):Int) (acc++[Int32.ofInt (sx n b a)])):
  ∀(j x q:Nat),x+j=m->j<q->Db bits b q ((x*n:Nat):Int) (dP n x b)=some (dP n m b,0)
 |0,x,q+1,hx,_=>by
  obtain rfl:x=m:=F0
  rw[Db,Es,Abw F3];rfl
 |j+1,x,q+1,hx,hq=>by
  have h1:(x+1)*n<=m*n:=Ado n F0;rw[Ajz,Avd]at h1;have h2:m<=m*n:=Azf m hn;rw[step q (x*n) _ F0 (by rw[qK];omega),<-Anl,show x*n+n=(x+1)*n by rw[Ajz,Avd]];exact pI bits n m hn hm hl step j (x+1) q F0 F0
theorem Axh(h:Bw bits)(hl:b.length<=100000)(q a:Nat)(acc:LX)(ha:a+wB bits<=b.length)(hc:acc.length<=100000):
  Db bits b (q+1) (a:Int) acc=Db bits b q ((a+wB bits:Nat):Int) (acc++[Int32.ofInt (sx (wB bits) b a)]):=by
 rw[Db];obtain rfl|rfl|rfl:=h
 ·exact Axt b _ a acc ha hl hc _ _
 ·exact Avo b _ a acc ha hl hc _ _
 ·exact Avv b _ a acc ha hl hc _ _
theorem Z2(h:Bw bits)(hm:b.length=m*wB bits)(h4:m<=4000):HA bits b=some (dP (wB bits) m b,0):=by
 have hn:=S3 bits;have hl:b.length<=12000:=by rw[hm];exact Awg h4 hn.2
 rw[HA,GN,jo h,Aa];simp only;rw[Abw Bbo,Afd h,Bq Bbt,Aa];have hr:Fi (Ac b) (wB bits:Int)=0:=by rw[Ac,KF,hm,Ayc];rfl
 have hq:Bf (Ac b) (wB bits:Int)=(m:Int):=by rw[Ac,UG,hm,Nat.mul_div_cancel _ F0]
 rw[Abw (by rw[Ay,hr];simp),Aa,hq,Abw Bbp,SS];have:=pI b bits (wB bits) m F0 hm F0 (λq a acc ha hc=>Axh b h F0 q a acc ha hc) m 0 Ap F0 F9;simpa [dP]using this
end Go.Pl
namespace Go.Pl
open Go Go.Lv
variable{bits:Int}{c w:Nat}
theorem Avq(hc:c<=6)(hw:Bw (w:Int)):Bf (Az (c:Int) (w:Int)) 8=((c*wB (w:Int):Nat):Int):=by
 have h:w=8\/w=16\/w=24:=by unfold Bw at hw;omega
 have:c=0\/c=1\/c=2\/c=3\/c=4\/c=5\/c=6:=F0
 rcases h with rfl|rfl|rfl<;>rcases this with rfl|rfl|rfl|rfl|rfl|rfl|rfl<;>rfl
def smF(w:Nat)(y:LB×Int):LX:=if y.2≠0 then []else dP (wB (w:Int)) (y.1.length/wB (w:Int)) y.1
theorem tZ(z:Int):(u8 z).toNat=(z %256).toNat:=by
 have:(z %256).toNat<256:=F0
 rw[u8,Ak7,Adk F0]
theorem zO{bits:Int}(h:Bw bits):∀(l:LX) (i j:Nat),i<l.length->j<wB bits-> (Fl bits l).getD (i*wB bits+j) 0=(FU bits (l.getD i 0).toInt).getD j 0
 |[],i,j,hi,_=>by simp at hi
 |x::l,0,j,_,hj=>by
  have h1:=sU h x.toInt;have e:Fl bits (x::l)=FU bits x.toInt++Fl bits l:=by simp[Fl]
  rw[e,Bbf,Axk,List.getD_eq_getElem?_getD,List.getD_eq_getElem?_getD,List.getElem?_append_left F0];rfl
 |x::l,i+1,j,hi,hj=>by
  have h1:=sU h x.toInt;have e:Fl bits (x::l)=FU bits x.toInt++Fl bits l:=by simp[Fl]
  have ih:=zO h l i j (by simpa using hi) hj;have e2:(i+1)*wB bits+j=(FU bits x.toInt).length+(i*wB bits+j):=by rw[Ajz,Avd,h1];omega
  rw[e,e2,List.getD_eq_getElem?_getD,List.getElem?_append_right F0,Ayu,<-List.getD_eq_getElem?_getD,ih];rfl
theorem As6(h:Bw bits)(l:LX)(hr:inR bits l)(i:Nat)(hi:i<l.length):Int32.ofInt (sx (wB bits) (Fl bits l) (i*wB bits))=l.getD i 0:=by
 have hm:l.getD i 0∈l:=by rw[List.getD_eq_getElem?_getD,List.getElem?_eq_getElem hi];exact Awc hi
 have hv:=hr _ hm;have g:∀j,j<wB bits->Nd (Fl bits l) (i*wB bits+j)=((FU bits (l.getD i 0).toInt).getD j 0).toNat:=λj hj=>by rw[Nd,zO h l i j hi hj]
 generalize l.getD i 0=x at*
 have key:sx (wB bits) (Fl bits l) (i*wB bits)=x.toInt:=by
  generalize hA:i*wB bits=a at*
  obtain rfl|rfl|rfl:=h
  ·have g0:=g 0 F5;have e1:(FU 8 x.toInt).getD 0 0=u8 (x.toInt+128):=rfl;rw[Ayq,e1,tZ]at g0;simp only[hB]at hv;simp at hv;have e2:wB 8=1:=rfl;rw[e2,sx,Acu rfl,g0];omega
  ·have g0:=g 0 F5;have g1:=g 1 F5;have e0:(FU 16 x.toInt).getD 0 0=u8 x.toInt:=rfl;have e1:(FU 16 x.toInt).getD 1 0=u8 (x.toInt/256):=rfl;rw[Ayq,e0,tZ]at g0;rw[e1,tZ]at g1;simp only[hB]at hv;simp at hv;have e2:wB 16=2:=rfl;rw[e2,sx2,g0,g1];split<;>omega
  ·have g0:=g 0 F5;have g1:=g 1 F5;have g2:=g 2 F5;have e0:(FU 24 x.toInt).getD 0 0=u8 x.toInt:=rfl;have e1:(FU 24 x.toInt).getD 1 0=u8 (x.toInt/256):=rfl;have e3:(FU 24 x.toInt).getD 2 0=u8 (x.toInt/65536):=rfl;rw[Ayq,e0,tZ]at g0;rw[e1,tZ]at g1;rw[e3,tZ]at g2;simp only[hB]at hv;simp at hv;have e2:wB 24=3:=rfl;rw[e2,sx3,g0,g1,g2];split<;>omega
 rw[key];simp
theorem Aoo(h:Bw bits)(l:LX)(hr:inR bits l):dP (wB bits) l.length (Fl bits l)=l:=by
 refine Awj (qK _ _ _) λi h1 h2=>?_;have:=As6 h l hr i h2;simp only[dP,Bak,Bai];rw[this,List.getD_eq_getElem?_getD,List.getElem?_eq_getElem h2];rfl
theorem Gts.yP{b p:LB}{f r n A:Nat}{l:LI}{k m:Nat}{x:LX}{s:LB}{e:Int}(hw:Bw (w:Int))(g:Gts b p f c w r n A l k m x s e):smF w (s,e)=x:=by
 have hwb:=S3 (w:Int);by_cases he:e=0
 ·obtain⟨h1,h2,h3,_⟩:=g.some' he;have h4:=g.pos;have h5:=eB hw x;rw[smF,Abw (by simpa using he)];simp only;rw[h1,h5,Nat.mul_div_cancel _ F0];exact Aoo hw x (uY hw F0 h3)
 ·rw[smF,Acu he,(g.none' he).2]
theorem Bci{p:Prop}(h:p:=by rw[Apl];omega):p:=h
end Go.Pl
namespace Go.Pl
open Go Go.Lv
variable{bits:Int}
abbrev C5:=Int×Int×Int×LX×Int
def Ay1(e:Int):C5:=(0,0,0,[],e)
def Apy(X:Nat->LX)(E:Nat->Int)(be:Int):Nat->Nat->LX->LX×Int
 |0,_,acc=>if be≠0 then([],38)else(acc,0)
 |j+1,k,acc=>if E k≠0 then([],E k)else Apy X E be j (k+1) (acc++X k)
def Aad(c w r:Nat)(y:LX×Int):C5:=if y.2≠0 then Ay1 y.2 else((c:Int),(w:Int),(r:Int),y.1,0)
section
variable {b p:LB} {f c w r n A:Nat} {l:LI} (o:Opn b p f c w r n A l)
include o
theorem uM(a1 a2 a3 a4:Int):∀(j k q:Nat) (acc:LX),k+j=l.length->j<q-> (k=l.length-> (A:Int)+l.sum<=b.length)->acc.length<=4000*k->
  BN b l (f:Int) (c:Int) (w:Int) (r:Int) (n:Int) a1 a2 a3 (A:Int) a4 (Ox p) (Cv (Ak r) n) q ((A:Int)+(l.take k).sum) (k:Int) acc=
   some (Aad c w r (Apy (λk=>smF w (Arl b p f c w r n A l k)) (λk=>(Arl b p f c w r n A l k).2) (Axv b A l) j k acc))
 |0,k,q+1,acc,hk,_,hfit,_=>by
  have hA:=o.at';have At6:=o.file;have hs1:=o.some1;have hsum:=o.sum;have b1:=Yl o.five l.length;have hf:=hfit F0;obtain rfl:k=l.length:=F0
  rw[Ay7]at b1⊢;rw[BN,PK,Abw Bcl,fQ,dS,AM,Aa,Aar _ Bci,Aa,Apy,Axv];generalize yV (b.drop ((A:Int)+l.sum).toNat)=v;obtain⟨v1,v2⟩:=v;simp only;by_cases hv:v2≠0
  ·rw[Acu hv,Acu (by rw[Ay];simpa using hv),Aad,Acu Bbn];rfl
  ·rw[Abw hv,Abw (by rw[Ay];simpa using hv),Aad,Abw Bbn]
 |j+1,k,q+1,acc,hk,hq,hfit,hacc=>by
  have hA:=o.at';have At6:=o.file;have hs1:=o.some1;have hsum:=o.sum;have b1:=Yl o.five k;have b2:=Yl o.five (k+1);have hkl:k<l.length:=F0
  have e2:=TQ hkl;have h5:=o.five l[k] (Awc _);obtain⟨m,x,s,e,g⟩:=Ain o k hkl;obtain⟨hc,hw,hr,hn,_⟩:=A9 o.shape;have hl:=g.lens hw;rw[BN,PK,Acu F3,Cr hkl,Aa,Aa,Ag (a:=(A:Int)+(l.take k).sum) F0 F0,Int.add_assoc,<-e2,Ac,Apy,g.eq];simp only;rcases g.way with⟨h1,h2⟩|⟨h1,h2,_⟩
  ·rw[Acu (by rw[Af,Adp];omega),Acu (by rw[h2];simp),h2,Aad,Acu Bbn];rfl
  ·rw[Abw (by rw[Af,Adp];omega),g.mom];simp only[Aa];rw[TL,Aa,show(b.take ((A:Int)+(l.take (k+1)).sum).toNat).drop ((A:Int)+(l.take k).sum).toNat=Aog b A l k from rfl,h2,Aa];simp only;rw[fN,fM];by_cases he:e≠0
   ·rw[Acu (by rw[Ay];simpa using he),Acu he,Aad,Acu he];rfl
   ·have he0:e=0:=by simpa using he
    have At7:=(g.some' he0).2.2.2.2;rw[Abw (by rw[Ay];simpa using he),Abw he,g.yP hw,By,Aa,Ag (a:=(A:Int)+(l.take k).sum) F0 F0,Int.add_assoc,<-e2,Ag];exact uM a1 a2 a3 a4 j (k+1) q (acc++x) F0 F0 (λh=>by rw[h,Ay7]at At7;exact At7) Bb3
end
def Ay0(b:LB):LI:=Cv (Ak (f3 (xu b))) (f4 (xu b))
theorem Anq{ch:Nat}(hb:Bw bits)(h1:1<=ch)(h6:ch<=6):Jf (ch:Int) bits=some 0:=by
 have hr:∃x y,Mu bits=some (x,y,0):=⟨_,_,jo hb⟩;obtain⟨x,y,hr⟩:=hr;rw[Jf,hr,Aa];simp only;rw[Abw (by simp[Ay,Af,Ba];omega)]
theorem Z9(g:Nat):∀K:Nat,(List.replicate K (g:Int)).sum=((K*g:Nat):Int)
 |0=>by simp
 |K+1=>by
  rw[Axr,Aw4,Z9 g K,Bam];omega
theorem wH{g n:Nat}(hn:1<=n):(Cv g n).sum=(n:Int):=by
 have h:=Ay9 (n-1) g;rw[Cv,List.sum_append,Z9];simp only[Aw4,List.sum_nil];omega
theorem uj:∀{l:LI},(∀x∈l,0<=x)->0<=l.sum
 |[],_=>by simp
 |x::l,h=>by
  have h1:=h x Av3;have h2:=uj (l:=l) λy hy=>h y (Ak6 _ hy);rw[Aw4];omega
theorem Ar2{l:LI}(h:∀x∈l,0<=x)(i:Nat):0<= (l.take i).sum/\ (l.take i).sum<=l.sum:=by
 have h1:=uj (l:=l.take i) λx hx=>h x (List.mem_of_mem_take hx);have h2:=uj (l:=l.drop i) λx hx=>h x (Azg hx);have:=Y4 l i;omega
def Ahx(c w:Nat)(fr:LI)(k:Nat):Int:=(((fr.take k).sum.toNat*(c*wB (w:Int)):Nat):Int)
section
variable {f c w r n:Nat} (h1:Lz f c w r n=true) (h2:cQ c r n=true)
include h1 h2
theorem Aey:(∀x∈Cv (Ak r) n,0<=x)/\ (Cv (Ak r) n).sum=(n:Int)/\n<=4000:=by
 obtain⟨hc,hw,hr,hn,_⟩:=A9 h1;have hfit:n<=4000/c:=by simp only[cQ,Adp]at h2;exact h2.1
 have hn4:n<=4000:=by have:=Atp 4000 c;omega
 refine⟨λx hx=>?_,wH hn,hn4⟩;obtain⟨m,rfl,_⟩:=zW (Hw r) hn hx;omega
end
theorem Aep(C W:Nat)(fr:LI):Ahx C W fr 0=0:=by rw[Ahx,Ban,List.sum_nil];simp
theorem X2(h:Bw bits){l:LX}(hl:l.length<=4000)(hr:inR bits l):Bk bits l=some 0:=by
 have hh:=eL bits;have key:∀(j i q:Nat),i+j=l.length->j<q->Bm l (hB bits) q (i:Int)=some 0:=by
  intro j
  induction j with
  |zero=>
   intro i q hi hq;obtain⟨q,rfl⟩:∃k,q=k+1:=⟨q-1,F0⟩;rw[Bm,Df,Abw F3];rfl
  |succ j ih=>
   intro i q hi hq;obtain⟨q,rfl⟩:∃k,q=k+1:=⟨q-1,F0⟩;have hx:=hr l[i] (Awc F0);rw[Bm,Df,Acu F3,Cr,Aa,Aa,Ec,jw,Cj F0 F0,Ag,Af,Cz,Abw F6,Abw F6];exact ih (i+1) q F0 F0
 rw[Bk,Ih,wC h,Aa,Abw Bbs,Abw Bbq];exact key l.length 0 Ap F0 F9
def Nf(bits:Int)(ch:Nat)(t x:LX):LU:=evl bits ch t (mx ch x) x.length
def Aa9(bits:Int)(ch:Nat)(t x:LX):LB:=Kk (QZ ch (Nf bits ch t x) x.length)
def BE(bits:Int)(ch:Nat)(t x:LX):LB:=Aa9 bits ch t x++Wu (Gd (Aa9 bits ch t x)).toNat 4
theorem Amo(bits:Int)(ch:Nat)(t x:LX)(h0:1<=x.length)(h4:x.length<=4000):1<= (Aa9 bits ch t x).length/\ (Aa9 bits ch t x).length<=40501:=by
 have h:=UX ch (Nf bits ch t x) x.length;obtain⟨k,hk⟩:∃k,x.length=k+1:=⟨x.length-1,F0⟩;have h1:1<= (QZ ch (Nf bits ch t x) x.length).length:=by
  rw[hk,QZ,Ac2];have hn:=Adu ch ((Nf bits ch t x).take k);have:=jE ((Nf bits ch t x).getD k 0) hn.1 hn.2;omega
 rw[Aa9,Ua];omega
theorem Aa3(bits:Int)(ch:Nat)(t x:LX)(h0:1<=x.length)(h4:x.length<=4000):5<= (BE bits ch t x).length/\ (BE bits ch t x).length<=40505:=by
 have:=Amo bits ch t x h0 h4;rw[BE,Ac2,Di];omega
theorem Ab8(p:LB)(b0:UInt64)(a0:Int):∀(j m q:Nat),m+j<=300000->j<=64->j<q->
  Ml b0 a0 q (Ly p m j) (j:Int) (m:Int) (Mv p 0 m)=some (Mv p 0 (m+j),((m+j:Nat):Int),0)
 |0,m,q+1,_,_,_=>by
  rw[Ml,MW,Abw Bb5,YF,oT];rfl
 |j+1,m,q+1,hm,hj,hq=>by
  have hroom:Ml b0 a0 (q+1) (Ly p m (j+1)) ((j+1:Nat):Int) (m:Int) (Mv p 0 m)=MU (Ml b0 a0 q) b0 a0 (Ly p m (j+1)) ((j+1:Nat):Int) (m:Int) (room p 0 m):=by
   rw[Ml,MW,Acu Bb5,wM m F0,room];by_cases h0:m %8=0
   ·rw[Acu (by rw[Bl,h0];rfl),By Bcf,Aa,Acu h0]
   ·rw[Abw Bbs,Abw h0]
  have hl:Ah (Ac (room p 0 m)) 1=((m/8:Nat):Int):=by
   rw[Ac,Lh,Ca];omega
  have e2:Dt ((j+1:Nat):Int) (Ah (8:Int) ((m %8:Nat):Int))=((min (j+1) (8-m %8):Nat):Int):=by
   rw[Yd,Ca];omega
  rw[hroom,MU,qT,wM m F0,e2,hl];generalize hT:min (j+1) (8-m %8)=T;have hT1:1<=T:=F0
  have hT8:m %8+T<=8:=F0
  have hg:Aj (room p 0 m) ((m/8:Nat):Int)=some (UInt8.ofNat (Bo p (0+8*(m/8)) (m %8))):=by
   rw[Cr Bb8,jR]
  have z1:(GI.toZ ((m %8:Nat):Int)).toNat=m %8:=rfl;have z2:(GI.toZ ((T:Nat):Int)).toNat=T:=rfl;have hlt:=sK p (0+8*(m/8)) (m %8+T) F0;have hadd:=IM p (m %8) T (0+8*(m/8));rw[show 0+8*(m/8)+m %8=m by omega]at hadd;have hbyte:(Ae (Dr (Ly p m (j+1)) (Ah (Ct (1:UInt64) T) (1:UInt64))):UInt8)=UInt8.ofNat (Bo p m T):=by
   rw[PU,Axu _ F0,Acq p m (j+1) T F0 hj]
  have hnew:qO (UInt8.ofNat (Bo p (0+8*(m/8)) (m %8))) (Ct (UInt8.ofNat (Bo p m T)) (m %8))=UInt8.ofNat (Bo p (0+8*(m/8)) (m %8+T)):=by
   rw[or8 (Lt _ _ _) Bcg F0,hadd,Ak8 (2^(m %8))]
  rw[hg,z1,z2,hbyte];simp only[Aa];rw[Bq Bbv,Aa,Bq Bbr,Aa,hnew,To _ Bb8,Aa,rS p 0 m T hT1 hT8,sF,qS,wM m F0,e2,hT,Bq Bbv,Aa,z2,Aa7 p m (j+1) T F0 hj,Ca,Ag];have ih:=Ab8 p b0 a0 (j+1-T) (m+T) q F0 F0 F0;rw[show m+T+(j+1-T)=m+(j+1) by omega]at ih;rw[<-ih,show((j+1:Nat):Int)-((T:Nat):Int)=((j+1-T:Nat):Int) by omega,show(m:Int)+((T:Nat):Int)=((m+T:Nat):Int) by omega]
theorem put_eq(p:LB)(m j:Nat)(hm:m+j<=300000)(hj:j<=63):PN (Mv p 0 m) (m:Int) (Ly p m j) (j:Int)=some (Mv p 0 (m+j),((m+j:Nat):Int),0):=by
 have hz:Bc (Bv (Ly p m j) (GI.toZ (j:Int)).toNat) 0=false:=by
  have:Bv (Ly p m j) j=0:=by
   apply UInt64.toNat_inj.1;rw[DV,Tv p m j F0,Ayd (Lt p j m)];rfl
  rw[show(GI.toZ (j:Int)).toNat=j from rfl,this];rfl
 have hl:=Hc p 0 m;have htw:VO (Mv p 0 m) (m:Int)=some (Mv p 0 m,(m:Int)):=by
  rw[VO,Bb,By F6,Aa,Aa];rfl
 rw[PN,eP,Uj (pP p 0 m F0),Aa,Abw F5,Abw Bbu,Acu F7,Bq Bbv,Aa,hz,Abw F5,Ag,Abw Bbp,htw,Aa];exact Ab8 p _ _ j m Ap hm F0 F9
theorem At.cat{p:LB}{a:Nat}{c d:List Bool}(h:At p a (c++d)):At p a c/\At p (a+c.length) d:=⟨h.left,h.right⟩
theorem Ack(p:LB):∀(q a:Nat),At p a (List.replicate q true)->Bo p a q+1=2^q
 |0,a,_=>by rw[Bo]
 |q+1,a,h=>by
  rw[Axr]at h;obtain⟨h0,h1⟩:=h.cons;have:=Ack p q (a+1) h1;rw[Bo,h0,Atx,Acu rfl];omega
theorem sT{x:UInt64}{p:LB}{m n:Nat}(hn:n<=63)(h:x.toNat=Bo p m n):x=Ly p m n:=by
 apply UInt64.toNat_inj.1;rw[h,Tv p m n F0]
theorem RY{n:Nat}(h:n<2^64):(UInt64.ofNat n).toNat=n:=by rw[Aii];exact Adk h
theorem S2{p:LB}{m q:Nat}(hq:q<=48)(hm:m+48<=300000)(h:At p m (List.replicate q true++(if q=48 then []else [false]))):
  SM (Mv p 0 m) (m:Int) (q:Int)=some (Mv p 0 (m+min (q+1) 48),((m+min (q+1) 48:Nat):Int),0):=by
 have h1:=h.left;have hv:=Ack p q m h1;have Bb7:2^q<=2^48:=Ae8 F0 hq;have hval:Bo p m (min (q+1) 48)+1=2^q:=by
  by_cases h48:q=48
  ·subst h48;exact hv
  ·rw[Abw h48]at h;have h2:=h.right;rw[Au7]at h2;have h0:=h2.cons.1;rw[show min (q+1) 48=q+1 by omega,jL,h0];simpa using hv
 have hx:(Ah (Ct (1:UInt64) q) (1:UInt64)).toNat=Bo p m (min (q+1) 48):=by
  have e1:(Ct (1:UInt64) q).toNat=2^q:=by rw[QP];show 1*2^q %_=_;rw[Avd];exact Adk F0
  have hpos:0<2^q:=Ayw F0;rw[rV,UInt64.toNat_sub_of_le _ _ (by rw[UInt64.le_iff_toNat_le,e1];exact hpos),e1]
  show 2^q-1=_;omega
 rw[SM,Uj (pP p 0 m F0),Aa,Abw F5,ZV,Abw Bbu,Aa];simp only;have e2:Dt (Ad (q:Int) 1) 48=((min (q+1) 48:Nat):Int):=by rw[Yd,Ag];omega
 rw[Abw F5,Bq Bbv,Aa,e2,show(GI.toZ (q:Int)).toNat=q from rfl,sT F0 hx,put_eq p m _ F0 F0,Aa]
theorem Aml{p:LB}{m l:Nat}{v:UInt32}(hl:l<=24)(hm:m+81<=300000)(h:At p m (pQ l v.toNat)):
  ZA (Mv p 0 m) (m:Int) v (l:Int)=some (Mv p 0 (m+(pQ l v.toNat).length),((m+(pQ l v.toNat).length:Nat):Int),0):=by
 have hvl:=v.toNat_lt;have hz:(GI.toZ (l:Int)).toNat=l:=rfl;have hlp:2^l<=2^24:=Ae8 F0 hl;have hpos:0<2^l:=Ayw F0;have Az3:Ur v (l:Int)=some (decide (48<=v.toNat/2^l)):=by
  rw[Ur,Bq Bbv,Aa,hz,Agh,HS];rfl
 rw[ZA,lH,Uj (pP p 0 m F0),Aa,Abw F5,Abw Bbu,Bq Bbv,Aa,Aa,Az3,Aa];rw[pQ]at h⊢;by_cases h48:48<=v.toNat/2^l
 ·rw[Acu h48]at h⊢;obtain⟨h1,h2⟩:=h.cat;rw[Au7]at h2;have hval:=jJ p 32 (m+48) v.toNat h2;rw[Adk F0]at hval;have hu:=S2 (p:=p) (m:=m) (q:=48) (Aqm _) F0 (by rw[Acu rfl,Ar5];exact h1);rw[Acu (by simpa using h48),TY,UL,show(48:Int)=((48:Nat):Int)from rfl,hu,Aa];simp only;rw[Abw F5,Cx,sT (x:=UInt64.ofNat v.toNat) (p:=p) (m:=m+48) (n:=32) F0 (by rw[RY F0,hval]),show(32:Int)=((32:Nat):Int)from rfl,show m+min (48+1) 48=m+48 by omega,put_eq p (m+48) 32 F0 F0,Aa,Ac2,Au7,Zj,At3]
 ·rw[Abw h48]at h⊢;generalize hq:v.toNat/2^l=q at*
  obtain⟨h1,h2⟩:=h.cat;rw[Au7]at h2;obtain⟨h3,h4⟩:=h2.cons;have hval:=jJ p l (m+q+1) (v.toNat %2^l) h4;rw[Nat.mod_mod]at hval;have hqa:At p m (List.replicate q true++[false]):=by
   have:List.replicate q true++(false::eA (v.toNat %2^l) l)=(List.replicate q true++[false])++eA (v.toNat %2^l) l:=by simp
   rw[this]at h;exact h.left
  have hu:=S2 (p:=p) (m:=m) (q:=q) F0 F0 (by rw[Abw F0];exact hqa);have hgq:(Ae (Bv v l):Int)=(q:Int):=by rw[zF,HS,hq]
  have hrest:(Ae (Dr v (Ah (Ct (1:UInt32) l) 1)):UInt64)=Ly p (m+q+1) l:=by
   apply sT F0;have e1:(Ct (1:UInt32) l).toNat=2^l:=by rw[dQ];show 1*2^l %_=_;rw[Avd];exact Adk F0
   have e2:(Ah (Ct (1:UInt32) l) (1:UInt32)).toNat=2^l-1:=by
    rw[B9,UInt32.toNat_sub_of_le _ _ (by rw[UInt32.le_iff_toNat_le,e1];exact hpos),e1];rfl
   have e3:(Dr v (Ah (Ct (1:UInt32) l) 1)).toNat=v.toNat %2^l:=by
    rw[E8,UInt32.toNat_and,e2,Ayy]
   rw[Cx,RY (by rw[e3];have:=Axq v.toNat hpos;omega),e3,hval]
  rw[Abw (by simpa using h48),TY,UL,hz,hgq,hu,Aa];simp only;rw[Abw F5,hrest,show m+min (q+1) 48=m+q+1 by omega,put_eq p (m+q+1) l F0 F0,Aa,Ac2,Au7,Am6,Zj,show m+q+1+l=m+(q+(l+1)) by omega]
theorem Aor{k l:Nat}{s t:UInt64}(h:okD k l s t)(v:UInt32):YS [] 0 (k:Int) (l:Int) s t v=
  some (Kk (DM k l v),((DM k l v).length:Int),((kS k (Sr s (yL v)):Nat):Int),((lK l t k v:Nat):Int),Sr s (yL v),lT t k v,0):=by
 obtain⟨h1,h2,h3,h4⟩:=h;have hvl:=v.toNat_lt;have hAt:At (Kk (DM k l v)) 0 (DM k l v):=λi hi=>by rw[Axk,NI]
 have hlen:=jE v h1 h2;have hfull:Mv (Kk (DM k l v)) 0 (DM k l v).length=Kk (DM k l v):=by
  apply zf (by rw[Hc,Ua]);intro i hi;rw[zP,Axk,NI];by_cases hlt:i<(DM k l v).length
  ·rw[Acu hlt]
  ·rw[Abw hlt,Aev F0]
 generalize hP:Kk (DM k l v)=P at*
 have h0:Mv P 0 0=[]:=rfl;have Ayn:∀(x:Int) (y:UInt64) (aj ai:Int),Wo v (k:Int) s ai P x y=some (P,ai,((kS k (Sr s (yL v)):Nat):Int),x,Sr s (yL v),y,0):=by
  intro x y aj ai;rw[Wo,TG,Cx,US,Ah0 k h1];rw[mM,TU,QI,EC,Cx,US];rfl
 have hp7:∀ai:Int,TX v (k:Int) (l:Int) s t 0 ai P=some (P,ai,((kS k (Sr s (yL v)):Nat):Int),((lK l t k v:Nat):Int),Sr s (yL v),lT t k v,0):=by
  intro ai;rw[TX,TE,Abw F5,D7 k l s t h1,Aa];by_cases hv:v.toNat<2^k
  ·rw[Acu hv];simp only;rw[Abw Bce,Ayn _ _ 0,lK,Acu hv,lT,Acu hv]
  ·rw[Abw hv];simp only;rw[Acu Bb4,Cx,US,Ah0 l h2 _ (λx=>Wo v (k:Int) s ai P x (Sr t (UInt64.ofNat (bG k v).toNat))),Ayn _ _ 0,lK,Abw hv,lT,Abw hv];rfl
 rw[YS,UM,show Hp [] 0=some 0 from rfl,Aa,Abw F5,Alf ⟨h1,h2,h3,h4⟩,Aa,Abw F5,lM,UE,D7 k l s t h1,Aa];have hput:=put_eq P 0 1 F0 F0;rw[h0,Axk,show((0:Nat):Int)=0 from rfl,show((1:Nat):Int)=1 from rfl]at hput;by_cases hv:v.toNat<2^k
 ·have hc:DM k l v=false::eA v.toNat k:=by rw[DM,Acu hv]
  rw[hc]at hAt hfull;obtain⟨b0,b1⟩:=hAt.cons;have hval:=jJ P k 1 v.toNat b1;rw[Adk hv]at hval;have hz:(Ae (0:Int):UInt64)=Ly P 0 1:=sT F0 (by rw[qF,b0];rfl);rw[Acu hv];simp only;rw[hz,hput,Aa];simp only;rw[Acu F5,Cx,sT (x:=UInt64.ofNat v.toNat) (p:=P) (m:=1) (n:=k) F0 (by rw[RY F0,hval]),show(1:Int)=((1:Nat):Int)from rfl,put_eq P 1 k F0 F0,Aa];simp only;rw[Am6,Zj,Baf k 1]at hfull;rw[hfull,hp7,hc,Am6,Zj,Baf k 1]
 ·have hc:DM k l v=true::pQ l (v.toNat-2^k):=by rw[DM,Abw hv]
  rw[hc]at hAt hfull;obtain⟨b0,b1⟩:=hAt.cons;have hsub:=Nat.sub_le v.toNat (2^k);have hlv:(bG k v).toNat=v.toNat-2^k:=by rw[bG,RV F0]
  have hz:(Ae (1:Int):UInt64)=Ly P 0 1:=sT F0 (by rw[qF,b0];rfl);have hr:=Aml (p:=P) (m:=1) (l:=l) (v:=bG k v) h2 F0 (by rw[hlv];exact b1);rw[hlv,show((1:Nat):Int)=1 from rfl]at hr;rw[Abw hv];simp only;rw[hz,hput,Aa];simp only;rw[Abw F5,Acu F5,hr,Aa];simp only;rw[Am6,Baf _ 1]at hfull;rw[hfull,hp7,hc,Am6,Baf _ 1]
section
variable (ch:Nat) (x:LX)
theorem RS{at' i:Nat}(ha:at' %ch=0)(hi:i<ch)(h:at'+i<x.length):(mx ch x).getD (at'+i) 0=mxV (λi=>x.getD (at'+i) 0) ch i:=by
 have hb:(at'+i) %ch=i:=by rw[Nat.add_mod,ha,Axk,Nat.mod_mod,Adk hi]
 rw[Aus h,hb,show at'+i-i=at' by omega]
theorem Acf(bk:Int->LX->Option (LX×Int))(at':Nat)(h1:1<=ch)(h6:ch<=6)(hm:at' %ch=0)(hl:at'+ch<=x.length)(hl2:x.length<=4000):∀(j i q:Nat),i+j=ch-1->j<q->
  AG bk (ch:Int) (at':Int) q (i:Int) (YT (λk=>decide (k<at'+i)) (mx ch x) x)=bk ((at'+ch:Nat):Int) (YT (λk=>decide (k<at'+ch)) (mx ch x) x)
 |j,i,0,_,h=>absurd h (Aw9 _)
 |0,i,q+1,hi,_=>by
  have hlen:=eS ch x;have e1:Ah (Ad (at':Int) (ch:Int)-(at':Int)) 1=((ch-1:Nat):Int):=by rw[Ag,Ca];omega
  have e2:Ad (at':Int) (ch:Int)-(at':Int)=(ch:Int):=by rw[Ag];omega
  have e4:Ad (at':Int) (ch:Int)=((at'+ch:Nat):Int):=by rw[Ag];omega
  rw[AG,RF,e1,Abw F7,dX,xE,e1,e2];obtain rfl:i=ch-1:=F0
  by_cases h2:1<ch
  ·have e3:Ah ((ch-1:Nat):Int) 1=((ch-2:Nat):Int):=by rw[Ca];omega
   have hv:Ah (x.getD (at'+(ch-1)) 0) (Bf ((mx ch x).getD (at'+(ch-2)) 0) 2)=(mx ch x).getD (at'+(ch-1)) 0:=by
    rw[RS ch x hm F0 F0,RS ch x hm F0 F0,mxV,mxV,Acu F0,Abw F0,Acu h2,OT,show ch-2+1=ch-1 by omega]
   rw[Acu Bbp,lV F0,Aa,e3,lV F0,Aa,
    show(at':Int)+((ch-1:Nat):Int)=((at'+(ch-1):Nat):Int) by omega,show(at':Int)+((ch-2:Nat):Int)=((at'+(ch-2):Nat):Int) by omega,
    Xq F0,Aa,Xq F0,Aa,Aa,Abw Bbn,Acu F6,hv,ZZ F0,Aa,gY,eN,e4]
   congr 1;apply Qy;intro k _;rw[Apc];simp;omega
  ·obtain rfl:ch=1:=F0
   have hlast:x.getD at' 0=(mx 1 x).getD at' 0:=by
    have:=RS 1 x (i:=0) hm F0 F0;rw[Ayq]at this;rw[this,mxV,Abw F0,Abw F0];rfl
   rw[Abw Bb5,gY,eN,e4];congr 1;apply Awj (by rw[HG,HG]);intro k g1 g2;rw[Pg,Pg];by_cases hk:k<at'
   ·rw[Acu F6,Acu F6]
   ·by_cases hk2:k=at'
    ·subst hk2;rw[Abw Bbn,Acu Bbn];exact hlast
    ·rw[Abw F6,Abw F6]
 |j+1,i,q+1,hi,hq=>by
  have hlen:=eS ch x;have e1:Ah (Ad (at':Int) (ch:Int)-(at':Int)) 1=((ch-1:Nat):Int):=by rw[Ag,Ca];omega
  have e2:Ad (at':Int) (ch:Int)-(at':Int)=(ch:Int):=by rw[Ag];omega
  have e3:Ad (i:Int) 1=((i+1:Nat):Int):=by rw[Ag];omega
  have hv:Ah (x.getD (at'+(i+1)) 0) (x.getD (at'+i) 0)=(mx ch x).getD (at'+i) 0:=by
   rw[RS ch x hm F0 F0,mxV,Acu F0,OT]
  rw[AG,RF,e1,Acu F7,e2,e3,lV F0,Aa,lV F0,Aa,
   show(at':Int)+((i+1:Nat):Int)=((at'+(i+1):Nat):Int) by omega,show(at':Int)+(i:Int)=((at'+i:Nat):Int) by omega,
   Xq F0,Aa,Xq F0,Aa,Aa,Abw Bbn,Abw Bbn,hv,ZZ F0,Aa]
  have ih:=Acf bk at' h1 h6 hm hl hl2 j (i+1) q F0 F0;rw[<-ih];congr 1;apply Qy;intro k _;rw[Apc];simp;omega
theorem vJ(h1:1<=ch)(h6:ch<=6)(hm:x.length %ch=0)(hl2:x.length<=4000):∀(j at' q:Nat),at' %ch=0->at'<=x.length->x.length-at'<=j->j<q->
  AJ (ch:Int) q (at':Int) (YT (λk=>decide (k<at')) (mx ch x) x)=some (mx ch x,0)
 |j,at',0,_,_,_,h=>absurd h (Aw9 _)
 |j,at',q+1,ha,hle,hj,hq=>by
  have hlen:=eS ch x;have hl:Ac (YT (λk=>decide (k<at')) (mx ch x) x)=(x.length:Int):=by rw[Ac,HG,hlen]
  rw[AJ,eF,hl];by_cases h:at'<x.length
  ·have hb:=K8 ha hm h;obtain⟨j,rfl⟩:∃k,j=k+1:=⟨j-1,F0⟩;have e4:Ad (at':Int) (ch:Int)=((at'+ch:Nat):Int):=by rw[Ag];omega
   have hi:=Acf ch x (AJ (ch:Int) q) at' h1 h6 ha hb hl2 (ch-1) 0 Ap F0 F9;have hrest:=vJ h1 h6 hm hl2 j (at'+ch) q (by rw[Bay,ha]) hb F0 F0;rw[Ayq]at hi;rw[Acu F7,show jS (x.length:Int) (at':Int) (Ad (at':Int) (ch:Int))=some () by rw[e4,jS,lV];omega,Aa];exact Ayp hi hrest
  ·rw[Abw F7,kA (λk hk=>by simp;omega)];rfl
theorem Akk(h1:1<=ch)(h6:ch<=6)(hm:x.length %ch=0)(hl2:x.length<=4000):yZ (ch:Int) x=some (mx ch x,0):=by
 have hlen:=eS ch x;have h:=vJ ch x h1 h6 hm hl2 x.length 0 Ap Bbn F0 F0 F9;rw[yZ,nN,Aak ch x h1 h6 hm hl2,Aa,Abw Bbo,Ci,By F6,Aa,Aa,Awd,vM];rw[eD hlen.symm (λk _=>by simp)]at h;exact h
end
theorem Am7(a:Int32):jN a=some (rL a):=by
 have h:=Wc a;have hc:(Ae a:UInt32)=UInt32.ofNat (a.toInt %4294967296).toNat:=rfl;have hs:(Bv a (GI.toZ (31:UInt64)).toNat)=if 0<=a.toInt then(0:Int32)else -1:=by
  have e:Bv a 31=Int32.ofInt (a.toInt.fdiv (2^31)):=rfl;rw[show(GI.toZ (31:UInt64)).toNat=31 from rfl,e];by_cases h0:0<=a.toInt
  ·rw[Acu h0,show a.toInt.fdiv (2^31)=0 by rw[Apm _ F5];omega];rfl
  ·rw[Abw h0,show a.toInt.fdiv (2^31)= -1 by rw[Apm _ F5];omega];rfl
 rw[jN,hs,hc,rL];congr 1;have hsh:(Ct (UInt32.ofNat (a.toInt %4294967296).toNat) (GI.toZ (1:UInt64)).toNat).toNat=2*(a.toInt %4294967296).toNat %4294967296:=by
  rw[show(GI.toZ (1:UInt64)).toNat=1 from rfl,dQ,Aky,Adk (show(a.toInt %4294967296).toNat<2^32 by omega)];omega
 by_cases h0:0<=a.toInt
 ·rw[Acu h0,Acu h0,show(Ae (0:Int32):UInt32)=0 from rfl];apply UInt32.toNat_inj.1;rw[show∀z:UInt32,Tu z (0:UInt32)=z^^^0 from λz=>by rw[UW],Ba8,hsh,Aky,Adk (show 2*a.toInt.toNat<2^32 by omega)]
  show _^^^0=_;rw[Nat.xor_zero];omega
 ·rw[Abw h0,Abw h0,show(Ae (-1:Int32):UInt32)=4294967295 from rfl];apply UInt32.toNat_inj.1;rw[show∀z:UInt32,Tu z (4294967295:UInt32)=z^^^4294967295 from λz=>by rw[UW],Ba8,hsh,Aky,Adk (show 2*(-a.toInt-1).toNat+1<2^32 by omega)]
  show _^^^4294967295=_;have key:∀n:Nat,n<4294967296->n^^^4294967295=4294967295-n:=by
   intro n hn;have:=BitVec.toNat_not (x:=BitVec.ofNat 32 n);rw[<-BitVec.xor_allOnes,BitVec.toNat_xor,BitVec.toNat_ofNat,Adk F0]at this;simpa using this
  rw[key _ F0];omega
theorem Al8(h:Bw bits){t p:LX}(hF:OkF (sB bits) t p)(last x:Int32):
  Qv bits last (sB bits) t p x=some (Q2 bits (last,t,p) x,bits,x,sB bits,zM t p (Q2 bits (last,t,p) x),(x-gs (shB bits) last)::p.take 15,0):=by
 rw[Qv,N6 h,Aa,Abw Bbo,Am3 h,Aa];simp only;rw[OT,SZ,Abl hF,Aa];simp only;rw[Abw Bbo,OT,NZ,Abb hF,Aa];simp only;rw[Af1 (s:=sB bits) (t:=zM t p _) (p:=p) ⟨hF.1,DI _ _ _,hF.2.2⟩,Aa,Aa];rfl
theorem Bcb{p:Prop}(h:p:=by rw[Af,Ac,Ac];simp;omega):p:=h
end Go.Pl
namespace Go.Pl
open Go Go.Lv
theorem C4(bits:Int)(ch:Nat)(t x:LX):(Nf bits ch t x).length=x.length:=sj _ _ _ _ _
theorem Amm{bits:Int}{ch:Nat}{t x:LX}{i:Nat}(h:i<x.length):(Nf bits ch t x).getD i 0=rL (Q2 bits (cst bits ch t (Nf bits ch t x) (i %ch) i) ((mx ch x).getD i 0)):=by
 obtain⟨w,hw⟩:=Ahz bits ch t (mx ch x) (x.length-(i+1)) (i+1);rw[show i+1+(x.length-(i+1))=x.length by omega,evl,Atj]at hw;have hli:=sj bits ch t (mx ch x) i;have hw':Nf bits ch t x=_:=hw;have hg:(Nf bits ch t x).getD i 0=rL (Q2 bits (cst bits ch t (evl bits ch t (mx ch x) i) (i %ch) i) ((mx ch x).getD i 0)):=by
  rw[hw',List.getD_eq_getElem?_getD,List.getElem?_append_right F0,hli,Nat.sub_self];rfl
 have hc:cst bits ch t (Nf bits ch t x) (i %ch) i=cst bits ch t (evl bits ch t (mx ch x) i) (i %ch) i:=by rw[hw',Ar3 _ _ _ _ _ _ _ F0]
 rw[hg,hc]
section
variable {bits:Int} {ch:Nat} {t x:LX} (hb:Bw bits) (ht:t.length=16) (h1:1<=ch) (h6:ch<=6) (hx1:1<=x.length) (hx4:x.length<=4000) (hm:x.length %ch=0)
include hb ht h1 h6 hx1 hx4 hm
omit ht in
theorem Auk(hr:inR bits x):GZ (ch:Int) bits x=some 0:=by
 rw[GZ,Anq hb h1 h6,Aa,Abw F5,ZN hb x hx4,X2 hb hx4 hr,Aa,Abw F5,Abw (by rw[Bl,Ac,Bad];omega),Bq Bbt,Aa,Ac,KF,hm,Abw F5]
omit hm in
theorem T5:∀(j i q:Nat),i+j=x.length->j<q->
  Iu (mx ch x) (ch:Int) bits q (i:Int) (cts bits ch t (Nf bits ch t x) i) ((Nf bits ch t x).take i)=some (Nf bits ch t x,0)
 |j,i,0,_,h=>absurd h (Aw9 _)
 |0,i,q+1,hi,_=>by
  have hl:=eS ch x;have hV:=C4 bits ch t x;rw[Iu,Qj,Abw F3,Apn F0];rfl
 |j+1,i,q+1,hi,hq=>by
  have hl:=eS ch x;have hV:=C4 bits ch t x;have hc:i %ch<6:=Ak1 (Axq _ F0) h6;have hok:=uq bits ch ht (Nf bits ch t x) (i %ch) i;have hs:=Ag9 (bits:=bits) (ch:=ch) (t:=t) (v:=Nf bits ch t x) (i:=i) hc rfl;have hg:=Amm (bits:=bits) (ch:=ch) (t:=t) (x:=x) (i:=i) F0;have ih:=T5 j (i+1) q F0 F0;have htk:(Nf bits ch t x).take i++[(Nf bits ch t x).getD i 0]=(Nf bits ch t x).take (i+1):=by
   have:(Nf bits ch t x).getD i 0=(Nf bits ch t x)[i]' F0:=by rw[List.getD_eq_getElem?_getD,List.getElem?_eq_getElem F0];rfl
   rw[this,Mf F0]
  have hfw:=Al8 hb hok (cst bits ch t (Nf bits ch t x) (i %ch) i).1 ((mx ch x).getD i 0);rw[Iu,Qj,Acu F3,g32 F0,Aa,Aa,Bq Bbt,Aa,KF,Ahr hc,Aa,Aa];refine Ayp (congrArg (λo=>Option.bind o _) hfw) ?_;rw[Aa];simp only;rw[Abw F5];have hst:((bits,(mx ch x).getD i 0,(sB bits,zM (cst bits ch t (Nf bits ch t x) (i %ch) i).2.1 (cst bits ch t (Nf bits ch t x) (i %ch) i).2.2 (Q2 bits (cst bits ch t (Nf bits ch t x) (i %ch) i) ((mx ch x).getD i 0)),((mx ch x).getD i 0-gs (shB bits) (cst bits ch t (Nf bits ch t x) (i %ch) i).1)::(cst bits ch t (Nf bits ch t x) (i %ch) i).2.2.take 15,()),()):CL)=toC bits (U5 bits (cst bits ch t (Nf bits ch t x) (i %ch) i) (NU ((Nf bits ch t x).getD i 0))):=by
   rw[hg,Avb,toC,U5,Ai4];simp only;rw[Q2,gQ]
  refine Ayp (congrArg (λo=>Option.bind o _) ((congrArg (λz=>Jm (cts bits ch t (Nf bits ch t x) i) ((i %ch:Nat):Int) z) hst).trans hs)) ?_;rw[Aa,Am7,Aa];have hg2:rL (Q2 bits ((cst bits ch t (Nf bits ch t x) (i %ch) i).1,(cst bits ch t (Nf bits ch t x) (i %ch) i).2.1,(cst bits ch t (Nf bits ch t x) (i %ch) i).2.2) ((mx ch x).getD i 0))=(Nf bits ch t x).getD i 0:=hg.symm;rw[hg2,By (by rw[Ajc];simp;omega),Aa,htk,Ag];exact ih
theorem Ae0(hr:inR bits x):BS (ch:Int) bits t x=some (Nf bits ch t x,0):=by
 have hl:=eS ch x;have h:=T5 hb ht h1 h6 hx1 hx4 x.length 0 Ap F0 F9;have e:Ap=(Ap-7)+1+1+1+1+1+1+1:=by have:=Ao;omega
 have hs:EE (ch:Int) bits t (mx ch x) 0 (List.replicate 6 ((0:Int),(0:Int32),((0:Int),(List.replicate 16 (0:Int32)),(List.replicate 16 (0:Int32)),()),()))=RD (ch:Int) bits (mx ch x) (cts bits ch t (Nf bits ch t x) 0):=by
  rw[EE,e];obtain rfl|rfl|rfl:=hb<;>rfl
 rw[BS,BT,Auk hb h1 h6 hx1 hx4 hm hr,Aa,Abw F5,Akk ch x h1 h6 hm hx4,Aa];simp only;rw[Abw F5];refine Ayp hs ?_;exact h
end
theorem Aex(ch:Nat):CU=some (sts ch []):=by
 have e:Ap=(Ap-7)+1+1+1+1+1+1+1:=by have:=Ao;omega
 rw[CU,BM,SL,e];rfl
theorem Aax(c:List Bool){n:Nat}(h:n<=c.length):Mv (Kk c) 0 n=Kk (c.take n):=by
 have hl:(c.take n).length=n:=by rw[Ajc];omega
 apply zf (by rw[Hc,Ua,hl]);intro i hi;rw[zP,Axk,NI,NI];by_cases hlt:i<n
 ·rw[Acu hlt,tb,tb,List.getD_eq_getElem?_getD,List.getD_eq_getElem?_getD,List.getElem?_take,Acu hlt]
 ·rw[Abw hlt,Aev F0]
theorem Av1(a:UInt8){k:Nat}(hk:k<8):Dr (Bv a k) (1:UInt8)=UInt8.ofNat (a.toNat/2^k %2):=by
 apply UInt8.toNat_inj.1;rw[Af2,UInt8.toNat_and,ug,Ak7]
 show _&&&1=_;rw[Nat.and_one_is_mod];generalize a.toNat/2^k=X;omega
theorem Adg(E code:List Bool)(hE:E.length+code.length<=330000)(bk:Int->List (Int×Int×UInt64×UInt64×Unit)->Int->LB->Be)(V:LU)(b f g:Int)(k:List (Int×Int×UInt64×UInt64×Unit)):∀(j o q:Nat),o+j=code.length->j<q->
  Fb bk V b f (code.length:Int) g k (Kk code) q (o:Int) ((E.length+o:Nat):Int) (Mv (Kk (E++code)) 0 (E.length+o))=bk (Ad g 1) k ((E.length+code.length:Nat):Int) (Kk (E++code))
 |j,o,0,_,h=>absurd h (Aw9 _)
 |0,o,q+1,ho,_=>by
  obtain rfl:o=code.length:=F0
  rw[Fb,Ql,Abw Bbw,Yx,ON,Aax _ Bb3,Apn Bb3]
 |j+1,o,q+1,ho,hq=>by
  generalize hP:Kk (E++code)=P;have hPo:Fo P (E.length+o)=Fo (Kk code) o:=by rw[<-hP,NI,NI,Agc]
  have ih:=Adg E code hE bk V b f g k j (o+1) q F0 F0;rw[hP,<-At3]at ih;generalize hn:E.length+o=n at*
  have hq8:Bf (n:Int) 8=((n/8:Nat):Int):=by rw[show(8:Int)=((8:Nat):Int)from rfl,UG]
  have hr8:Fi (n:Int) 8=((n %8:Nat):Int):=by rw[show(8:Int)=((8:Nat):Int)from rfl,KF]
  have hqo:Bf (o:Int) 8=((o/8:Nat):Int):=by rw[show(8:Int)=((8:Nat):Int)from rfl,UG]
  have hro:Fi (o:Int) 8=((o %8:Nat):Int):=by rw[show(8:Int)=((8:Nat):Int)from rfl,KF]
  have hroom:Fb bk V b f (code.length:Int) g k (Kk code) (q+1) (o:Int) (n:Int) (Mv P 0 n)=Pr (Fb bk V b f (code.length:Int) g k (Kk code) q) (code.length:Int) V g b f k (Kk code) (o:Int) (n:Int) (room P 0 n):=by
   rw[Fb,Ql,Acu F7,hr8,room];by_cases h0:n %8=0
   ·rw[Acu (by rw[Bl,h0];rfl),By Bcf,Aa,Acu h0]
   ·rw[Abw Bbs,Abw h0]
  have hcl:=Ua code;have hgm:Aj (Kk code) ((o/8:Nat):Int)=some ((Kk code).getD (o/8) 0):=by
   rw[Cr,List.getD_eq_getElem?_getD,List.getElem?_eq_getElem F0];rfl
  have hg:Aj (room P 0 n) ((n/8:Nat):Int)=some (UInt8.ofNat (Bo P (0+8*(n/8)) (n %8))):=by
   rw[Cr Bb8,jR]
  have hbit:Dr (Bv ((Kk code).getD (o/8) 0) (o %8)) (1:UInt8)=UInt8.ofNat (Fo P n):=by
   rw[Av1 _ F0,hPo,Fo]
  have hlt:=sK P (0+8*(n/8)) (n %8+1) F0;have hsn:=jL P (0+8*(n/8)) (n %8);rw[show 0+8*(n/8)+n %8=n by omega]at hsn;have hnew:qO (UInt8.ofNat (Bo P (0+8*(n/8)) (n %8))) (Ct (UInt8.ofNat (Fo P n)) (n %8))=UInt8.ofNat (Bo P (0+8*(n/8)) (n %8+1)):=by
   rw[or8 (Lt _ _ _) Bcg F0,hsn,Ak8 (2^(n %8))]
  rw[hroom,Pr,OD,hqo,hro,hq8,hr8,hgm,Aa,Aa,Bq Bbr,Aa,hg,Aa,Bq Bbr,Aa,Aa,Aa,
   show(GI.toZ ((o %8:Nat):Int)).toNat=o %8 from rfl,show(GI.toZ ((n %8:Nat):Int)).toNat=n %8 from rfl,hbit,hnew,To _ Bb8,Aa,rS P 0 n 1 F0 F0,OW,QL,Ag,Ag]
  exact ih
theorem Ay8(l m:LB)(h:l.length+m.length<=1000000):Dm [l,m]=some (l++m):=by
 have hF:Ap=(Ap-3)+1+1+1:=by have:=Ao;omega
 rw[Dm,Lo,Tf];have g0:Aj [l,m] (0:Int)=some l:=rfl;have g1:Aj [l,m] (1:Int)=some m:=rfl;have l2:Ac [l,m]=2:=rfl;have h3:Ep [l,m] []=some (l++m):=by
  rw[Ep,Gv,Gt,hF,Bt,Cq,l2,Acu F5,g0,Aa,By F6,Aa,Awd,show Ad (0:Int) 1=1 by decide,
   Bt,Cq,l2,Acu F5,g1,Aa,By,Aa,show Ad (1:Int) 1=2 by decide,Bt,Cq,l2,Abw F5]
  rfl
 rw[hF,Cb,Cw,l2,Acu F5,g0,Aa,Ag Bbz Bbz,Abw Bcl,show Ad (0:Int) 1=1 by decide,
  Cb,Cw,l2,Acu F5,g1,Aa,Ag Bbz Bbz,Abw Bcb,show Ad (1:Int) 1=2 by decide,
  Cb,Cw,l2,Abw F5,Er,Gw,Abw Bcb,Kt,Gx]
 have z:Ah (0:Int) 0=0:=F5
 have n0:(0:Int)+Ac l+Ac m=((l.length+m.length:Nat):Int):=by simp[Ac]
 rw[z,n0,Ca,Int.sub_zero];by_cases hp:0<l.length+m.length
 ·rw[Acu Bbp,show jS (0:Int) 0 0=some ()from rfl,Aa,M4,Aa,By F6,Aa];rw[show jS (Ac ([]++List.replicate ((l.length+m.length:Nat):Int).toNat (0:UInt8))) 0 0=some () by rw[jS,Bq];simp[Ac];omega,Aa];simp only[ZI,Int.sub_self,Int.toNat_zero,Ban];exact h3
 ·rw[Abw Bbp];exact h3
theorem Ac1(bits:Int)(ch:Nat)(h1:1<=ch)(h6:ch<=6)(V:LU)(hV:V.length<=4000):∀(j i q:Nat),i+j=V.length->j<q->
  Gi V (ch:Int) bits q (i:Int) (sts ch (V.take i)) ((QZ ch V i).length:Int) (Kk (QZ ch V i))=some (Kk (QZ ch V V.length)++Wu (Gd (Kk (QZ ch V V.length))).toNat 4,0)
 |j,i,0,_,h=>absurd h (Aw9 _)
 |0,i,q+1,hi,_=>by
  obtain rfl:i=V.length:=F0
  have hel:=UX ch V V.length;have hpl:=Ua (QZ ch V V.length);have hlt:=(Gd (Kk (QZ ch V V.length))).toNat_lt;rw[Gi,Qb,Abw Bcl,Yk,PO,ng _ F0,Aa];simp only;have e64:(UInt64.ofNat (Gd (Kk (QZ ch V V.length))).toNat).toNat=(Gd (Kk (QZ ch V V.length))).toNat:=RY F0;rw[Abw F5,Cx,show(4:Int)=((4:Nat):Int)from rfl,PT _ 4 F0 F0 (by rw[e64];omega),Aa];simp only;rw[Abw F5,e64,Ay8 _ _ (by rw[Di];omega),Aa]
 |j+1,i,q+1,hi,hq=>by
  have hc:i %ch<6:=Ak1 (Axq _ F0) h6;have hvl:(V.take i).length=i:=by rw[Ajc];omega
  have hel:=UX ch V i;have hk:=Adu ch (V.take i);have hcl:=jE (V.getD i 0) hk.1 hk.2;have ih:=Ac1 bits ch h1 h6 V hV j (i+1) q F0 F0;have hvi:V.getD i 0=V[i]' F0:=by rw[List.getD_eq_getElem?_getD,List.getElem?_eq_getElem F0];rfl
  have htk:V.take i++[V.getD i 0]=V.take (i+1):=by rw[hvi,Mf F0]
  have hst:=mo (ch:=ch) (v:=V.take i) hc;have hset:=Aht (ch:=ch) (v:=V.take i) (V.getD i 0) hc (by rw[hvl]);have Az4:cZ ch (V.take i) (i %ch) (V.take i).length=now ch (V.take i):=As1 (by rw[hvl]);rw[Az4]at hst hset;rw[htk]at hset;have hdp:=Aor (k:=(now ch (V.take i)).1) (l:=(now ch (V.take i)).2.1) (s:=(now ch (V.take i)).2.2.1) (t:=(now ch (V.take i)).2.2.2) (fZ ch (V.take i) _ _) (V.getD i 0);have hpc:=Adg (QZ ch V i) (DM (now ch (V.take i)).1 (now ch (V.take i)).2.1 (V.getD i 0)) F0 (Gi V (ch:Int) bits q) V (ch:Int) bits (i:Int) (sts ch (V.take (i+1))) (DM (now ch (V.take i)).1 (now ch (V.take i)).2.1 (V.getD i 0)).length 0 Ap F0 F9;rw[show(QZ ch V i).length+0=(QZ ch V i).length from rfl,Aax _ Bb3,List.take_left,show((0:Nat):Int)=0 from rfl]at hpc;rw[Gi,Qb,Acu F3,rW F0,Aa,Aa,Bq Bbt,Aa,KF,hst,Aa,Aa];refine Ayp (congrArg (λo=>Option.bind o _) hdp) ?_;rw[Aa];simp only;rw[Abw F5,Aa,Aa];refine Ayp (congrArg (λo=>Option.bind o _) hset) ?_;rw[Aa];refine Ayp hpc ?_;rw[Ag];rw[QZ,Ac2]at ih;exact ih
theorem rB{bits:Int}{ch:Nat}{t x:LX}(hb:Bw bits)(ht:t.length=16)(h1:1<=ch)(h6:ch<=6)(hx1:1<=x.length)(hx4:x.length<=4000)(hm:x.length %ch=0)(hr:inR bits x):
  Jl (ch:Int) bits t x=some (BE bits ch t x,0):=by
 have hV:=C4 bits ch t x;have h:=Ac1 bits ch h1 h6 (Nf bits ch t x) F0 (Nf bits ch t x).length 0 Ap F0 F9;have e0:Kk (QZ ch (Nf bits ch t x) 0)=[]:=by simp[QZ,Kk]
 have e1:((QZ ch (Nf bits ch t x) 0).length:Int)=0:=rfl;rw[e0,e1,Ban,hV,show((0:Nat):Int)=0 from rfl]at h;rw[Jl,BJ,Ae0 hb ht h1 h6 hx1 hx4 hm hr,Aa];simp only;rw[Abw F5,Aex ch,Aa,BE,Aa9,NW];exact h
theorem Adt{r:Nat}(h1:1<=r)(h:r<=1048576):Fw (r:Int)=some ((Ak r:Int),0):=by
 have hv:=K6 h;have e:Az (r:Int) 256=Az 256 (r:Int):=by rw[Fj,Fj];omega
 rw[Fw,Abw Bbu,e];have hq:0<=Bf (Az 256 (r:Int)) 245:=by
  have e2:Az 256 (r:Int)=((256*r:Nat):Int):=by rw[Fj];omega
  rw[e2,show(245:Int)=((245:Nat):Int)from rfl,UG];omega
 rw[oB]at hv;by_cases hz:Bf (Az 256 (r:Int)) 245=0
 ·rw[Acu (by rw[Bl];simpa using hz)];rw[hz]at hv;have:(1:Int)=(Ak r:Int):=F0
  rw[this]
 ·rw[Abw (by rw[Bl];simpa using hz)];have:Bf (Az 256 (r:Int)) 245=(Ak r:Int):=F0
  rw[this]
theorem Bcc{p:Prop}(h:p:=by rw[Bl,Bad];omega):p:=h
end Go.Pl
namespace Go.Pl
open Go Go.Lv
variable{x:LX}{c w r n:Nat}
structure ClipOk (c w r n:Nat) (x:LX):Prop where
 ch:1<=c/\c<=6
 bits:Bw (w:Int)
 rate:1<=r/\r<=1048576
 cnt:1<=n/\n<=4000/c
 len:x.length=n*c
 fr:(n-1)/Ak r+1<=1000
 rng:inR (w:Int) x
theorem ClipOk.le(h:ClipOk c w r n x):n<=4000/\n*c<=4000/\1<=x.length/\x.length<=4000:=by
 have h1:=Ado c h.cnt.2;have h2:=Ay9 4000 c;have h3:=Atp 4000 c;have h4:=Ba7 h.cnt.1 h.ch.1;have h5:=h.len;have:=h.cnt;omega
theorem ClipOk.w3(h:ClipOk c w r n x):w=8\/w=16\/w=24:=by
 have:=h.bits;unfold Bw at this;omega
theorem ClipOk.shape(h:ClipOk c w r n x)(f:Nat)(hf:f=1\/f=2):Lz f c w r n=true:=by
 have:=h.w3;have:=h.ch;have:=h.rate;have:=h.cnt;simp only[Lz,Adp];omega
theorem ClipOk.fit(h:ClipOk c w r n x):cQ c r n=true:=by
 have:=h.cnt;have:=h.fr;simp only[cQ,Adp];omega
theorem Anc{bits:Int}(h:¬Bw bits):Hr bits=some 0/\Mu bits=some (0,0,2):=by
 unfold Bw at h;constructor
 ·rw[Hr,Abw Bcc,Abw Bcc,Abw Bcc]
 ·have e:(geq bits 24)=false:=by rw[Bl,beq_eq_false_iff_ne];omega
  rw[Mu,gE,Abw Bcc,Abw Bcc,e,iO,eW,Abw F5]
theorem Bcn{p:Prop}(h:p:=by simp[Di,JF]):p:=h
end Go.Pl
namespace Go.Pl
open Go Go.Lv
def Adf(f c w r n:Nat):LB:=JF++Wu f 2++Wu c 2++Wu w 2++Wu r 4++Wu n 4
def Abo(f c w r n:Nat):LB:=Adf f c w r n++Wu (Gd (Adf f c w r n)).toNat 4
theorem J4(f c w r n:Nat):(Adf f c w r n).length=18:=by simp only[Adf,JF,Ac2,Di];rfl
theorem O5(f c w r n:Nat):(Abo f c w r n).length=22:=by rw[Abo,Ac2,J4,Di]
theorem M8(b f g h k:Int)(m v w q:Nat)(a:LB)(hm:m<5)(hv:Aj ([b,f,g,h,k]:LI) (m:Int)=some (v:Int))(hw:Aj ([2,2,2,4,4]:LI) (m:Int)=some (w:Int))(h1:1<=w)(h8:w<=8)(hlt:v<256^w)(h64:v<18446744073709551616)(ha:a.length<=100):
  Js b f g h k (q+1) (m:Int) a=Js b f g h k q ((m+1:Nat):Int) (a++Wu v w):=by
 have e64:(UInt64.ofNat v).toNat=v:=RY F0;have hi1:Ad (m:Int) 1=((m+1:Nat):Int):=by rw[Ag];omega
 rw[Js,Xt,Acu F7,hv,Aa,hw,Aa,Us,PT _ w h1 h8 (by rw[e64];exact hlt),Aa];simp only;rw[By (by rw[Di];omega),Aa,hi1,e64]
theorem tq{f c w r n:Nat}(h1:Lz f c w r n=true)(h2:cQ c r n=true):CR (f:Int) (c:Int) (w:Int) (r:Int) (n:Int)=some (Abo f c w r n,0):=by
 have hs:(f=1\/f=2)/\ (1<=c/\c<=6)/\ (w=8\/w=16\/w=24)/\ (1<=r/\r<=1048576)/\1<=n:=by simpa only[Lz,Adp]using h1
 have hn:n<=4000:=by
  simp only[cQ,Adp]at h2;have:=Atp 4000 c;omega
 have hck:AP (f:Int) (c:Int) (w:Int) (r:Int) (n:Int)=some 0:=by
  rw[AP,zk,Aa,h1,Abw F5,Ajd h1,Aa,h2,Abw F5]
 have hF:Ap=(Ap-6)+1+1+1+1+1+1:=by have:=Ao;omega
 have hlt:=(Gd (Adf f c w r n)).toNat_lt;have e64:(UInt64.ofNat (Gd (Adf f c w r n)).toNat).toNat=(Gd (Adf f c w r n)).toNat:=RY F0;have hfin:Xv (Adf f c w r n)=some (Abo f c w r n,0):=by
  rw[Xv,bA,ng _ (by rw[J4];omega),Aa];simp only;rw[Cx,show(4:Int)=((4:Nat):Int)from rfl,PT _ 4 F0 F0 (by rw[e64];omega),Aa];simp only;rw[By (by rw[J4,Di];omega),Aa,e64];rfl
 rw[CR,KZ,hck,Aa,Abw F5,bM,hF];have s0:=M8 (f:Int) (c:Int) (w:Int) (r:Int) (n:Int) 0 f 2 ((Ap-6)+1+1+1+1+1) JF F0 rfl rfl F0 F0 F0 F0 F5;have s1:=M8 (f:Int) (c:Int) (w:Int) (r:Int) (n:Int) 1 c 2 ((Ap-6)+1+1+1+1) (JF++Wu f 2) F0 rfl rfl F0 F0 F0 F0 Bcn;have s2:=M8 (f:Int) (c:Int) (w:Int) (r:Int) (n:Int) 2 w 2 ((Ap-6)+1+1+1) (JF++Wu f 2++Wu c 2) F0 rfl rfl F0 F0 F0 F0 Bcn;have s3:=M8 (f:Int) (c:Int) (w:Int) (r:Int) (n:Int) 3 r 4 ((Ap-6)+1+1) (JF++Wu f 2++Wu c 2++Wu w 2) F0 rfl rfl F0 F0 F0 F0 Bcn;have s4:=M8 (f:Int) (c:Int) (w:Int) (r:Int) (n:Int) 4 n 4 ((Ap-6)+1) (JF++Wu f 2++Wu c 2++Wu w 2++Wu r 4) F0 rfl rfl F0 F0 F0 F0 Bcn;refine s0.trans (s1.trans (s2.trans (s3.trans (s4.trans ?_))));rw[Js,Xt,Abw F5];exact hfin
def xG(l:LI):LB:=l.flatMap λx=>Wu x.toNat 4
def Ajv(l:LI):LB:=xG l++Wu (Gd (xG l)).toNat 4
theorem oV(l:LI):(xG l).length=4*l.length:=by
 induction l with
 |nil=>rfl
 |cons x l ih=>rw[xG,List.flatMap_cons,Ac2,Di,show(l.flatMap λx=>Wu x.toNat 4)=xG l from rfl,ih,Am6];omega
theorem Ab1(l:LI):(Ajv l).length=4*l.length+4:=by rw[Ajv,Ac2,oV,Di]
theorem Ai5(l:LI)(x:Int):xG (l++[x])=xG l++Wu x.toNat 4:=by simp[xG]
theorem wQ(l:LI)(hl:l.length<=1000)(h5:∀x∈l,5<=x/\x<=100000):∀(j i q:Nat),i+j=l.length->j<q->Nw l q (i:Int) (xG (l.take i))=some (Ajv l,0)
 |j,i,0,_,h=>absurd h (Aw9 _)
 |0,i,q+1,hi,_=>by
  have hlt:=(Gd (xG l)).toNat_lt;have e64:(UInt64.ofNat (Gd (xG l)).toNat).toNat=(Gd (xG l)).toNat:=RY F0;rw[Nw,DW,Abw F3,Apn F0,KH,bB,ng _ (by rw[oV];omega),Aa];simp only;rw[Cx,show(4:Int)=((4:Nat):Int)from rfl,PT _ 4 F0 F0 (by rw[e64];omega),Aa];simp only;rw[By (by rw[oV,Di];omega),Aa,e64];rfl
 |j+1,i,q+1,hi,hq=>by
  have ih:=wQ l hl h5 j (i+1) q F0 F0;obtain⟨x5,x6⟩:=h5 l[i] (Awc _);obtain⟨v,hv⟩:=Alg (show 0<=l[i] by omega);have e64:(UInt64.ofNat v).toNat=v:=RY F0;have hi1:Ad (i:Int) 1=((i+1:Nat):Int):=by rw[Ag];omega
  rw[Nw,DW,Acu F3,Cr,Aa,hv,Us,show(4:Int)=((4:Nat):Int)from rfl,PT _ 4 F0 F0 (by rw[e64];omega),Aa];simp only;rw[By (by rw[oV,Di,Ajc];omega),Aa,KO,bV,hi1,e64];rw[Mf F0,Ai5,hv,Ak3]at ih;exact ih
theorem Adc(l:LI):AI l=some (if yC l=true then(Ajv l,0)else([],8)):=by
 rw[AI,OK,zE,Aa];by_cases h:yC l=true
 ·rw[Acu h,Acu h,Abw F5];simp only[yC,Adn,Adp]at h;obtain⟨⟨h1,h2⟩,h3⟩:=h;have h4:=(pz l 100000 F0).1 h3;have h6:=Alr h4.1;have hl:=wQ l h2 (λx hx=>⟨h4.1 x hx,by have:=h6 x hx;omega⟩) l.length 0 Ap F0 F9;exact hl
 ·rw[Abw h,Abw h,Acu F5]
def Gb(c:Nat):LX->LI->List LX
 |_,[]=>[]
 |x,m::l=>x.take (m.toNat*c)::Gb c (x.drop (m.toNat*c)) l
theorem QQ(c:Nat):∀(l:LI) (x:LX),(Gb c x l).length=l.length
 |[],x=>rfl
 |m::l,x=>by rw[Gb,Am6,Am6,QQ c l]
theorem wF(c:Nat):∀(l:LI) (x:LX),(∀m∈l,0<=m)->x.length=l.sum.toNat*c-> (Gb c x l).flatten=x
 |[],x,_,h=>by
  have:x=[]:=Auh (by simpa using h);rw[this];rfl
 |m::l,x,h0,h=>by
  have hm:=h0 m Av3;have hl:0<=l.sum:=by
   have:∀l:LI,(∀m∈l,0<=m)->0<=l.sum:=by
    intro l
    induction l with
    |nil=>intro _;simp
    |cons a l ih=>intro h;have:=ih (λm hm=>h m (Ak6 _ hm));have:=h a Av3;rw[Aw4];omega
   exact this l λm hm=>h0 m (Ak6 _ hm)
  rw[Aw4,show(m+l.sum).toNat=m.toNat+l.sum.toNat by omega,Ajz]at h;have ih:=wF c l (x.drop (m.toNat*c)) (λm hm=>h0 m (Ak6 _ hm)) Bci;rw[Gb,Bac,ih,Ayr]
theorem XT(c:Nat)(h1:1<=c):∀(l:LI) (x:LX),(∀m∈l,1<=m)->x.length=l.sum.toNat*c->∀y∈Gb c x l,1<=y.length/\y.length<=x.length/\y.length %c=0/\∀v∈y,v∈x
 |[],x,_,_=>λy hy=>by simp[Gb]at hy
 |m::l,x,hm,hx=>by
  have hm1:=hm m Av3;have hl:0<=l.sum:=by
   have:∀l:LI,(∀m∈l,1<=m)->0<=l.sum:=by
    intro l
    induction l with
    |nil=>intro _;simp
    |cons a l ih=>intro h;have:=ih (λm hm=>h m (Ak6 _ hm));have:=h a Av3;rw[Aw4];omega
   exact this l λm hm'=>hm m (Ak6 _ hm')
  rw[Aw4,show(m+l.sum).toNat=m.toNat+l.sum.toNat by omega,Ajz]at hx;have hpos:1<=m.toNat*c:=Ba7 F0 h1;intro y hy;rw[Gb,Bbj]at hy;rcases hy with rfl|hy
  ·have hlen:(x.take (m.toNat*c)).length=m.toNat*c:=by rw[Ajc];omega
   rw[hlen];exact⟨hpos,F0,Ayc _ _,λv hv=>List.mem_of_mem_take hv⟩
  ·obtain⟨a1,a2,a3,a4⟩:=XT c h1 l (x.drop (m.toNat*c)) (λm hm'=>hm m (Ak6 _ hm')) Bci y hy;rw[Apl]at a2;exact⟨a1,F0,a3,λv hv=>Azg (a4 v hv)⟩
theorem B0(bits:Int)(ch:Nat)(t x:LX)(h0:1<=x.length)(h4:x.length<=4000):5<= (BE bits ch t x).length/\ (BE bits ch t x).length<=15*x.length:=by
 have h5:=Aa3 bits ch t x h0 h4;have h:=UX ch (Nf bits ch t x) x.length;refine⟨h5.1,?_⟩;rw[BE,Ac2,Di,Aa9,Ua];omega
def Pc(fs:List LB):LI:=fs.map λf=>(f.length:Int)
theorem FW(fs:List LB):(Pc fs).length=fs.length:=by rw[Pc,List.length_map]
theorem D2:∀fs:List LB,(Pc fs).sum=(fs.flatten.length:Int)
 |[]=>rfl
 |f::fs=>by rw[Pc,Awm,Aw4,Bac,Ac2,show(fs.map λf=>(f.length:Int))=Pc fs from rfl,D2 fs];omega
theorem Alb(bits:Int)(ch:Nat)(t:LX):∀ys:List LX,(∀y∈ys,1<=y.length/\y.length<=4000)-> ((ys.map (BE bits ch t)).flatten).length<=15*ys.flatten.length
 |[],_=>by simp
 |y::ys,h=>by
  have ih:=Alb bits ch t ys λy hy=>h y (Ak6 _ hy);obtain⟨h1,h4⟩:=h y Av3;have:=(B0 bits ch t y h1 h4).2;rw[Awm,Bac,Bac,Ac2,Ac2];omega
def VJ(p:LB):Nat:=if p=[]then 1 else 2
def Q1(p:LB):LB:=if p=[]then []else Wu (RC p).toNat 8
theorem Anx(p:LB):VJ p=1\/VJ p=2:=by unfold VJ;split<;>simp
theorem Ac8(p:LB):(Q1 p).length=if VJ p=2 then 8 else 0:=by
 unfold Q1 VJ;by_cases h:p=[]
 ·rw[Acu h,Acu h];rfl
 ·rw[Abw h,Abw h,Di];rfl
def rE(c r n:Nat)(x:LX):List LX:=Gb c x (Cv (Ak r) n)
def tF(c w r n:Nat)(x:LX)(p:LB):List LB:=(rE c r n x).map (BE (w:Int) c (Ox p))
def lN(c w r n:Nat)(x:LX)(p:LB):LB:=Abo (VJ p) c w r n++(Q1 p++(Ajv (Pc (tF c w r n x p))++(tF c w r n x p).flatten))
theorem JW{g n:Nat}(hg:1<=g)(h1:1<=n):∀m∈Cv g n,1<=m:=by
 intro m hm;rw[Cv,List.mem_append,List.mem_replicate,List.mem_singleton]at hm;have h:=Ay9 (n-1) g;rcases hm with⟨_,rfl⟩|rfl
 ·omega
 ·omega
section
variable {c w r n:Nat} {x:LX} (h:ClipOk c w r n x)
include h
theorem ClipOk.sum:(Cv (Ak r) n).sum=(n:Int):=wH h.cnt.1
omit h in
theorem Aoy:(rE c r n x).length=(Cv (Ak r) n).length:=QQ _ _ _
theorem Ais:(rE c r n x).flatten=x:=by
 refine wF _ _ _ (λm hm=>?_) ?_
 ·have:=JW (Hw r) h.cnt.1 m hm;omega
 ·rw[h.sum,h.len,Ak3]
theorem iP:∀y∈rE c r n x,1<=y.length/\y.length<=4000/\y.length %c=0/\inR (w:Int) y:=by
 intro y hy;obtain⟨a1,a2,a3,a4⟩:=XT c h.ch.1 _ _ (JW (Hw r) h.cnt.1) (by rw[h.sum,h.len,Ak3]) y hy;have:=h.le;exact⟨a1,F0,a3,λv hv=>h.rng v (a4 v hv)⟩
omit h in
theorem Ah4(p:LB):(tF c w r n x p).length=(Cv (Ak r) n).length:=by rw[tF,List.length_map];exact QQ _ _ _
theorem Af5(p:LB):1<= (tF c w r n x p).length/\ (tF c w r n x p).length<=1000:=by
 rw[Ah4,vY];exact⟨Nat.le_add_left _ _,h.fr⟩
theorem Acx(p:LB):((tF c w r n x p).flatten).length<=15*x.length:=by
 have:=Alb (w:Int) c (Ox p) (rE c r n x) λy hy=>⟨(iP h y hy).1,(iP h y hy).2.1⟩;rw[Ais h]at this;exact this
theorem Ao6(p:LB):∀f∈tF c w r n x p,5<=f.length:=by
 intro f hf;rw[tF,List.mem_map]at hf;obtain⟨y,hy,rfl⟩:=hf;exact(B0 _ _ _ _ (iP h y hy).1 (iP h y hy).2.1).1
theorem Ame(p:LB):yC (Pc (tF c w r n x p))=true:=by
 have h1:=Af5 h p;have h2:=Acx h p;have h3:=h.le;simp only[yC,Adn,Adp];rw[pz _ _ F0,FW,D2];refine⟨F0,λz hz=>?_,F0⟩;rw[Pc,List.mem_map]at hz;obtain⟨f,hf,rfl⟩:=hz;have:=Ao6 h p f hf;omega
omit h in
theorem S0(p:LB):(lN c w r n x p).length=22+(if VJ p=2 then 8 else 0)+(4*(tF c w r n x p).length+4)+(tF c w r n x p).flatten.length:=by
 rw[lN,Ac2,Ac2,Ac2,O5,Ac8,Ab1,FW];omega
theorem Ac3(p:LB):(lN c w r n x p).length<=34+4*(tF c w r n x p).length+15*x.length:=by
 have h1:=S0 (c:=c) (w:=w) (r:=r) (n:=n) (x:=x) p;have h2:=Acx h p;split at h1<;>omega
theorem Aj7(p:LB):(lN c w r n x p).length<=64034:=by
 have:=Ac3 h p;have:=Af5 h p;have:=h.le;omega
end
theorem vX:∀{l:LI},(∀x∈l,0<=x)->∀k,0<= (l.take k).sum
 |[],_,k=>by simp
 |x::l,h,0=>by simp
 |x::l,h,k+1=>by
  have:=vX (l:=l) (λy hy=>h y (Ak6 _ hy)) k;have:=h x Av3;rw[List.take_succ_cons,Aw4];omega
theorem nO(c:Nat)(h1:1<=c):∀(l:LI) (x:LX),(∀m∈l,1<=m)->x.length=l.sum.toNat*c->∀(k:Nat) (hk:k<l.length) (hk':k<(Gb c x l).length),(Gb c x l)[k].length=l[k].toNat*c
 |[],x,_,_=>λk hk=>absurd hk (Aw9 _)
 |m::l,x,hm,hx=>by
  have hm1:=hm m Av3;have hl:0<=l.sum:=by
   have:=vX (l:=l) (λy hy=>by have:=hm y (Ak6 _ hy);omega) l.length;rw[Ay7]at this;exact this
  rw[Aw4,show(m+l.sum).toNat=m.toNat+l.sum.toNat by omega,Ajz]at hx;intro k hk hk';cases k with
  |zero=>simp only[Gb,List.getElem_cons_zero,Ajc];omega
  |succ k=>
   simp only[Gb,List.getElem_cons_succ];exact nO c h1 l (x.drop (m.toNat*c)) (λm hm'=>hm m (Ak6 _ hm')) Bci k (by simpa using hk) _
structure FileOf (c w r n:Nat) (x:LX) (p:LB) (T:Nat) (fs:List LB) (z b:LB):Prop where
 clip:ClipOk c w r n x
 pass:p.length<=64
 front:Oa b=((T:Int),0)
 le:b.length<=100000
 lens:Pc fs=Pc (tF c w r n x p)
 form:b.drop T=Abo (VJ p) c w r n++(Q1 p++(Ajv (Pc (tF c w r n x p))++(fs.flatten++z)))
section
variable {c w r n:Nat} {x:LX} {p:LB} {T:Nat} {fs:List LB} {z b:LB} (h:FileOf c w r n x p T fs z b)
include h
theorem FileOf.cnt:fs.length=(tF c w r n x p).length:=by
 have:=congrArg List.length h.lens;rw[FW,FW]at this;exact this
theorem FileOf.mom{k:Nat}(hk:k<fs.length):∃(m:Nat) (hk':k<(rE c r n x).length),Aj (Cv (Ak r) n) (k:Int)=some (m:Int)/\1<=m/\m<=4000/c/\ ((rE c r n x)[k]).length=m*c/\inR (w:Int) (rE c r n x)[k]/\ (tF c w r n x p)[k]'(by rw[<-h.cnt];exact hk)=BE (w:Int) c (Ox p) (rE c r n x)[k]:=by
 have hc:=h.clip;have hlen:fs.length=(Cv (Ak r) n).length:=by rw[h.cnt];exact Ah4 p
 have hkf:k<(Cv (Ak r) n).length:=F0
 have hk':k<(rE c r n x).length:=by rw[Aoy];exact hkf
 have hm1:=JW (Hw r) hc.cnt.1 _ (Awc hkf);obtain⟨m,hm⟩:=Alg (show 0<= (Cv (Ak r) n)[k] by omega);have hg:=nO c hc.ch.1 _ x (JW (Hw r) hc.cnt.1) (by rw[hc.sum,hc.len,Ak3]) k hkf hk';rw[hm,Ak3]at hg;have hmem:=iP hc _ (Awc hk');have hx:=XT c hc.ch.1 _ x (JW (Hw r) hc.cnt.1) (by rw[hc.sum,hc.len,Ak3]) _ (Awc hk');have hg':((rE c r n x)[k]).length=m*c:=hg;refine⟨m,hk',by rw[Cr hkf,hm],F0,?_,hg',hmem.2.2.2,?_⟩
 ·have h1:=hx.2.1;have h2:m*c<=n*c:=by rw[<-hg',<-hc.len];exact h1
  have h3:m<=n:=Nat.le_of_mul_le_mul_right h2 hc.ch.1;exact Nat.le_trans h3 hc.cnt.2
 ·simp only[tF,Bak]
end
def Cd(e:Int):Prop:=e=0\/e=4\/e=12\/e=16\/e=22\/e=24\/e=26\/e=38
instance(e:Int):Decidable (Cd e):=by unfold Cd;infer_instance
structure HdI (f c w r n:Int) (F C W R N:Nat):Prop where
 ef:f=F
 ec:c=C
 ew:w=W
 er:r=R
 en:n=N
 shape:Lz F C W R N=true
 fit:cQ C R N=true
theorem HdI.num{f c w r n:Int}{F C W R N:Nat}(h:HdI f c w r n F C W R N):(F=1\/F=2)/\ (1<=C/\C<=6)/\ (W=8\/W=16\/W=24)/\ (1<=R/\R<=1048576)/\1<=N/\N<=4000/C/\N<=4000/\ (N-1)/Ak R+1<=1000:=by
 obtain⟨rfl,rfl,rfl,rfl,rfl,hs,hf⟩:=h;simp only[Lz,Adp]at hs;simp only[cQ,Adp]at hf;have hd:4000/C<=4000:=Atp _ _;omega
inductive FitD (o:LB) (f c w r n:Int) (g:LI) (a:Int) (x:LB):Prop
 |new:f=0->c=0->w=0->r=0->n=0->g=[]->a=0->x=[]->FitD o f c w r n g a x
 |head (F C W R N:Nat):HdI f c w r n F C W R N-> (o==([]:LB))=decide (F=1)->g=[]->a=0->x=[]->FitD o f c w r n g a x
 |tab (F C W R N A:Nat):HdI f c w r n F C W R N-> (o==([]:LB))=decide (F=1)->yC g=true->g.length=(Cv (Ak R) N).length->a=A->A<=g.length->FitD o f c w r n g a x
def ID3:LB:=[73,68,51]
def APX:LB:=[65,80,69,84,65,71,69,88]
def Ak0(b s:LB):Bool:=decide (b.length<s.length)&&(b==s.take b.length)
theorem Y2(b s:LB):Nr b s=some (Ak0 b s):=by
 rw[Nr,Ak0];by_cases h:b.length<s.length
 ·rw[Acu Bcb,Ac,Qa,Aa,decide_eq_true h,Ba3];rfl
 ·rw[Abw Bcb,Bao h];rfl
def stS(b:LB):Int×Int×Int×Int×Int×Int×Int:=
 if(Oa b).2=24 then(0,0,0,0,0,0, -1)else if(Oa b).2≠0 then(0,0,0,0,0,0,(Oa b).2)else
 if(Ak0 (xu b) ID3||Ak0 (xu b) APX)=true then(0,0,0,0,0,0, -1)else
 if(Va (xu b)).2.2.2.2.2=24 then(0,0,0,0,0,0, -1)else((Oa b).1+22,(Va (xu b)).1,(Va (xu b)).2.1,(Va (xu b)).2.2.1,(Va (xu b)).2.2.2.1,(Va (xu b)).2.2.2.2.1,(Va (xu b)).2.2.2.2.2)
theorem Ad3(b:LB)(hb:b.length<=100000):Tl b=some (stS b):=by
 rw[Tl,Zh,lg b F0,Aa,stS];have hok:=Ait (b:=b);simp only;by_cases h1:(Oa b).2=24
 ·rw[Acu (by rw[Bl];simpa using h1),Acu h1]
 rw[Abw (by rw[Bl];simpa using h1),Abw h1];by_cases h2:(Oa b).2≠0
 ·rw[Acu (by rw[Ay];simpa using h2),Acu h2]
 have h0:(Oa b).2=0:=by simpa using h2
 obtain⟨k1,k2,k3⟩:=hok h0;rw[Abw (by rw[Ay,h0];simp),Abw h2,AM,Aa,Y2,Aa,show b.drop (Oa b).1.toNat=xu b from rfl,show([73,68,51]:LB)=ID3 from rfl,show([65,80,69,84,65,71,69,88]:LB)=APX from rfl];by_cases h3:Ak0 (xu b) ID3=true
 ·rw[Acu h3,h3,Bool.true_or,Acu rfl]
 rw[Abw h3,Y2,Aa,Bool.eq_false_iff.2 h3,Bool.false_or];by_cases h4:Ak0 (xu b) APX=true
 ·rw[Acu h4,Acu h4]
 have hl:(xu b).length<=b.length:=by rw[xu,Apl];omega
 rw[Abw h4,Abw h4,Ze,Zr,Al7 _ F0,Aa];simp only;by_cases h5:(Va (xu b)).2.2.2.2.2=24
 ·rw[Acu (by rw[Bl];simpa using h5),Acu h5]
 ·rw[Abw (by rw[Bl];simpa using h5),Abw h5,Ag]
structure SzD (p:LB) (g:LI) (a:Int) (x:LB):Prop where
 hp:p.length<=100000
 hg:g.length<=1000
 hx:x.length+12000*(g.length-a.toNat)<=13000000
section
variable {bk:LB->Int->Int->Int->Int->Int->Int->LI->LB->Al} {o p:LB} {f c w r n:Int} {g:LI} {a:Int} {x:LB} {u:Bool} {v:Int}
theorem f75{d:Bool}{e:Int}:Pb bk o u v f c w r n a x d e p g=Ir bk o u v p f c w r n a d e g x:=rfl
end
theorem An1{o p:LB}{f c w r n:Int}{g:LI}{a:Int}{x:LB}{u:Bool}{v:Int}(hp:p.length<=100000)(hg:g.length<=2000)(hx:x.length<=13000000):BH o p f c w r n g a x u v=some (o,p,f,c,w,r,n,g,a,x,u,v):=by
 rw[BH,HO,By F6,Aa,By F6,Aa,ID,HZ,By F6,Aa];rfl
theorem P6{α β:Type}{o:Option α}{f:α->Option β}{r:β}(h:Option.bind o f=some r):∃x,o=some x/\f x=some r:=by
 cases o with
 |none=>cases h
 |some x=>exact⟨x,rfl,h⟩
def OutB(f c w r n:Int)(g:LI)(a:Int)(x:LB):Prop:=∀(F C W R N A:Nat),HdI f c w r n F C W R N->g≠ []->a=(A:Int)-> (x.length:Int)<=Ahx C W (Cv (Ak R) N) A
theorem OutB.nil{f c w r n:Int}{a:Int}{x:LB}:OutB f c w r n [] a x:=λ_ _ _ _ _ _ _ h=>absurd rfl h
theorem OutB.zero{f c w r n:Int}{g:LI}:OutB f c w r n g 0 []:=λF C W R N A h hg ha=>by
 obtain rfl:A=0:=F0
 rw[Aep];simp
theorem Au1{o:LB}{f c w r n:Int}{g:LI}{a:Int}{x:LB}(hf:FitD o f c w r n g a x)(hO:OutB f c w r n g a x):x.length<=12000:=by
 cases hf with
 |new e1 e2 e3 e4 e5 e6 e7 e8=>subst e8;simp
 |head F C W R N hd hpw e6 e7 e8=>subst e8;simp
 |tab F C W R N A hd hpw ht hl ea hA=>
  have hne:g≠ []:=by intro e;subst e;simp[yC]at ht
  have h:=hO F C W R N A hd hne ea;obtain⟨g1,g2,g3⟩:=Aey hd.shape hd.fit;have b:=Ar2 g1 A;have Az5:=hd.num;have hw:=(S3 (W:Int)).2;have hN:N*C<=4000:=by
   have h1:=Ado C Az5.2.2.2.2.2.1;have h2:=Ay9 4000 C;omega
  have hs:((Cv (Ak R) N).take A).sum.toNat<=N:=F0
  rw[Ahx]at h;have hb:((Cv (Ak R) N).take A).sum.toNat*(C*wB (W:Int))<=4000*3:=by
   have h1:=Ado (C*wB (W:Int)) hs;have h2:=Awg hN hw;rw[<-At1 N]at h1;omega
  omega
structure Wt (o p:LB) (f c w r n:Int) (g:LI) (a:Int) (x:LB):Prop where
 fit:FitD o f c w r n g a x
 sz:SzD p g a x
 out:OutB f c w r n g a x
 wait:Jo o p f c w r n g a x false 0=some (o,p,f,c,w,r,n,g,a,x,false,0, -1)
abbrev Ah3(q:Nat)(o p:LB)(f c w r n:Int)(g:LI)(a:Int)(x:LB):=Tt q o p f c w r n g a x false 0
abbrev Fd(o s:LB):=Ah3 Ap o s 0 0 0 0 0 [] 0 []
inductive Bh (o s:LB):LB->Int->Int->Int->Int->Int->LI->Int->LB->Int->Prop
 |wt {p:LB} {f c w r n:Int} {g:LI} {a:Int} {x:LB}:Wt o p f c w r n g a x->p.length<=s.length-> (∀b:LB,(s++b).length<=100000->Fd o (s++b)=Ah3 Ap o (p++b) f c w r n g a x)->Bh o s p f c w r n g a x 0
 |er {x:LB} {e:Int}:0<e->Cd e->x.length<=12000-> (∀b:LB,(s++b).length<=100000->Fd o (s++b)=some (o,[],0,0,0,0,0,[],0,x,false,e,e))->Bh o s [] 0 0 0 0 0 [] 0 x e
variable {o s p:LB} {f c w r n:Int} {g:LI} {a:Int} {x:LB} {e:Int}
theorem Wt.stop(W:Wt o p f c w r n g a x):Ah3 Ap o p f c w r n g a x=some (o,p,f,c,w,r,n,g,a,x,false,0,0):=by
 obtain⟨q,hq⟩:∃q,Ap=q+1:=⟨Ap-1,by have:=Ao;omega⟩;have hx:x.length<=13000000:=by have:=W.sz.hx;omega
 rw[Ah3,hq,Tt,IX,W.wait,Aa];simp only;rw[Acu F5,An1 W.sz.hp (by have:=W.sz.hg;omega) hx,Aa]
theorem Bh.new(ho:o.length<=64):Bh o [] [] 0 0 0 0 0 [] 0 [] 0:=by
 refine .wt ⟨.new rfl rfl rfl rfl rfl rfl rfl rfl,⟨Bbn,Bbn,Bbn⟩,OutB.nil,?_⟩ (Aqm _) λb _=>rfl;rw[Jo,Tk,Acu F5,Ad3 [] Bbn,Aa];rfl
theorem Avn{u:Bool}{v:Int}{y:LB}(hf:FitD o f c w r n g a x){t1 t2:LB}{t3 t4 t5 t6 t7:Int}{t8:LI}{t9:Int}{t10:LB}{t11:Bool}{t12:Int}
  (h:Jo o p f c w r n g a x u v=some (t1,t2,t3,t4,t5,t6,t7,t8,t9,t10,t11,t12, -1)) (hp:p.length<=100000):Jo o p f c w r n g a y u v=some (o,p,f,c,w,r,n,g,a,y,u,v, -1):=by
 have zero:¬(Bc (0:Int) 0=true):=F5
 rw[Jo,Tk]at h⊢;by_cases hz:geq f 0=true
 ·rw[Acu hz]at h⊢;obtain⟨⟨z1,z2,z3,z4,z5,z6,z7⟩,hz1,h⟩:=P6 h;rw[hz1,Aa];simp only at h⊢;by_cases h7:Bc z7 0=true
  ·rw[Acu h7]at h⊢;simp only[Agv,Avu]at h;rw[h.2.2.2.2.2.2.2.2.2.2.2.2]
  ·rw[Abw h7]at h;obtain⟨af,h1,h⟩:=P6 h;rw[IG,IC,PA]at h;obtain⟨aw,h2,h⟩:=P6 h;simp only[Agv,Avu]at h;obtain⟨-, -, -, -, -, -, -, -, -, -, -, -,rfl⟩:=h;split at h2<;>cases h2
 ·rw[Abw hz]at h⊢;rw[JA,II]at h⊢;by_cases hg:geq (Ac g) 0=true
  ·rw[Acu hg]at h⊢;obtain⟨⟨z1,z2,z3⟩,hz1,h⟩:=P6 h;rw[hz1,Aa];simp only at h⊢;by_cases h7:Bc z3 0=true
   ·rw[Acu h7]at h⊢;simp only[Agv,Avu]at h;rw[h.2.2.2.2.2.2.2.2.2.2.2.2]
   ·rw[Abw h7]at h;obtain⟨af,h1,h⟩:=P6 h;simp only[Agv,Avu]at h;exact absurd h.2.2.2.2.2.2.2.2.2.2.2.2 F5
  ·rw[Abw hg]at h⊢;by_cases he:geq a (Ac g)=true
   ·rw[Acu he]at h⊢;by_cases hm:Eg (Ac p) 4000=true
    ·rw[Acu hm]at h;simp only[Agv,Avu]at h;exact absurd h.2.2.2.2.2.2.2.2.2.2.2.2 F5
    ·rw[Abw hm]
   ·rw[Abw he]at h⊢;obtain⟨⟨z1,z2⟩,hz1,h⟩:=P6 h;have hz2:LM o p f c w r n g a y u v=some (z1,z2):=hz1;rw[hz2,Aa];simp only at h⊢;by_cases h7:Bc z2 0=true
    ·rw[Acu h7]at h⊢;simp only[Agv,Avu]at h;rw[h.2.2.2.2.2.2.2.2.2.2.2.2]
    ·rw[Abw h7]at h;obtain⟨an,h2,h⟩:=P6 h;obtain⟨ah,h3,h⟩:=P6 h;obtain⟨ad,h4,h⟩:=P6 h;obtain⟨ae,h5,h⟩:=P6 h;simp only[Agv,Avu]at h;exact absurd h.2.2.2.2.2.2.2.2.2.2.2.2 F5
end Go.Pl
namespace Go.Pl
open Go Go.Lv
variable{i t t' m:Nat}
section
variable {o s p:LB} {f c w r n:Int} {g:LI} {a:Int} {x:LB} {e:Int}
theorem FitD.drop(h:FitD o f c w r n g a x)(t:Nat):FitD o f c w r n g a (x.drop t):=by
 cases h with
 |new e1 e2 e3 e4 e5 e6 e7 e8=>subst e8;exact .new e1 e2 e3 e4 e5 e6 e7 Bbn
 |head F C W R N hd hpw e6 e7 e8=>subst e8;exact .head F C W R N hd hpw e6 e7 Bbn
 |tab F C W R N A hd hpw ht hl ea hA=>exact .tab F C W R N A hd hpw ht hl ea hA
theorem OutB.drop(h:OutB f c w r n g a x)(t:Nat):OutB f c w r n g a (x.drop t):=by
 intro F C W R N A hd hg ha;have:=h F C W R N A hd hg ha;rw[Apl];omega
theorem Bh.Aws(h:Bh o s p f c w r n g a x e):p.length<=s.length/\g.length<=1000/\x.length<=12000:=by
 cases h with
 |wt W hl hb=>exact⟨hl,W.sz.hg,Au1 W.fit W.out⟩
 |er h0 hc hx hb=>exact⟨Bbn,Bbn,hx⟩
end
section
variable {o s p:LB} {f c w r n:Int} {g:LI} {a:Int} {x:LB} {e:Int}
theorem Wt.drop(W:Wt o p f c w r n g a x)(t:Nat):Wt o p f c w r n g a (x.drop t):=
 ⟨W.fit.drop t,⟨W.sz.hp,W.sz.hg,by have:=W.sz.hx;rw[Apl];omega⟩,W.out.drop t,Avn W.fit W.wait W.sz.hp⟩
def Ax7(u:Bool)(v k:Int):Prop:=(u=false/\v=k/\0<k/\Cd k)\/ (u=true/\v=0/\k=36)
end
abbrev ru:=UInt8×Int×Unit
abbrev Sad:=Int×LB×Unit
structure Ud where
 s:LB
 X:LB
 p:LB
 f:Int
 c:Int
 w:Int
 r:Int
 n:Int
 g:LI
 a:Int
 u:Bool
 v:Int
inductive OkU (o:LB) (L:Nat):Ud->Prop
 |live {s X p:LB} {f c w r n:Int} {g:LI} {a e:Int}:s.length+L<=12100->Bh o s p f c w r n g a X e->OkU o L ⟨s,X,p,f,c,w,r,n,g,a,false,e⟩
 |stop {s X:LB} {u:Bool} {v k:Int}:X.length<=12000->Ax7 u v k->OkU o L ⟨s,X,[],0,0,0,0,0,[],0,u,v⟩
theorem OkU.szs{o:LB}{L:Nat}{U:Ud}(h:OkU o L U):U.p.length<=12100/\U.g.length<=1000/\U.X.length<=12000:=by
 cases h with
 |live hl hB=>have:=hB.Aws;exact⟨by simp only;omega,this.2.1,this.2.2⟩
 |stop hx hk=>exact⟨Bbn,Bbn,hx⟩
def VS(st:ru):Prop:=(st.1=1\/st.1=2\/st.1=3)/\0<=st.2.1/\st.2.1<=100000
def SR(st:ru)(e:Int)(d:Sad):Prop:=d.1=e/\ (st.1=2->e=0/\ (d.2.1.length:Int)<=st.2.1)/\ (st.1≠2->d.2.1=[])
inductive SRs:List ru->LI->List Sad->Prop
 |nil:SRs [] [] []
 |cons {st e d l es ds}:SR st e d->SRs l es ds->SRs (st::l) (e::es) (d::ds)
def outs(l:List Sad):LB:=(l.map (·.2.1)).flatten
def lL(b:List ru)(i t:Nat)(X:LB)(t':Nat)(X':LB):Prop:=(i=b.length->t'=t/\X'=X)/\ (i<b.length->∀m:Int,b[b.length-1]? =some (2,m,())->20000<=m->t'=X'.length)
theorem lL.nil{b:List ru}{X:LB}(h:i=b.length):lL b i t X t X:=⟨λ_=>⟨rfl,rfl⟩,λh'=>absurd h' F0⟩
theorem lL.other{b:List ru}{t1:Nat}{X X1 X':LB}(hlt:i<b.length)(h1:b[i].1≠2)(ih:lL b (i+1) t1 X1 t' X'):lL b i t X t' X':=by
 refine⟨λh=>absurd h F0,λ_ m hm h2=>?_⟩;by_cases h:i+1<b.length
 ·exact ih.2 h m hm h2
 ·rw[show b.length-1=i by omega,List.getElem?_eq_getElem hlt]at hm;exact absurd (by rw[Bap hm]) h1
theorem lL.drain{b:List ru}{X X':LB}(hlt:i<b.length)(hm:b[i].2.1=(m:Int))(hX:X.length<=20000)(ht:t<=X.length)(ih:lL b (i+1) (t+min m (X.length-t)) X t' X'):lL b i t X t' X':=by
 refine⟨λh=>absurd h F0,λ_ k hk h2=>?_⟩;by_cases h:i+1<b.length
 ·exact ih.2 h k hk h2
 ·rw[show b.length-1=i by omega,List.getElem?_eq_getElem hlt]at hk;obtain⟨e1,e2⟩:=ih.1 F0;have e3:=Bap hk;rw[e3]at hm;simp only at hm;rw[e1,e2];omega
def VS3(st:ru):Prop:=VS st/\ (st.1=3->st.2.1=0)
theorem Ao0{st:ru}(h:VS3 st):CV st.1 st.2.1=some false:=by
 obtain⟨⟨h1,h2,h3⟩,h4⟩:=h;rw[CV,ZO,aV,bI];have hr:(Je st.2.1 0&&xU st.2.1 100000)=true:=by rw[Cz,bO];simp;omega
 rcases h1 with h1|h1|h1
 ·rw[h1,Acu F5,Xn,Acu F5,hr,Aa];rfl
 ·rw[h1,Abw F5,Xn,Acu F5,hr,Aa];rfl
 ·rw[h1,Abw F5,Xn,Abw F5,Acu F5,h4 h1,Aa];rfl
theorem Ac9{l:List ru}(hl:l.length<=200)(hv:∀st∈l,VS3 st):MZ l=some 0:=by
 have loop:∀(j i q:Nat),i+j=l.length->j<q->La l q (i:Int)=some 0:=by
  intro j
  induction j with
  |zero=>
   intro i q hi hq;obtain⟨q,rfl⟩:∃q',q=q'+1:=⟨q-1,F0⟩;rw[La,Ul,Abw F3];rfl
  |succ j ih=>
   intro i q hi hq;obtain⟨q,rfl⟩:∃q',q=q'+1:=⟨q-1,F0⟩;have hlt:i<l.length:=F0
   rw[La,Ul,Acu F3,Cr hlt,Aa,Ao0 (hv _ (Awc hlt)),Aa,FO,WM,Abw F5,XN,VU,
    show Ad (i:Int) 1=((i+1:Nat):Int) by rw[show(1:Int)=((1:Nat):Int)from rfl,Ag];omega]
   exact ih (i+1) q F0 F0
 rw[MZ,KV,Abw Bbq];exact loop l.length 0 Ap F0 F9
theorem SRs.len{l:List ru}{es:LI}{ds:List Sad}(h:SRs l es ds):es.length=l.length/\ds.length=l.length:=by
 induction h with
 |nil=>exact⟨rfl,rfl⟩
 |cons _ _ ih=>exact⟨by simp[ih.1],by simp[ih.2]⟩
theorem SRs.at{l:List ru}{es:LI}{ds:List Sad}(h:SRs l es ds):∀(i:Nat) (h1:i<ds.length) (h2:i<es.length),ds[i].1=es[i]:=by
 induction h with
 |nil=>intro i h1;simp at h1
 |cons hd _ ih=>
  intro i h1 h2;cases i with
  |zero=>exact hd.1
  |succ i=>exact ih i (by simpa using h1) (by simpa using h2)
theorem Abv(i:Nat)(h:i<=100000):Ad (i:Int) 1=((i+1:Nat):Int):=by rw[show(1:Int)=((1:Nat):Int)from rfl,Ag];omega
theorem tY{t z:LB}(h:i<t.length):Nd (t++z) i=Nd t i:=by
 rw[Nd,Nd,List.getD_eq_getElem?_getD,List.getD_eq_getElem?_getD,List.getElem?_append_left h]
theorem kJ(t:LB)(a i:Nat):Nd (t.drop a) i=Nd t (a+i):=by
 rw[Nd,Nd,List.getD_eq_getElem?_getD,List.getD_eq_getElem?_getD,List.getElem?_drop]
theorem At8{w:Nat}(hw:Bw (w:Int)){t z:LB}{a:Nat}(h:a+wB (w:Int)<=t.length):sx (wB (w:Int)) (t++z) a=sx (wB (w:Int)) t a:=by
 rcases hw with hw|hw|hw
 ·rw[hw]at h⊢;have e:wB 8=1:=rfl;rw[e]at h⊢;rw[sx,sx,Acu rfl,Acu rfl,tY F0]
 ·rw[hw]at h⊢;have e:wB 16=2:=rfl;rw[e]at h⊢;rw[sx2,sx2,tY F0,tY F0]
 ·rw[hw]at h⊢;have e:wB 24=3:=rfl;rw[e]at h⊢;rw[sx3,sx3,tY F0,tY F0,tY F0]
theorem Asg{w:Nat}(hw:Bw (w:Int))(t:LB)(a b:Nat):sx (wB (w:Int)) (t.drop a) b=sx (wB (w:Int)) t (a+b):=by
 rcases hw with hw|hw|hw
 ·rw[hw,show wB 8=1 from rfl,sx,sx,Acu rfl,Acu rfl,kJ]
 ·rw[hw,show wB 16=2 from rfl,sx2,sx2,kJ,kJ];rfl
 ·rw[hw,show wB 24=3 from rfl,sx3,sx3,kJ,kJ,kJ];rfl
theorem Agu{w:Nat}(hw:Bw (w:Int)){t z:LB}(h:m*wB (w:Int)<=t.length):dP (wB (w:Int)) m (t++z)=dP (wB (w:Int)) m t:=by
 rw[dP,dP];apply Baq;intro x hx;have hx:=List.mem_range.1 hx;have h2:(x+1)*wB (w:Int)<=m*wB (w:Int):=Ado _ hx;rw[Ajz,Avd]at h2;rw[At8 hw F0]
theorem Aqz{w:Nat}(hw:Bw (w:Int))(t:LB)(m j:Nat):dP (wB (w:Int)) (m+j) t=dP (wB (w:Int)) m t++dP (wB (w:Int)) j (t.drop (m*wB (w:Int))):=by
 rw[dP,dP,dP,List.range_add,Azd,List.map_map];congr 1;apply Baq;intro x hx
 show Int32.ofInt (sx (wB (w:Int)) t ((m+x)*wB (w:Int)))=_;rw[Asg hw,Ajz]
theorem Auo{w:Nat}(hw:Bw (w:Int))(t:LB)(a:Nat): -(hB (w:Int))<=sx (wB (w:Int)) t a/\sx (wB (w:Int)) t a<hB (w:Int):=by
 have b0:=rQ t a;have b1:=rQ t (a+1);have b2:=rQ t (a+2);rcases hw with hw|hw|hw
 ·rw[hw,show wB 8=1 from rfl,show hB 8=128 from rfl,sx,Acu rfl];omega
 ·rw[hw,show wB 16=2 from rfl,show hB 16=32768 from rfl,sx2];split<;>omega
 ·rw[hw,show wB 24=3 from rfl,show hB 24=8388608 from rfl,sx3];split<;>omega
theorem Agk{w:Nat}(hw:Bw (w:Int))(m:Nat)(t:LB):inR (w:Int) (dP (wB (w:Int)) m t):=by
 intro x hx;rw[dP,List.mem_map]at hx;obtain⟨k,_,rfl⟩:=hx;have h:=Auo hw t (k*wB (w:Int));have hh:=eL (w:Int);rw[hH F0 F0];exact h
theorem jW(c L:Nat):∀(k:Nat) (x y:LX),k*(L*c)<=x.length->Gb c (x++y) (List.replicate k (L:Int))=Gb c x (List.replicate k (L:Int))
 |0,x,y,_=>rfl
 |k+1,x,y,h=>by
  rw[Ajz,Avd]at h;rw[Axr,Gb,Gb,Ak3,Baj F0,Aye F0,jW c L k _ y Bci]
theorem sZ(c:Nat):∀(l m:LI) (x:LX),(∀z∈l,0<=z)->Gb c x (l++m)=Gb c x l++Gb c (x.drop (l.sum.toNat*c)) m
 |[],m,x,_=>by simp[Gb]
 |z::l,m,x,h=>by
  have hz:=h z Av3;have hl:0<=l.sum:=uj λy hy=>h y (Ak6 _ hy);rw[Azi,Gb,Gb,sZ c l m _ (λy hy=>h y (Ak6 _ hy)),Azi,List.drop_drop,Aw4,show(z+l.sum).toNat=z.toNat+l.sum.toNat by omega,Ajz]
theorem Alu(k L:Nat):∀z∈List.replicate k (L:Int),0<=z:=λz hz=>by rw[(List.mem_replicate.1 hz).2];omega
theorem N5(k L c:Nat):(List.replicate k (L:Int)).sum.toNat*c=k*(L*c):=by rw[Z9,Ak3,At1]
theorem Aeb(c L k:Nat)(x:LX)(h:x.length=(k+1)*(L*c)):Gb c x (List.replicate (k+1) (L:Int))=Gb c x (List.replicate k (L:Int))++[x.drop (k*(L*c))]:=by
 rw[List.replicate_succ',sZ c _ _ _ (Alu k L),N5,Gb,Gb,Ak3,Apn (by rw[Apl,h,Ajz];omega)]
end Go.Pl
