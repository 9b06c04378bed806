/- A part of a proof (see the text that ends in Proof). No conditions. -/
import Derived.Test.YtgomgobgfhhahaaGreatDoorCmPA
set_option linter.unusedVariables false
set_option linter.unusedSimpArgs false
namespace Go.Lv
theorem Aj{a b:Int}(h: -9223372036854775808<=a+b:=by omega)(h':a+b<=9223372036854775807:=by omega):Ad a b=a+b:=by rw[Bap,De h h']
theorem Bu{a b:Int}(h: -9223372036854775808<=a-b:=by omega)(h':a-b<=9223372036854775807:=by omega):Ao a b=a-b:=by rw[Ba0,De h h']
theorem Fa{a b:Int}(h: -9223372036854775808<=a*b:=by omega)(h':a*b<=9223372036854775807:=by omega):Bf a b=a*b:=by rw[Aqt,De h h']
theorem YI(c:UInt8):(Af c:Int)=(c.toNat:Int):=by rw[Asn,De]<;>have:=c.toNat_lt<;>omega
theorem U1(c:UInt32):(Af c:Int)=(c.toNat:Int):=by rw[Aon,De]<;>have:=c.toNat_lt<;>omega
theorem wS(c:UInt8):(Af c:UInt64)=UInt64.ofNat c.toNat:=by simp only[Af,GN,Jq]
theorem Dx(c:UInt32):(Af c:UInt64)=UInt64.ofNat c.toNat:=by simp only[Af,BR,Jq]
theorem bK(c:UInt64):(Af c:UInt8)=UInt8.ofNat c.toNat:=by simp only[Af,Lm,Qa]
theorem xD(c:UInt32):(Af c:UInt8)=UInt8.ofNat c.toNat:=by simp only[Af,BR,Qa]
theorem Yb(n:Nat):(Af (n:Int):UInt64)=UInt64.ofNat n:=by simp only[Af];exact Jq n
theorem Abc(n:Nat):(Af (n:Int):UInt32)=UInt32.ofNat n:=by simp only[Af];exact Gl n
theorem Ar6(n:Nat):(Af (n:Int):UInt8)=UInt8.ofNat n:=by simp only[Af];exact Qa n
theorem K3{c:UInt64}(h:c.toNat<9223372036854775808):(Af c:Int)=(c.toNat:Int):=by rw[Aoj,De]<;>omega
theorem Al8:LIM=17179869184:=by decide
theorem Ar:36893488147419103231<Au:=by decide
theorem Br{α:Type}{l:List α}{n:Nat}(h:n<l.length:=by omega):Ap l (n:Int)=some l[n]:=by simp[Ap,h]
theorem Vr{α:Type}{l:List α}{n:Nat}(x:α)(h:n<l.length):Nj l (n:Int) x=some (l.set n x):=by simp[Nj,h]
theorem Uy{α:Type}{l:List α}{a b:Int}(h:0<=a:=by omega)(h1:a<=b:=by omega)(h2:b<=l.length:=by omega):Bp l a b=some ((l.take b.toNat).drop a.toNat):=by rw[Bp,Acf ⟨h,h1,h2⟩]
theorem Bv{α:Type}{l:List α}{a:Int}(h:0<=a:=by omega)(h1:a<=l.length:=by omega):Bp l a (Ac l)=some (l.drop a.toNat):=by
 unfold Ac;rw[Uy h h1 (Int.le_refl _),Ahe,Azd]
theorem Dk{α:Type}{l:List α}{b:Int}(h:0<=b:=by omega)(h1:b<=l.length:=by omega):Bp l 0 b=some (l.take b.toNat):=by rw[Uy (Int.le_refl _) h h1];rfl
theorem Bg{α:Type}{l m:List α}(h:l.length+m.length<=17179869184:=by omega):Ds l m=some (l++m):=by rw[Ds,Al8,Acf h]
theorem rZ{α:Type}{n:Int}{z:α}(h:0<=n:=by omega)(h':n<=17179869184:=by omega):mkI n z=some (List.replicate n.toNat z):=by rw[mkI,Al8,Acf ⟨h,h'⟩]
theorem Bcj:Je true=some ():=rfl
theorem Bj{b:Bool}(h:b=true):Je b=some ():=by rw[h];rfl
theorem Aa{α β:Type}(a:α)(f:α->Option β):Option.bind (some a) f=f a:=rfl
theorem drop_cons{α:Type}{l:List α}{n:Nat}(h:n<l.length):l.drop n=l[n]::l.drop (n+1):=Bgn h
theorem Lb{α:Type}{l:List α}{n:Nat}(h:n<l.length):l.take (n+1)=l.take n++[l[n]]:=by rw[List.take_add_one,List.getElem?_eq_getElem h];rfl
def Gd:List UInt8->Nat
 |[]=>0
 |x::r=>x.toNat+256*Gd r
theorem Ada:∀l:List UInt8,Gd l<256^l.length
 |[]=>by simp[Gd]
 |x::r=>by
  have h:=Ada r;have:=x.toNat_lt;simp only[Gd,Aqj,Av3];omega
theorem iq:∀l m:List UInt8,Gd (l++m)=Gd l+256^l.length*Gd m
 |[],m=>by simp[Gd]
 |x::r,m=>by
  simp only[Gd,Bek,iq r m,Aqj,Av3,Nat.mul_add];rw[Aqr (256^r.length) 256,Azk];omega
def vN(l:List UInt8):UInt64:=UInt64.ofNat (Gd l)
theorem Avn{l:List UInt8}(h:l.length<=8):Gd l<18446744073709551616:=by
 have h1:=Ada l;have h2:256^l.length<=256^8:=Ah1 (by omega) h;exact Aqh h1 (by simpa using h2)
theorem Ami{l:List UInt8}(h:l.length<=4):Gd l<4294967296:=by
 have h1:=Ada l;have h2:256^l.length<=256^4:=Ah1 (by omega) h;exact Aqh h1 (by simpa using h2)
theorem eL{l:List UInt8}(h:l.length<=8):(vN l).toNat=Gd l:=by
 rw[vN,Ah8,Adz (Avn h)]
theorem RV{l:List UInt8}(h:l.length<=4):(Af (vN l):Int)=(Gd l:Int):=by
 have:=Ami h;rw[K3]<;>rw[eL (by omega)];omega
def Sk(n:Nat):Nat->List UInt8
 |0=>[]
 |w+1=>UInt8.ofNat n::Sk (n/256) w
theorem Cg:∀(w n:Nat),(Sk n w).length=w
 |0,_=>rfl
 |w+1,n=>by simp[Sk,Cg w]
theorem Ae7:∀(w n:Nat),Sk n (w+1)=Sk n w++[UInt8.ofNat (n/256^w)]
 |0,n=>by simp[Sk]
 |w+1,n=>by
  rw[Sk,Ae7 w (n/256),Sk];simp[Beo,Av3,Aqr]
def Ib(p:List UInt8)(i:Nat):Nat:=(p.getD (i/8) 0).toNat/2^(i %8) %2
theorem EA(p:List UInt8)(i:Nat):Ib p i<2:=Bdl _ (by omega)
def Ce(p:List UInt8):Nat->Nat->Nat
 |_,0=>0
 |a,n+1=>Ib p a+2*Ce p (a+1) n
theorem Qw(p:List UInt8):∀(n a:Nat),Ce p a n<2^n
 |0,_=>by simp[Ce]
 |n+1,a=>by
  have:=Qw p n (a+1);have:=EA p a;rw[Ce,Av3];omega
theorem TF(p:List UInt8):∀(m n a:Nat),Ce p a (m+n)=Ce p a m+2^m*Ce p (a+m) n
 |0,n,a=>by simp[Ce]
 |m+1,n,a=>by
  rw[show m+1+n=(m+n)+1 by omega,Ce,Ce,TF p m n (a+1),show a+1+m=a+(m+1) by omega,Av3,Nat.mul_add,Aqr (2^m) 2,Azk];omega
theorem zL(p:List UInt8)(a:Nat):Ce p a 1=Ib p a:=by simp[Ce]
theorem tI(p:List UInt8)(a n:Nat):Ce p a (n+1)=Ce p a n+2^n*Ib p (a+n):=by rw[TF p n 1 a,zL]
theorem jE(p:List UInt8)(a:Nat):∀t:Nat,a %8+t<=8->Ce p a t=(p.getD (a/8) 0).toNat/2^(a %8) %2^t
 |0,_=>by simp[Ce,Nat.mod_one]
 |t+1,h=>by
  have h1:(a+t)/8=a/8:=by omega
  have h2:(a+t) %8=a %8+t:=by omega
  rw[tI,jE p a t (by omega),Ib,h1,h2,Nat.mod_pow_succ,Bgw,Beo]
theorem zw{p:List UInt8}:∀(n a:Nat),(∀k,k<n->Ib p (a+k)=0)->Ce p a n=0
 |0,_,_=>rfl
 |n+1,a,h=>by
  have h0:=h 0 (by omega);rw[Ce,zw n (a+1) λk hk=>by have:=h (k+1) (by omega);rwa [show a+1+k=a+(k+1) by omega]];rw[Bde]at h0;omega
def okB(p:List UInt8)(n:Nat):Prop:=n<=330000/\p.length=(n+7)/8/\∀k,n<=k->k<8*p.length->Ib p k=0
def So(p:List UInt8)(a n:Nat):List UInt8:=(List.range ((n+7)/8)).map λj=>UInt8.ofNat (Ce p (a+8*j) (min 8 (n-8*j)))
theorem Kc(p:List UInt8)(a n:Nat):(So p a n).length=(n+7)/8:=by simp[So]
theorem Ae5(p:List UInt8):∀(n a k:Nat),k<n->Ce p a n/2^k %2=Ib p (a+k)
 |n+1,a,0,_=>by have:=EA p a;rw[Ce];simp;omega
 |n+1,a,k+1,h=>by
  have hb:=EA p a;have e:(Ib p a+2*Ce p (a+1) n)/2=Ce p (a+1) n:=by omega
  rw[Ce,Av3,Aqr (2^k) 2,<-Beo,e,Ae5 p n (a+1) k (by omega),show a+1+k=a+(k+1) by omega]
theorem Aoo(p:List UInt8)(n a k:Nat)(h:n<=k):Ce p a n/2^k %2=0:=by
 have:=Qw p n a;rw[Bd7 (Aqh this (Ah1 (by omega) h))]
theorem W7(p:List UInt8)(a n k:Nat):Ib (So p a n) k=if k<n then Ib p (a+k)else 0:=by
 rw[Ib];by_cases hj:k/8<(n+7)/8
 ·have e:(So p a n).getD (k/8) 0=UInt8.ofNat (Ce p (a+8*(k/8)) (min 8 (n-8*(k/8)))):=by
   rw[List.getD_eq_getElem?_getD,List.getElem?_eq_getElem (by rw[Kc];exact hj)];simp[So]
  have hlt:Ce p (a+8*(k/8)) (min 8 (n-8*(k/8)))<256:=by
   have:=Qw p (min 8 (n-8*(k/8))) (a+8*(k/8));have h2:2^(min 8 (n-8*(k/8)))<=2^8:=Ah1 (by omega) (by omega);omega
  have hu:(UInt8.ofNat (Ce p (a+8*(k/8)) (min 8 (n-8*(k/8))))).toNat=Ce p (a+8*(k/8)) (min 8 (n-8*(k/8))):=by
   rw[Aqq];exact Adz hlt
  rw[e,hu];by_cases hk:k<n
  ·rw[Acf hk,Ae5 p _ _ _ (by omega),show a+8*(k/8)+k %8=a+k by omega]
  ·rw[Aan hk,Aoo p _ _ _ (by omega)]
 ·have e:(So p a n).getD (k/8) 0=0:=by
   rw[List.getD_eq_getElem?_getD,List.getElem?_eq_none (by rw[Kc];omega)];rfl
  rw[e,Aan (by omega)];simp
theorem yS(p:List UInt8)(a n:Nat)(h:n<=330000):okB (So p a n) n:=⟨h,Kc p a n,λk hk _=>by rw[W7,Aan (by omega)]⟩
theorem Aef{p q:List UInt8}(hl:p.length=q.length)(h:∀k,k<8*p.length->Ib p k=Ib q k):p=q:=by
 apply Bb4 hl;intro i h1 h2;have hp:Ce p (8*i) 8=Ce q (8*i) 8:=by
  have key:∀(n a:Nat),a+n<=8*p.length->Ce p a n=Ce q a n:=by
   intro n
   induction n with
   |zero=>intros;rfl
   |succ n ih=>intro a ha;rw[Ce,Ce,h a (by omega),ih (a+1) (by omega)]
  exact key 8 (8*i) (by omega)
 rw[jE p _ 8 (by omega),jE q _ 8 (by omega)]at hp;have e1:8*i/8=i:=by omega
 have e2:8*i %8=0:=by omega
 rw[e1,e2]at hp;have a1:p.getD i 0=p[i]:=by simp[List.getD_eq_getElem?_getD,h1]
 have a2:q.getD i 0=q[i]:=by simp[List.getD_eq_getElem?_getD,h2]
 rw[a1,a2]at hp;apply UInt8.toNat_inj.1;have:=p[i].toNat_lt;have:=q[i].toNat_lt;simp at hp;omega
end Go.Lv
namespace Go.Pl
open Go Go.Lv
theorem Aro(b:List UInt8)(hb:b.length<4611686018427387904):∀(j q:Nat),j<=b.length->j<q->Qm b q (vN (b.drop j)) ((j:Int)-1)=some (vN b)
 |0,q+1,_,_=>by
  rw[Qm,GM,Aan (by rw[Ea];simp)];simp[aQ,YY]
 |j+1,q+1,hj,hq=>by
  rw[Qm,GM,Acf (by rw[Ea];simp),show((j+1:Nat):Int)-1=(j:Int) by omega,Br,Aa,Bu];have h:Ad (Bf (256:UInt64) (vN (b.drop (j+1)))) (Af b[j]:UInt64)=vN (b.drop j):=by
   rw[TT,TN,wS,drop_cons (n:=j) (by omega),vN,vN,Gd,UInt64.ofNat_add,UInt64.ofNat_mul];exact UInt64.add_comm _ _
  rw[h];exact Aro b hb j q (by omega) (by omega)
theorem Agl(b:List UInt8)(hb:b.length<4611686018427387904):El b=some (vN b):=by
 have h:=Aro b hb b.length Au (Ao7 _) (by have:=Ar;omega);rw[El,ZW,ZZ];have e:Ao (Ac b) 1=(b.length:Int)-1:=Bu (by unfold Ac;omega) (by unfold Ac;omega);rw[e,<-h,Beb];rfl
theorem Atj{n c:UInt64}{i:Nat}(hn:n.toNat<2^i)(hc:c.toNat*2^i<18446744073709551616):xC n (Dp c i)=UInt64.ofNat (n.toNat+c.toNat*2^i):=by
 rw[Ayo];apply UInt64.toNat_inj.1;rw[UInt64.toNat_or,cD,Adz hc,Aqr,Nat.or_comm,<-Bbs hn,Ah8,Adz,Bfk,Aqr];have h:=Bbs hn c.toNat;have h2:2^i*c.toNat+n.toNat<2^64:=by
  rw[h];exact Nat.or_lt_two_pow (by rw[Aqr];simpa using hc) n.toNat_lt
 rw[Bfk];first|exact h2|(rw[Aqr];exact h2)
theorem Abg(b:List UInt8)(hb:b.length<=8):∀(j i q:Nat),i+j=b.length->j<q->GV b q (vN (b.take i)) (i:Int)=some (vN b,0)
 |0,i,q+1,hi,_=>by
  rw[GV,dK,Aan (by rw[Ae,Ac];simp;omega),show i=b.length by omega,Azd];rfl
 |j+1,i,q+1,hi,hq=>by
  have hlt:i<b.length:=by omega
  rw[GV,dK,Acf (by rw[Ae,Ac];simp;omega),Br hlt,Aa,Fa,Bj (by rw[Ea];simp;omega),Aa,Aj];have h:xC (vN (b.take i)) (Dp (Af b[i]:UInt64) (GI.toZ ((8:Int)*(i:Int))).toNat)=vN (b.take (i+1)):=by
   have e:(GI.toZ ((8:Int)*(i:Int))).toNat=8*i:=by show((8:Int)*(i:Int)).toNat=_;omega
   have e2:(2:Nat)^(8*i)=256^i:=by rw[Nat.pow_mul]
   have h1:=Ada (b.take i);rw[Ahn,Bbd (by omega)]at h1;have h3:=b[i].toNat_lt;have hle:(256:Nat)^(i+1)<=256^8:=Ah1 (by omega) (by omega);rw[Av3]at hle;have h4:(Af b[i]:UInt64).toNat=b[i].toNat:=by rw[wS,Ah8];omega
   have h5:b[i].toNat*256^i<18446744073709551616:=by
    have:b[i].toNat*256^i<256*256^i:=Nat.mul_lt_mul_of_pos_right (by simpa using h3) (Bem (by omega));simp at hle;omega
   rw[e,Atj (by rw[eL (by simp;omega),e2];exact h1) (by rw[h4,e2];exact h5),eL (by simp;omega),h4,e2,Lb hlt];rw[vN,iq];simp only[Gd,Ahn,Bbd (Nat.le_of_lt hlt),Nat.mul_zero,Bde];rw[Aqr]
  rw[h];exact Abg b hb j (i+1) q (by omega) (by omega)
theorem Agu(b:List UInt8)(h1:1<=b.length)(h2:b.length<=8):qI b=some (vN b,0):=by
 have h:=Abg b h2 b.length 0 Au (by omega) (by have:=Ar;omega);rw[qI,sV,Aan (by simp[Ae,Aq,Ac];omega),rP];exact h
def part(b:List UInt8)(at' w:Nat):List UInt8:=(b.take (at'+w)).drop at'
theorem Ey{b:List UInt8}{a w:Nat}(h:a+w<=b.length:=by omega):(part b a w).length=w:=by simp[part];omega
theorem zk(b:List UInt8)(a w:Nat)(h1:1<=w)(h2:w<=8)(h3:a+w<=b.length)(hb:b.length<4611686018427387904):iY b (a:Int) (w:Int)=some (vN (part b a w),0):=by
 rw[iY,Aan (by simp[Ae,Aq];omega),Aan (by rw[Aq,Bu (by unfold Ac;omega) (by unfold Ac;omega),Ac];simp;omega),Aj,Uy,Aa];rw[show((a:Int)+(w:Int)).toNat=a+w by omega,show(a:Int).toNat=a by omega];rw[Agu _ (by rw[show((b.take (a+w)).drop a).length=_ from Ey h3];exact h1) (by rw[show((b.take (a+w)).drop a).length=_ from Ey h3];exact h2),Aa];rfl
theorem M5(w:Nat)(hw:w<=1000):∀(j i q:Nat) (n:UInt64) (acc:List UInt8),i+j=w->j<q->acc.length+j<=1000000->Jn (w:Int) q n (i:Int) acc=some (acc++Sk n.toNat j)
 |0,i,q+1,n,acc,hi,_,_=>by
  rw[Jn,Vq,Aan (by rw[Ae];simp;omega)];simp[GR,HF,Sk]
 |j+1,i,q+1,n,acc,hi,hq,ha=>by
  rw[Jn,Vq,Acf (by rw[Ae];simp;omega)];have e:(Af (HZ n (256:UInt64)):UInt8)=UInt8.ofNat n.toNat:=by
   rw[bK,Aeq];apply UInt8.toNat_inj.1;rw[Aqq,Aqq,UInt64.toNat_mod]
   show n.toNat %256 %256=_;omega
  have e2:(Bt n (256:UInt64)).toNat=n.toNat/256:=by rw[B5,Bg0];rfl
  rw[Bg (by simp;omega),Aa,Aj,e];have h:=M5 w hw j (i+1) q (Bt n 256) (acc++[UInt8.ofNat n.toNat]) (by omega) (by omega) (by simp;omega);rw[e2]at h;rw[show((i:Int)+1)=((i+1:Nat):Int) by omega,h,Sk];simp
theorem oq(n:UInt64)(w:Nat)(hw:w<=1000):Fq n (w:Int)=some (Sk n.toNat w):=by
 rw[Fq,HM,HE];have h:=M5 w hw w 0 Au n [] (by omega) (by have:=Ar;omega) (by simp;omega);simpa using h
theorem kD{α:Type}{l m:List α}{x y:α}{i:Nat}(h:l.length=i):(l++x::m).set i y=l++y::m:=by subst h;simp
theorem yx(n:UInt64)(l4:List UInt8)(w:Nat)(hl:l4.length=w)(hw:w<=8):∀(j i q:Nat),i+j=w->j<q->HO n l4 q (i:Int) (Sk n.toNat i++List.replicate j 0)=some (Sk n.toNat w,0)
 |0,i,q+1,hi,_=>by
  rw[HO,dG,Aan (by rw[Ae,Ac];simp;omega)];obtain rfl:i=w:=by omega
  simp[pS,P0]
 |j+1,i,q+1,hi,hq=>by
  have hlen:(Sk n.toNat i++List.replicate (j+1) 0).length=i+(j+1):=by simp[Cg]
  rw[HO,dG,Acf (by rw[Ae,Ac];simp;omega),Fa,Bj (by rw[Ea];simp;omega),Aa,Br (by rw[hlen];omega),Aa,Vr _ (by rw[hlen];omega),Aa,Aj];have e:(Af (Ci n (GI.toZ ((8:Int)*(i:Int))).toNat):UInt8)=UInt8.ofNat (n.toNat/256^i):=by
   have e:(GI.toZ ((8:Int)*(i:Int))).toNat=8*i:=by show((8:Int)*(i:Int)).toNat=_;omega
   rw[e,bK,EI,Nat.pow_mul]
  rw[e,Bcb,kD (Cg _ _)];have h:=yx n l4 w hl hw j (i+1) q (by omega) (by omega);rw[Ae7]at h;simpa using h
theorem Ayy(n:UInt64)(w:Nat)(h1:1<=w)(h2:w<=8)(h:n.toNat<256^w):T5 n (w:Int)=some true:=by
 rw[T5];by_cases h8:w=8
 ·subst h8;rw[Acf (by rw[As];rfl)]
 ·rw[Aan (by rw[As];simp;omega),Fa,Bj (by rw[Ea];simp;omega),Aa];have e:(GI.toZ ((8:Int)*(w:Int))).toNat=8*w:=by show((8:Int)*(w:Int)).toNat=_;omega
  rw[e,yW];have:Ci n (8*w)=0:=by
   apply UInt64.toNat_inj.1;rw[EI,Nat.pow_mul];exact Bd7 h
  rw[this];rfl
theorem bH(n:UInt64)(w:Nat)(h1:1<=w)(h2:w<=8)(h:n.toNat<256^w):DQ n (w:Int)=some (Sk n.toNat w,0):=by
 rw[DQ,rA,Aan (by simp[Ae,Aq];omega),Ayy n w h1 h2 h,Aa,Aan (by simp),rZ,Aa,Bj (by rw[As];simp),Aa,rI];have h:=yx n (List.replicate (w:Int).toNat 0) w (by simp) h2 w 0 Au (by omega) (by have:=Ar;omega);simpa [Sk]using h
theorem O8(n:Nat)(h:n<4611686018427387904):Et (n:Int) (7:Int)=((n %8:Nat):Int):=by
 have e:Et (n:Int) (7:Int)=wrap64 ((BitVec.ofInt 64 (n:Int)&&&BitVec.ofInt 64 7).toNat:Int):=rfl;rw[e,BitVec.toNat_and,Bc3,Bc3];have h1:((n:Int) %((2^64:Nat):Int)).toNat=n:=by omega
 have h2:((7:Int) %((2^64:Nat):Int)).toNat=2^3-1:=by decide
 rw[h1,h2,Ben,De (by omega) (by omega)]
theorem Bcp(n:Nat):Acx (n:Int) (GI.toZ (3:UInt64)).toNat=((n/8:Nat):Int):=by
 have e:Acx (n:Int) (GI.toZ (3:UInt64)).toNat=(n:Int).fdiv 8:=rfl;rw[e,Asw _ (by omega)];omega
theorem Bdw{t:Nat}(h:t<=8):Ao (Dp (1:UInt8) t) (1:UInt8)=UInt8.ofNat (2^t-1):=by
 have:t=0\/t=1\/t=2\/t=3\/t=4\/t=5\/t=6\/t=7\/t=8:=by omega
 rcases this with rfl|rfl|rfl|rfl|rfl|rfl|rfl|rfl|rfl<;>decide
theorem bitsOf(c:UInt8)(off t:Nat)(h:t<=8):(Et (Ci c off) (Ao (Dp (1:UInt8) t) (1:UInt8))).toNat=c.toNat/2^off %2^t:=by
 have hp:2^t<=2^8:=Ah1 (by omega) h;rw[Bdw h,Aky,UInt8.toNat_and,Adc,Aqq,Adz (by have:=Bem (n:=t) (show 0<2 by omega);omega),Ben]
theorem pg{p:List UInt8}{k:Nat}(h:k<p.length):Ap p (k:Int)=some (p.getD k 0):=by
 rw[Br h];simp[List.getD_eq_getElem?_getD,h]
def Rb(p:List UInt8)(a n:Nat):UInt64:=UInt64.ofNat (Ce p a n)
theorem BB(p:List UInt8)(a n:Nat)(h:n<=64):(Rb p a n).toNat=Ce p a n:=by
 have h1:=Qw p n a;have h2:2^n<=2^64:=Ah1 (by omega) h;rw[Rb,Ah8,Adz (by omega)]
theorem Afo(p:List UInt8)(N:Int)(a n:Nat)(hn:n<=64)(ha:a+n<=8*p.length)(hp:p.length<=1000000):∀(j h q:Nat),h+j=n->j<q->TJ (a:Int) (n:Int) p N q (Rb p a h) (h:Int)=some (Rb p a n)
 |j,h,q+1,hj,hq=>by
  rw[TJ,rE];by_cases hlt:h<n
  ·have e1:Ad (a:Int) (h:Int)=((a+h:Nat):Int):=by rw[Aj];omega
   have e2:Fi (Ao (n:Int) (h:Int)) (Ao (8:Int) (((a+h) %8:Nat):Int))=((min (n-h) (8-(a+h) %8):Nat):Int):=by
    rw[FH,Bu,Bu];omega
   have hm:(a+h)/8<p.length:=by omega
   rw[Acf (by rw[Ae];simp;omega),e1,Bcp,pg hm,Aa,O8 _ (by omega),Bj (by rw[Ea];simp;omega),Aa,e2,Bj (by rw[Ea];simp),Aa,Bj (by rw[Ea];simp),Aa];generalize hT:min (n-h) (8-(a+h) %8)=T;have hT8:T<=8:=by omega
   have hT1:1<=T:=by omega
   have hb:(a+h) %8+T<=8:=by omega
   have hv:=jE p (a+h) T hb;have z1:(GI.toZ (((a+h) %8:Nat):Int)).toNat=(a+h) %8:=rfl;have z2:(GI.toZ ((T:Nat):Int)).toNat=T:=rfl;have z3:(GI.toZ ((h:Nat):Int)).toNat=h:=rfl;rw[z1,z2,z3];have hx:(Af (Et (Ci (p.getD ((a+h)/8) 0) ((a+h) %8)) (Ao (Dp (1:UInt8) T) (1:UInt8))):UInt64).toNat=Ce p (a+h) T:=by
    rw[wS,Ah8,bitsOf _ _ _ hT8,<-hv];have:=Qw p T (a+h);have h2:2^T<=2^8:=Ah1 (by omega) hT8;omega
   have hlt2:=Qw p (h+T) a;rw[TF]at hlt2;have h64:2^(h+T)<=2^64:=Ah1 (by omega) (by omega);have hor:xC (Rb p a h) (Dp (Af (Et (Ci (p.getD ((a+h)/8) 0) ((a+h) %8)) (Ao (Dp (1:UInt8) T) (1:UInt8))):UInt64) h)=Rb p a (h+T):=by
    rw[Atj (by rw[BB p a h (by omega)];exact Qw p h a) (by rw[hx,Aqr];omega),hx,BB p a h (by omega),Rb,TF,Aqr (2^h)]
   rw[hor,Aj,show(h:Int)+((T:Nat):Int)=((h+T:Nat):Int) by omega];exact Afo p N a n hn ha hp (j-T) (h+T) q (by omega) (by omega)
  ·rw[Aan (by rw[Ae];simp;omega),show h=n by omega];rfl
theorem get_eq(p:List UInt8)(N:Int)(a n:Nat)(hn:n<=64)(ha:a+n<=8*p.length)(hp:p.length<=1000000):B4 p N (a:Int) (n:Int)=some (Rb p a n):=by
 have:=Afo p N a n hn ha hp n 0 Au (by omega) (by have:=Ar;omega);exact this
theorem BS{p:List UInt8}{n:Nat}(h:okB p n):Kv p (n:Int)=some 0:=by
 obtain⟨h1,h2,h3⟩:=h;have e7:Ad (n:Int) 7=((n+7:Nat):Int):=by rw[Aj];omega
 rw[Kv,e7,Bcp,Aan (by simp[Ae,Aq,Ah,Ac,h2];omega),O8 _ (by omega)];by_cases hz:n %8=0
 ·rw[Aan (by rw[Aq];simp;omega)]
 ·have el:Ao (Ac p) 1=((p.length-1:Nat):Int):=by rw[Ac,Bu];omega
  rw[Acf (by rw[Aq];simp;omega),el,pg (by omega),Aa,Bj (by rw[Ea];simp;omega),Aa];have z:(GI.toZ ((n %8:Nat):Int)).toNat=n %8:=rfl;have hs:Ci (p.getD (p.length-1) 0) (n %8)=0:=by
   apply UInt8.toNat_inj.1;rw[Adc];have hv:=jE p n (8-n %8) (by omega);have h0:Ce p n (8-n %8)=0:=zw _ _ λk hk=>h3 _ (by omega) (by omega);rw[h0,show n/8=p.length-1 by omega]at hv;have hlt:(p.getD (p.length-1) 0).toNat/2^(n %8)<2^(8-n %8):=by
    have:=(p.getD (p.length-1) 0).toNat_lt;rw[Nat.div_lt_iff_lt_mul (Bem (by omega)),<-Bgw,show 8-n %8+n %8=8 by omega];simpa using this
   rw[Adz hlt]at hv;exact hv.symm
  rw[z,hs,Aan (by rw[Ajr];simp)]
theorem K6{p:List UInt8}{N:Nat}(h:okB p N)(a n:Nat)(hn:n<=64):LO p (N:Int) (a:Int) (n:Int)=some (if N<a+n then(0,24)else(Rb p a n,0)):=by
 obtain⟨h1,h2,h3⟩:=h;rw[LO,BS ⟨h1,h2,h3⟩,Aa,Aan (by rw[Ah];simp),Aan (by simp[Ae,Aq];omega),Bu];by_cases hl:N<a+n
 ·rw[Acf (by rw[Aq];simp;omega),Acf hl]
 ·rw[Aan (by rw[Aq];simp;omega),get_eq p N a n hn (by omega) (by omega),Aa,Aan hl]
theorem Bey(c:Nat)(h:c<4611686018427387904):Bt (c:Int) (2:Int)=((c/2:Nat):Int):=by
 rw[UZ,Bcd (by omega),De (by omega) (by omega)];omega
theorem Bcq(c:Nat)(h:c<4611686018427387904):Bt (c:Int) (8:Int)=((c/8:Nat):Int):=by
 rw[UZ,Bcd (by omega),De (by omega) (by omega)];omega
theorem Arb(c:Nat):Fo (c:Int) (8:Int)=((c %8:Nat):Int):=by rw[Fo,Bdm (by omega)];omega
theorem Be9(c:Nat):Fo (c:Int) (2:Int)=((c %2:Nat):Int):=by rw[Fo,Bdm (by omega)];omega
theorem Alv(i c:Nat)(hc:c<256):∀(j k q:Nat),k+j=i %8->j<q->Qp (i:Int) q ((c/2^k:Nat):Int) (k:Int)=some (((c/2^(i %8) %2:Nat):Int))
 |0,k,q+1,hk,_=>by
  rw[Qp,GC,Arb,Aan (by rw[Ae];simp;omega),cF,bR,Be9,show k=i %8 by omega]
 |j+1,k,q+1,hk,hq=>by
  have hle:c/2^k<=c:=Aq1 _ _;rw[Qp,GC,Arb,Acf (by rw[Ae];simp;omega),Bey _ (by omega),Aj,Beo,<-Av3];exact Alv i c hc j (k+1) q (by omega) (by omega)
theorem G5(p:List UInt8)(N:Int)(i:Nat)(h:i/8<p.length)(hi:i<4611686018427387904):Nx p N (i:Int)=some ((Ib p i:Nat):Int):=by
 have hc:=(p.getD (i/8) 0).toNat_lt;have:=Alv i (p.getD (i/8) 0).toNat (by simpa using hc) (i %8) 0 Au (by omega) (by have:=Ar;omega);rw[Nx,bU,Bcq _ hi,pg h,Aa,YI,bS];simpa [Ib]using this
theorem lu(p:List UInt8)(N:Int)(a n:Nat)(ha:a+n<=8*p.length)(hp:p.length<=1000000):∀(j q:Nat),j<=n->j<q->Lq (a:Int) p N q (Rb p (a+j) (n-j)) ((j:Int)-1)=some (Rb p a n)
 |0,q+1,_,_=>by
  rw[Lq,Yp,Aan (by rw[Ea];simp)];rfl
 |j+1,q+1,hj,hq=>by
  have hb:=EA p (a+j);rw[Lq,Yp,show((j+1:Nat):Int)-1=(j:Int) by omega,Acf (by rw[Ea];simp),Aj (a:=(a:Int)) (by omega) (by omega),show(a:Int)+(j:Int)=((a+j:Nat):Int) by omega,G5 p N (a+j) (by omega) (by omega),Aa,Bu];have e:Ad (Bf (2:UInt64) (Rb p (a+(j+1)) (n-(j+1)))) (Af ((Ib p (a+j):Nat):Int):UInt64)=Rb p (a+j) (n-j):=by
   rw[TT,TN,Yb,Rb,Rb,show n-j=(n-(j+1))+1 by omega,Ce,show a+j+1=a+(j+1) by omega,UInt64.ofNat_add,UInt64.ofNat_mul];exact UInt64.add_comm _ _
  rw[e];exact lu p N a n ha hp j q (by omega) (by omega)
theorem wE(p:List UInt8)(N:Int)(a n:Nat)(ha:a+n<=8*p.length)(hp:p.length<=1000000):Wv p N (a:Int) (n:Int)=some (Rb p a n):=by
 have:=lu p N a n ha hp n Au (Ao7 _) (by have:=Ar;omega);have hz:Rb p (a+n) (n-n)=0:=by rw[Nat.sub_self];rfl
 rw[hz]at this;rw[Wv,OI,NY,Bu];exact this
theorem Amz(bit:Int)(N:Nat)(l:List UInt8):∀(j k q:Nat),k+j=N %8->j<q->On bit (N:Int) l q ((2^k:Nat):Int) (k:Int)=CP bit ((2^(N %8):Nat):Int) (N:Int) l
 |0,k,q+1,hk,_=>by
  rw[On,DP,Arb,Aan (by rw[Ae];simp;omega),show k=N %8 by omega]
 |j+1,k,q+1,hk,hq=>by
  have hp:2^k<=2^8:=Ah1 (by omega) (by omega);have e:Bf ((2^k:Nat):Int) 2=((2^(k+1):Nat):Int):=by
   rw[Av3];generalize 2^k=K at*
   rw[Fa];omega
  rw[On,DP,Arb,Acf (by rw[Ae];simp;omega),e,Aj];exact Amz bit N l j (k+1) q (by omega) (by omega)
theorem qf(p:List UInt8)(a n j:Nat)(h:j<(n+7)/8):(So p a n)[j]'(by rw[Kc];exact h)=UInt8.ofNat (Ce p (a+8*j) (min 8 (n-8*j))):=by simp[So]
theorem D9(p:List UInt8)(a t:Nat)(h:t<=8):Ce p a t<256:=by
 have h1:=Qw p t a;have h2:2^t<=2^8:=Ah1 (by omega) h;omega
def room(p:List UInt8)(a n:Nat):List UInt8:=if n %8=0 then So p a n++[0]else So p a n
theorem Qe(p:List UInt8)(a n:Nat):(room p a n).length=n/8+1:=by
 rw[room];split<;>simp[Kc]<;>omega
theorem Ahk(p:List UInt8)(a n j:Nat)(h:j<n/8+1):(room p a n)[j]'(by rw[Qe];exact h)=UInt8.ofNat (Ce p (a+8*j) (min 8 (n-8*j))):=by
 have h0:(room p a n)[j]? =some (UInt8.ofNat (Ce p (a+8*j) (min 8 (n-8*j)))):=by
  rw[room];split
  ·by_cases hj:j<(n+7)/8
   ·rw[List.getElem?_append_left (by rw[Kc];exact hj),List.getElem?_eq_getElem (by rw[Kc];exact hj),qf p a n j hj]
   ·rw[List.getElem?_append_right (by rw[Kc];omega),Kc,show j-(n+7)/8=0 by omega,show n-8*j=0 by omega];rfl
  ·rw[List.getElem?_eq_getElem (by rw[Kc];omega),qf p a n j (by omega)]
 rw[List.getElem?_eq_getElem (by rw[Qe];exact h)]at h0;exact Bba h0
theorem C2(p:List UInt8)(a n T:Nat)(h1:1<=T)(h:n %8+T<=8):(room p a n).set (n/8) (UInt8.ofNat (Ce p (a+8*(n/8)) (n %8+T)))=So p a (n+T):=by
 apply Bb4 (by rw[Bep,Qe,Kc];omega);intro j g1 g2;rw[Bep,Qe]at g1;rw[Bg1,qf p a (n+T) j (by rw[Kc]at g2;exact g2)];split
 ·rename_i e;subst e;rw[show min 8 (n+T-8*(n/8))=n %8+T by omega]
 ·rw[Ahk p a n j g1,show min 8 (n-8*j)=8 by omega,show min 8 (n+T-8*j)=8 by omega]
theorem tP(p:List UInt8)(a n:Nat):(room p a n)[n/8]'(by rw[Qe];omega)=UInt8.ofNat (Ce p (a+8*(n/8)) (n %8)):=by
 rw[Ahk p a n _ (by omega),show min 8 (n-8*(n/8))=n %8 by omega]
theorem Aq5(p:List UInt8)(a n:Nat)(hn:n<=400000):BP (So p a n) (n:Int) ((Ib p (a+n):Nat):Int)=some (So p a (n+1),((n+1:Nat):Int)):=by
 have hb:=EA p (a+n);have hp:2^(n %8)<=2^7:=Ah1 (by omega) (by omega);have hroom:BP (So p a n) (n:Int) ((Ib p (a+n):Nat):Int)=CU ((Ib p (a+n):Nat):Int) (n:Int) (room p a n):=by
  rw[BP,WR,Arb,room];by_cases h0:n %8=0
  ·rw[Acf (by rw[As,h0];rfl),Bg (by rw[Kc];simp;omega),Aa,Acf h0]
  ·rw[Aan (by rw[As];simp;omega),Aan h0]
 have hl:=Amz ((Ib p (a+n):Nat):Int) n (room p a n) (n %8) 0 Au (by omega) (by have:=Ar;omega);rw[hroom,CU,XB,WK];refine Bda hl ?_;have hg:Ap (room p a n) ((n/8:Nat):Int)=some (UInt8.ofNat (Ce p (a+8*(n/8)) (n %8))):=by
  rw[Br (by rw[Qe];omega),tP]
 have hlt:=D9 p (a+8*(n/8)) (n %8+1) (by omega);have hsn:=tI p (a+8*(n/8)) (n %8);rw[show a+8*(n/8)+n %8=a+n by omega]at hsn;have hm:Bf ((Ib p (a+n):Nat):Int) ((2^(n %8):Nat):Int)=((2^(n %8)*Ib p (a+n):Nat):Int):=by
  have hle:2^(n %8)*Ib p (a+n)<=2^7*1:=Ba9 hp (by omega);rw[Aqt,<-Aqn,De (by omega) (by rw[Aqr];omega),Aqr]
 have hx:Ad (UInt8.ofNat (Ce p (a+8*(n/8)) (n %8))) (Af (((2^(n %8)*Ib p (a+n):Nat):Int)):UInt8)=UInt8.ofNat (Ce p (a+8*(n/8)) (n %8+1)):=by
  rw[Ayk,Ar6,hsn,UInt8.ofNat_add]
 rw[CP,WN,Bcq _ (by omega),hg,Aa,Aa,Aa,hm,hx,Vr _ (by rw[Qe];omega),Aa,C2 p a n 1 (by omega) (by omega),Aj];rfl
theorem B9(p:List UInt8)(N:Int)(a n:Nat)(ha:a+n<=8*p.length)(hp:p.length<=1000000)(hn:n<=300000):∀(j m q:Nat),m+j=n->j<q->Jp ((a+n:Nat):Int) p N q ((a+m:Nat):Int) (m:Int) (So p a m)=some (So p a n,(n:Int))
 |0,m,q+1,hm,_=>by
  rw[Jp,Vp,Aan (by rw[Ae];simp;omega),show m=n by omega];rfl
 |j+1,m,q+1,hm,hq=>by
  rw[Jp,Vp,Acf (by rw[Ae];simp;omega),G5 p N (a+m) (by omega) (by omega),Aa,Aq5 p a m (by omega),Aa];simp only;rw[Aj];exact B9 p N a n ha hp hn j (m+1) q (by omega) (by omega)
theorem Aec(p:List UInt8)(N:Int)(a n:Nat)(ha:a+n<=8*p.length)(hp:p.length<=1000000)(hn:n<=300000):TM p N (a:Int) ((a+n:Nat):Int)=some (So p a n,(n:Int)):=by
 have:=B9 p N a n ha hp hn n 0 Au (by omega) (by have:=Ar;omega);exact this
theorem Bab{t:Nat}(h:t<=8):Ao (Dp (1:UInt64) t) (1:UInt64)=UInt64.ofNat (2^t-1):=by
 have:t=0\/t=1\/t=2\/t=3\/t=4\/t=5\/t=6\/t=7\/t=8:=by omega
 rcases this with rfl|rfl|rfl|rfl|rfl|rfl|rfl|rfl|rfl<;>decide
theorem Bdq(v:UInt64){t:Nat}(h:t<=8):(Et v (Ao (Dp (1:UInt64) t) (1:UInt64))).toNat=v.toNat %2^t:=by
 have hp:2^t<=2^8:=Ah1 (by omega) h;rw[Bab h,zU,Bhc,Ah8,Adz (by have:=Bem (n:=t) (show 0<2 by omega);omega),Ben]
theorem or8{v w i:Nat}(hv:v<2^i)(hw:w*2^i<256)(hi:i<8):xC (UInt8.ofNat v) (Dp (UInt8.ofNat w) i)=UInt8.ofNat (v+w*2^i):=by
 have hp:2^i<=2^8:=Ah1 (by omega) (by omega);have hpos:0<2^i:=Bem (by omega);have hw2:w<256:=Bee (Bgx w hpos) hw;rw[Baj];apply UInt8.toNat_inj.1;have e1:(UInt8.ofNat v).toNat=v:=by rw[Aqq,Adz (by omega)]
 have e2:(UInt8.ofNat w).toNat=w:=by rw[Aqq,Adz (by omega)]
 rw[UInt8.toNat_or,Axa,e1,e2,Adz hw,Aqr w,Nat.or_comm,<-Bbs hv,Aqq,Bfk v];rw[Aqr]at hw;have hb:2^i*w+v<256:=by
  rw[Bbs hv];exact Nat.or_lt_two_pow (n:=8) hw (by omega)
 rw[Adz hb]
theorem Afq(p:List UInt8)(a n T:Nat)(h:T<=n)(hn:n<=64):Ci (Rb p a n) T=Rb p (a+T) (n-T):=by
 apply UInt64.toNat_inj.1;rw[EI,BB p a n hn,BB p (a+T) (n-T) (by omega)];have:=Qw p T a
 conv=>lhs;rw[show n=T+(n-T) by omega,TF,Nat.add_mul_div_left _ _ (Bem (by omega)),Bd7 this,Bcg]
theorem Ag8(p:List UInt8)(a n T:Nat)(h:T<=n)(hn:n<=64):(Rb p a n).toNat %2^T=Ce p a T:=by
 have:=Qw p T a;rw[BB p a n hn]
 conv=>lhs;rw[show n=T+(n-T) by omega,TF,Nat.add_mul_mod_self_left,Adz this]
theorem mr(bk:Int->Int->List UInt8->Option (List UInt8×Int×Int))(to':Int)(p:List UInt8)(N fr:Int)(r6:UInt64)(a:Nat):∀(j m q:Nat),m+j<=300000->j<=64->j<q->
  Ru bk to' p N fr r6 q (Rb p (a+m) j) (j:Int) (m:Int) (So p a m)=XK bk to' p N fr ((m+j:Nat):Int) (So p a (m+j))
 |0,m,q+1,_,_,_=>by
  rw[Ru,XS,Aan (by rw[Aq];simp)];rfl
 |j+1,m,q+1,hm,hj,hq=>by
  have hroom:Ru bk to' p N fr r6 (q+1) (Rb p (a+m) (j+1)) ((j+1:Nat):Int) (m:Int) (So p a m)=XV (Ru bk to' p N fr r6 q) to' fr p N r6 (Rb p (a+m) (j+1)) ((j+1:Nat):Int) (m:Int) (room p a m):=by
   rw[Ru,XS,Acf (by rw[Aq];simp),O8 m (by omega),room];by_cases h0:m %8=0
   ·rw[Acf (by rw[As,h0];rfl),Bg (by rw[Kc];simp;omega),Aa,Acf h0]
   ·rw[Aan (by rw[As];simp;omega),Aan h0]
  have hl:Ao (Ac (room p a m)) 1=((m/8:Nat):Int):=by
   rw[Ac,Qe,Bu];omega
  have e2:Fi ((j+1:Nat):Int) (Ao (8:Int) ((m %8:Nat):Int))=((min (j+1) (8-m %8):Nat):Int):=by
   rw[FH,Bu];omega
  rw[hroom,XV,mV,O8 m (by omega),e2,hl];generalize hT:min (j+1) (8-m %8)=T;have hT1:1<=T:=by omega
  have hT8:m %8+T<=8:=by omega
  have hg:Ap (room p a m) ((m/8:Nat):Int)=some (UInt8.ofNat (Ce p (a+8*(m/8)) (m %8))):=by
   rw[Br (by rw[Qe];omega),tP]
  have z1:(GI.toZ ((m %8:Nat):Int)).toNat=m %8:=rfl;have z2:(GI.toZ ((T:Nat):Int)).toNat=T:=rfl;have hlt:=D9 p (a+8*(m/8)) (m %8+T) (by omega);have hadd:=TF p (m %8) T (a+8*(m/8));rw[show a+8*(m/8)+m %8=a+m by omega]at hadd;have hbyte:(Af (Et (Rb p (a+m) (j+1)) (Ao (Dp (1:UInt64) T) (1:UInt64))):UInt8)=UInt8.ofNat (Ce p (a+m) T):=by
   rw[bK,Bdq _ (by omega),Ag8 p (a+m) (j+1) T (by omega) hj]
  have hnew:xC (UInt8.ofNat (Ce p (a+8*(m/8)) (m %8))) (Dp (UInt8.ofNat (Ce p (a+m) T)) (m %8))=UInt8.ofNat (Ce p (a+8*(m/8)) (m %8+T)):=by
   rw[or8 (Qw _ _ _) (by rw[Aqr];omega) (by omega),hadd,Aqr (2^(m %8))]
  rw[hg,z1,z2,hbyte];simp only[Aa];rw[Bj (by rw[Ea];simp),Aa,Bj (by rw[Ea];simp;omega),Aa,hnew,Vr _ (by rw[Qe];omega),Aa,C2 p a m T hT1 hT8,mC,zK,O8 m (by omega),e2,hT,Bj (by rw[Ea];simp),Aa,z2,Afq p (a+m) (j+1) T (by omega) hj,Bu,Aj];have ih:=mr bk to' p N fr r6 a (j+1-T) (m+T) q (by omega) (by omega) (by omega);rw[show m+T+(j+1-T)=m+(j+1) by omega]at ih;rw[<-ih,show a+m+T=a+(m+T) by omega,show((j+1:Nat):Int)-((T:Nat):Int)=((j+1-T:Nat):Int) by omega,show(m:Int)+((T:Nat):Int)=((m+T:Nat):Int) by omega]
theorem Afi(p:List UInt8)(N:Int)(a n:Nat)(ha:a+n<=8*p.length)(hp:p.length<=1000000)(hn:n<=300000):∀(j m f q:Nat),(f=m\/n<=f/\m=n)->m+j=n->f<=n+64->j<q->BJ ((a+n:Nat):Int) p N q ((a+f:Nat):Int) (m:Int) (So p a m)=some (So p a n,(n:Int),0)
 |j,m,f,q+1,hf,hm,hf2,hq=>by
  rw[BJ,mE];by_cases hlt:f<n
  ·obtain rfl:f=m:=by omega
   have e1:Fi (64:Int) (Ao ((a+n:Nat):Int) ((a+f:Nat):Int))=((min 64 (n-f):Nat):Int):=by
    rw[FH,Bu];omega
   rw[Acf (by rw[Ae];simp;omega),e1,get_eq p N (a+f) _ (by omega) (by omega) hp,Aa,mG];have h1:=mr (BJ ((a+n:Nat):Int) p N q) ((a+n:Nat):Int) p N ((a+f:Nat):Int) (Rb p (a+f) (min 64 (n-f))) a (min 64 (n-f)) f Au (by omega) (by omega) (by have:=Ar;omega);refine Bda h1 ?_;rw[XK,zI,Aj,show((a+f:Nat):Int)+64=((a+(f+64):Nat):Int) by omega];exact Afi p N a n ha hp hn (j-min 64 (n-f)) (f+min 64 (n-f)) (f+64) q (by omega) (by omega) (by omega) (by omega)
  ·rw[Aan (by rw[Ae];simp;omega),kQ,B8,show m=n by omega]
theorem Bao{p:List UInt8}{N:Nat}(h:okB p N)(a n:Nat)(ha:a+n<=N)(hn:n<=300000):rC p (N:Int) (a:Int) ((a+n:Nat):Int)=some (So p a n,(n:Int),0):=by
 obtain⟨h1,h2,h3⟩:=h;have:=Afi p N a n (by omega) (by omega) hn n 0 0 Au (by omega) (by omega) (by omega) (by have:=Ar;omega);rw[rC,rK,BS ⟨h1,h2,h3⟩,Aa,Aan (by rw[Ah];simp),Aan (by simp[Ae,Aq];omega),jZ];exact this
def Ik(p:List UInt8):Nat->Nat->Nat
 |_,0=>0
 |a,m+1=>if Ib p a=1 then 1+Ik p (a+1) m else 0
theorem dE(p:List UInt8):∀(m a:Nat),Ik p a m<=m
 |0,_=>Ao7 _
 |m+1,a=>by rw[Ik];split<;>have:=dE p m (a+1)<;>omega
theorem Af1(p:List UInt8):∀(m a:Nat),∃s,Ce p a m+1=2^(Ik p a m+1)*s+2^Ik p a m/\ (Ik p a m=m->s=0)
 |0,a=>⟨0,by simp[Ce,Ik],λ_=>rfl⟩
 |m+1,a=>by
  have hb:=EA p a;obtain⟨s,h1,h2⟩:=Af1 p m (a+1);by_cases h:Ib p a=1
  ·refine⟨s,?_,λe=>h2 ?_⟩
   ·rw[Ik,Acf h,Ce,h,show 1+Ik p (a+1) m+1=(Ik p (a+1) m+1)+1 by omega,show 1+Ik p (a+1) m=Ik p (a+1) m+1 by omega,Av3,Av3 (n:=2) (m:=Ik p (a+1) m)];rw[Av3]at h1;generalize Ce p (a+1) m=V at*
    generalize 2^Ik p (a+1) m=W at*
    have e1:W*2*2*s=2*(W*2*s):=by rw[Nat.mul_right_comm (W*2) 2 s,Aqr]
    omega
   ·rw[Ik,Acf h]at e;omega
  ·refine⟨Ce p (a+1) m,?_,λe=>?_⟩
   ·rw[Ik,Aan h,Ce];simp;omega
   ·rw[Ik,Aan h]at e;omega
theorem Ayf{n t s:Nat}(h:2^(t+1)*s+2^t<=2^n)(ht:t<n)(x:Nat)(hx:x=2^n-(2^(t+1)*s+2^t)):x&&& (2^(t+1)*s+2^t)=2^t:=by
 have hpos:0<2^t:=Bem (by omega);have hlt:2^t<2^(t+1):=by rw[Av3];omega
 have e:x=2^n-((2^(t+1)*s+(2^t-1))+1):=by rw[hx];congr 1;omega
 apply Nat.eq_of_testBit_eq;intro i;rw[Nat.testBit_and,e,Nat.testBit_two_pow_sub_succ (by omega),Nat.testBit_two_pow_mul_add _ (by omega),Nat.testBit_two_pow_mul_add _ hlt];by_cases hi:i<t+1
 ·rw[Acf hi,Acf hi,Nat.testBit_two_pow_sub_one,Nat.testBit_two_pow];by_cases hit:t=i
  ·subst hit;simp;exact ht
  ·have:¬i=t:=λe=>hit e.symm;simp[hit]
 ·rw[Aan hi,Aan hi,Nat.testBit_two_pow];have:¬t=i:=by omega
  simp[this]
theorem At8(a:UInt64):(qc a).toNat=18446744073709551615-a.toNat:=by
 have h:=a.toNat_lt;have e:qc a=UInt64.ofNat (BitVec.ofInt 64 18446744073709551615^^^BitVec.ofInt 64 (a.toNat:Int)).toNat:=Jq _;have h1:BitVec.ofInt 64 (a.toNat:Int)=a.toBitVec:=Acz a;have h2:(BitVec.ofInt 64 18446744073709551615:BitVec 64)=BitVec.allOnes 64:=by decide
 rw[e,Ah8,h1,h2,BitVec.allOnes_xor,BitVec.toNat_not];show(18446744073709551616-1-a.toNat) %18446744073709551616=18446744073709551615-a.toNat;omega
theorem As1(a:UInt64):(yP a).toNat=(18446744073709551616-a.toNat) %18446744073709551616:=by
 have h:=a.toNat_lt;have e:yP a=UInt64.ofNat ((0-(a.toNat:Int)) %18446744073709551616).toNat:=Ace _;rw[e,Ah8];show((0-(a.toNat:Int)) %18446744073709551616).toNat %18446744073709551616=_;omega
def Bdo:List UInt8:=[0,1,56,2,57,49,28,3,61,58,42,50,38,29,17,4,62,47,59,36,45,43,51,22,53,39,33,30,24,18,12,5,63,55,48,27,60,41,37,16,46,35,44,21,52,32,23,11,54,26,40,15,34,20,31,10,25,14,19,9,13,8,7,6]
theorem Anz:∀t:Fin 64,Ap Bdo (GI.toZ (Ci (Bf (UInt64.ofNat (2^t.val)) (285870213051353865:UInt64)) (GI.toZ (58:UInt64)).toNat))=some (UInt8.ofNat t.val):=by decide +kernel
theorem Bc6(x:UInt64)(t s:Nat)(ht:t<64)(h:x.toNat+(2^(t+1)*s+2^t)=18446744073709551616):Hz x=some (t:Int):=by
 have hpos:0<2^t:=Bem (by omega);have hx:x.toNat=2^64-(2^(t+1)*s+2^t):=by show x.toNat=18446744073709551616-_;omega
 have hle:2^t<=2^63:=Ah1 (by omega) (by omega);have hne:x≠0:=by
  intro e;rw[e]at h;have h':2^t*(2*s+1)=2^64:=by
   rw[Nat.mul_add,Nat.mul_one,<-Azk,<-Av3]
   show _=18446744073709551616;simpa using h
  have h2:2^64=2^t*2^(64-t):=by rw[<-Bgw];congr 1;omega
  rw[h2]at h';have h3:=Nat.eq_of_mul_eq_mul_left hpos h';rw[show 64-t=(63-t)+1 by omega,Av3]at h3;omega
 have hx0:x.toNat≠0:=λe=>hne (UInt64.toNat_inj.1 e);have hl:Et x (yP x)=UInt64.ofNat (2^t):=by
  apply UInt64.toNat_inj.1;rw[zU,Bhc,As1,show(18446744073709551616-x.toNat) %18446744073709551616=2^(t+1)*s+2^t by omega,Ayf (n:=64) (by show _<=18446744073709551616;omega) ht _ hx,Ah8,Adz];exact Bee hle (by decide)
 have hb:=Anz ⟨t,ht⟩;rw[Hz,Aan (by rw[yW];simpa using hne),hl];refine Bda (congrArg (λo=>Option.bind o λc=>some (Af c:Int)) hb) ?_;rw[Aa,YI,Aqq,Adz (by show t<256;omega)]
theorem Ayq(p:List UInt8)(a m:Nat)(hm:m<=48):Hz (qc (Rb p a m))=some ((Ik p a m:Nat):Int):=by
 obtain⟨s,h1,h2⟩:=Af1 p m a;have hle:=dE p m a;have hlt:=Qw p m a;have h48:2^m<=2^48:=Ah1 (by omega) hm;have hn:(qc (Rb p a m)).toNat=18446744073709551615-Ce p a m:=by rw[At8,BB p a m (by omega)]
 have h3:(281474976710656:Nat)=2^48:=rfl;refine Bc6 _ (Ik p a m) s (by omega) ?_;rw[hn];omega
def unS(p:List UInt8)(N a:Nat):Int×Int×Int:=
 if Ik p a (min 48 (N-a))<min 48 (N-a)then((Ik p a (min 48 (N-a)):Nat),((a+Ik p a (min 48 (N-a))+1:Nat):Int),0)else
 if Ik p a (min 48 (N-a))=48 then(48,((a+48:Nat):Int),0)else(0,0,24)
theorem Att{p:List UInt8}{N:Nat}(h:okB p N)(a:Nat)(ha:a<N):QE p (N:Int) (a:Int)=some (unS p N a):=by
 have hN:=h.1;have e1:Fi (48:Int) (Ao (N:Int) (a:Int))=((min 48 (N-a):Nat):Int):=by rw[FH,Bu];omega
 have hle:=dE p (min 48 (N-a)) a;rw[QE,EG,BS h,Aa,Aan (by rw[Ah];simp),Aan (by rw[Ae];simp),Aan (by rw[Ea];simp;omega),e1,K6 h a _ (by omega),Aan (by omega),Aa];simp only;rw[fD,fR,Aan (by rw[Ah];simp),Ayq p a _ (by omega),Aa,fV,fL,e1,unS];by_cases h1:Ik p a (min 48 (N-a))<min 48 (N-a)
 ·rw[Acf (by rw[Ae];simp;omega),Acf h1,Aj (a:=(a:Int)) (by omega) (by omega),show Ad (0:Int) 1=1 by decide,Aj];congr 3;omega
 ·rw[Aan (by rw[Ae];simp;omega),Aan h1,fO,fG];by_cases h2:Ik p a (min 48 (N-a))=48
  ·rw[Acf (by rw[As,h2];rfl),Acf h2,h2,Aj (a:=(a:Int)) (by omega) (by omega),Aj];congr 3;omega
  ·rw[Aan (by rw[As];simp;omega),Aan h2];rfl
theorem Aa4(p:List UInt8):∀(m a:Nat),Ik p a m<m->Ib p (a+Ik p a m)≠1
 |0,_,h=>by simp[Ik]at h
 |m+1,a,h=>by
  by_cases hb:Ib p a=1
  ·rw[Ik,Acf hb]at h⊢;have:=Aa4 p m (a+1) (by omega);rwa [show a+(1+Ik p (a+1) m)=a+1+Ik p (a+1) m by omega]
  ·rw[Ik,Aan hb];exact hb
theorem Aaf(p:List UInt8):∀(m a k:Nat),k<Ik p a m->Ib p (a+k)=1
 |0,a,k,h=>by simp[Ik]at h
 |m+1,a,k,h=>by
  by_cases hb:Ib p a=1
  ·rw[Ik,Acf hb]at h;cases k with
   |zero=>exact hb
   |succ k=>
    have:=Aaf p m (a+1) k (by omega);rwa [show a+(k+1)=a+1+k by omega]
  ·rw[Ik,Aan hb]at h;omega
def unR(p:List UInt8)(N a:Nat):Int×Int:=if(unS p N a).2.2=0 then((unS p N a).1,(unS p N a).2.1)else(-1,0)
theorem ru{p:List UInt8}{N:Nat}(h:okB p N)(a:Nat)(ha:a<N):∀(j k q:Nat),k+j=Ik p a (min 48 (N-a))->j<q->Od (a:Int) p (N:Int) q (k:Int)=some (unR p N a)
 |0,k,q+1,hk,_=>by
  obtain⟨hN,hl,hz⟩:=h;have hle:=dE p (min 48 (N-a)) a;have hk':k=Ik p a (min 48 (N-a)):=by omega
  have e1:Ad (a:Int) (k:Int)=((a+k:Nat):Int):=by rw[Aj];omega
  have hend:DO (a:Int) (k:Int) p (N:Int)=some (unR p N a):=by
   rw[DO,XF,e1];by_cases h48:k=48
   ·have hu:unS p N a=(48,((a+48:Nat):Int),0):=by rw[unS,<-hk',Aan (by omega),Acf h48]
    rw[Acf (by rw[As,h48];rfl),unR,hu,h48];rfl
   ·rw[Aan (by rw[As];simp;omega)];by_cases hN2:N<=a+k
    ·have hu:unS p N a=(0,0,24):=by rw[unS,<-hk',Aan (by omega),Aan h48]
     rw[Acf (by rw[Ea];simp;omega),unR,hu];rfl
    ·have hu:unS p N a=(((k:Nat):Int),((a+k+1:Nat):Int),0):=by rw[unS,<-hk',Acf (by omega)]
     rw[Aan (by rw[Ea];simp;omega),unR,hu,Aj];rfl
  rw[Od,DG,e1];by_cases hc:a+k<N/\k<48
  ·have hb:=EA p (a+k);have hs:=Aa4 p (min 48 (N-a)) a (by omega);rw[<-hk']at hs;rw[Acf (by simp[Ae];omega),G5 p _ (a+k) (by omega) (by omega),Aa,Aan (by rw[As];simp;omega),hend]
  ·rw[Aan (by simp[Ae];omega),hend]
 |j+1,k,q+1,hk,hq=>by
  obtain⟨hN,hl,hz⟩:=h;have hle:=dE p (min 48 (N-a)) a;have hb:=Aaf p (min 48 (N-a)) a k (by omega);have e1:Ad (a:Int) (k:Int)=((a+k:Nat):Int):=by rw[Aj];omega
  rw[Od,DG,e1,Acf (by simp[Ae];omega),G5 p _ (a+k) (by omega) (by omega),Aa,hb,Acf (by decide),Aj];exact ru ⟨hN,hl,hz⟩ a ha j (k+1) q (by omega) (by omega)
theorem Ar0{p:List UInt8}{N:Nat}(h:okB p N)(a:Nat)(ha:a<N):hH p (N:Int) (a:Int)=some (unR p N a):=by
 have hle:=dE p (min 48 (N-a)) a;have:=ru h a ha (Ik p a (min 48 (N-a))) 0 Au (by omega) (by have:=Ar;omega);exact this
theorem Ash{p:List UInt8}{N a:Nat}(h:Ik p a (min 48 (N-a))<min 48 (N-a)):unS p N a=(((Ik p a (min 48 (N-a)):Nat):Int),((a+Ik p a (min 48 (N-a))+1:Nat):Int),0):=by rw[unS,Acf h]
theorem Atx{p:List UInt8}{N a:Nat}(h:¬Ik p a (min 48 (N-a))<min 48 (N-a))(h2:Ik p a (min 48 (N-a))=48):unS p N a=(48,((a+48:Nat):Int),0):=by rw[unS,Aan h,Acf h2]
theorem Arj{p:List UInt8}{N a:Nat}(h:¬Ik p a (min 48 (N-a))<min 48 (N-a))(h2:¬Ik p a (min 48 (N-a))=48):unS p N a=(0,0,24):=by rw[unS,Aan h,Aan h2]
theorem Aoc{p:List UInt8}{N:Nat}(h:okB p N)(a:Nat)(ha:N<=a):QE p (N:Int) (a:Int)=some (0,0,24):=by
 rw[QE,EG,BS h,Aa,Aan (by rw[Ah];simp),Aan (by rw[Ae];simp),Acf (by rw[Ea];simp;omega)]
def cV(p:List UInt8)(N a k:Nat):UInt32×Int×Int:=
 if N<=a then(0,0,24)else
 if Ik p a (min 48 (N-a))<min 48 (N-a)then
  (if N<a+Ik p a (min 48 (N-a))+1+k then(0,0,24)else(UInt32.ofNat (Ik p a (min 48 (N-a))*2^k+Ce p (a+Ik p a (min 48 (N-a))+1) k),((a+Ik p a (min 48 (N-a))+1+k:Nat):Int),0))
 else if Ik p a (min 48 (N-a))=48 then
  (if N<a+48+32 then(0,0,24)else if Ce p (a+48) 32/2^k<48 then(0,0,12)else(UInt32.ofNat (Ce p (a+48) 32),((a+48+32:Nat):Int),0))
 else(0,0,24)
theorem zF{p:List UInt8}{a n:Nat}(h:n<=32):(Af (Rb p a n):UInt32)=UInt32.ofNat (Ce p a n):=by
 have e:(Af (Rb p a n):UInt32)=UInt32.ofNat (Rb p a n).toNat:=by simp only[Af,Lm,Gl]
 rw[e,BB p a n (by omega)]
theorem dF{n:Nat}(h:n<4294967296):(UInt32.ofNat n).toNat=n:=by rw[Ank];exact Adz h
theorem Afw(p:List UInt8)(a:Nat){n:Nat}(h:n<=32):Ce p a n<4294967296:=by
 have h1:=Qw p n a;have h2:2^n<=2^32:=Ah1 (by omega) h;omega
theorem Bbi{q v k:Nat}(hq:q<48)(hv:v<2^k)(hk:k<=24):xC (Dp (Af (q:Int):UInt32) k) (UInt32.ofNat v)=UInt32.ofNat (q*2^k+v):=by
 have hp:2^k<=2^24:=Ah1 (by omega) hk;have h1:q*2^k<=47*2^24:=Ba9 (by omega) hp;rw[Aw8];apply UInt32.toNat_inj.1;rw[UInt32.toNat_or,pF,Abc,dF (by omega),dF (n:=v) (by omega),Adz (by omega),Aqr q,<-Bbs hv,dF (by rw[Aqr];omega)]
theorem Aw3{p:List UInt8}{N:Nat}(h:okB p N)(a k:Nat)(hk:k<=24):tW p (N:Int) (a:Int) (k:Int)=some (cV p N a k):=by
 have hN:=h.1;rw[tW,lV,BS h,Aa,Aan (by rw[Ah];simp),Aan (by simp[Ae,Aq];omega)];by_cases ha:N<=a
 ·rw[Aoc h a ha,Aa,cV,Acf ha];rfl
 have hle:=dE p (min 48 (N-a)) a;rw[Att h a (by omega),Aa];by_cases h1:Ik p a (min 48 (N-a))<min 48 (N-a)
 ·have hS:cV p N a k=if N<a+Ik p a (min 48 (N-a))+1+k then(0,0,24)else(UInt32.ofNat (Ik p a (min 48 (N-a))*2^k+Ce p (a+Ik p a (min 48 (N-a))+1) k),((a+Ik p a (min 48 (N-a))+1+k:Nat):Int),0):=by rw[cV,Aan ha,Acf h1]
  rw[Ash h1,hS];generalize Ik p a (min 48 (N-a))=q at*
  simp only;rw[Aan (by rw[Ah];simp),Aan (by rw[As];simp;omega),YA,lN,K6 h _ k (by omega),Aa];by_cases h2:N<a+q+1+k
  ·rw[Acf h2,Acf h2];rfl
  ·rw[Aan h2,Aan h2];simp only;have z:(GI.toZ (k:Int)).toNat=k:=rfl;rw[Aan (by rw[Ah];simp),Acf (by rw[Ae];simp;omega),Bj (by rw[Ea];simp),Aa,z,zF (by omega),Bbi (by omega) (Qw _ _ _) hk,Aj];rfl
 ·by_cases h2:Ik p a (min 48 (N-a))=48
  ·have hS:cV p N a k=if N<a+48+32 then(0,0,24)else if Ce p (a+48) 32/2^k<48 then(0,0,12)else(UInt32.ofNat (Ce p (a+48) 32),((a+48+32:Nat):Int),0):=by rw[cV,Aan ha,Aan h1,Acf h2]
   have hg:=K6 h (a+48) 32 (by omega);rw[Atx h1 h2,hS];simp only;rw[Aan (by rw[Ah];simp),Acf (by rw[As];rfl),YA,lN];refine Bda (congrArg (λo=>Option.bind o _) hg) ?_;rw[Aa];by_cases h3:N<a+48+32
   ·rw[Acf h3,Acf h3];rfl
   ·rw[Aan h3,Aan h3];simp only;have z:(GI.toZ (k:Int)).toNat=k:=rfl;have hv:=Afw p (a+48) (n:=32) (by omega);rw[Aan (by rw[Ah];simp),Aan (by rw[Ae];simp),CE,Bj (by rw[Ea];simp),Aa,Aa,z,zF (by omega),Alg];have e:(decide ((48:UInt32).toNat<= (Ci (UInt32.ofNat (Ce p (a+48) 32)) k).toNat))=decide (¬Ce p (a+48) 32/2^k<48):=by
     rw[SL,dF hv];simp
    rw[e];by_cases h4:Ce p (a+48) 32/2^k<48
    ·rw[Acf (by simp[h4]),Acf h4]
    ·rw[Aan (by simp;omega),Aan h4,Aj];rfl
  ·rw[Arj h1 h2,cV,Aan ha,Aan h1,Aan h2];rfl
theorem mo(k:Nat)(hk:k<=63):∀(j i q:Nat),i+j=k->j<q->Lp (k:Int) q (UInt64.ofNat (2^i)) (i:Int)=some (UInt64.ofNat (2^k))
 |0,i,q+1,hi,_=>by
  rw[Lp,Ys,Aan (by rw[Ae];simp;omega),show i=k by omega];rfl
 |j+1,i,q+1,hi,hq=>by
  have e:Bf (UInt64.ofNat (2^i)) (2:UInt64)=UInt64.ofNat (2^(i+1)):=by
   rw[TN,Av3,UInt64.ofNat_mul];rfl
  rw[Lp,Ys,Acf (by rw[Ae];simp;omega),Aj,e];exact mo k hk j (i+1) q (by omega) (by omega)
theorem TP(k:Nat)(hk:k<=63):Hl (k:Int)=some (UInt64.ofNat (2^k)):=
 mo k hk k 0 Au (by omega) (by have:=Ar;omega)
theorem cZ{k:Nat}(hk:k<=63):(UInt64.ofNat (2^k)).toNat=2^k:=by
 have hp:2^k<=2^63:=Ah1 (by omega) hk;rw[Ah8,Adz (by omega)]
theorem Awj(v:UInt32)(k:Nat)(hk:k<=24):IM v (k:Int)=some ((min 48 (v.toNat/2^k):Nat):Int):=by
 have hpos:0<2^k:=Bem (by omega);have hv:=v.toNat_lt;rw[IM,TP k (by omega),Aa,Bj (by rw[XQ];simp only[Bgu,ne_eq,<-Bge,cZ (show k<=63 by omega)];simp),Aa];have e:(Bt (Af v:UInt64) (UInt64.ofNat (2^k))).toNat=v.toNat/2^k:=by
  rw[B5,Bg0,Dx,cZ (by omega),Ah8,Adz (by omega)]
 have hle:v.toNat/2^k<=v.toNat:=Aq1 _ _;have e2:Fi (48:UInt64) (Bt (Af v:UInt64) (UInt64.ofNat (2^k)))=UInt64.ofNat (min 48 (v.toNat/2^k)):=by
  apply UInt64.toNat_inj.1;rw[Ah8,Adz (by omega)];show(if _ then _ else _:UInt64).toNat=_;rw[show(GI.toZ (Bt (Af v:UInt64) (UInt64.ofNat (2^k))))=((v.toNat/2^k:Nat):Int) by rw[Lm,e],show GI.toZ (48:UInt64)=48 from rfl];split
  ·rw[e];omega
  ·show 48=_;omega
 rw[e2,K3 (by rw[Ah8,Adz]<;>omega),Ah8,Adz (by omega)]
theorem Arx{p:List UInt8}{N:Nat}(h:okB p N)(a k:Nat)(hk:k<=24):QA p (N:Int) (a:Int) (k:Int)=some (cV p N a k):=by
 obtain⟨hN,hl,hz⟩:=h;have h:okB p N:=⟨hN,hl,hz⟩;rw[QA,WI];by_cases ha:N<=a
 ·rw[Acf (by rw[Ea];simp;omega),cV,Acf ha]
 have hle:=dE p (min 48 (N-a)) a;rw[Aan (by rw[Ea];simp;omega),Ar0 h a (by omega),Aa,unR];by_cases h1:Ik p a (min 48 (N-a))<min 48 (N-a)
 ·have hS:cV p N a k=if N<a+Ik p a (min 48 (N-a))+1+k then(0,0,24)else(UInt32.ofNat (Ik p a (min 48 (N-a))*2^k+Ce p (a+Ik p a (min 48 (N-a))+1) k),((a+Ik p a (min 48 (N-a))+1+k:Nat):Int),0):=by rw[cV,Aan ha,Acf h1]
  rw[Ash h1,hS];generalize Ik p a (min 48 (N-a))=q at*
  rw[Acf rfl];simp only;rw[Aan (by rw[As];simp;omega),DI,CY,Bu];by_cases h2:N<a+q+1+k
  ·rw[Acf (by simp[Ae];omega),Acf h2]
  ·have hp:2^k<=2^24:=Ah1 (by omega) hk;have hm:q*2^k<=47*2^24:=Ba9 (by omega) hp;have hv:=Qw p k (a+q+1);have e:(Af (Ad (Bf (Af (q:Int):UInt64) (UInt64.ofNat (2^k))) (Rb p (a+q+1) k)):UInt32)=UInt32.ofNat (q*2^k+Ce p (a+q+1) k):=by
    have e1:Ad (Bf (Af (q:Int):UInt64) (UInt64.ofNat (2^k))) (Rb p (a+q+1) k)=UInt64.ofNat (q*2^k+Ce p (a+q+1) k):=by
     rw[TT,TN,Yb,Rb,UInt64.ofNat_add,UInt64.ofNat_mul]
    rw[e1];have e2:∀x:UInt64,(Af x:UInt32)=UInt32.ofNat x.toNat:=λx=>by simp only[Af,Lm,Gl]
    rw[e2,Ah8,Adz (by omega)]
   rw[Aan (by simp[Ae];omega),Aan h2,wE p _ _ k (by omega) (by omega),Aa,Acf (by rw[Ae];simp;omega),TP k (by omega),Aa,e,Aj];rfl
 ·by_cases h2:Ik p a (min 48 (N-a))=48
  ·have hS:cV p N a k=if N<a+48+32 then(0,0,24)else if Ce p (a+48) 32/2^k<48 then(0,0,12)else(UInt32.ofNat (Ce p (a+48) 32),((a+48+32:Nat):Int),0):=by rw[cV,Aan ha,Aan h1,Acf h2]
   rw[Atx h1 h2,hS,Acf rfl];simp only;rw[Acf (by rw[As];rfl),DI,CY,Bu];by_cases h3:N<a+48+32
   ·rw[Acf (by simp[Ae];omega),Acf h3]
   ·have hg:=wE p (N:Int) (a+48) 32 (by omega) (by omega);have hv:=Afw p (a+48) (n:=32) (by omega);rw[Aan (by simp[Ae];omega),Aan h3];refine Bda (congrArg (λo=>Option.bind o _) hg) ?_;rw[Aa,Aan (by rw[Ae];simp),zF (by omega),Awj _ k hk,Aa,dF hv];by_cases h4:Ce p (a+48) 32/2^k<48
    ·rw[Acf (by rw[Ae];simp;omega),Acf h4]
    ·rw[Aan (by rw[Ae];simp;omega),Aan h4,Aj];rfl
  ·rw[Arj h1 h2,cV,Aan ha,Aan h1,Aan h2];have e:(if((0:Int),(0:Int),(24:Int)).2.2=0 then(((0:Int),(0:Int),(24:Int)).1,((0:Int),(0:Int),(24:Int)).2.1)else((-1:Int),(0:Int)))=(-1,0):=by decide
   rw[e];rfl
theorem Bah{p:List UInt8}{N a k:Nat}{v:UInt32}{n:Int}(h:cV p N a k=(v,n,0)):(a:Int)<n/\n<=N:=by
 unfold cV at h;split at h
 ·simp at h
 split at h
 ·split at h
  ·simp at h
  ·simp only[Ah7]at h;omega
 ·split at h
  ·split at h
   ·simp at h
   ·split at h
    ·simp at h
    ·simp only[Ah7]at h;omega
  ·simp at h
def okD(k l:Nat)(s t:UInt64):Prop:=k<=24/\l<=24/\s.toNat<=68719476735/\t.toNat<=68719476735
theorem Afz(a b:UInt64)(h:a.toNat<=b.toNat):Fi a b=a:=by
 show(if _ then _ else _)=_;rw[Lm,Lm,Aan (by omega)]
theorem yJ(a:UInt64):geq a a=true:=by rw[yW];simp
theorem Aq0{k l:Nat}{s t:UInt64}(h:okD k l s t):bL (k:Int) (l:Int) s t=some 0:=by
 obtain⟨h1,h2,h3,h4⟩:=h;have e1:Fi (uT (k:Int) 0) 24=(k:Int):=by rw[FH,Ac4];omega
 have e2:Fi (uT (l:Int) 0) 24=(l:Int):=by rw[FH,Ac4];omega
 have e3:Fi s (68719476735:UInt64)=s:=Afz _ _ (by simpa using h3);have e4:Fi t (68719476735:UInt64)=t:=Afz _ _ (by simpa using h4);have e5:∀a:Int,geq a a=true:=λa=>by rw[As];simp
 rw[bL,RP,gC,RI,eQ,vE,e1,e2,e3,e4,e5,e5,yJ,yJ];rfl
def Zs(s n:UInt64):UInt64:=s+n-s/16
def kS(k:Nat)(s:UInt64):Nat:=if 0<k/\s.toNat<2^(k+4)then k-1 else if k<24/\2^(k+5)<s.toNat then k+1 else k
theorem Azn{k:Nat}(h:k<=24)(s:UInt64):kS k s<=24:=by
 unfold kS;by_cases h1:0<k/\s.toNat<2^(k+4)
 ·rw[Acf h1];omega
 ·rw[Aan h1];split<;>omega
theorem Ale{k:Nat}{s:UInt64}(h:¬(0<k/\s.toNat<2^(k+4))):(if k<24/\2^(k+5)<s.toNat then((k+1:Nat):Int)else(k:Int))=((kS k s:Nat):Int):=by
 rw[kS,Aan h];split<;>rfl
theorem Alh{s n:UInt64}(h:s.toNat<=68719476735)(hn:n.toNat<=4294967295):(Zs s n).toNat<=68719476735:=by
 have h1:=s.toNat_lt;have e:(s+n).toNat=s.toNat+n.toNat:=by rw[UInt64.toNat_add];omega
 have e2:(s/16).toNat=s.toNat/16:=by rw[Bg0];rfl
 rw[Zs,UInt64.toNat_sub_of_le _ _ (by rw[UInt64.le_iff_toNat_le,e,e2];omega),e,e2];omega
theorem gO(s n:UInt64):Ad s (Ao n (Ci s (GI.toZ (4:UInt64)).toNat))=Zs s n:=by
 have e:Ci s (GI.toZ (4:UInt64)).toNat=s/16:=by
  apply UInt64.toNat_inj.1;rw[EI,Bg0];rfl
 rw[e,TT,C7,Zs,UInt64.sub_eq_add_neg,UInt64.sub_eq_add_neg,UInt64.add_assoc]
theorem Alq(s n:UInt64):Ao (Ad s n) (Bt s (16:UInt64))=Zs s n:=by rw[TT,C7,B5,Zs]
theorem Bcr{k:Nat}(h:k<=24):(Dp (16:UInt64) k).toNat=2^(k+4):=by
 have hp:2^k<=2^24:=Ah1 (by omega) h;rw[cD,Bgw]
 show 16*2^k %_=2^k*16;rw[Adz (by omega),Aqr]
theorem Bbq{k:Nat}(h:k<=24):(Dp (32:UInt64) k).toNat=2^(k+5):=by
 have hp:2^k<=2^24:=Ah1 (by omega) h;rw[cD,Bgw]
 show 32*2^k %_=2^k*32;rw[Adz (by omega),Aqr]
theorem Azf{k:Nat}{s:UInt64}(h:0<k)(h2:s.toNat<2^(k+4)):kS k s=k-1:=by rw[kS,Acf ⟨h,h2⟩]
theorem Azs{k:Nat}{s:UInt64}(h:¬(0<k/\s.toNat<2^(k+4)))(h2:k<24)(h3:2^(k+5)<s.toNat):kS k s=k+1:=by rw[kS,Aan h,Acf ⟨h2,h3⟩]
theorem Aln{k:Nat}{s:UInt64}(h:¬(0<k/\s.toNat<2^(k+4)))(h2:¬(k<24/\2^(k+5)<s.toNat)):kS k s=k:=by rw[kS,Aan h,Aan h2]
theorem Am5{α:Type}(k:Nat)(hk:k<=24)(s:UInt64)(f:Int->Option α):
  (if(Ef (k:Int) (0:Int))=true then(
   Option.bind (Je (Ms (k:Int) (0:Int))) λ_=>
   if(Cj s (Dp (16:UInt64) (GI.toZ (k:Int)).toNat))=true then f (Ao (k:Int) (1:Int))
   else(if(Cj (k:Int) (24:Int))=true then(
    Option.bind (Je (Ms (k:Int) (0:Int))) λ_=>
    if(Ef s (Dp (32:UInt64) (GI.toZ (k:Int)).toNat))=true then f (Ad (k:Int) (1:Int))else f (k:Int))
    else f (k:Int)))
  else(if(Cj (k:Int) (24:Int))=true then(
    Option.bind (Je (Ms (k:Int) (0:Int))) λ_=>
    if(Ef s (Dp (32:UInt64) (GI.toZ (k:Int)).toNat))=true then f (Ad (k:Int) (1:Int))else f (k:Int))
    else f (k:Int)))=f ((kS k s:Nat):Int):=by
 have z:(GI.toZ (k:Int)).toNat=k:=rfl;rw[z,Bj (by rw[Ea];simp)];simp only[Aa];rw[S8,dI,Bcr hk,Bbq hk];by_cases h0:0<k
 ·rw[Acf (by rw[Aq];simp;omega)];by_cases h1:s.toNat<2^(k+4)
  ·rw[Acf (by simp[h1]),Azf h0 h1,Bu];congr 1;omega
  ·rw[Aan (by simp;omega)];by_cases h2:k<24
   ·rw[Acf (by rw[Ae];simp;omega)];by_cases h3:2^(k+5)<s.toNat
    ·rw[Acf (by simp[h3]),Azs (λh=>h1 h.2) h2 h3,Aj];rfl
    ·rw[Aan (by simp;omega),Aln (λh=>h1 h.2) (λh=>h3 h.2)]
   ·rw[Aan (by rw[Ae];simp;omega),Aln (λh=>h1 h.2) (λh=>h2 h.1)]
 ·rw[Aan (by rw[Aq];simp;omega)];by_cases h2:k<24
  ·rw[Acf (by rw[Ae];simp;omega)];by_cases h3:2^(k+5)<s.toNat
   ·rw[Acf (by simp[h3]),Azs (λh=>h0 h.1) h2 h3,Aj];rfl
   ·rw[Aan (by simp;omega),Aln (λh=>h0 h.1) (λh=>h3 h.2)]
  ·rw[Aan (by rw[Ae];simp;omega),Aln (λh=>h0 h.1) (λh=>h2 h.1)]
theorem Amt(k:Nat)(hk:k<=24)(s n:UInt64):Zh (k:Int) s n=some (((kS k (Zs s n):Nat):Int),Zs s n):=by
 have g1:Ad (k:Int) 4=((k+4:Nat):Int):=by rw[Aj];omega
 have g2:Ad (k:Int) 5=((k+5:Nat):Int):=by rw[Aj];omega
 have hp:Zx (k:Int) s n=some (if k<24/\2^(k+5)<(Zs s n).toNat then((k+1:Nat):Int)else(k:Int),Zs s n):=by
  rw[Zx,UJ,g2,TP _ (by omega),Aa,Alq,dI,cZ (by omega)];by_cases h2:k<24
  ·rw[Acf (by rw[Ae];simp;omega)];by_cases h3:2^(k+5)<(Zs s n).toNat
   ·rw[Acf (by simp[h3]),Acf ⟨h2,h3⟩,Aj];rfl
   ·rw[Aan (by simp;omega),Aan (λh=>h3 h.2)]
  ·rw[Aan (by rw[Ae];simp;omega),Aan (λh=>h2 h.1)]
 rw[Zh,TD,g1,TP _ (by omega),Aa,Alq,S8,cZ (by omega),hp];by_cases h0:0<k
 ·rw[Acf (by rw[Aq];simp;omega)];by_cases h1:(Zs s n).toNat<2^(k+4)
  ·rw[Acf (by simp[h1]),Azf h0 h1,Bu];congr 2;omega
  ·rw[Aan (by simp;omega),Ale (λh=>h1 h.2)]
 ·rw[Aan (by rw[Aq];simp;omega),Ale (λh=>h0 h.1)]
def S0(v:UInt32):UInt64:=UInt64.ofNat v.toNat
theorem Ar9(v:UInt32):(S0 v).toNat<=4294967295:=by have:=v.toNat_lt;rw[S0,Ah8,Adz (by omega)];omega
def nO(k:Nat)(v:UInt32):UInt32:=UInt32.ofNat (v.toNat-2^k)
def lK(l:Nat)(t:UInt64)(k:Nat)(v:UInt32):Nat:=if v.toNat<2^k then l else kS l (Zs t (S0 (nO k v)))
def lT(t:UInt64)(k:Nat)(v:UInt32):UInt64:=if v.toNat<2^k then t else Zs t (S0 (nO k v))
theorem Aq9{k l:Nat}{s t:UInt64}(h:okD k l s t)(v:UInt32):okD (kS k (Zs s (S0 v))) (lK l t k v) (Zs s (S0 v)) (lT t k v):=by
 obtain⟨h1,h2,h3,h4⟩:=h;refine⟨Azn h1 _,?_,Alh h3 (Ar9 v),?_⟩
 ·unfold lK;split; · exact h2
  exact Azn h2 _
 ·unfold lT;split; · exact h4
  exact Alh h4 (Ar9 _)
theorem Bax(k l:Nat)(s t:UInt64)(hk:k<=24)(v:UInt32):PT (k:Int) (l:Int) s t v=some (decide (v.toNat<2^k)):=by
 have:=v.toNat_lt;rw[PT,TP k (by omega),Aa,S8,cZ (by omega),Dx,Ah8,Adz (by omega)]
theorem left_eq(k l:Nat)(s t:UInt64)(hk:k<=24)(v:UInt32)(h:¬v.toNat<2^k):KS (k:Int) (l:Int) s t v=some (nO k v):=by
 have:=v.toNat_lt;have e2:∀x:UInt64,(Af x:UInt32)=UInt32.ofNat x.toNat:=λx=>by simp only[Af,Lm,Gl]
 have e3:(UInt64.ofNat v.toNat).toNat=v.toNat:=by rw[Ah8,Adz (by omega)]
 rw[KS,TP k (by omega),Aa,e2,C7,Dx,UInt64.toNat_sub_of_le _ _ (by rw[UInt64.le_iff_toNat_le,cZ (by omega),e3];omega),cZ (by omega),e3,nO]
theorem Apw{k l:Nat}{s t:UInt64}(h:okD k l s t)(v:UInt32):CM (k:Int) (l:Int) s t v=some (((kS k (Zs s (S0 v)):Nat):Int),((lK l t k v:Nat):Int),Zs s (S0 v),lT t k v):=by
 obtain⟨h1,h2,h3,h4⟩:=h;have hp:∀(r1:Int) (r2:UInt64),Wh v (k:Int) (l:Int) s t r1 r2=some (((kS k (Zs s (S0 v)):Nat):Int),r1,Zs s (S0 v),r2):=by
  intro r1 r2;rw[Wh,MA,Dx,Amt k h1,Aa];rfl
 rw[CM,IY,Bax k l s t h1,Aa];by_cases hv:v.toNat<2^k
 ·rw[Aan (by simp[hv]),hp,lK,Acf hv,lT,Acf hv]
 ·rw[Acf (by simp;omega),left_eq k l s t h1 v hv,Aa,Dx,Amt l h2,Aa];simp only;rw[hp,lK,Aan hv,lT,Aan hv];rfl
theorem iy(k l:Nat)(s t:UInt64)(hk:k<=24)(v:UInt32):QH (k:Int) (l:Int) s t v=some (if v.toNat<2^k then(0,v)else(1,nO k v)):=by
 have hp:2^k<=2^24:=Ah1 (by omega) hk;have hpos:0<2^k:=Bem (by omega);have hl:=v.toNat_lt;have z:(GI.toZ (k:Int)).toNat=k:=rfl;have e1:geq (Ci v k) (0:UInt32)=decide (v.toNat<2^k):=by
  rw[Ab8,Ako];simp only[Avz,<-UInt32.toNat_inj,SL,Adx]
  show _/_=0↔_;rw[Nat.div_eq_zero_iff];omega
 have e2:¬v.toNat<2^k->Ao v (Dp (1:UInt32) k)=nO k v:=by
  intro h;have e3:(Dp (1:UInt32) k).toNat=2^k:=by rw[pF];show 1*2^k %_=_;rw[Adz (by omega),Azu]
  apply UInt32.toNat_inj.1;rw[Y8,UInt32.toNat_sub_of_le _ _ (by rw[UInt32.le_iff_toNat_le,e3];omega),e3,nO,dF (by omega)]
 rw[QH,Bj (by rw[Ea];simp),Aa,Aa,z,e1];by_cases h:v.toNat<2^k
 ·rw[Acf (by simp[h]),Acf h]
 ·rw[Aan (by simp;omega),Aan h,e2 h]
abbrev Rd:=UInt32×Int×Int×Int×UInt64×UInt64×Int
theorem X4{k l:Nat}{s t:UInt64}(h:okD k l s t)(v:UInt32)(r:Int):XR (k:Int) (l:Int) s t v r=some (v,r,((kS k (Zs s (S0 v)):Nat):Int),((lK l t k v:Nat):Int),Zs s (S0 v),lT t k v,0):=by
 obtain⟨h1,h2,h3,h4⟩:=h;have hp:∀(x:Int) (y:UInt64),MQ v r (k:Int) s x y=some (v,r,((kS k (Zs s (S0 v)):Nat):Int),x,Zs s (S0 v),y,0):=by
  intro x y;rw[MQ,mQ,Dx,gO,Am5 k h1];rw[kF,mI,fJ,vC,Dx,gO];rfl
 rw[XR,kR,iy k l s t h1,Aa];by_cases hv:v.toNat<2^k
 ·rw[Acf hv];simp only;rw[Aan (by rw[As];simp),hp,lK,Acf hv,lT,Acf hv]
 ·rw[Aan hv];simp only;rw[Acf (by rw[As];rfl),Dx,gO,Am5 l h2 _ (λx=>MQ v r (k:Int) s x (Zs t (UInt64.ofNat (nO k v).toNat))),hp,lK,Aan hv,lT,Aan hv];rfl
def kU(p:List UInt8)(N a k l:Nat):UInt32×Int×Int:=
 if N<=a then(0,0,24)else
 if Ib p a=0 then(if N<a+1+k then(0,0,24)else(UInt32.ofNat (Ce p (a+1) k),((a+1+k:Nat):Int),0))else
 if(cV p N (a+1) l).2.2≠0 then(0,0,(cV p N (a+1) l).2.2)else
 if 4294967295<(cV p N (a+1) l).1.toNat+2^k then(0,0,12)else(UInt32.ofNat ((cV p N (a+1) l).1.toNat+2^k),(cV p N (a+1) l).2.1,0)
theorem Ba8{p:List UInt8}{N a k l:Nat}(h:(kU p N a k l).2.2=0):(a:Int)<(kU p N a k l).2.1/\ (kU p N a k l).2.1<=N:=by
 revert h
 unfold kU;split
 ·simp
 split
 ·split
  ·simp
  ·simp only;omega
 ·split
  ·intro h;contradiction
  ·rename_i h1;split
   ·simp
   ·intro _;have:=Bah (p:=p) (N:=N) (a:=a+1) (k:=l) (v:=(cV p N (a+1) l).1) (n:=(cV p N (a+1) l).2.1) (by
     have e:(cV p N (a+1) l).2.2=0:=by simpa using h1
     rw[<-e])
    simp only;omega
theorem Aw1{p:List UInt8}{N:Nat}(h:okB p N)(a:Nat){k l:Nat}{s t:UInt64}(hd:okD k l s t):PW p (N:Int) (a:Int) (k:Int) (l:Int) s t=
  some (if(kU p N a k l).2.2≠0 then(0,0,0,0,0,0,(kU p N a k l).2.2)else((kU p N a k l).1,(kU p N a k l).2.1,((kS k (Zs s (S0 (kU p N a k l).1)):Nat):Int),((lK l t k (kU p N a k l).1:Nat):Int),Zs s (S0 (kU p N a k l).1),lT t k (kU p N a k l).1,0)):=by
 obtain⟨h1,h2,h3,h4⟩:=hd;have hd:okD k l s t:=⟨h1,h2,h3,h4⟩;have hN:=h.1;have hg:=K6 h a 1 (by omega);have hb:=EA p a;rw[PW,mX,BS h,Aa,Aan (by rw[Ah];simp),Aq0 hd,Aa,Aan (by rw[Ah];simp),mU,kY];refine Bda (congrArg (λo=>Option.bind o _) hg) ?_;rw[Aa];by_cases ha:N<=a
 ·have hS:kU p N a k l=(0,0,24):=by rw[kU,Acf ha]
  rw[Acf (by omega),hS];rfl
 rw[Aan (by omega)];simp only;have e0:geq (Rb p a 1) (0:UInt64)=decide (Ib p a=0):=by
  rw[yW,Ako];simp only[Avz,<-Bge,Adx,BB p a 1 (by omega),zL];rfl
 have e1:Ad (a:Int) 1=((a+1:Nat):Int):=by rw[Aj];omega
 rw[Aan (by rw[Ah];simp),e0,e1];by_cases hz:Ib p a=0
 ·rw[Acf (by simp[hz]),K6 h (a+1) k (by omega),Aa];by_cases h5:N<a+1+k
  ·have hS:kU p N a k l=(0,0,24):=by rw[kU,Aan ha,Acf hz,Acf h5]
   rw[Acf h5,hS];rfl
  ·have hS:kU p N a k l=(UInt32.ofNat (Ce p (a+1) k),((a+1+k:Nat):Int),0):=by rw[kU,Aan ha,Acf hz,Aan h5]
   rw[Aan h5,hS];simp only;rw[Aan (by rw[Ah];simp),X4 hd,zF (by omega),Aj];rfl
 ·rw[Aan (by simp[hz]),Aw3 h (a+1) l h2,Aa];have hp:2^k<=2^24:=Ah1 (by omega) h1;by_cases h5:(cV p N (a+1) l).2.2≠0
  ·have hS:kU p N a k l=(0,0,(cV p N (a+1) l).2.2):=by rw[kU,Aan ha,Aan hz,Acf h5]
   rw[hS];generalize cV p N (a+1) l=R at*
   obtain⟨v,n,e⟩:=R;simp only at*
   rw[Acf (by rw[Ah];simpa using h5),Acf h5]
  ·have hv:=(cV p N (a+1) l).1.toNat_lt;have z:(GI.toZ (k:Int)).toNat=k:=rfl;have e3:(Dp (1:UInt32) k).toNat=2^k:=by rw[pF];show 1*2^k %_=_;rw[Adz (by omega),Azu]
   by_cases h6:4294967295<(cV p N (a+1) l).1.toNat+2^k
   ·have hS:kU p N a k l=(0,0,12):=by rw[kU,Aan ha,Aan hz,Aan h5,Acf h6]
    rw[hS];generalize cV p N (a+1) l=R at*
    obtain⟨v,n,e⟩:=R;simp only at*
    rw[Aan (by rw[Ah];simpa using h5),Bj (by rw[Ea];simp),Aa,z,Acf (by rw[Ali,U0,UInt32.toNat_add,e3];simp;omega),Acf (by decide)]
   ·have hS:kU p N a k l=(UInt32.ofNat ((cV p N (a+1) l).1.toNat+2^k),(cV p N (a+1) l).2.1,0):=by rw[kU,Aan ha,Aan hz,Aan h5,Aan h6]
    rw[hS];generalize cV p N (a+1) l=R at*
    obtain⟨v,n,e⟩:=R;simp only at*
    have e4:Ad v (Dp (1:UInt32) k)=UInt32.ofNat (v.toNat+2^k):=by
     apply UInt32.toNat_inj.1;rw[U0,UInt32.toNat_add,e3,dF (by omega),Adz (by omega)]
    rw[Aan (by rw[Ah];simpa using h5),Bj (by rw[Ea];simp),Aa,z,Aan (by rw[Ali,U0,UInt32.toNat_add,e3];simp;omega),e4,X4 hd];rfl
theorem Aua{p:List UInt8}{N:Nat}(h:okB p N)(a:Nat)(k l:Nat)(s t:UInt64)(h1:k<=24)(h2:l<=24):PX p (N:Int) (a:Int) (k:Int) (l:Int) s t=some (kU p N a k l):=by
 have hN:=h.1;have hl:=h.2.1;have hb:=EA p a;rw[PX];by_cases ha:N<=a
 ·rw[Acf (by rw[Ea];simp;omega),kU,Acf ha]
 rw[Aan (by rw[Ea];simp;omega),G5 p _ a (by omega) (by omega),Aa,Bu (a:=(N:Int)) (b:=(a:Int)) (by omega) (by omega),Bu];have e1:Ad (a:Int) 1=((a+1:Nat):Int):=by rw[Aj];omega
 rw[e1];by_cases hz:Ib p a=0
 ·rw[Acf (by rw[As];simp[hz])];by_cases h5:N<a+1+k
  ·rw[Acf (by rw[Ae];simp;omega),kU,Aan ha,Acf hz,Acf h5]
  ·rw[Aan (by rw[Ae];simp;omega),wE p _ (a+1) k (by omega) (by omega),Aa,kU,Aan ha,Acf hz,Aan h5,zF (by omega),Aj];rfl
 ·rw[Aan (by rw[As];simp;omega),Arx h (a+1) l h2,Aa];have hp:2^k<=2^24:=Ah1 (by omega) h1;have hv:=(cV p N (a+1) l).1.toNat_lt;have e2:∀x:UInt64,(Af x:UInt32)=UInt32.ofNat x.toNat:=λx=>by simp only[Af,Lm,Gl]
  by_cases h5:(cV p N (a+1) l).2.2≠0
  ·have hS:kU p N a k l=(0,0,(cV p N (a+1) l).2.2):=by rw[kU,Aan ha,Aan hz,Acf h5]
   rw[hS];generalize cV p N (a+1) l=R at*
   obtain⟨v,n,e⟩:=R;simp only at*
   rw[Acf (by rw[Ah];simpa using h5)]
  ·have hsum:∀v:UInt32,(Ad (Af v:UInt64) (UInt64.ofNat (2^k))).toNat=v.toNat+2^k:=by
    intro v;have:=v.toNat_lt;have:=Bem (n:=k) (show 0<2 by omega);rw[TT,UInt64.toNat_add,Dx,cZ (by omega),Ah8];omega
   by_cases h6:4294967295<(cV p N (a+1) l).1.toNat+2^k
   ·have hS:kU p N a k l=(0,0,12):=by rw[kU,Aan ha,Aan hz,Aan h5,Acf h6]
    rw[hS];generalize cV p N (a+1) l=R at*
    obtain⟨v,n,e⟩:=R;simp only at*
    rw[Aan (by rw[Ah];simpa using h5),TP k (by omega),Aa,Acf (by rw[dI,hsum];simpa using h6)]
   ·have hS:kU p N a k l=(UInt32.ofNat ((cV p N (a+1) l).1.toNat+2^k),(cV p N (a+1) l).2.1,0):=by rw[kU,Aan ha,Aan hz,Aan h5,Aan h6]
    rw[hS];generalize cV p N (a+1) l=R at*
    obtain⟨v,n,e⟩:=R;simp only at*
    rw[Aan (by rw[Ah];simpa using h5),TP k (by omega),Aa,Aan (by rw[dI,hsum];simpa using h6),e2,hsum]
abbrev DuN:=Nat×Nat×UInt64×UInt64
def okN(d:DuN):Prop:=okD d.1 d.2.1 d.2.2.1 d.2.2.2
def nxt(d:DuN)(v:UInt32):DuN:=(kS d.1 (Zs d.2.2.1 (S0 v)),lK d.2.1 d.2.2.2 d.1 v,Zs d.2.2.1 (S0 v),lT d.2.2.2 d.1 v)
def Adb:DuN:=(10,10,16384,16384)
theorem Asj:okN Adb:=⟨by decide,by decide,by decide,by decide⟩
theorem Bbc{d:DuN}(h:okN d)(v:UInt32):okN (nxt d v):=Aq9 h v
abbrev DuL:=Int×Int×UInt64×UInt64×Unit
def toI(d:DuN):DuL:=((d.1:Int),(d.2.1:Int),d.2.2.1,d.2.2.2,())
def oT(ch:Nat)(v:List UInt32)(c:Nat):Nat->DuN
 |0=>Adb
 |m+1=>if m %ch=c then nxt (oT ch v c m) (v.getD m 0)else oT ch v c m
theorem qY(ch:Nat)(v:List UInt32)(c:Nat):∀m,okN (oT ch v c m)
 |0=>Asj
 |m+1=>by rw[oT];split;exact Bbc (qY ch v c m) _;exact qY ch v c m
theorem Amx(ch:Nat)(v w:List UInt32)(c:Nat):∀m,m<=v.length->oT ch (v++w) c m=oT ch v c m
 |0,_=>rfl
 |m+1,h=>by
  have e:(v++w).getD m 0=v.getD m 0:=by simp[List.getD_eq_getElem?_getD,List.getElem?_append_left (show m<v.length by omega)]
  rw[oT,oT,Amx ch v w c m (by omega),e]
theorem Ab5(ch:Nat)(v:List UInt32)(c:Nat):∀m,m<=c->c<ch->oT ch v c m=Adb
 |0,_,_=>rfl
 |m+1,h,h2=>by rw[oT,Aan (by rw[Adz (by omega)];omega),Ab5 ch v c m (by omega) h2]
theorem Ags(ch:Nat)(v:List UInt32)(c i:Nat)(hi:i %ch=c)(hc:c<ch):∀j,j<ch->oT ch v c (i+1+j)=oT ch v c (i+1)
 |0,_=>rfl
 |j+1,h=>by
  have hne:(i+1+j) %ch≠c:=by
   intro e;have h1:(i+(1+j)) %ch=i %ch:=by rw[hi,<-e];congr 1;omega
   have h2:(1+j) %ch=0:=by
    have h3:=Nat.sub_mod_eq_zero_of_mod_eq h1;rwa [Bch]at h3
   rw[Adz (by omega)]at h2;omega
  rw[show i+1+(j+1)=(i+1+j)+1 by omega,oT,Aan hne,Ags ch v c i hi hc j (by omega)]
theorem As6(ch:Nat)(v:List UInt32)(c i:Nat)(hi:i %ch=c)(hc:c<ch):oT ch v c (i+ch)=nxt (oT ch v c i) (v.getD i 0):=by
 have h:=Ags ch v c i hi hc (ch-1) (by omega);rw[show i+1+(ch-1)=i+ch by omega]at h;rw[h,oT,Acf hi]
theorem C8{l:List UInt32}{k:Nat}(h:k<l.length):Ap l (k:Int)=some (l.getD k 0):=by
 rw[Br h];simp[List.getD_eq_getElem?_getD,h]
theorem IZ(a b:Nat):Fo (a:Int) (b:Int)=((a %b:Nat):Int):=by rw[Fo,Bdm (by omega)];omega
theorem P8(ch:Nat)(v:List UInt32)(hch:1<=ch)(Bb6:ch<=6)(hv:v.length<=4000):∀(j i q:Nat),i %ch=v.length %ch->i<=v.length->v.length-i<=j->j<q->
  Oz (ch:Int) v q (i:Int) ((oT ch v (v.length %ch) i).1:Int) ((oT ch v (v.length %ch) i).2.1:Int) (oT ch v (v.length %ch) i).2.2.1 (oT ch v (v.length %ch) i).2.2.2=
   some (((oT ch v (v.length %ch) v.length).1:Int),((oT ch v (v.length %ch) v.length).2.1:Int),(oT ch v (v.length %ch) v.length).2.2.1,(oT ch v (v.length %ch) v.length).2.2.2)
 |j,i,q+1,hi,hl,hj,hq=>by
  have hc:v.length %ch<ch:=Bdl _ (by omega);rw[Oz,LY];by_cases h:i<v.length
  ·have h1:=Apw (qY ch v (v.length %ch) i) (v.getD i 0);rw[Acf (by rw[Ae,Ac];simp;omega),C8 h,Aa,h1,Aa];have hle:i+ch<=v.length:=by
    have h2:=Bfw i ch;have h3:=Bfw v.length ch;rw[hi]at h2;have h4:ch*(i/ch)<ch*(v.length/ch):=by omega
    have h5:=Nat.lt_of_mul_lt_mul_left h4;have h6:ch*(i/ch+1)<=ch*(v.length/ch):=Bes _ h5;rw[Nat.mul_add]at h6;omega
   have ih:=P8 ch v hch Bb6 hv (j-ch) (i+ch) q (by rw[Bgt];exact hi) hle (by omega) (by omega);rw[As6 ch v _ i hi hc]at ih;simp only;rw[Aj];exact ih
  ·rw[Aan (by rw[Ae,Ac];simp;omega),show i=v.length by omega];rfl
theorem Aox(ch:Nat)(v:List UInt32)(hch:1<=ch)(Bb6:ch<=6)(hv:v.length<=4000):Ty (ch:Int) v=some (((oT ch v (v.length %ch) v.length).1:Int),((oT ch v (v.length %ch) v.length).2.1:Int),(oT ch v (v.length %ch) v.length).2.2.1,(oT ch v (v.length %ch) v.length).2.2.2):=by
 have hc:v.length %ch<ch:=Bdl _ (by omega);have hle:v.length %ch<=v.length:=Bg2 _ _;have h:=P8 ch v hch Bb6 hv v.length (v.length %ch) Au (by rw[Nat.mod_mod]) hle (by omega) (by have:=Ar;omega);rw[Ab5 ch v _ _ (Ao7 _) hc]at h;rw[Ty,KA,Qc,Aa];simp only;rw[Bj (by rw[Ah];simp;omega),Aa,Ac,IZ];exact h
def now(ch:Nat)(v:List UInt32):DuN:=oT ch v (v.length %ch) v.length
def U5(N a:Nat):Nat:=min 81 (N-a)
def Ox(ch:Nat)(p:List UInt8)(N a:Nat)(out:List UInt32):UInt32×Int×Int:=kU (So p a (U5 N a)) (U5 N a) 0 (now ch out).1 (now ch out).2.1
def CF(ch:Nat)(p:List UInt8)(N:Nat):Nat->Nat->List UInt32->List UInt32×Nat×Int
 |0,a,out=>(out,a,0)
 |j+1,a,out=>if(Ox ch p N a out).2.2≠0 then(out,a,(Ox ch p N a out).2.2)else CF ch p N j (a+(Ox ch p N a out).2.1.toNat) (out++[(Ox ch p N a out).1])
theorem tS{ch:Nat}{p:List UInt8}{N a:Nat}{out:List UInt32}(h:(Ox ch p N a out).2.2=0):0<(Ox ch p N a out).2.1/\ (Ox ch p N a out).2.1<=U5 N a:=by
 have:=Ba8 h;exact⟨this.1,this.2⟩
theorem Abd{ch:Nat}{p:List UInt8}{N a:Nat}{out:List UInt32}(h:(Ox ch p N a out).2.2=0):((a:Int)+(Ox ch p N a out).2.1)=((a+(Ox ch p N a out).2.1.toNat:Nat):Int):=by
 have:=tS h;omega
def sts(ch:Nat)(v:List UInt32):List DuL:=(List.range 6).map λc=>toI (oT ch v c v.length)
theorem Aci{ch:Nat}{v:List UInt32}{c:Nat}(h:c<6):Ap (sts ch v) (c:Int)=some (toI (oT ch v c v.length)):=by
 rw[Br (by simp[sts];exact h)];simp[sts]
theorem Amy{ch:Nat}{v:List UInt32}{c:Nat}(x:UInt32)(h:c<6)(hc:c=v.length %ch):Nj (sts ch v) (c:Int) (toI (nxt (oT ch v c v.length) x))=some (sts ch (v++[x])):=by
 rw[Vr _ (by simp[sts];exact h)];congr 1;apply Bb4 (by simp[sts]);intro i h1 h2;rw[Bg1];simp only[sts,Be6,Bex];have e:(v++[x]).getD v.length 0=x:=by simp
 rw[Adl,Bcv,oT,e,Amx ch v [x] i v.length (Ao7 _)];by_cases hi:c=i
 ·subst hi;rw[Acf rfl,Acf hc.symm]
 ·rw[Aan hi,Aan (by omega)]
theorem Ayp{ch:Nat}{v:List UInt32}{c:Nat}(hc:c=v.length %ch):oT ch v c v.length=now ch v:=by rw[now,hc]
section
variable {p:List UInt8} {N ch n:Nat}
theorem Ad6(hp:okB p N)(h1:1<=ch)(h6:ch<=6)(hn:n*ch<=4000):∀(j a q:Nat) (out:List UInt32),out.length+j=n*ch->j<q->a<=N->
  Pw (ch:Int) (n:Int) p (N:Int) q (a:Int) (out.length:Int) (sts ch out) out=
   some (if(CF ch p N j a out).2.2≠0 then([],0,(CF ch p N j a out).2.2)else((CF ch p N j a out).1,((CF ch p N j a out).2.1:Int),0))
 |j,a,q+1,out,hj,hq,ha=>by
  have hN:=hp.1;have hnn:n<=n*ch:=Bgx n (by omega);have em:Bf (n:Int) (ch:Int)=((n*ch:Nat):Int):=by rw[Fa (by rw[<-Aqn];omega) (by rw[<-Aqn];omega),Aqn]
  rw[Pw,Xd,em];cases j with
  |zero=>
   rw[Aan (by rw[Ae];simp;omega)];rfl
  |succ j=>
   have hc:out.length %ch<6:=Aqh (Bdl _ (by omega)) h6;have ew:Fi (Ad (a:Int) 81) (N:Int)=((a+U5 N a:Nat):Int):=by rw[FH,Aj];unfold U5;omega
   have hw:a+U5 N a<=N:=by unfold U5;omega
   have hw2:U5 N a<=81:=by unfold U5;omega
   have hd:=Aw1 (yS p a (U5 N a) (by omega)) 0 (qY ch out (out.length %ch) out.length);have Avf:kU (So p a (U5 N a)) (U5 N a) 0 (oT ch out (out.length %ch) out.length).1 (oT ch out (out.length %ch) out.length).2.1=Ox ch p N a out:=rfl;rw[Acf (by rw[Ae];simp;omega),ew,Bao hp a _ hw (by omega),Aa];simp only;rw[Aan (by rw[Ah];simp),Bj (by rw[Ah];simp;omega),Aa,IZ,Aci hc,Aa,Aa];refine Bda (congrArg (λo=>Option.bind o _) hd) ?_;rw[Aa,Avf,CF];by_cases he:(Ox ch p N a out).2.2≠0
   ·rw[Acf he,Acf he];simp only;rw[Wm,Wl,Acf (by rw[Ah];simpa using he),Acf he]
   ·have he0:(Ox ch p N a out).2.2=0:=by simpa using he
    have hok:=tS he0;have hset:=Amy (ch:=ch) (v:=out) (Ox ch p N a out).1 hc rfl;rw[Aan he,Aan he];simp only;rw[Wm,Wl,Aan (by rw[Ah];simp),Bj (by rw[Ah];simp;omega),Aa,IZ,Aci hc,Aa];refine Bda (congrArg (λo=>Option.bind o _) hset) ?_;rw[Aa,FK,bG,Bg (by simp;omega),Aa,Aj,Aj,Abd he0];have ih:=Ad6 hp h1 h6 hn j (a+(Ox ch p N a out).2.1.toNat) q (out++[(Ox ch p N a out).1]) (by simp;omega) (by omega) (by omega);rw[Adl,Bcv]at ih;exact ih
theorem Anj{p:List UInt8}(hN:N=8*p.length)(hN2:N<=330000)(h1:1<=ch)(h6:ch<=6)(hn:n*ch<=4000):∀(j a q:Nat) (out:List UInt32),out.length+j=n*ch->j<q->a<=N->
  Gq (ch:Int) (n:Int) p q (a:Int) (out.length:Int) out=
   if(CF ch p N j a out).2.2≠0 then some ((CF ch p N j a out).1,(CF ch p N j a out).2.2)else Yv ((CF ch p N j a out).2.1:Int) p (CF ch p N j a out).1
 |j,a,q+1,out,hj,hq,ha=>by
  have hnn:n<=n*ch:=Bgx n (by omega);have em:Bf (n:Int) (ch:Int)=((n*ch:Nat):Int):=by rw[Fa (by rw[<-Aqn];omega) (by rw[<-Aqn];omega),Aqn]
  have e8:Bf (8:Int) (Ac p)=(N:Int):=by rw[Ac,Fa];omega
  rw[Gq,OP,em];cases j with
  |zero=>
   rw[Aan (by rw[Ae];simp;omega)];rfl
  |succ j=>
   have ew:Fi (Ad (a:Int) 81) (N:Int)=((a+U5 N a:Nat):Int):=by rw[FH,Aj];unfold U5;omega
   have hw:a+U5 N a<=N:=by unfold U5;omega
   have hw2:U5 N a<=81:=by unfold U5;omega
   have hpre:(Option.bind Qc λ(r_4,r_5,r_6,r_7)=>
     if(Ms (out.length:Int) (ch:Int))=true then(
     Option.bind (Ty (ch:Int) out) λ(r_8,r_9,r_10,r_11)=>
     Ls (Gq (ch:Int) (n:Int) p q) (ch:Int) (n:Int) p (a:Int) (out.length:Int) out r_8 r_9 r_10 r_11)
     else Ls (Gq (ch:Int) (n:Int) p q) (ch:Int) (n:Int) p (a:Int) (out.length:Int) out r_4 r_5 r_6 r_7)=
     Ls (Gq (ch:Int) (n:Int) p q) (ch:Int) (n:Int) p (a:Int) (out.length:Int) out ((now ch out).1:Int) ((now ch out).2.1:Int) (now ch out).2.2.1 (now ch out).2.2.2:=by
    rw[Qc,Aa];by_cases hc:ch<=out.length
    ·simp only;rw[Acf (by rw[Ea];simp;omega),Aox ch out h1 h6 (by omega),Aa];rfl
    ·have e:now ch out=Adb:=by rw[now,Adz (by omega),Ab5 ch out _ _ (Ao7 _) (by omega)]
     simp only;rw[Aan (by rw[Ea];simp;omega),e];rfl
   have hd:=Aua (yS p a (U5 N a) (by omega)) 0 (now ch out).1 (now ch out).2.1 (now ch out).2.2.1 (now ch out).2.2.2 (qY ch out _ _).1 (qY ch out _ _).2.1;have Avf:kU (So p a (U5 N a)) (U5 N a) 0 (now ch out).1 (now ch out).2.1=Ox ch p N a out:=rfl;rw[Acf (by rw[Ae];simp;omega),hpre,Ls,OK,e8,ew,Aec p (N:Int) a _ (by omega) (by omega) (by omega),Aa];simp only;refine Bda (congrArg (λo=>Option.bind o _) hd) ?_;rw[Aa,Avf,CF];by_cases he:(Ox ch p N a out).2.2≠0
   ·rw[Acf he,Acf (by rw[Ah];simpa using he),Acf he]
   ·have he0:(Ox ch p N a out).2.2=0:=by simpa using he
    have hok:=tS he0;have ih:=Anj hN hN2 h1 h6 hn j (a+(Ox ch p N a out).2.1.toNat) q (out++[(Ox ch p N a out).1]) (by simp;omega) (by omega) (by omega);have hx:=Abd he0;rw[Adl,Bcv]at ih;rw[Aan he];generalize Ox ch p N a out=R at*
    obtain⟨v,nx,e⟩:=R;simp only at*
    rw[Aan (by rw[Ah];simpa using he),Bg (by simp;omega),Aa,Aj,Aj,hx];exact ih
end
theorem R9{ch:Nat}{p:List UInt8}{N:Nat}:∀(j a:Nat) (out:List UInt32),a<=N-> (CF ch p N j a out).2.1<=N/\ (CF ch p N j a out).1.length<=out.length+j/\ ((CF ch p N j a out).2.2=0-> (CF ch p N j a out).1.length=out.length+j)
 |0,a,out,h=>⟨h,Ao7 _,λ_=>rfl⟩
 |j+1,a,out,h=>by
  rw[CF];split
  ·rename_i he;exact⟨h,by simp,λe=>absurd e he⟩
  ·rename_i he;have hok:=tS (ch:=ch) (p:=p) (N:=N) (a:=a) (out:=out) (by simpa using he);have hw:a+U5 N a<=N:=by unfold U5;omega
   have ih:=R9 (ch:=ch) (p:=p) (N:=N) j (a+(Ox ch p N a out).2.1.toNat) (out++[(Ox ch p N a out).1]) (by omega);rw[Adl,Bcv]at ih;exact⟨ih.1,by omega,λe=>by have:=ih.2.2 e;omega⟩
theorem Aek(ch n:Int)(b:List UInt8)(N:Int):Xe ch n b N 0 (List.replicate 6 ((0:Int),(0:Int),(0:UInt64),(0:UInt64),()))=FG ch n b N (List.replicate 6 ((10:Int),(10:Int),(16384:UInt64),(16384:UInt64),())):=by
 have e:Au=(Au-7)+1+1+1+1+1+1+1:=by have:=Ar;omega
 rw[Xe,e];rfl
theorem values_eq{p:List UInt8}{N ch n:Nat}(hp:okB p N)(h1:1<=ch)(h6:ch<=6)(hn:n*ch<=4000):KQ (ch:Int) (n:Int) p (N:Int)=
  some (if(CF ch p N (n*ch) 0 []).2.2≠0 then([],0,(CF ch p N (n*ch) 0 []).2.2)else((CF ch p N (n*ch) 0 []).1,((CF ch p N (n*ch) 0 []).2.1:Int),0)):=by
 have h:=Ad6 hp h1 h6 hn (n*ch) 0 Au [] (by simp) (by have:=Ar;omega) (by omega);rw[KQ,KP,Aek];exact h
theorem Aay(p:List UInt8)(x:List UInt32)(N:Nat)(hN:N=8*p.length)(hN2:N<=330000):∀(j a q:Nat),a+j=N->j<q->Lt p x q (a:Int)=some (x,if Ce p a j=0 then 0 else 12)
 |0,a,q+1,ha,_=>by
  have e8:Bf (8:Int) (Ac p)=(N:Int):=by rw[Ac,Fa];omega
  rw[Lt,Yk,e8,Aan (by rw[Ae];simp;omega),Ce,Acf rfl];rfl
 |j+1,a,q+1,ha,hq=>by
  have e8:Bf (8:Int) (Ac p)=(N:Int):=by rw[Ac,Fa];omega
  have hb:=EA p a;rw[Lt,Yk,e8,Acf (by rw[Ae];simp;omega),G5 p _ a (by omega) (by omega),Aa,Ce];by_cases h:Ib p a=0
  ·rw[Aan (by rw[Ah];simp[h]),Aj,h];have ih:=Aay p x N hN hN2 j (a+1) q (by omega) (by omega);rw[show((a:Int)+1)=((a+1:Nat):Int) by omega,ih];congr 2;by_cases hv:Ce p (a+1) j=0
   ·rw[Acf hv,Acf (by omega)]
   ·rw[Aan hv,Aan (by omega)]
  ·rw[Acf (by rw[Ah];simp;omega),Aan (by omega)]
theorem Al1{p:List UInt8}{N ch n:Nat}(hN:N=8*p.length)(hN2:N<=330000)(h1:1<=ch)(h6:ch<=6)(hn:n*ch<=4000):IQ (ch:Int) (n:Int) p=
  some (if(CF ch p N (n*ch) 0 []).2.2≠0 then((CF ch p N (n*ch) 0 []).1,(CF ch p N (n*ch) 0 []).2.2)else
   ((CF ch p N (n*ch) 0 []).1,if 7<N-(CF ch p N (n*ch) 0 []).2.1\/Ce p (CF ch p N (n*ch) 0 []).2.1 (N-(CF ch p N (n*ch) 0 []).2.1)≠0 then 12 else 0)):=by
 have h:=Anj hN hN2 h1 h6 hn (n*ch) 0 Au [] (by simp) (by have:=Ar;omega) (by omega);have hat:=(R9 (ch:=ch) (p:=p) (N:=N) (n*ch) 0 [] (by omega)).1;have e8:Bf (8:Int) (Ac p)=(N:Int):=by rw[Ac,Fa];omega
 rw[IQ,TX];refine Bda h ?_;generalize CF ch p N (n*ch) 0 []=V at*
 obtain⟨v,a,e⟩:=V;simp only at*
 by_cases he:e≠0
 ·rw[Acf he,Acf he]
 ·rw[Aan he,Aan he,Yv,NS,e8,Bu];by_cases h7:7<N-a
  ·rw[Acf (by rw[Aq];simp;omega),Acf (.inl h7)]
  ·rw[Aan (by rw[Aq];simp;omega),NZ,Aay p v N hN hN2 (N-a) a Au (by omega) (by have:=Ar;omega)];by_cases hv:Ce p a (N-a)=0
   ·rw[Acf hv,Aan (by omega)]
   ·rw[Aan hv,Acf (.inr hv)]
theorem Ado(n:Int):(GI.ofZ n:Int32)=Int32.ofInt n:=rfl
theorem dW(a:Int32):GI.toZ a=a.toInt:=rfl
theorem gZ(a b:Int32):Ad a b=a+b:=by
 rw[Ad,dW,dW,Ado,Int32.ofInt_add,Bbj,Bbj]
theorem aA(a b:Int32):Ao a b=a-b:=by
 rw[Ao,dW,dW,Ado,Int32.ofInt_sub,Bbj,Bbj]
theorem Alk(a b:Int32):geq a b=(a==b):=by
 rw[geq,dW,dW,Ako];simp[Int32.toInt_inj]
def lA(p:Nat->Bool)(a b:List Int32):List Int32:=(List.range a.length).map λk=>if p k=true then a.getD k 0 else b.getD k 0
section
variable {p q:Nat->Bool} {a b:List Int32}
theorem RU:(lA p a b).length=a.length:=by simp[lA]
theorem Oy{k:Nat}(h:k<a.length):a.getD k 0=a[k]:=by simp[List.getD_eq_getElem?_getD,h]
theorem Vy{k:Nat}(h:k<(lA p a b).length):(lA p a b)[k]=if p k=true then a.getD k 0 else b.getD k 0:=by simp[lA]
theorem EW{k:Nat}(h:k<a.length):Ap (lA p a b) (k:Int)=some (if p k=true then a.getD k 0 else b.getD k 0):=by
 rw[Br (by rw[RU];exact h),Vy]
theorem Xt(h:∀k,k<a.length->p k=q k):lA p a b=lA q a b:=by
 apply Bfi;intro k hk;rw[h k (List.mem_range.1 hk)]
theorem mM{k:Nat}(h:k<a.length):Nj (lA p a b) (k:Int) (a.getD k 0)=some (lA (λj=>p j||decide (j=k)) a b):=by
 rw[Vr _ (by rw[RU];exact h)];congr 1;apply Bb4 (by simp[RU]);intro i h1 h2;rw[Bg1,Vy,Vy];by_cases hi:k=i
 ·subst hi;simp
 ·have:¬i=k:=λe=>hi e.symm;simp[hi,this]
theorem tZ(h:∀k,k<a.length->p k=true):lA p a b=a:=by
 apply Bb4 (by simp[RU]);intro i h1 h2;rw[Vy,Acf (h i h2),Oy h2]
theorem pP(hl:b.length=a.length)(h:∀k,k<a.length->p k=false):lA p a b=b:=by
 apply Bb4 (by simp[RU,hl]);intro i h1 h2;rw[Vy,h i (by omega)];simp[List.getD_eq_getElem?_getD,h2]
end
theorem U9(a b:Int32):Bf a b=a*b:=by
 rw[Bf,dW,dW,Ado,Int32.ofInt_mul,Bbj,Bbj]
theorem DE(a:Int32): -2147483648<=a.toInt/\a.toInt<2147483648:=⟨a.le_toInt,a.toInt_lt⟩
theorem Gk(a:Int32):(Af a:Int)=a.toInt:=by
 have:=DE a
 show wrap64 a.toInt=_;rw[De]<;>omega
theorem YM(n:Int):(Af n:Int32)=Int32.ofInt n:=rfl
theorem Aph(x:Int):Int32.ofInt (x %4294967296)=Int32.ofInt x:=by
 apply Int32.toInt_inj.1;rw[Bel,Bel];exact Int.emod_bmod x 4294967296
theorem S7(x:Int):Dl x=some (Int32.ofInt x):=by
 have e1:(Af x:UInt64).toNat=(x %18446744073709551616).toNat:=by
  rw[Afu,Ah8,Adz (by omega)]
 have e2:(Af (Af x:UInt64):UInt32).toNat=(x %4294967296).toNat:=by
  have e:(Af (Af x:UInt64):UInt32)=UInt32.ofNat (Af x:UInt64).toNat:=by simp only[Af,Lm,Gl]
  rw[e,Ank,e1];show(x %18446744073709551616).toNat %4294967296=_;omega
 have e3:(Af (Af (Af x:UInt64):UInt32):Int32)=Int32.ofInt ((Af (Af x:UInt64):UInt32).toNat:Int):=rfl;rw[Dl,e3,e2,<-Aph x];congr 2;omega
theorem yR(a b:Int32):Dl (Ad (Af a:Int) (Af b:Int))=some (a+b):=by
 have:=DE a;have:=DE b;rw[Gk,Gk,Aj,S7,Int32.ofInt_add,Bbj,Bbj]
theorem Ats(a b:Int32):Dl (Bf (Af a:Int) (Af b:Int))=some (a*b):=by
 have ha:=DE a;have hb:=DE b;have h1: -9223372036854775808<=a.toInt*b.toInt/\a.toInt*b.toInt<=9223372036854775807:=by
  have h2:(a.toInt*b.toInt).natAbs<=2147483648*2147483648:=by
   rw[Int.natAbs_mul];exact Ba9 (by omega) (by omega)
  omega
 rw[Gk,Gk,Fa h1.1 h1.2,S7,Int32.ofInt_mul,Bbj,Bbj]
def OkF(s:Int)(t p:List Int32):Prop:=(s=9\/s=10)/\t.length=16/\p.length=16
theorem H7{s:Int}{t p:List Int32}(h:OkF s t p):QB s t p=some 0:=by
 obtain⟨rfl|rfl,_,_⟩:=h<;>rfl
theorem g32{l:List Int32}{k:Nat}(h:k<l.length):Ap l (k:Int)=some (l.getD k 0):=by
 rw[Br h];simp[List.getD_eq_getElem?_getD,h]
def rG(t p:List Int32):Nat->Int32
 |0=>0
 |i+1=>rG t p i+t.getD i 0*p.getD i 0
def half(s:Int):Int32:=if s=9 then 256 else 512
def gF(s:Int)(t p:List Int32):Int32:=Int32.ofInt ((half s+rG t p 16).toInt.fdiv (if s=9 then 512 else 1024))
theorem Aal{s:Int}{t p:List Int32}(h:OkF s t p):∀(j i q:Nat),i+j=16->j<q->Xz t s p q (half s+rG t p i) (i:Int)=some (gF s t p,0)
 |0,i,q+1,hi,_=>by
  obtain rfl:i=16:=by omega
  have hs:=h.1;rw[Xz,RM,Aan (by rw[Ae];simp),fF,vX,Bj (by rw[Ea];simp;omega),Aa];obtain rfl|rfl:=hs<;>rfl
 |j+1,i,q+1,hi,hq=>by
  obtain⟨hs,ht,hp⟩:=h;rw[Xz,RM,Acf (by rw[Ae];simp;omega),g32 (by omega),Aa,g32 (by omega),Aa,Aa,Aj (b:=1) (by omega) (by omega),gZ,U9,Int32.add_assoc];exact Aal ⟨hs,ht,hp⟩ j (i+1) q (by omega) (by omega)
theorem Af5{s:Int}{t p:List Int32}(h:OkF s t p):aN s t p=some (gF s t p,0):=by
 have hs:=h.1;have h1:=Aal h 16 0 Au (by omega) (by have:=Ar;omega);have e:Dp (1:Int32) (GI.toZ (Ao s (1:Int))).toNat=half s+rG t p 0:=by
  obtain rfl|rfl:=hs<;>rfl
 rw[aN,fA,H7 h,Aa,Aan (by rw[Ah];simp),Bj (by rw[Ea,Bu];simp;omega),Aa,fN,e];exact h1
theorem ui{s:Int}{t p:List Int32}(ht:t.length=16)(hp:p.length=16){g:Int32}(hg:rG t p 16=g):∀(j i q:Nat),i+j=16->j<q->Oh s t p q (rG t p i).toInt (i:Int)=some g
 |0,i,q+1,hi,_=>by
  obtain rfl:i=16:=by omega
  rw[Oh,CK,Aan (by rw[Ae];simp),WJ,XI,YM,Bbj,hg]
 |j+1,i,q+1,hi,hq=>by
  have ih:=ui (s:=s) ht hp hg j (i+1) q (by omega) (by omega);rw[rG]at ih;rw[Oh,CK,Acf (by rw[Ae];simp;omega),g32 (by omega),g32 (by omega),Aa,Aa,Aa,Aa,Ats,Aa,<-Gk (rG t p i),yR,Aa,Gk,Aj];exact ih
theorem Asf{s:Int}{t p:List Int32}(h:OkF s t p):gS s t p=some (rG t p 16):=
 ui h.2.1 h.2.2 rfl 16 0 Au (by omega) (by have:=Ar;omega)
theorem Ap1(x n:Int)(hn:n=512\/n=1024\/n=16\/n=32):(if x.tmod n<0 then x.tdiv n-1 else x.tdiv n)=x.fdiv n:=by
 have hs:n.sign=1:=by obtain rfl|rfl|rfl|rfl:=hn<;>rfl
 rw[Int.tdiv_eq_ediv,Int.tmod_eq_emod,hs,Asw _ (by omega)];by_cases h:0<=x\/n∣x
 ·rw[Acf h,Acf h];obtain rfl|rfl|rfl|rfl:=hn<;>(rw[Aan (by omega)];omega)
 ·rw[Aan h,Aan h];obtain rfl|rfl|rfl|rfl:=hn<;>(rw[Acf (by omega)];omega)
theorem uz(x n:Int)(hn:n=512\/n=1024\/n=16\/n=32)(h: -1000000000000<=x)(h':x<=1000000000000): -1000000000000<=x.tdiv n/\x.tdiv n<=1000000000000:=by
 have hs:n.sign=1:=by obtain rfl|rfl|rfl|rfl:=hn<;>rfl
 rw[Int.tdiv_eq_ediv,hs];by_cases h:0<=x\/n∣x
 ·rw[Acf h];obtain rfl|rfl|rfl|rfl:=hn<;>omega
 ·rw[Aan h];obtain rfl|rfl|rfl|rfl:=hn<;>omega
theorem Bc9(x n:Int)(hn:n=512\/n=1024\/n=16\/n=32)(h: -1000000000000<=x)(h':x<=1000000000000):Bt x n=x.tdiv n:=by
 have:=uz x n hn h h';rw[UZ,De (by omega) (by omega)]
theorem Age(x n:Int)(hn:n=512\/n=1024\/n=16\/n=32)(h: -1000000000000<=x)(h':x<=1000000000000):
  (if(Cj (Fo x n) (0:Int))=true then some (Af (Ao (Bt x n) (1:Int)):Int32)else some (Af (Bt x n):Int32))=some (Int32.ofInt (x.fdiv n)):=by
 have hb:=uz x n hn h h';rw[Ae,Fo,Bc9 x n hn h h',Bu,YM,YM,<-Ap1 x n hn];by_cases hx:x.tmod n<0
 ·rw[Acf (by simpa using hx),Acf hx]
 ·rw[Aan (by simpa using hx),Aan hx]
theorem Awb{s:Int}{t p:List Int32}(h:OkF s t p):KK s t p=some (gF s t p):=by
 obtain⟨hs,ht,hp⟩:=h;have h:OkF s t p:=⟨hs,ht,hp⟩;have hx:=DE (rG t p 16+half s);have key:∀n:Int,(n=512\/n=1024)-> (half s).toInt=n/2->gF s t p=Int32.ofInt ((half s+rG t p 16).toInt.fdiv n)->AZ s t p n=some (gF s t p):=by
  intro n hn hh hg;have e2:Bt n (2:Int)=(half s).toInt:=by rw[hh];obtain rfl|rfl:=hn<;>rfl
  rw[AZ,SK,Asf h,Aa,e2,<-Gk (half s),yR,Aa,Bj (by rw[Ah];simp;omega),Aa,Aa,Gk,Age _ n (by omega) (by omega) (by omega),hg,Int32.add_comm]
 rw[KK,SQ];obtain rfl|rfl:=hs
 ·rw[Acf (by rw[As];rfl)];exact key 512 (.inl rfl) rfl rfl
 ·rw[Aan (by rw[As];decide)];exact key 1024 (.inr rfl) rfl rfl
def stp(i:Nat):Int32:=if i=0 then 4 else if i<4 then 2 else 1
def sg(x:Int32):Int32:=if x.toInt<0 then -1 else if 0<x.toInt then 1 else 0
def V9(t p:List Int32)(w:Int32):List Int32:=(List.range 16).map λi=>t.getD i 0+stp i*sg (p.getD i 0)*sg w
theorem MJ(t p:List Int32)(w:Int32):(V9 t p w).length=16:=by simp[V9]
theorem Acl(t p:List Int32)(w:Int32){i:Nat}(h:i<16):(V9 t p w).getD i 0=t.getD i 0+stp i*sg (p.getD i 0)*sg w:=by
 rw[Oy (by rw[MJ];exact h)];simp[V9]
theorem step_eq(i:Nat):iB (i:Int)=some (stp i):=by
 rw[iB,stp];by_cases h:i=0
 ·rw[Acf (by rw[As];simp[h]),Acf h]
 ·rw[Aan (by rw[As];simp;omega),Aan h];by_cases h2:i<4
  ·rw[Acf (by rw[Ae];simp;omega),Acf h2]
  ·rw[Aan (by rw[Ae];simp;omega),Aan h2]
theorem Aot(i:Nat):MP (i:Int)=some (stp i):=by
 rw[MP,stp];by_cases h:i=0
 ·rw[Acf (by rw[As];simp[h]),Acf h]
 ·rw[Aan (by rw[As];simp;omega),Aan h];by_cases h2:i<4
  ·rw[Acf (by rw[TV];simp;omega),Acf h2]
  ·rw[Aan (by rw[TV];simp;omega),Aan h2]
theorem Acm(a b:Int32):Cj a b=decide (a.toInt<b.toInt):=rfl
theorem Ai3(a b:Int32):Ef a b=decide (b.toInt<a.toInt):=rfl
theorem sign_eq(x:Int32):Yy x=some (sg x):=by
 rw[Yy,sg,Acm,Ai3,show(0:Int32).toInt=0 from rfl];by_cases h:x.toInt<0
 ·rw[Acf (by simpa using h),Acf h]
 ·rw[Aan (by simpa using h),Aan h];by_cases h2:0<x.toInt
  ·rw[Acf (by simpa using h2),Acf h2]
  ·rw[Aan (by simpa using h2),Aan h2]
theorem Al5:sg 0=0:=rfl
theorem toInt_ne{x:Int32}(h:x≠0):x.toInt≠0:=λe=>h (Int32.toInt_inj.1 (by rw[e];rfl))
theorem Ab1{x:Int32}(h:x.toInt<0):sg x= -1:=by rw[sg,Acf h]
theorem Ab2{x:Int32}(h:x≠0)(h2:¬x.toInt<0):sg x=1:=by
 have:=toInt_ne h;rw[sg,Aan h2,Acf (by omega)]
theorem tV(i:Nat):stp i=4\/stp i=2\/stp i=1:=by
 unfold stp;by_cases h:i=0
 ·rw[Acf h];exact .inl rfl
 ·rw[Aan h];split;exact .inr (.inl rfl);exact .inr (.inr rfl)
theorem Ao4{x w:Int32}(hx:x≠0)(hw:w≠0)(h:(x.toInt<0)=(w.toInt<0))(i:Nat):stp i*sg x*sg w=stp i:=by
 by_cases h1:x.toInt<0
 ·rw[Ab1 h1,Ab1 (by rw[<-h];exact h1)];obtain e|e|e:=tV i<;>rw[e]<;>decide
 ·rw[Ab2 hx h1,Ab2 hw (by rw[<-h];exact h1)];obtain e|e|e:=tV i<;>rw[e]<;>decide
theorem Aik{x w:Int32}(hx:x≠0)(hw:w≠0)(h:¬(x.toInt<0)=(w.toInt<0))(i:Nat)(a:Int32):a+stp i*sg x*sg w=a-stp i:=by
 have key:stp i*sg x*sg w=-stp i:=by
  by_cases h1:x.toInt<0
  ·have h2:¬w.toInt<0:=λh2=>h (propext ⟨λ_=>h2,λ_=>h1⟩);rw[Ab1 h1,Ab2 hw h2];obtain e|e|e:=tV i<;>rw[e]<;>decide
  ·have h2:w.toInt<0:=Decidable.by_contra λh2=>h (propext ⟨λh3=>absurd h3 h1,λh3=>absurd h3 h2⟩);rw[Ab2 hx h1,Ab1 h2];obtain e|e|e:=tV i<;>rw[e]<;>decide
 rw[key,Int32.sub_eq_add_neg]
def B3(i:Nat):Nat->Bool:=λj=>decide (j<i)
theorem wo{a b:List Int32}{i:Nat}(h:i<a.length):Nj (lA (B3 i) a b) (i:Int) (a.getD i 0)=some (lA (B3 (i+1)) a b):=by
 rw[mM h];congr 1;apply Xt;intro k _;rw[Ako];simp only[B3,Azr,Adx];omega
theorem Aps{a b:List Int32}{i:Nat}(e:a.getD i 0=b.getD i 0):lA (B3 i) a b=lA (B3 (i+1)) a b:=by
 apply Bfi;intro k _;simp only[B3,Adx];by_cases h1:k<i
 ·rw[Acf h1,Acf (by omega)]
 ·by_cases h2:k=i
  ·subst h2;rw[Aan h1,Acf (by omega),e]
  ·rw[Aan h1,Aan (by omega)]
theorem Ag3{a b:List Int32}{i:Nat}(h:i<a.length):Ap (lA (B3 i) a b) (i:Int)=some (b.getD i 0):=by
 rw[EW h,Aan (by simp[B3])]
theorem Abm{s:Int}{t p:List Int32}{w:Int32}(hw:w≠0)(ht:t.length=16)(hp:p.length=16):∀(j i q:Nat),i+j=16->j<q->Xr w p s q (i:Int) (lA (B3 i) (V9 t p w) t)=some (s,V9 t p w,p,0)
 |0,i,q+1,hi,_=>by
  obtain rfl:i=16:=by omega
  rw[Xr,RN,Aan (by rw[Ae];simp),tZ (λk hk=>by rw[MJ]at hk;simpa [B3]using hk)];rfl
 |j+1,i,q+1,hi,hq=>by
  have hl:=MJ t p w;have hg:=Acl t p w (i:=i) (by omega);rw[Xr,RN,Acf (by rw[Ae];simp;omega),g32 (by omega),Aa,Aj (b:=1) (by omega) (by omega),Ag3 (by omega),step_eq];simp only[Aa];rw[gZ,aA,Alk,Acm,Acm,show(0:Int32).toInt=0 from rfl];have ih:=Abm (s:=s) hw ht hp j (i+1) q (by omega) (by omega);by_cases hx:p.getD i 0=0
  ·rw[Acf (by rw[hx];rfl),Aps (by rw[hg,hx,Al5,Int32.mul_zero,Int32.zero_mul,Int32.add_zero])];exact ih
  ·rw[Aan (by simpa using hx)];by_cases hs:((p.getD i 0).toInt<0)=(w.toInt<0)
   ·rw[Acf (by rw[Avz];simp only[hs]),show t.getD i 0+stp i=(V9 t p w).getD i 0 by rw[hg,Ao4 hx hw hs],wo (by omega),Aa];exact ih
   ·rw[Aan (by rw[Avz,decide_eq_decide];exact λh=>hs (propext h)),show t.getD i 0-stp i=(V9 t p w).getD i 0 by rw[hg,Aik hx hw hs],wo (by omega),Aa];exact ih
theorem Aqy{t:List Int32}(p:List Int32)(ht:t.length=16):V9 t p 0=t:=by
 apply Bb4 (by rw[MJ,ht]);intro i h1 h2;have:=Acl t p 0 (i:=i) (by omega);rw[Oy h1,Oy h2]at this;rw[this,Al5,Int32.mul_zero,Int32.add_zero]
theorem Aft{s:Int}{t p:List Int32}(h:OkF s t p)(w:Int32):nA s t p w=some (s,V9 t p w,p,0):=by
 rw[nA,fU,H7 h,Aa,Aan (by rw[Ah];simp),Alk];by_cases hw:w=0
 ·rw[Acf (by simpa using hw),hw,Aqy p h.2.1]
 ·have h1:=Abm (s:=s) hw h.2.1 h.2.2 16 0 Au (by omega) (by have:=Ar;omega);rw[pP (by rw[MJ,h.2.1]) (λk _=>by simp[B3])]at h1;rw[Aan (by simpa using hw)];exact h1
theorem zP{s:Int}{t p:List Int32}{w:Int32}(ht:t.length=16)(hp:p.length=16):∀(j i q:Nat),i+j=16->j<q->Js w s p q (i:Int) (lA (B3 i) (V9 t p w) t)=some (s,V9 t p w,p)
 |0,i,q+1,hi,_=>by
  obtain rfl:i=16:=by omega
  rw[Js,Ur,Aan (by rw[Ae];simp),tZ (λk hk=>by rw[MJ]at hk;simpa [B3]using hk)];rfl
 |j+1,i,q+1,hi,hq=>by
  have hl:=MJ t p w;have hg:=Acl t p w (i:=i) (by omega);rw[Js,Ur,Acf (by rw[Ae];simp;omega),g32 (l:=p) (by omega),Aj (b:=1) (by omega) (by omega),Ag3 (by omega),Aot,sign_eq w,Aa,Aa,Aa,Aa,Aa,sign_eq,Aa,Aa,Aa,gZ,U9,U9,<-hg,wo (by omega),Aa];exact zP ht hp j (i+1) q (by omega) (by omega)
theorem Aka{s:Int}{t p:List Int32}(h:OkF s t p)(w:Int32):SJ s t p w=some (s,V9 t p w,p):=by
 have h1:=zP (s:=s) (w:=w) h.2.1 h.2.2 16 0 Au (by omega) (by have:=Ar;omega);rw[pP (by rw[MJ,h.2.1]) (λk _=>by simp[B3])]at h1;exact h1
theorem Awm{p:List Int32}(h:p.length=16):∃a0 a1 a2 a3 a4 a5 a6 a7 a8 a9 b0 b1 b2 b3 b4 b5,p=[a0,a1,a2,a3,a4,a5,a6,a7,a8,a9,b0,b1,b2,b3,b4,b5]:=by
 match p,h with
 |[a0,a1,a2,a3,a4,a5,a6,a7,a8,a9,b0,b1,b2,b3,b4,b5],_=>exact⟨a0,a1,a2,a3,a4,a5,a6,a7,a8,a9,b0,b1,b2,b3,b4,b5,rfl⟩
theorem Akw{s:Int}{t p:List Int32}(h:OkF s t p)(x:Int32):uI s t p x=some (s,t,x::p.take 15,0):=by
 obtain⟨hs,ht,hp⟩:=h;rw[uI,XW,H7 ⟨hs,ht,hp⟩,Aa,Aan (by rw[Ah];simp),show iM (16:Int) 1 16=some ()from rfl,Aa,show iM (16:Int) 0 16=some ()from rfl,Aa,lW,yO];obtain⟨a0,a1,a2,a3,a4,a5,a6,a7,a8,a9,b0,b1,b2,b3,b4,b5,rfl⟩:=Awm hp;rfl
def shf(p:List Int32)(i:Nat):List Int32:=(List.range 16).map λk=>if k<=i then p.getD k 0 else p.getD (k-1) 0
theorem EZ(p:List Int32)(i:Nat):(shf p i).length=16:=by simp[shf]
theorem Axb(p:List Int32)(i k:Nat)(h:k<16):(shf p i).getD k 0=if k<=i then p.getD k 0 else p.getD (k-1) 0:=by
 rw[Oy (by rw[EZ];exact h)];simp[shf]
theorem Axk(p:List Int32)(i:Nat)(h:i+1<16):Nj (shf p (i+1)) ((i+1:Nat):Int) (p.getD i 0)=some (shf p i):=by
 rw[Vr _ (by rw[EZ];exact h)];congr 1;apply Bb4 (by simp[EZ]);intro k h1 h2;rw[EZ]at h2;rw[Bg1];simp only[shf,Be6,Bex];by_cases hk:i+1=k
 ·subst hk;rw[Acf rfl,Aan (by omega)];rfl
 ·rw[Aan hk];by_cases h3:k<=i
  ·rw[Acf (by omega),Acf h3]
  ·rw[Aan (by omega),Aan h3]
theorem P6(s:Int)(t p:List Int32)(x:Int32)(hp:p.length=16):∀(i q:Nat),i<16->i<q->Ku x s t q (i:Int) (shf p i)=some (s,t,x::p.take 15)
 |0,q+1,_,_=>by
  have hg:Ap (shf p 0) (0:Int)=some ((shf p 0).getD 0 0):=g32 (l:=shf p 0) (k:=0) (by rw[EZ];omega);have hset:Nj (shf p 0) (0:Int) x=some ((shf p 0).set 0 x):=Vr (l:=shf p 0) (n:=0) x (by rw[EZ];omega);rw[Ku,Xa,Aan (by rw[Aq];simp),IL,JZ,hg,Aa,hset,Aa];congr 3;apply Bb4 (by simp[EZ,hp]);intro k h1 h2;rw[Bep,EZ]at h1;rw[Bg1];cases k with
  |zero=>rw[Acf rfl];rfl
  |succ k=>
   rw[Aan (by omega)];simp only[shf,Be6,Bex,List.getElem_cons_succ,List.getElem_take];rw[Aan (by omega),Nat.add_sub_cancel,Oy (by omega)]
 |i+1,q+1,hi,hq=>by
  have hg:=g32 (l:=shf p (i+1)) (k:=i) (by rw[EZ];omega);rw[Axb p (i+1) i (by omega),Acf (by omega)]at hg;have e1:Ao ((i+1:Nat):Int) (1:Int)=(i:Int):=by rw[Bu];omega
  have hg2:=g32 (l:=shf p (i+1)) (k:=i+1) (by rw[EZ];omega);rw[Ku,Xa,Acf (by rw[Aq];simp),e1,hg,Aa,Aa,hg2,Aa,Axk p i hi,Aa];exact P6 s t p x hp i q (by omega) (by omega)
theorem Apj{s:Int}{t p:List Int32}(hp:p.length=16)(x:Int32):WE s t p x=some (s,t,x::p.take 15):=by
 have h:=P6 s t p x hp 15 Au (by omega) (by have:=Ar;omega);have e:shf p 15=p:=by
  apply Bb4 (by rw[EZ,hp]);intro k h1 h2;rw[EZ]at h1;simp only[shf,Be6,Bex];rw[Acf (by omega),Oy h2]
 rw[e]at h;exact h
theorem Arl{s:Int}{t p:List Int32}(h:OkF s t p)(w x:Int32):OkF s (V9 t p w) (x::p.take 15):=⟨h.1,MJ _ _ _,by simp[h.2.2]⟩
theorem Axs{s:Int}{t p:List Int32}(h:OkF s t p)(y:Int32):sM s t p y=some (y+gF s t p,s,V9 t p y,(y+gF s t p)::p.take 15,0):=by
 rw[sM,Af5 h,Aa];simp only;rw[Aan (by rw[Ah];simp),gZ,YZ,Aft h,Aa];simp only;rw[Akw (s:=s) (t:=V9 t p y) (p:=p) ⟨h.1,MJ _ _ _,h.2.2⟩,Aa];rfl
theorem Anq{s:Int}{t p:List Int32}(h:OkF s t p)(y:Int32):AE s t p y=some (y+gF s t p,s,V9 t p y,(y+gF s t p)::p.take 15):=by
 rw[AE,Awb h,Aa,yR,Aa,Aka h,Aa];simp only;rw[Apj h.2.2,Aa]
def sB(bits:Int):Int:=if bits=16 then 9 else 10
def shB(bits:Int):Int:=if bits=8 then 4 else 5
def Bl(bits:Int):Prop:=bits=8\/bits=16\/bits=24
def gs(sh:Int)(last:Int32):Int32:=Af (Acx (Ao (Dp (Af last:Int) sh.toNat) (Af last)) sh.toNat)
theorem Bdf(bits:Int):sB bits=9\/sB bits=10:=by unfold sB;split<;>simp
theorem Axm(bits:Int):0<=shB bits:=by unfold shB;split<;>omega
theorem Be7{bits:Int}(h:Bl bits)(t:List Int32):zZ bits t=some (sB bits,t,List.replicate 16 0,0):=by
 obtain rfl|rfl|rfl:=h<;>rfl
theorem Bby{bits:Int}(h:Bl bits):qT bits=some (shB bits,0):=by
 obtain rfl|rfl|rfl:=h<;>rfl
theorem Bak{sh:Int}(h:0<=sh)(last:Int32):cU sh last=some (gs sh last):=by
 rw[cU,Bj (by rw[Ea];simpa using h),Aa,Aa];rfl
theorem Asr{bits:Int}(h:Bl bits)(last:Int32):AM bits last=some (gs (shB bits) last,0):=by
 rw[AM,Bby h,Aa];simp only;rw[Aan (by rw[Ah];simp),Bak (Axm bits),Aa]
theorem uo{bits:Int}(h:Bl bits)(last:Int32)(t p:List Int32):AL bits last (sB bits) t p=some 0:=by
 rw[AL,Be7 h,Aa];simp only;rw[Aan (by rw[Ah,Ah];simp)]
theorem Aof{bits:Int}(h:Bl bits){t p:List Int32}(hF:OkF (sB bits) t p)(last y:Int32):
  Nz bits last (sB bits) t p y=some (y+gF (sB bits) t p+gs (shB bits) last,bits,y+gF (sB bits) t p+gs (shB bits) last,sB bits,V9 t p y,(y+gF (sB bits) t p)::p.take 15,0):=by
 rw[Nz,uo h,Aa,Aan (by rw[Ah];simp),Asr h,Aa];simp only;rw[Axs hF,Aa];simp only;rw[gZ]
theorem J8(sh:Int)(hs:sh=4\/sh=5)(last:Int32):Ud sh last=some (gs sh last):=by
 have hl:=DE last;have key:∀n:Int,n=16\/n=32->gs sh last=Int32.ofInt (((n-1)*last.toInt).fdiv n)->Ws last n=some (gs sh last):=by
  intro n hn hg;have e:Bf (Ao n (1:Int)) (Af last:Int)=(n-1)*last.toInt:=by
   obtain rfl|rfl:=hn<;>(rw[Gk,Bu,Fa])
  rw[Ws,IP,Bj (by rw[Ah];simp;omega),Aa,Aa,e,Age _ n (by omega) (by obtain rfl|rfl:=hn<;>omega) (by obtain rfl|rfl:=hn<;>omega),hg]
 rw[Ud,MH];obtain rfl|rfl:=hs
 ·rw[Aan (by rw[As];decide)];refine key 16 (.inl rfl) ?_;have e:Dp (Af last:Int) (4:Int).toNat=last.toInt*16:=by
   rw[Gk];show wrap64 (last.toInt*2^4)=_;rw[De]<;>omega
  rw[gs,e,Gk,Bu,YM]
  show Int32.ofInt ((last.toInt*16-last.toInt).fdiv 16)=_;congr 2;omega
 ·rw[Acf (by rw[As];rfl)];refine key 32 (.inr rfl) ?_;have e:Dp (Af last:Int) (5:Int).toNat=last.toInt*32:=by
   rw[Gk];show wrap64 (last.toInt*2^5)=_;rw[De]<;>omega
  rw[gs,e,Gk,Bu,YM]
  show Int32.ofInt ((last.toInt*32-last.toInt).fdiv 32)=_;congr 2;omega
theorem Aqc{bits:Int}(h:Bl bits){t p:List Int32}(hF:OkF (sB bits) t p)(last y:Int32):
  Zy bits last (sB bits) t p y=some (y+gF (sB bits) t p+gs (shB bits) last,bits,y+gF (sB bits) t p+gs (shB bits) last,sB bits,V9 t p y,(y+gF (sB bits) t p)::p.take 15):=by
 have hb:DC bits last (sB bits) t p=some (Af (gs (shB bits) last):Int):=by
  rw[DC];obtain rfl|rfl|rfl:=h
  ·rw[Acf (by rw[As];rfl),J8 4 (.inl rfl),Aa];rfl
  ·rw[Aan (by rw[As];decide),J8 5 (.inr rfl),Aa];rfl
  ·rw[Aan (by rw[As];decide),J8 5 (.inr rfl),Aa];rfl
 rw[Zy,Anq hF,Aa];simp only;rw[hb,Aa,yR,Aa]
theorem Bd1{bits:Int}(h:Bl bits)(t:List Int32):gL bits t=some (bits,0,sB bits,t,List.replicate 16 0,0):=by
 obtain rfl|rfl|rfl:=h<;>rfl
def YW(n:UInt32):Int32:=if n.toNat %2=0 then Int32.ofInt ((n.toNat/2:Nat):Int)else Int32.ofInt (-((n.toNat/2:Nat):Int)-1)
theorem Agp(a b:Int32):(BA a b).toBitVec=a.toBitVec^^^b.toBitVec:=by
 show(Int32.ofInt ((BitVec.ofInt 32 a.toBitVec.toInt^^^BitVec.ofInt 32 b.toBitVec.toInt).toNat:Int)).toBitVec=_;rw[BitVec.ofInt_toInt,BitVec.ofInt_toInt,Int32.toBitVec_ofInt,BitVec.ofInt_natCast,BitVec.ofNat_toNat,BitVec.setWidth_eq]
theorem Bd0(m:Nat)(h:m<2147483648):BA (Int32.ofInt (m:Int)) (Int32.ofInt (-1))=Int32.ofInt (-(m:Int)-1):=by
 apply Int32.toBitVec_inj.1;have e1:(Int32.ofInt (-1)).toBitVec=BitVec.allOnes 32:=by decide
 rw[Agp,e1,BitVec.xor_allOnes,Int32.toBitVec_ofInt,Int32.toBitVec_ofInt];apply Bgl;rw[BitVec.toNat_not,Bc3,Bc3];omega
theorem As4(n:UInt32):CC n=some (YW n):=by
 have hn:=n.toNat_lt;have e1:(Af (Ci n (GI.toZ (1:UInt64)).toNat):Int32)=Int32.ofInt ((n.toNat/2:Nat):Int):=by
  show Int32.ofInt ((Ci n 1).toNat:Int)=_;rw[SL]
 have e2:(Af (Et n (1:UInt32)):Int32)=Int32.ofInt ((n.toNat %2:Nat):Int):=by
  show Int32.ofInt ((Et n (1:UInt32)).toNat:Int)=_;rw[jl,UInt32.toNat_and]
  show Int32.ofInt ((n.toNat&&&1:Nat):Int)=_;rw[Nat.and_one_is_mod]
 rw[CC,e1,e2,YW];congr 1;by_cases h:n.toNat %2=0
 ·have e3:yP (Int32.ofInt ((n.toNat %2:Nat):Int))=Int32.ofInt 0:=by rw[h];decide
  rw[Acf h,e3];apply Int32.toBitVec_inj.1;rw[Agp,show(Int32.ofInt 0).toBitVec=0#32 from rfl,BitVec.xor_zero]
 ·have e3:yP (Int32.ofInt ((n.toNat %2:Nat):Int))=Int32.ofInt (-1):=by rw[show n.toNat %2=1 by omega];decide
  rw[Aan h,e3,Bd0 _ (by omega)]
theorem Awk(n:UInt32):JV n=some (YW n):=by
 have hn:=n.toNat_lt;have e1:geq (HZ n (2:UInt32)) (0:UInt32)=decide (n.toNat %2=0):=by
  rw[Ab8,Ael,Ako];simp only[Avz,<-UInt32.toNat_inj,UInt32.toNat_mod,Adx];rfl
 rw[JV,e1,YW];by_cases h:n.toNat %2=0
 ·rw[Acf (by simpa using h),Acf h,Aeu];rfl
 ·have e2:(Af n:Int)=(n.toNat:Int):=U1 n;rw[Aan (by simpa using h),Aan h,e2,Aj,Acb,De (by omega) (by omega),UZ,Int.tdiv_eq_ediv,YM];congr 2;rw[Acf (.inr (by omega)),De (by omega) (by omega)];omega
theorem vJ{c:Prop} [Decidable c](h:c):Je (decide c)=some ():=by rw[Bcx h];rfl
def unV(f:Nat->Int32)(ch:Nat):Nat->Int32
 |0=>if 1<ch then f (ch-1)+Bt (f (ch-2)) (2:Int32)else f (ch-1)
 |j+1=>unV f ch j-f (ch-2-j)
def mf(ch:Nat)(m:List Int32):List Int32:=(List.range m.length).map λk=>unV (λi=>m.getD (k-k %ch+i) 0) ch (ch-1-k %ch)
theorem tT(ch:Nat)(m:List Int32):(mf ch m).length=m.length:=by simp[mf]
theorem S9{ch:Nat}{m:List Int32}{a i:Nat}(ha:a %ch=0)(hi:i<ch)(h:a+i<m.length):(mf ch m).getD (a+i) 0=unV (λi=>m.getD (a+i) 0) ch (ch-1-i):=by
 have hb:(a+i) %ch=i:=by rw[Nat.add_mod,ha,Bcg,Nat.mod_mod,Adz hi]
 rw[Oy (by rw[tT];exact h)];simp only[mf,Be6,Bex,hb];rw[show a+i-i=a by omega]
section
variable (ch:Nat) (m:List Int32)
theorem Ae0(h1:1<=ch)(h6:ch<=6)(hm:m.length %ch=0)(hl2:m.length<=4000):iV (ch:Int) m=some 0:=by
 rw[iV,Aan (by simp[Ae,Aq];omega),Aan (by rw[Aq,Ac];simp;omega),Bj (by rw[Ah];simp;omega),Aa,Aan];rw[Ah,Fo,Ac,<-Int.ofNat_tmod,hm];simp
theorem U6(bk:Int->List Int32->Option (List Int32×Int))(at':Nat)(h1:1<=ch)(h6:ch<=6)(hm:at' %ch=0)(hl:at'+ch<=m.length)(hl2:m.length<=4000):∀(i q:Nat),i<=ch-1->i<q->
  BZ bk (ch:Int) (at':Int) q ((i:Int)-1) (lA (λk=>decide (k<at'\/ (at'+i<=k/\k<at'+ch))) (mf ch m) m)=bk ((at'+ch:Nat):Int) (lA (λk=>decide (k<at'+ch)) (mf ch m) m)
 |0,q+1,hi,_=>by
  have e4:Ad (at':Int) (ch:Int)=((at'+ch:Nat):Int):=by rw[Aj];omega
  rw[BZ,XP,Aan (by rw[Ea];simp),lS,zR,e4];congr 1;apply Xt;intro k _;rw[Ako];simp;omega
 |i+1,q+1,hi,hq=>by
  have hlen:=tT ch m;have e2:Ad (at':Int) (ch:Int)-(at':Int)=(ch:Int):=by rw[Aj];omega
  have e3:Ad (i:Int) 1=((i+1:Nat):Int):=by rw[Aj];omega
  have hv:((mf ch m).getD (at'+(i+1)) 0-m.getD (at'+i) 0)=(mf ch m).getD (at'+i) 0:=by
   rw[S9 hm (by omega) (by omega),S9 hm (by omega) (by omega),show ch-1-i=(ch-1-(i+1))+1 by omega,unV,show ch-2-(ch-1-(i+1))=i by omega]
  rw[BZ,XP,show((i+1:Nat):Int)-1=(i:Int) by omega,Acf (by rw[Ea];simp),e2,e3,vJ (by omega),Aa,vJ (by omega),Aa,
   show(at':Int)+((i+1:Nat):Int)=((at'+(i+1):Nat):Int) by omega,show(at':Int)+(i:Int)=((at'+i:Nat):Int) by omega,
   EW (by omega),Aa,EW (by omega),Aa,Aa,Acf (by simp;omega),Aan (by simp;omega),aA,hv,mM (by omega),Aa,Bu]
  have ih:=U6 bk at' h1 h6 hm hl hl2 i q (by omega) (by omega);rw[<-ih];congr 1;apply Xt;intro k _;rw[Ako];simp;omega
theorem qj{at' ch n:Nat}(ha:at' %ch=0)(hm:n %ch=0)(h:at'<n):at'+ch<=n:=by
 have d1:=Bfw at' ch;have d2:=Bfw n ch;rw[ha,Bde]at d1;rw[hm,Bde]at d2;have hlt:at'/ch<n/ch:=by
  rcases Bgf (at'/ch) (n/ch)with h'|h'
  ·exact h'
  ·have:=Bes ch h';omega
 have:=Bes ch (show at'/ch+1<=n/ch from hlt);rw[Nat.mul_add]at this;omega
theorem zm(h1:1<=ch)(h6:ch<=6)(hm:m.length %ch=0)(hl2:m.length<=4000):∀(j at' q:Nat),at' %ch=0->at'<=m.length->m.length-at'<=j->j<q->
  Wo (ch:Int) q (at':Int) (lA (λk=>decide (k<at')) (mf ch m) m)=some (mf ch m,0)
 |j,at',q+1,ha,hle,hj,hq=>by
  have hlen:=tT ch m;have hl:Ac (lA (λk=>decide (k<at')) (mf ch m) m)=(m.length:Int):=by rw[Ac,RU,hlen]
  rw[Wo,kL,hl];by_cases h:at'<m.length
  ·have hb:=qj ha hm h;obtain⟨j,rfl⟩:∃k,j=k+1:=⟨j-1,by omega⟩;have e1:Ao (Ad (at':Int) (ch:Int)-(at':Int)) 1=((ch-1:Nat):Int):=by rw[Aj,Bu];omega
   have e2:Ad (at':Int) (ch:Int)-(at':Int)=(ch:Int):=by rw[Aj];omega
   have e4:Ad (at':Int) (ch:Int)=((at'+ch:Nat):Int):=by rw[Aj];omega
   have hi:=U6 ch m (Wo (ch:Int) q) at' h1 h6 ha hb hl2 (ch-1) Au (by omega) (by have:=Ar;omega);have hrest:=zm h1 h6 hm hl2 j (at'+ch) q (by rw[Bgt,ha]) hb (by omega) (by omega);have hstart:XZ (Wo (ch:Int) q) (ch:Int) (at':Int) (lA (λk=>decide (k<at'\/ (at'+(ch-1)<=k/\k<at'+ch))) (mf ch m) m)=some (mf ch m,0):=by
    have e6:Ao ((ch-1:Nat):Int) 1=((ch-1:Nat):Int)-1:=Bu;rw[XZ,kB,kP,e1,e6];exact Bda hi hrest
   rw[Acf (by rw[Ae];simp;omega),show iM (m.length:Int) (at':Int) (Ad (at':Int) (ch:Int))=some () by rw[e4,iM,vJ];omega,Aa,e1,e2];have hlast:=S9 (m:=m) ha (show ch-1<ch by omega) (by omega);rw[show ch-1-(ch-1)=0 by omega,unV]at hlast;by_cases hc:1<ch
   ·have e5:Ao ((ch-1:Nat):Int) 1=((ch-2:Nat):Int):=by rw[Bu];omega
    rw[Acf hc]at hlast;rw[Acf (by rw[Aq];simp;omega),vJ (by omega),Aa,e5,vJ (by omega),Aa,show(at':Int)+((ch-1:Nat):Int)=((at'+(ch-1):Nat):Int) by omega,show(at':Int)+((ch-2:Nat):Int)=((at'+(ch-2):Nat):Int) by omega,
     EW (by omega),Aa,EW (by omega),Aa,Aa,Aan (by simp),Aan (by simp),gZ,<-hlast,mM (by omega),Aa]
    rw[<-hstart];congr 1;apply Xt;intro k _;rw[Ako];simp;omega
   ·have hc1:ch=1:=by omega
    rw[Aan (by rw[Aq];simp;omega),<-hstart];congr 1;rw[Aan hc]at hlast;apply Bfi;intro k hk;by_cases hk2:k=at'
    ·subst hk2;rw[Aan (by simp),Acf (by simp;omega)];rw[show k+(ch-1)=k by omega]at hlast;exact hlast.symm
    ·by_cases hk3:k<at'
     ·rw[Acf (by simp;omega),Acf (by simp;omega)]
     ·rw[Aan (by simp;omega),Aan (by simp;omega)]
  ·rw[Aan (by rw[Ae];simp;omega),tZ (λk hk=>by simp;omega)];rfl
theorem Awr(h1:1<=ch)(h6:ch<=6)(hm:m.length %ch=0)(hl2:m.length<=4000):zG (ch:Int) m=some (mf ch m,0):=by
 have hlen:=tT ch m;have h:=zm ch m h1 h6 hm hl2 m.length 0 Au (by simp) (by omega) (by omega) (by have:=Ar;omega);rw[zG,sQ,Ae0 ch m h1 h6 hm hl2,Aa,Aan (by rw[Ah];simp),Di,Bg (by simp;omega),Aa,Aa,Auy,lY];rw[pP hlen.symm (λk _=>by simp)]at h;exact h
end
def K4(f:Nat->Int32)(ch:Nat):List Int32:=(List.range ch).map λi=>unV f ch (ch-1-i)
theorem iN(f:Nat->Int32)(ch:Nat):(K4 f ch).length=ch:=by simp[K4]
theorem D1(f:Nat->Int32){ch i:Nat}(h:i<ch):(K4 f ch).getD i 0=unV f ch (ch-1-i):=by
 rw[Oy (by rw[iN];exact h)];simp[K4]
theorem At1(a b:Int32):Dl (Ao (Af a:Int) (Af b:Int))=some (a-b):=by
 have:=DE a;have:=DE b;rw[Gk,Gk,Bu,S7,Int32.ofInt_sub,Bbj,Bbj]
theorem Apd(a b:Int32):Dl (Ad (Af a:Int) (Bt (Af b:Int) (2:Int)))=some (a+Bt b (2:Int32)):=by
 have:=DE a;have hb:=DE b;have hd: -2147483648<=b.toInt.tdiv 2/\b.toInt.tdiv 2<=2147483648:=by
  rw[Int.tdiv_eq_ediv,show Int.sign 2=1 from rfl];by_cases h:0<=b.toInt\/2∣b.toInt
  ·rw[Acf h];omega
  ·rw[Aan h];omega
 have e:Bt b (2:Int32)=Int32.ofInt (b.toInt.tdiv 2):=rfl;rw[Gk,Gk,UZ,De (by omega) (by omega),Aj,S7,Int32.ofInt_add,Bbj,e]
theorem zB(uM z:List Int32)(ch:Nat)(h6:ch<=6)(hs:uM.length=ch)(hz:z.length=ch):∀(i q:Nat),i+1<=ch->i<q->
  Jo uM q ((i:Int)-1) (lA (λk=>decide (i<=k)) (K4 (λi=>uM.getD i 0) ch) z)=some (K4 (λi=>uM.getD i 0) ch)
 |0,q+1,hi,_=>by
  rw[Jo,Vm,Aan (by rw[Ea];simp),tZ (λk hk=>by simp)];rfl
 |i+1,q+1,hi,hq=>by
  have hlen:=iN (λi=>uM.getD i 0) ch;have e3:Ad (i:Int) 1=((i+1:Nat):Int):=by rw[Aj];omega
  have hv:(K4 (λi=>uM.getD i 0) ch).getD (i+1) 0-uM.getD i 0=(K4 (λi=>uM.getD i 0) ch).getD i 0:=by
   rw[D1 _ (by omega),D1 _ (by omega),show ch-1-i=(ch-1-(i+1))+1 by omega,unV,show ch-2-(ch-1-(i+1))=i by omega]
  rw[Jo,Vm,show((i+1:Nat):Int)-1=(i:Int) by omega,Acf (by rw[Ea];simp),e3,EW (by omega),Aa,g32 (by omega),Aa,Aa,Acf (by simp),At1,Aa,EW (by omega),Aa,hv,mM (by omega),Aa,Bu];have ih:=zB uM z ch h6 hs hz i q (by omega) (by omega);rw[<-ih];congr 1;apply Xt;intro k _;rw[Ako];simp;omega
theorem Agt{l:List Int32}{i:Nat}(v:Int32)(h:i<l.length):(l.set i v).getD i 0=v:=by
 rw[Oy (by rw[Bep];exact h)];simp
theorem Aia(uM:List Int32)(ch:Nat)(h1:1<=ch)(h6:ch<=6)(hs:uM.length=ch):AW uM=some (K4 (λi=>uM.getD i 0) ch):=by
 have hlen:=iN (λi=>uM.getD i 0) ch;have hzl:(List.replicate ch (0:Int32)).length=ch:=by simp
 have e1:Ao (Ac uM) 1=((ch-1:Nat):Int):=by rw[Ac,hs,Bu];omega
 have e2:Ao (Ac uM) 2=((ch-1:Nat):Int)-1:=by rw[Ac,hs,Bu];omega
 have hlast:=D1 (λi=>uM.getD i 0) (show ch-1<ch by omega);rw[show ch-1-(ch-1)=0 by omega,unV]at hlast;have hend:∀z:List Int32,z.length=ch->z.getD (ch-1) 0=(K4 (λi=>uM.getD i 0) ch).getD (ch-1) 0->Uv uM z=some (K4 (λi=>uM.getD i 0) ch):=by
  intro z hz hzl;have h:=zB uM z ch h6 hs hz (ch-1) Au (by omega) (by have:=Ar;omega);have e:lA (λk=>decide (ch-1<=k)) (K4 (λi=>uM.getD i 0) ch) z=z:=by
   apply Bb4 (by rw[RU,hlen,hz]);intro k k1 k2;rw[Vy];by_cases hk:ch-1<=k
   ·obtain rfl:k=ch-1:=by omega
    rw[Acf (by simp),<-hzl,Oy k2]
   ·rw[Aan (by simpa using hk),Oy k2]
  rw[e]at h;rw[Uv,HV,e2];exact h
 rw[AW,GX,Ac,hs,rZ,Aa,Bj (by rw[As];simp),Aa];rw[Ac,hs]at e1;rw[Ac,hs]at e2;have hz1:(List.replicate (Int.toNat (ch:Int)) (0:Int32)).length=ch:=by simp
 have hs1:=g32 (l:=uM) (k:=ch-1) (by omega);rw[e1,hs1,Aa,g32 (by omega),Aa,Vr _ (by omega),Aa];by_cases hc:1<ch
 ·rw[Acf hc]at hlast;have e3:((ch-1:Nat):Int)-1=((ch-2:Nat):Int):=by omega
  have hs2:=g32 (l:=uM) (k:=ch-2) (by omega);rw[Acf (by rw[Aq];simp;omega),Aa,e2,e3,hs2,Aa,Apd,Aa,g32 (by rw[Bep];omega),Aa,Vr _ (by rw[Bep];omega),Aa];refine hend _ (by simp) ?_;rw[hlast,Agt _ (by rw[Bep];omega)]
 ·rw[Aan hc]at hlast;rw[Aan (by rw[Aq];simp;omega)];refine hend _ (by simp) ?_;rw[hlast,Agt _ (by omega)]
theorem Axp(ch:Nat)(m:List Int32)(h1:1<=ch)(h6:ch<=6)(hm:m.length %ch=0)(hl2:m.length<=4000):Wi (ch:Int) m=some 0:=by
 rw[Wi,Aan (by simp[Ae,Aq];omega),Aan (by rw[Aq,Ac];simp;omega),Bj (by rw[Ah];simp;omega),Aa,Aan];rw[Aq,Fo,Ac,<-Int.ofNat_tmod,hm];simp
theorem M7(ch:Nat)(m:List Int32)(h1:1<=ch)(h6:ch<=6)(hm:m.length %ch=0)(hl2:m.length<=4000):∀(j at' q:Nat),at' %ch=0->at'<=m.length->m.length-at'<=j->j<q->
  Rw (ch:Int) m q (at':Int) ((mf ch m).take at')=some (mf ch m,0)
 |j,at',q+1,ha,hle,hj,hq=>by
  have hlen:=tT ch m;rw[Rw,UL];by_cases h:at'<m.length
  ·have hb:=qj ha hm h;have e4:Ad (at':Int) (ch:Int)=((at'+ch:Nat):Int):=by rw[Aj];omega
   have hrest:=M7 ch m h1 h6 hm hl2 (j-1) (at'+ch) q (by rw[Bgt,ha]) hb (by omega) (by omega);have hseg:((m.take (at'+ch)).drop at').length=ch:=by simp;omega
   have htl:((mf ch m).take at').length=at':=by simp[hlen];omega
   rw[Acf (by rw[Ae,Ac];simp;omega),e4,Uy,Aa,show((at'+ch:Nat):Int).toNat=at'+ch from rfl,show(at':Int).toNat=at' from rfl,Aia _ ch h1 h6 hseg,Aa,Bg (by rw[htl,iN];omega),Aa];have e:(mf ch m).take at'++K4 (λi=>((m.take (at'+ch)).drop at').getD i 0) ch=(mf ch m).take (at'+ch):=by
    apply Bb4 (by rw[Adl,htl,iN,Ahn,hlen];omega);intro k k1 k2;rw[Ahn,hlen]at k2;rw[List.getElem_append,List.getElem_take];by_cases hk:k<at'
    ·rw[dif_pos (by rw[htl];exact hk),List.getElem_take]
    ·rw[dif_neg (by rw[htl];exact hk)];have hu:=S9 (m:=m) ha (show k-at'<ch by omega) (by omega);rw[show at'+(k-at')=k by omega,Oy (by omega)]at hu;have hx:∀n,n<=ch->unV (λi=>((m.take (at'+ch)).drop at').getD i 0) ch n=unV (λi=>m.getD (at'+i) 0) ch n:=by
      have hf:∀i,i<ch-> ((m.take (at'+ch)).drop at').getD i 0=m.getD (at'+i) 0:=by
       intro i hi;rw[Oy (by omega),Oy (by omega)];simp
      intro n
      induction n with
      |zero=>
       intro _;rw[unV,unV,hf _ (by omega)];split
       ·rw[hf _ (by omega)]
       ·rfl
      |succ n ih=>intro hn;rw[unV,unV,ih (by omega),hf _ (by omega)]
     have hy:=D1 (λi=>((m.take (at'+ch)).drop at').getD i 0) (show k-at'<ch by omega);rw[Oy (by rw[iN];omega)]at hy;rw[hu,<-hx _ (by omega),<-hy];congr 1;rw[htl]
   rw[e];exact hrest
  ·rw[Aan (by rw[Ae,Ac];simp;omega),Apg (by omega)];rfl
theorem Ao1(ch:Nat)(m:List Int32)(h1:1<=ch)(h6:ch<=6)(hm:m.length %ch=0)(hl2:m.length<=4000):JY (ch:Int) m=some (mf ch m,0):=by
 have h:=M7 ch m h1 h6 hm hl2 m.length 0 Au (by simp) (by omega) (by omega) (by have:=Ar;omega);rw[JY,SO,Axp ch m h1 h6 hm hl2,Aa,Aan (by rw[Ah];simp)];exact h
def pre{α:Type}(ch c:Nat)(f:α->Nat->α)(a0:α):Nat->α
 |0=>a0
 |m+1=>if m %ch=c then f (pre ch c f a0 m) m else pre ch c f a0 m
theorem Am6{α:Type}(ch c:Nat)(f:α->Nat->α)(a0:α):∀m,m<=c->c<ch->pre ch c f a0 m=a0
 |0,_,_=>rfl
 |m+1,h,h2=>by rw[pre,Aan (by rw[Adz (by omega)];omega),Am6 ch c f a0 m (by omega) h2]
theorem Ad2{α:Type}(ch c i:Nat)(f:α->Nat->α)(a0:α)(hi:i %ch=c)(hc:c<ch):∀j,j<ch->pre ch c f a0 (i+1+j)=pre ch c f a0 (i+1)
 |0,_=>rfl
 |j+1,h=>by
  have hne:(i+1+j) %ch≠c:=by
   intro e;have h1:(i+(1+j)) %ch=i %ch:=by rw[hi,<-e];congr 1;omega
   have h2:(1+j) %ch=0:=by
    have h3:=Nat.sub_mod_eq_zero_of_mod_eq h1;rwa [Bch]at h3
   rw[Adz (by omega)]at h2;omega
  rw[show i+1+(j+1)=(i+1+j)+1 by omega,pre,Aan hne,Ad2 ch c i f a0 hi hc j (by omega)]
theorem Ase{α:Type}(ch c i:Nat)(f:α->Nat->α)(a0:α)(hi:i %ch=c)(hc:c<ch):pre ch c f a0 (i+ch)=f (pre ch c f a0 i) i:=by
 have h:=Ad2 ch c i f a0 hi hc (ch-1) (by omega);rw[show i+1+(ch-1)=i+ch by omega]at h;rw[h,pre,Acf hi]
abbrev CS:=Int32×List Int32×List Int32
def Ad9(bits:Int)(s:CS)(y:Int32):Int32:=y+gF (sB bits) s.2.1 s.2.2+gs (shB bits) s.1
def Aaq(bits:Int)(s:CS)(y:Int32):CS:=(Ad9 bits s y,V9 s.2.1 s.2.2 y,(y+gF (sB bits) s.2.1 s.2.2)::s.2.2.take 15)
def cst(bits:Int)(ch:Nat)(t:List Int32)(v:List UInt32)(c:Nat):Nat->CS:=pre ch c (λs i=>Aaq bits s (YW (v.getD i 0))) (0,t,List.replicate 16 0)
def OkC(bits:Int)(s:CS):Prop:=OkF (sB bits) s.2.1 s.2.2
theorem Adi(bits:Int)(ch:Nat){t:List Int32}(ht:t.length=16)(v:List UInt32)(c:Nat):∀m,OkC bits (cst bits ch t v c m)
 |0=>⟨Bdf bits,ht,by simp[cst,pre]⟩
 |m+1=>by
  have ih:=Adi bits ch ht v c m;rw[cst,pre];split
  ·exact Arl ih _ _
  ·exact ih
def O6(bits:Int)(ch:Nat)(t:List Int32)(v:List UInt32):List Int32:=(List.range v.length).map λi=>Ad9 bits (cst bits ch t v (i %ch) i) (YW (v.getD i 0))
theorem uD(bits:Int)(ch:Nat)(t:List Int32)(v:List UInt32):(O6 bits ch t v).length=v.length:=by simp[O6]
theorem Aml(bits:Int)(ch:Nat)(t:List Int32)(v:List UInt32){i:Nat}(h:i<v.length):(O6 bits ch t v).getD i 0=Ad9 bits (cst bits ch t v (i %ch) i) (YW (v.getD i 0)):=by
 rw[Oy (by rw[uD];exact h)];simp[O6]
abbrev CL:=Int×Int32×(Int×(List Int32)×(List Int32)×Unit)×Unit
def toC(bits:Int)(s:CS):CL:=(bits,s.1,(sB bits,s.2.1,s.2.2,()),())
def cts(bits:Int)(ch:Nat)(t:List Int32)(v:List UInt32)(i:Nat):List CL:=(List.range 6).map λc=>toC bits (cst bits ch t v c i)
theorem Amv{bits:Int}{ch:Nat}{t:List Int32}{v:List UInt32}{i c:Nat}(h:c<6):Ap (cts bits ch t v i) (c:Int)=some (toC bits (cst bits ch t v c i)):=by
 rw[Br (by simp[cts];exact h)];simp[cts]
theorem Aew(bits:Int)(ch:Nat)(t:List Int32)(v:List UInt32)(c m:Nat):cst bits ch t v c (m+1)=if m %ch=c then Aaq bits (cst bits ch t v c m) (YW (v.getD m 0))else cst bits ch t v c m:=rfl
theorem Amb{bits:Int}{ch:Nat}{t:List Int32}{v:List UInt32}{i c:Nat}(h:c<6)(hc:i %ch=c):Nj (cts bits ch t v i) (c:Int) (toC bits (Aaq bits (cst bits ch t v c i) (YW (v.getD i 0))))=some (cts bits ch t v (i+1)):=by
 rw[Vr _ (by simp[cts];exact h)];congr 1;apply Bb4 (by simp[cts]);intro k h1 h2;rw[Bg1];simp only[cts,Be6,Bex];by_cases hk:c=k
 ·subst hk;rw[Acf rfl,Aew,Acf hc]
 ·rw[Aan hk,Aew,Aan (by omega)]
section
variable {bits:Int} {ch:Nat} {t:List Int32} {v:List UInt32}
theorem Aee(hb:Bl bits)(ht:t.length=16)(h1:1<=ch)(h6:ch<=6)(hv:v.length<=4000):∀(j i q:Nat),i+j=v.length->j<q->
  La v (ch:Int) bits q (i:Int) (cts bits ch t v i) ((O6 bits ch t v).take i)=Og (ch:Int) bits (O6 bits ch t v)
 |0,i,q+1,hi,_=>by
  rw[La,Of,Aan (by rw[Ae,Ac];simp;omega),Apg (by rw[uD];omega)]
 |j+1,i,q+1,hi,hq=>by
  have hlen:=uD bits ch t v;have hc:i %ch<6:=Aqh (Bdl _ (by omega)) h6;have hok:=Adi bits ch ht v (i %ch) i;have hs:=Amb (bits:=bits) (ch:=ch) (t:=t) (v:=v) (i:=i) hc rfl;have hx:=Aml bits ch t v (i:=i) (by omega);have hcb:=Aof hb hok (cst bits ch t v (i %ch) i).1 (YW (v.getD i 0));have ih:=Aee hb ht h1 h6 hv j (i+1) q (by omega) (by omega);rw[Lb (by omega),<-Oy (by omega),hx]at ih;rw[La,Of,Acf (by rw[Ae,Ac];simp;omega),C8 (by omega),Aa,Bj (by rw[Ah];simp;omega),Aa,IZ,Amv hc,Aa,Aa,As4,Aa];refine Bda (congrArg (λo=>Option.bind o _) hcb) ?_;rw[Aa];simp only;rw[DA,WT,Aan (by rw[Ah];simp),IZ];refine Bda (congrArg (λo=>Option.bind o _) hs) ?_;rw[Aa,Bg (by simp;omega),Aa,Aj];exact ih
theorem Ap5(hb:Bl bits)(ht:t.length=16)(h1:1<=ch)(h6:ch<=6)(hv:v.length<=4000):Xk (ch:Int) bits t v=Og (ch:Int) bits (O6 bits ch t v):=by
 have h:=Aee hb ht h1 h6 hv v.length 0 Au (by omega) (by have:=Ar;omega);have e:Au=(Au-7)+1+1+1+1+1+1+1:=by have:=Ar;omega
 have hs:Uf v (ch:Int) bits t 0 (List.replicate 6 ((0:Int),(0:Int32),((0:Int),(List.replicate 16 (0:Int32)),(List.replicate 16 (0:Int32)),()),()))=DM v (ch:Int) bits (cts bits ch t v 0):=by
  rw[Uf,e];obtain rfl|rfl|rfl:=hb<;>rfl
 rw[Xk,GH,hs];exact h
theorem Aac(bk:Int->List Int32->Option (List Int32))(hb:Bl bits)(ht:t.length=16)(h1:1<=ch)(h6:ch<=6)(hv:v.length<=4000)(z:List Int32)(c:Nat)(hc:c<ch):∀(j i q:Nat),i %ch=c->v.length-i<=j->i<=5000->j<q->
  Nn bk v (ch:Int) bits t (c:Int) q (i:Int) (lA (λk=>decide (k %ch<c\/ (k %ch=c/\k<i))) (O6 bits ch t v) z) bits (cst bits ch t v c i).1 (sB bits) (cst bits ch t v c i).2.1 (cst bits ch t v c i).2.2=
   bk ((c+1:Nat):Int) (lA (λk=>decide (k %ch<c+1)) (O6 bits ch t v) z)
 |j,i,q+1,hi,hj,hi5,hq=>by
  have hlen:=uD bits ch t v;rw[Nn,HG];by_cases h:i<v.length
  ·have hok:=Adi bits ch ht v c i;have hst:=Aqc hb hok (cst bits ch t v c i).1 (YW (v.getD i 0));have hx:=Aml bits ch t v (i:=i) h;rw[hi]at hx;have ih:=Aac bk hb ht h1 h6 hv z c hc (j-1) (i+ch) q (by rw[Bgt];exact hi) (by omega) (by omega) (by omega);have tq:cst bits ch t v c (i+ch)=Aaq bits (cst bits ch t v c i) (YW (v.getD i 0)):=Ase ch c i _ _ hi hc;rw[tq]at ih;have hset:=mM (p:=λk=>decide (k %ch<c\/ (k %ch=c/\k<i))) (a:=O6 bits ch t v) (b:=z) (k:=i) (by omega);rw[hx]at hset;have Ah2:lA (λj=>decide (j %ch<c\/ (j %ch=c/\j<i))||decide (j=i)) (O6 bits ch t v) z=lA (λk=>decide (k %ch<c\/ (k %ch=c/\k<i+ch))) (O6 bits ch t v) z:=by
    apply Xt;intro k _;rw[Ako];simp only[Azr,Adx];constructor
    ·rintro((h1|h1)|h1)
     ·exact .inl h1
     ·exact .inr ⟨h1.1,by omega⟩
     ·subst h1;exact .inr ⟨hi,by omega⟩
    ·rintro(h1|⟨h1,h2⟩)
     ·exact .inl (.inl h1)
     ·by_cases h3:k<i
      ·exact .inl (.inr ⟨h1,h3⟩)
      ·refine .inr ?_;have h4:(i+(k-i)) %ch=i %ch:=by rw[show i+(k-i)=k by omega,h1,hi]
       have h5:=Nat.sub_mod_eq_zero_of_mod_eq h4;rw[Bch,Adz (by omega)]at h5;omega
   rw[Ah2]at hset;rw[Acf (by rw[Ae,Ac];simp;omega),C8 h,Aa,Awk,Aa];refine Bda (congrArg (λo=>Option.bind o _) hst) ?_;rw[Aa];simp only;rw[HN,HH,EW (by omega),Aa];refine Bda (congrArg (λo=>Option.bind o _) hset) ?_;rw[Aa,GQ,HB,Aj];exact ih
  ·rw[Aan (by rw[Ae,Ac];simp;omega),GZ,HL,Aj];have Ah2:lA (λk=>decide (k %ch<c\/ (k %ch=c/\k<i))) (O6 bits ch t v) z=lA (λk=>decide (k %ch<c+1)) (O6 bits ch t v) z:=by
    apply Xt;intro k hk;rw[Ako];simp only[Adx];omega
   rw[Ah2];rfl
theorem Aa3(hb:Bl bits)(ht:t.length=16)(h1:1<=ch)(h6:ch<=6)(hv:v.length<=4000)(z:List Int32):∀(j c q:Nat),c+j=ch->j<q->
  Hb v (ch:Int) bits t q (c:Int) (lA (λk=>decide (k %ch<c)) (O6 bits ch t v) z)=Us (ch:Int) bits (O6 bits ch t v)
 |0,c,q+1,hc,_=>by
  rw[Hb,Ut,Aan (by rw[Ae];simp;omega),tZ (λk hk=>by have:=Bdl k (show 0<ch by omega);simp;omega)]
 |j+1,c,q+1,hc,hq=>by
  have ih:=Aa3 hb ht h1 h6 hv z j (c+1) q (by omega) (by omega);have hin:=Aac (Hb v (ch:Int) bits t q) hb ht h1 h6 hv z c (by omega) v.length c Au (Adz (by omega)) (by omega) (by omega) (by have:=Ar;omega);have h0:cst bits ch t v c c=(0,t,List.replicate 16 0):=Am6 ch c _ _ c (Ao7 _) (by omega);rw[h0]at hin;have Ah2:lA (λk=>decide (k %ch<c\/ (k %ch=c/\k<c))) (O6 bits ch t v) z=lA (λk=>decide (k %ch<c)) (O6 bits ch t v) z:=by
   apply Xt;intro k hk;have:=Bg2 k ch;rw[Ako];simp only[Adx];omega
  rw[Ah2]at hin;rw[Hb,Ut,Acf (by rw[Ae];simp;omega),Bd1 hb,Aa];simp only;rw[HK];exact Bda hin ih
theorem Api(hb:Bl bits)(ht:t.length=16)(h1:1<=ch)(h6:ch<=6)(hv:v.length<=4000)(hm:v.length %ch=0):Ub (ch:Int) bits t v=some (mf ch (O6 bits ch t v)):=by
 have hlen:=uD bits ch t v;have h:=Aa3 hb ht h1 h6 hv (List.replicate v.length 0) ch 0 Au (by omega) (by have:=Ar;omega);rw[pP (by rw[hlen];simp) (λk _=>by simp)]at h;rw[Ub,JO,Ac,rZ,Aa,Bj (by rw[As];simp),Aa,HW];refine Bda h ?_;rw[Us,HI,Ao1 ch _ h1 h6 (by rw[hlen];exact hm) (by omega),Aa]
end
def hB(bits:Int):Int:=if bits=8 then 128 else if bits=16 then 32768 else 8388608
theorem ic{bits:Int}(h:Bl bits):Sg bits=some (Int32.ofInt (-(hB bits)),Int32.ofInt (hB bits-1),0):=by
 obtain rfl|rfl|rfl:=h<;>decide
theorem WQ{bits:Int}(h:Bl bits):Kx bits=some (hB bits):=by
 obtain rfl|rfl|rfl:=h<;>rfl
theorem FL(bits:Int):0<hB bits/\hB bits<=8388608:=by
 unfold hB;split; · omega
 ·split<;>omega
theorem mh{bits:Int}(h:Bl bits)(l:List Int32)(hl:l.length<=4000):∀(j i q:Nat),i+j=l.length->j<q->
  Up (Int32.ofInt (-(hB bits))) (Int32.ofInt (hB bits-1)) l q (i:Int)=Ba l (hB bits) q (i:Int)
 |0,i,q+1,hi,_=>by
  rw[Up,IU,Ba,Df,Aan (by rw[Ae,Ac];simp;omega),Aan (by rw[Ae,Ac];simp;omega)];rfl
 |j+1,i,q+1,hi,hq=>by
  have hh:=FL bits;have ih:=mh h l hl j (i+1) q (by omega) (by omega);have e1:(Int32.ofInt (-(hB bits))).toInt= -(hB bits):=by rw[Bel,Bg9 (by show -(4294967296/2:Int)<= _;omega) (by show _<(4294967296+1)/2;omega)]
  have e2:(Int32.ofInt (hB bits-1)).toInt=hB bits-1:=by rw[Bel,Bg9 (by show -(4294967296/2:Int)<= _;omega) (by show _<(4294967296+1)/2;omega)]
  rw[Up,IU,Ba,Df,Acf (by rw[Ae,Ac];simp;omega),Acf (by rw[Ae,Ac];simp;omega),g32 (by omega),Aa,Aa,Aa,Gk,Acb,De (by omega) (by omega),Aj,Acm,Ai3,e1,e2,Ae,Ea];generalize(l.getD i 0).toInt=X;by_cases h1:X< -(hB bits)
  ·rw[Acf (by simp;omega),Acf (by simp;omega)]
  ·rw[Aan (c:=decide (X<0-hB bits)=true) (by simp;omega)];by_cases h2:hB bits<=X
   ·rw[Acf (by simp;omega),Acf (by simp;omega)]
   ·rw[Aan (by simp;omega),Aan (by simp;omega)];exact ih
theorem bA{bits:Int}(h:Bl bits)(l:List Int32)(hl:l.length<=4000):Rv bits l=Ay bits l:=by
 have hh:=FL bits;rw[Rv,aU,ic h,Aa,Ay,Ed,WQ h,Aa];simp only;rw[Aan (by rw[Ah];simp),Aan (by rw[Aq,Ac];simp;omega),Aan (by rw[As];simp;omega),Aan (by rw[Aq,Ac];simp;omega)];exact mh h l hl l.length 0 Au (by omega) (by have:=Ar;omega)
theorem Akh{bits:Int}(h:Bl bits)(l:List Int32)(hl:l.length<=4000):∃e,Ay bits l=some e:=by
 have hh:=FL bits;have key:∀(j i q:Nat),i+j=l.length->j<q->∃e,Ba l (hB bits) q (i:Int)=some e:=by
  intro j
  induction j with
  |zero=>
   intro i q hi hq;obtain⟨q,rfl⟩:∃k,q=k+1:=⟨q-1,by omega⟩;rw[Ba,Df,Aan (by rw[Ae,Ac];simp;omega)];exact⟨_,rfl⟩
  |succ j ih=>
   intro i q hi hq;obtain⟨q,rfl⟩:∃k,q=k+1:=⟨q-1,by omega⟩;rw[Ba,Df,Acf (by rw[Ae,Ac];simp;omega),g32 (by omega),Aa,Aa,Aj];split
   ·exact⟨_,rfl⟩
   ·split
    ·exact⟨_,rfl⟩
    ·exact ih (i+1) q (by omega) (by omega)
 obtain⟨e,he⟩:=key l.length 0 Au (by omega) (by have:=Ar;omega);rw[Ay,Ed,WQ h,Aa,Aan (by rw[As];simp;omega),Aan (by rw[Aq,Ac];simp;omega)];exact⟨e,he⟩
theorem zN{bits:Int}{ch:Nat}{t:List Int32}{v:List UInt32}(hb:Bl bits)(ht:t.length=16)(h1:1<=ch)(h6:ch<=6)(hv:v.length<=4000)(hm:v.length %ch=0):
  ∃l e,Ub (ch:Int) bits t v=some l/\DF (ch:Int) bits l=some (if e≠0 then([],e)else(l,0))/\Xk (ch:Int) bits t v=some (if e≠0 then([],e)else(l,0))/\Ay bits l=some e/\l.length=v.length:=by
 have hlen:=uD bits ch t v;have hul:=tT ch (O6 bits ch t v);obtain⟨e,he⟩:=Akh hb (mf ch (O6 bits ch t v)) (by omega);refine⟨mf ch (O6 bits ch t v),e,Api hb ht h1 h6 hv hm,?_,?_,he,by omega⟩
 ·rw[DF,he,Aa];by_cases h:e=0
  ·rw[Aan (by rw[Ah];simpa using h),Aan (by simpa using h)]
  ·rw[Acf (by rw[Ah];simpa using h),Acf h]
 ·rw[Ap5 hb ht h1 h6 hv,Og,WG,Awr ch _ h1 h6 (by rw[hlen];exact hm) (by omega),Aa];simp only;rw[Aan (by rw[Ah];simp),bA hb _ (by omega),he,Aa];by_cases h:e=0
  ·rw[Aan (by rw[Ah];simpa using h),Aan (by simpa using h)]
  ·rw[Acf (by rw[Ah];simpa using h),Acf h]
def qQ(s:Nat):Nat:=(s/2)^^^ (if s %2=1 then 3988292384 else 0)
theorem uh{s:Nat}(h:s<4294967296):qQ s<4294967296:=by
 unfold qQ;exact Bb7 (n:=32) (by simp;omega) (by split<;>decide)
theorem Afg(x y:Nat):(x^^^y)/2=(x/2)^^^ (y/2):=by
 have:=Nat.shiftRight_xor_distrib (a:=x) (b:=y) (i:=1);simpa [Nat.shiftRight_eq_div_pow]using this
theorem Ao5(x y:Nat):qQ (x^^^y)=qQ x^^^qQ y:=by
 have h:(x^^^y) %2=(x %2+y %2) %2:=by
  have:=Nat.xor_mod_two_eq_one (a:=x) (b:=y);have h1:(x^^^y) %2<2:=Bdl _ (by omega);omega
 simp only[qQ,Afg,h];have hx:x %2=0\/x %2=1:=by omega
 have hy:y %2=0\/y %2=1:=by omega
 rcases hx with hx|hx<;>rcases hy with hy|hy<;>simp only[hx,hy]<;>simp
 ·rw[Beg]
 ·rw[Beg,Bhf (y/2),Beg,Bhf 3988292384 (y/2)]
 ·rw[Beg,Bhf 3988292384,Beg,Nat.xor_self];simp
def CI:Nat->Nat->Nat
 |0,s=>s
 |k+1,s=>CI k (qQ s)
theorem Aax:∀(k x y:Nat),CI k (x^^^y)=CI k x^^^CI k y
 |0,_,_=>rfl
 |k+1,x,y=>by rw[CI,Ao5,Aax k];rfl
theorem zn:∀(k h:Nat),CI k (2^k*h)=h
 |0,h=>by simp[CI]
 |k+1,h=>by
  have:qQ (2^(k+1)*h)=2^k*h:=by
   rw[Av3,Aqr (2^k) 2,Azk,qQ,Aan (by omega),Nat.mul_div_cancel_left _ (by omega)];simp
  rw[CI,this,zn k]
theorem Y2:∀(k:Nat) {s:Nat},s<4294967296->CI k s<4294967296
 |0,_,h=>h
 |k+1,_,h=>Y2 k (uh h)
def O5(s c:Nat):Nat:=CI 8 (s^^^c)
theorem X7{s c:Nat}(h:s<4294967296)(hc:c<256):O5 s c<4294967296:=Y2 8 (Bb7 (n:=32) (by simpa using h) (by simp;omega))
theorem Afd{s c:Nat}(hc:c<256):O5 s c=(s/256)^^^CI 8 ((s %256)^^^c):=by
 have h:s=(2^8*(s/256))^^^ (s %256):=by
  have h1:s %256<2^8:=by simpa using Bdl s (by omega:256>0)
  have:=Bbs h1 (s/256);have h2:2^8*(s/256)|||s %256=(2^8*(s/256))^^^ (s %256):=by
   apply Nat.eq_of_testBit_eq;intro i;rw[Nat.testBit_or,Nat.testBit_xor];by_cases hi:i<8
   ·have:(2^8*(s/256)).testBit i=false:=by rw[Nat.testBit_two_pow_mul];simp;omega
    rw[this];simp
   ·have:(s %256).testBit i=false:=Nat.testBit_lt_two_pow (Aqh h1 (Ah1 (by omega) (by omega)));rw[this];simp
  omega
 rw[O5]
 conv=>lhs;rw[h]
 rw[Beg,Aax,zn]
def Aog(s:Nat)(l:List UInt8):Nat:=l.foldl (λs c=>O5 s c.toNat) s
def Ez(b:List UInt8):UInt32:=4294967295-UInt32.ofNat (Aog 4294967295 b)
theorem Awf(s:UInt32)(c:Nat)(hc:c<256):ME s (Af (HZ (UInt8.ofNat c) (2:UInt8)):Int)=some (UInt32.ofNat (s.toNat/2^^^ (if(s.toNat^^^c) %2=1 then 3988292384 else 0))):=by
 have h1:(Af (HZ (UInt8.ofNat c) (2:UInt8)):Int)=((c %2:Nat):Int):=by
  rw[YI,Ax7,UInt8.toNat_mod,Aqq];show((c %256 %2:Nat):Int)=_;omega
 have h2:geq (HZ s (2:UInt32)) (1:UInt32)=decide (s.toNat %2=1):=by
  rw[Ab8,Ael,Ako];simp only[Avz,Adx];rw[<-UInt32.toNat_inj,UInt32.toNat_mod];rfl
 have h3:Bt s (2:UInt32)=UInt32.ofNat (s.toNat/2):=by
  apply UInt32.toNat_inj.1;rw[Aeu,UInt32.toNat_div,Ank]
  show s.toNat/2=_;have:=s.toNat_lt;omega
 have h4:BA (Bt s (2:UInt32)) (3988292384:UInt32)=UInt32.ofNat (s.toNat/2^^^3988292384):=by
  apply UInt32.toNat_inj.1;rw[h3,gT,Bgz,Ank,Ank];have:=s.toNat_lt;rw[Adz (a:=s.toNat/2) (by omega),Adz]
  ·rfl
  ·exact Bb7 (n:=32) (by omega) (by decide)
 have hx:(s.toNat^^^c) %2=(s.toNat %2+c %2) %2:=by
  have:=Nat.xor_mod_two_eq_one (a:=s.toNat) (b:=c);have h1:(s.toNat^^^c) %2<2:=Bdl _ (by omega);omega
 have hs:s.toNat %2=0\/s.toNat %2=1:=by omega
 have hc2:c %2=0\/c %2=1:=by omega
 rw[ME,RZ,h1,h2,hx];rcases hs with hs|hs<;>rcases hc2 with hc2|hc2<;>simp[hs,hc2,As,SP,TO,gT,h3]
theorem N4:∀(j i q:Nat) (s:UInt32) (c:Nat),i+j=8->j<q->c<2^j->Mv q s (UInt8.ofNat c) (i:Int)=some (UInt32.ofNat (CI j (s.toNat^^^c)))
 |0,i,q+1,s,c,hi,_,hc=>by
  obtain rfl:i=8:=by omega
  obtain rfl:c=0:=by simpa using hc
  rw[Mv,AX,Aan (by rw[Ae];simp),UP,UA,CI];simp
 |j+1,i,q+1,s,c,hi,hq,hc=>by
  have hc8:c<256:=Aqh hc (show 2^(j+1)<=2^8 from Ah1 (by omega) (by omega));rw[Mv,AX,Acf (by rw[Ae];simp;omega),Awf s c hc8,Aa,Aj];have e:Bt (UInt8.ofNat c) (2:UInt8)=UInt8.ofNat (c/2):=by
   apply UInt8.toNat_inj.1;rw[Axq,UInt8.toNat_div,Aqq,Aqq]
   show c %256/2=_;omega
  rw[e];have h:=N4 j (i+1) q (UInt32.ofNat (s.toNat/2^^^ (if(s.toNat^^^c) %2=1 then 3988292384 else 0))) (c/2) (by omega) (by omega) (by rw[Av3]at hc;omega);rw[show((i:Int)+1)=((i+1:Nat):Int) by omega,h,Ank,CI];congr 3;have:=s.toNat_lt;rw[Adz,qQ,Afg,Beg,Beg,Bhf (c/2)];exact Bb7 (n:=32) (by omega) (by split<;>decide)
theorem Axn(s:UInt32)(c:UInt8):dY s c=some (UInt32.ofNat (O5 s.toNat c.toNat)):=by
 have h:=N4 8 0 Au s c.toNat (by omega) (by have:=Ar;omega) (by simpa using c.toNat_lt);rw[UInt8.ofNat_toNat]at h;exact h
theorem vL(b:List UInt8)(hb:b.length<4611686018427387904):∀(j i q:Nat) (s:UInt32),i+j=b.length->j<q->Kr b q s (i:Int)=some (UInt32.ofNat (Aog s.toNat (b.drop i)))
 |0,i,q+1,s,hi,_=>by
  rw[Kr,We,Aan (by rw[Ae,Ac];simp;omega),show i=b.length by omega,Beb];simp[NC,KO,Aog]
 |j+1,i,q+1,s,hi,hq=>by
  have hlt:i<b.length:=by omega
  rw[Kr,We,Acf (by rw[Ae,Ac];simp;omega),Br hlt,Aa,Axn,Aa,Aj];have h:=vL b hb j (i+1) q (UInt32.ofNat (O5 s.toNat b[i].toNat)) (by omega) (by omega);rw[show((i:Int)+1)=((i+1:Nat):Int) by omega,h,drop_cons hlt,Ank,Adz (X7 s.toNat_lt b[i].toNat_lt)];rfl
theorem Ara(b:List UInt8)(hb:b.length<4611686018427387904):Xm b=some (Ez b):=by
 have h:=vL b hb b.length 0 Au 4294967295 (by omega) (by have:=Ar;omega);rw[Xm,WH,KF,LK,show((0:Int))=((0:Nat):Int)from rfl,h,Aa,Y8];rfl
theorem Ax9(c:UInt32):BA (Ci c (GI.toZ (1:UInt64)).toNat) (Bf (3988292384:UInt32) (Et c (1:UInt32)))=UInt32.ofNat (qQ c.toNat):=by
 apply UInt32.toNat_inj.1;have e:(GI.toZ (1:UInt64)).toNat=1:=rfl;have h1:(Ci c 1).toNat=c.toNat/2:=by rw[SL]
 have h2:(Bf (3988292384:UInt32) (Et c (1:UInt32))).toNat=if c.toNat %2=1 then 3988292384 else 0:=by
  rw[Aud,jl,UInt32.toNat_mul,UInt32.toNat_and]
  show 3988292384*(c.toNat&&&1) %4294967296=_;rw[Nat.and_one_is_mod];have:c.toNat %2=0\/c.toNat %2=1:=by omega
  rcases this with h|h<;>simp[h]
 rw[e,gT,Bgz,h1,h2,Ank,Adz (uh c.toNat_lt)];rfl
theorem Aeb(Iv:Int->List UInt32->Option (UInt32×Int))(s:UInt32)(b:List UInt8)(x:Int)(t:List UInt32):∀(j i q:Nat) (c:UInt32),i+j=8->j<q->
  Un Iv s b x t q c (i:Int)=KE Iv s b x (UInt32.ofNat (CI j c.toNat)) t
 |0,i,q+1,c,hi,_=>by
  obtain rfl:i=8:=by omega
  rw[Un,JM,Aan (by rw[Ae];simp),CI,UInt32.ofNat_toNat]
 |j+1,i,q+1,c,hi,hq=>by
  rw[Un,JM,Acf (by rw[Ae];simp;omega),Ax9,Aj,show((i:Int)+1)=((i+1:Nat):Int) by omega,Aeb Iv s b x t j (i+1) q _ (by omega) (by omega),Ank,Adz (uh c.toNat_lt)];rfl
def tbl(n:Nat):List UInt32:=(List.range n).map λi=>UInt32.ofNat (CI 8 i)
theorem Am8(s:UInt32)(b:List UInt8):∀(j i q:Nat),i+j=256->j<q->Pz s b q (i:Int) (tbl i++List.replicate j 0)=KJ s b (tbl 256)
 |0,i,q+1,hi,_=>by
  obtain rfl:i=256:=by omega
  rw[Pz,MK,Aan (by rw[Ae];simp)];simp
 |j+1,i,q+1,hi,hq=>by
  have hlen:(tbl i++List.replicate (j+1) 0).length=i+(j+1):=by simp[tbl]
  rw[Pz,MK,Acf (by rw[Ae];simp;omega),YU];have h:=Aeb (Pz s b q) s b (i:Int) (tbl i++List.replicate (j+1) 0) 8 0 Au (Af (i:Int)) (by omega) (by have:=Ar;omega);rw[show((0:Int))=((0:Nat):Int)from rfl,h,KE,aE,Br (by rw[hlen];omega),Aa,Vr _ (by rw[hlen];omega),Aa,bP,pY,Aj];have e:(Af (i:Int):UInt32).toNat=i:=by rw[Abc,Ank,Adz (by omega)]
  rw[e,Bcb,kD (by simp[tbl])];have h2:=Am8 s b j (i+1) q (by omega) (by omega);have h3:tbl (i+1)=tbl i++[UInt32.ofNat (CI 8 i)]:=by simp[tbl,List.range_succ]
  rw[h3]at h2;rw[show((i:Int)+1)=((i+1:Nat):Int) by omega,<-h2];simp
theorem Aw0{i:Nat}(h:i<256):Ap (tbl 256) (i:Int)=some (UInt32.ofNat (CI 8 i)):=by
 rw[Br (by simpa [tbl]using h)];simp[tbl]
theorem Aus(s:UInt32)(c:UInt8):Ap (tbl 256) (GI.toZ (BA (Af s:UInt8) c))=some (UInt32.ofNat (CI 8 ((s.toNat %256)^^^c.toNat))):=by
 have e:GI.toZ (BA (Af s:UInt8) c)=(((s.toNat %256)^^^c.toNat:Nat):Int):=by
  rw[GN,Ak5,UInt8.toNat_xor,xD,Aqq]
 rw[e,Aw0];exact Bb7 (n:=8) (by simp;omega) (by simpa using c.toNat_lt)
theorem Ao2(s:UInt32)(c:UInt8):BA (Ci s (GI.toZ (8:UInt64)).toNat) (UInt32.ofNat (CI 8 ((s.toNat %256)^^^c.toNat)))=UInt32.ofNat (O5 s.toNat c.toNat):=by
 apply UInt32.toNat_inj.1;have hlt:CI 8 ((s.toNat %256)^^^c.toNat)<4294967296:=Y2 8 (Bb7 (n:=32) (by simp;omega) (by have:=c.toNat_lt;simp;omega));have e:(GI.toZ (8:UInt64)).toNat=8:=rfl;rw[e,gT,Bgz,SL,Ank,Ank,Adz hlt,Adz (X7 s.toNat_lt c.toNat_lt),Afd c.toNat_lt]
theorem Agi(b:List UInt8)(hb:b.length<4611686018427387904):∀(j i q:Nat) (s:UInt32),i+j=b.length->j<q->Vg b (tbl 256) q s (i:Int)=some (UInt32.ofNat (Aog s.toNat (b.drop i)),0)
 |0,i,q+1,s,hi,_=>by
  rw[Vg,MI,Aan (by rw[Ae,Ac];simp;omega),show i=b.length by omega,Beb];simp[ZL,qJ,Aog]
 |j+1,i,q+1,s,hi,hq=>by
  have hlt:i<b.length:=by omega
  rw[Vg,MI,Acf (by rw[Ae,Ac];simp;omega),Br hlt,Aa,Aus,Aa,Aa,Ao2,Aj];have h:=Agi b hb j (i+1) q (UInt32.ofNat (O5 s.toNat b[i].toNat)) (by omega) (by omega);rw[show((i:Int)+1)=((i+1:Nat):Int) by omega,h,drop_cons hlt,Ank,Adz (X7 s.toNat_lt b[i].toNat_lt)];rfl
theorem Av7(s:UInt32)(b:List UInt8)(hb:b.length<=100000):mO s b=some (UInt32.ofNat (Aog s.toNat b),0):=by
 have h:=Am8 s b 256 0 Au (by omega) (by have:=Ar;omega);have h2:=Agi b (by omega) b.length 0 Au s (by omega) (by have:=Ar;omega);rw[mO,fK,Aan (by rw[Aq,Ac];simp;omega),ZI];refine Bda h ?_;rw[KJ,ZO,ZQ,ZX,aG];exact h2
theorem Ar1(a:UInt32):qc a=4294967295-a:=by
 have h:=a.toNat_lt;have e:qc a=UInt32.ofNat (BitVec.ofInt 32 4294967295^^^BitVec.ofInt 32 (a.toNat:Int)).toNat:=Gl _;apply UInt32.toNat_inj.1;rw[e,Ank,UInt32.toNat_sub_of_le _ _ (by rw[UInt32.le_iff_toNat_le];show a.toNat<=4294967295;omega)];have h1:BitVec.ofInt 32 (a.toNat:Int)=a.toBitVec:=Ac7 a;have h2:(BitVec.ofInt 32 4294967295:BitVec 32)=BitVec.allOnes 32:=by decide
 rw[h1,h2,BitVec.allOnes_xor,BitVec.toNat_not];show(4294967296-1-a.toNat) %4294967296=4294967295-a.toNat;omega
theorem I5(b:List UInt8)(hb:b.length<=100000):BN b=some (Ez b,0):=by
 rw[BN,Av7 _ _ hb,Aa];simp only[Ah,Ar1];rfl
theorem Aku:∀{l m:List UInt8},l.length=m.length->Gd l=Gd m->l=m
 |[],[],_,_=>rfl
 |x::l,y::m,h,e=>by
  simp only[Gd]at e;have hx:=x.toNat_lt;have hy:=y.toNat_lt;have h1:x=y:=UInt8.toNat_inj.1 (by omega);rw[h1,Aku (l:=l) (m:=m) (by simpa using h) (by omega)]
theorem MC:∀(w n:Nat),Gd (Sk n w)=n %256^w
 |0,n=>by simp[Sk,Gd,Nat.mod_one]
 |w+1,n=>by
  rw[Sk,Gd,MC w (n/256),Aqq,show(256:Nat)^(w+1)=256*256^w by rw[Av3,Aqr],Nat.mod_mul]
def Zf(b:List UInt8):Int:=
 if b.length<5 then 24 else if 41254<b.length then 4 else if(Ez (b.take (b.length-4))).toNat≠Gd (b.drop (b.length-4))then 22 else 0
theorem Aga(b:List UInt8):KR b=some (if Zf b≠0 then([],Zf b)else(b.take (b.length-4),0)):=by
 rw[KR];by_cases h1:b.length<5
 ·have hS:Zf b=24:=by rw[Zf,Acf h1]
  rw[Acf (by rw[Ae,Ac];simp;omega),hS];rfl
 rw[Aan (by rw[Ae,Ac];simp;omega)];by_cases h2:41254<b.length
 ·have hS:Zf b=4:=by rw[Zf,Aan h1,Acf h2]
  rw[Acf (by rw[Aq,Ac];simp;omega),hS];rfl
 have e4:Ao (Ac b) 4=((b.length-4:Nat):Int):=by rw[Ac,Bu];omega
 have hd:(b.drop (b.length-4)).length=4:=by simp;omega
 rw[Aan (by rw[Aq,Ac];simp;omega),e4,Dk,Aa,show((b.length-4:Nat):Int).toNat=b.length-4 from rfl,I5 _ (by simp;omega),Aa];simp only;rw[Aan (by rw[Ah];simp),Bv,Aa,show((b.length-4:Nat):Int).toNat=b.length-4 from rfl,Agu _ (by omega) (by omega),Aa];have hne:Bc (vN (b.drop (b.length-4))) (Af (Ez (b.take (b.length-4))):UInt64)=decide ((Ez (b.take (b.length-4))).toNat≠Gd (b.drop (b.length-4))):=by
  have hlt:=(Ez (b.take (b.length-4))).toNat_lt;rw[XQ,Ako];simp only[Bgu,ne_eq,<-Bge,Adx];rw[eL (by omega),Dx,Ah8,Adz (by omega)];exact⟨λh e=>h e.symm,λh e=>h e.symm⟩
 simp only;rw[hne,Aa];by_cases h3:(Ez (b.take (b.length-4))).toNat≠Gd (b.drop (b.length-4))
 ·have hS:Zf b=22:=by rw[Zf,Aan h1,Aan h2,Acf h3]
  rw[Acf (by simp[h3]),hS];rfl
 ·have hS:Zf b=0:=by rw[Zf,Aan h1,Aan h2,Aan h3]
  rw[Aan (by rw[Bb5 h3];decide),hS];rfl
theorem Apb(b:List UInt8)(hb:b.length<=1000000):CV b=some (b++Sk (Ez b).toNat 4):=by
 have h:∀k:Nat,(Af (Ci (Ez b) k):UInt8)=UInt8.ofNat ((Ez b).toNat/2^k):=by
  intro k;rw[xD,SL]
 have h0:(Af (Ez b):UInt8)=UInt8.ofNat (Ez b).toNat:=xD _;have h1:=h 8;have h2:=h 16;have h3:=h 24;rw[CV,Ara b (by omega),Aa,Bg (by simp;omega),Aa,Bg (by simp;omega),Aa,h0,show(GI.toZ (8:UInt64)).toNat=8 from rfl,show(GI.toZ (16:UInt64)).toNat=16 from rfl,show(GI.toZ (24:UInt64)).toNat=24 from rfl,h1,h2,h3];simp only[Sk,Beo,Auy]
theorem ek(b:List UInt8):Uc b=some (Zf b):=by
 rw[Uc];by_cases h1:b.length<5
 ·rw[Acf (by rw[Ae,Ac];simp;omega),Zf,Acf h1]
 rw[Aan (by rw[Ae,Ac];simp;omega)];by_cases h2:41254<b.length
 ·rw[Acf (by rw[Aq,Ac];simp;omega),Zf,Aan h1,Acf h2]
 have e4:Ao (Ac b) 4=((b.length-4:Nat):Int):=by rw[Ac,Bu];omega
 have hd:(b.drop (b.length-4)).length=4:=by simp;omega
 rw[Aan (by rw[Aq,Ac];simp;omega),e4,Dk,Aa,show((b.length-4:Nat):Int).toNat=b.length-4 from rfl,Apb _ (by simp;omega),Aa];have hlt:=(Ez (b.take (b.length-4))).toNat_lt;have hiff:(b.take (b.length-4)++Sk (Ez (b.take (b.length-4))).toNat 4 !=b)=decide ((Ez (b.take (b.length-4))).toNat≠Gd (b.drop (b.length-4))):=by
  rw[Ako];simp only[Bgu,ne_eq,Adx];constructor
  ·intro h e;apply h;have:Sk (Ez (b.take (b.length-4))).toNat 4=b.drop (b.length-4):=Aku (by rw[Cg,hd]) (by rw[MC,Adz (by omega),e]);rw[this,Ba1]
  ·intro h e;apply h;have hx:Sk (Ez (b.take (b.length-4))).toNat 4=b.drop (b.length-4):=by
    have e2:b.take (b.length-4)++Sk (Ez (b.take (b.length-4))).toNat 4=b.take (b.length-4)++b.drop (b.length-4):=by rw[e,Ba1]
    exact List.append_cancel_left e2
   rw[<-hx,MC,Adz (by omega)]
 rw[hiff];by_cases h3:(Ez (b.take (b.length-4))).toNat≠Gd (b.drop (b.length-4))
 ·rw[Acf (by simp[h3]),Zf,Aan h1,Aan h2,Acf h3]
 ·rw[Aan (by rw[Bb5 h3];decide),Zf,Aan h1,Aan h2,Aan h3]
theorem Ahd{b:List UInt8}(h:Zf b=0):5<=b.length/\b.length<=41254:=by
 unfold Zf at h;split at h
 ·simp at h
 ·split at h
  ·simp at h
  ·omega
theorem R4{c:Nat}(h1:1<=c)(h6:c<=6):Bt (4000:Int) (c:Int)=((4000/c:Nat):Int):=by
 have:c=1\/c=2\/c=3\/c=4\/c=5\/c=6:=by omega
 rcases this with rfl|rfl|rfl|rfl|rfl|rfl<;>rfl
theorem Avt(p:List UInt8)(h:p.length<=41250):okB p (8*p.length):=⟨by omega,by omega,λk h1 h2=>by omega⟩
theorem TB{bits:Int}{ch n:Nat}{t:List Int32}(b:List UInt8)(hb:Bl bits)(ht:t.length=16)(h1:1<=ch)(h6:ch<=6)(n1:1<=n)(n2:n<=4000/ch):
  ∃l e,Pu (ch:Int) bits t (n:Int) b=some (l,e)/\Fc (ch:Int) bits t (n:Int) b=some (l,e)/\ (e=0->Ay bits l=some 0/\l.length<=4000/\l.length=n*ch)/\ (e≠0->l=[]):=by
 have hn:n*ch<=4000:=by
  have:=Aep ch n2;have h2:=Bcc 4000 ch;omega
 have hq4:=R4 h1 h6;generalize 4000/ch=mm at*
 have hck:Gi (ch:Int) bits=some 0:=by
  have hr:∃x y,Sg bits=some (x,y,0):=⟨_,_,ic hb⟩;obtain⟨x,y,hr⟩:=hr;rw[Gi,hr,Aa];simp only;rw[Aan (by simp[Ah,Ae,Aq];omega)]
 have hh:=FL bits;have Akp:Eu (ch:Int) bits (n:Int)=some 0:=by
  rw[Eu,Bn,Aan (by simp[Ae,Aq];omega),WQ hb,Aa,Aan (by rw[As];simp;omega),Aa,Aan (by simp[Ah,Ae];omega),Bj (by rw[Ah];simp;omega),Aa,hq4,Aan (by rw[Aq];simp;omega)]
 rw[Pu,Fc,Xg,hck,Akp,Aa,Aa,Aan (by rw[Ah];simp),Aan (by rw[Ae];simp;omega),Bj (by rw[Ah];simp;omega),Aa,hq4,Aan (by rw[Aq];simp;omega),Aan (by rw[Ah];simp),Aga,ek];by_cases hs:Zf b≠0
 ·rw[Acf hs];simp only[Aa];rw[Acf (by rw[Ah];simpa using hs),Acf (by rw[Ah];simpa using hs)];exact⟨[],Zf b,rfl,rfl,λe=>absurd e hs,λ_=>rfl⟩
 have hs0:Zf b=0:=by simpa using hs
 have hlen:=Ahd hs0;have e4:Ao (Ac b) 4=((b.length-4:Nat):Int):=by rw[Ac,Bu];omega
 rw[Aan hs,hs0];simp only[Aa];rw[Aan (by rw[Ah];simp),Aan (by rw[Ah];simp),e4,Dk,Aa,show((b.length-4:Nat):Int).toNat=b.length-4 from rfl];have hpl:(b.take (b.length-4)).length=b.length-4:=by simp
 generalize b.take (b.length-4)=p at*
 have e8:Bf (8:Int) (Ac p)=((8*p.length:Nat):Int):=by rw[Ac,Fa];omega
 have hp:=Avt p (by omega);have hv:=values_eq hp h1 h6 hn;have hr:=Al1 (N:=8*p.length) (p:=p) rfl (by omega) h1 h6 hn;have hat:=R9 (ch:=ch) (p:=p) (N:=8*p.length) (n*ch) 0 [] (by omega);rw[Ac9,Aan (by rw[Aq,Ac];simp;omega),Bo,Bg (by simp;omega),Aa,Aa,Aa,Auy,e8];simp only;rw[Aan (by rw[Ah];simp),hv,hr,Aa,Aa];generalize CF ch p (8*p.length) (n*ch) 0 []=V at*
 obtain⟨v,at',e⟩:=V;simp only at*
 by_cases he:e≠0
 ·rw[Acf he,Acf he];simp only;rw[Acf (by rw[Ah];simpa using he),Kg,Kt,Acf (by rw[Ah];simpa using he)];exact⟨[],e,rfl,rfl,λh=>absurd h he,λ_=>rfl⟩
 have he0:e=0:=by simpa using he
 have hvl:=hat.2.2 he0;simp only[Bg8,Bcg]at hvl;rw[Aan he,Aan he];simp only;rw[Aan (by rw[Ah];simp),Bu,show((8*p.length:Nat):Int)-(at':Int)=((8*p.length-at':Nat):Int) by omega,Kg,Kt];by_cases h7:7<8*p.length-at'
 ·have hE:(if 7<8*p.length-at'\/Ce p at' (8*p.length-at')≠0 then(12:Int)else 0)=12:=Acf (.inl h7);rw[Acf (by rw[Ea];simp;omega),hE,Acf (by decide)];exact⟨[],12,rfl,rfl,λh=>absurd h (by decide),λ_=>rfl⟩
 rw[Aan (by rw[Ea];simp;omega),K6 hp at' _ (by omega),Aan (by omega),Aa];have hz:Bc (Rb p at' (8*p.length-at')) (0:UInt64)=decide (Ce p at' (8*p.length-at')≠0):=by
  rw[XQ,Ako];simp only[Bgu,ne_eq,<-Bge,Adx];rw[BB p _ _ (by omega)];rfl
 simp only;rw[hz];by_cases hv0:Ce p at' (8*p.length-at')≠0
 ·have hE:(if 7<8*p.length-at'\/Ce p at' (8*p.length-at')≠0 then(12:Int)else 0)=12:=Acf (.inr hv0);rw[Acf (by simp[hv0]),hE,Acf (by decide)];exact⟨[],12,rfl,rfl,λh=>absurd h (by decide),λ_=>rfl⟩
 have hm:v.length %ch=0:=by rw[hvl];exact Bcf n ch
 obtain⟨l,e,g1,g2,g3,g4,g5⟩:=zN (v:=v) hb ht h1 h6 (by omega) hm;have hE:(if 7<8*p.length-at'\/Ce p at' (8*p.length-at')≠0 then(12:Int)else 0)=0:=Aan (by omega);rw[Aan (by rw[Bb5 hv0];decide),hE,Aan (by decide),g1,g3,Aa,Aa,g2];by_cases hl:e≠0
 ·rw[Acf hl];exact⟨[],e,rfl,rfl,λh=>absurd h hl,λ_=>rfl⟩
 ·rw[Aan hl];have hl0:e=0:=by simpa using hl
  exact⟨l,0,rfl,rfl,λ_=>⟨by rw[g4,hl0],by omega,by omega⟩,λe=>absurd rfl e⟩
theorem rN(a b:Int32):a-b+b=a:=by
 apply Int32.toBitVec_inj.1;simp only[Int32.toBitVec_sub,Int32.toBitVec_add];apply Bgl;simp only[BitVec.toNat_sub,BitVec.toNat_add];have:=a.toBitVec.isLt;have:=b.toBitVec.isLt;omega
def mxV(f:Nat->Int32)(ch i:Nat):Int32:=if i+1<ch then f (i+1)-f i else if 1<ch then f (ch-1)-Bt (f (ch-1)-f (ch-2)) (2:Int32)else f (ch-1)
def mx(ch:Nat)(x:List Int32):List Int32:=(List.range x.length).map λk=>mxV (λi=>x.getD (k-k %ch+i) 0) ch (k %ch)
theorem pZ(ch:Nat)(x:List Int32):(mx ch x).length=x.length:=by simp[mx]
theorem Ban{ch:Nat}{x:List Int32}{k:Nat}(h:k<x.length):(mx ch x).getD k 0=mxV (λi=>x.getD (k-k %ch+i) 0) ch (k %ch):=by
 rw[Oy (by rw[pZ];exact h)];simp[mx]
def B7(x:Int32):UInt32:=UInt32.ofNat (if 0<=x.toInt then 2*x.toInt.toNat else 2*(-x.toInt-1).toNat+1)
theorem Ba5(x:Int32):YW (B7 x)=x:=by
 have h:=DE x;have e:(B7 x).toNat=if 0<=x.toInt then 2*x.toInt.toNat else 2*(-x.toInt-1).toNat+1:=by
  rw[B7,Ank];split<;>exact Adz (by omega)
 rw[YW,e];by_cases h0:0<=x.toInt
 ·rw[Acf h0,Acf (by omega),show((2*x.toInt.toNat/2:Nat):Int)=x.toInt by omega,Bbj]
 ·rw[Aan h0,Aan (by omega),show -(((2*(-x.toInt-1).toNat+1)/2:Nat):Int)-1=x.toInt by omega,Bbj]
theorem zi{α:Type}(ch c:Nat)(f g:α->Nat->α)(a0:α):∀m:Nat,(∀i,i<m->∀a,f a i=g a i)->pre ch c f a0 m=pre ch c g a0 m
 |0,_=>rfl
 |m+1,h=>by
  rw[pre,pre,zi ch c f g a0 m λi hi=>h i (by omega),h m (by omega)]
theorem Axv(bits:Int)(ch:Nat)(t:List Int32)(v w:List UInt32)(c i:Nat)(h:i<=v.length):cst bits ch t (v++w) c i=cst bits ch t v c i:=by
 unfold cst;apply zi;intro j hj a;have:(v++w).getD j 0=v.getD j 0:=by
  rw[List.getD_eq_getElem?_getD,List.getD_eq_getElem?_getD,List.getElem?_append_left (by omega)]
 rw[this]
def xy(bits:Int)(s:CS)(x:Int32):Int32:=x-gs (shB bits) s.1-gF (sB bits) s.2.1 s.2.2
theorem Aod(bits:Int)(s:CS)(x:Int32):Ad9 bits s (xy bits s x)=x:=by
 rw[Ad9,xy,rN,rN]
def evl(bits:Int)(ch:Nat)(t m:List Int32):Nat->List UInt32
 |0=>[]
 |i+1=>evl bits ch t m i++[B7 (xy bits (cst bits ch t (evl bits ch t m i) (i %ch) i) (m.getD i 0))]
theorem Ac8(bits:Int)(ch:Nat)(t m:List Int32):∀i,(evl bits ch t m i).length=i
 |0=>rfl
 |i+1=>by rw[evl,Adl,Ac8 bits ch t m i];rfl
theorem Am4(bits:Int)(ch:Nat)(t m:List Int32):∀(j i:Nat),∃w,evl bits ch t m (i+j)=evl bits ch t m i++w
 |0,i=>⟨[],by simp⟩
 |j+1,i=>by
  obtain⟨w,hw⟩:=Am4 bits ch t m j i;rw[<-Azo,evl,hw];exact⟨_,Ae8 _ _ _⟩
def tb(l:List Bool)(k:Nat):Nat:=if l.getD k false=true then 1 else 0
theorem Aks(b:Bool)(l:List Bool):tb (b::l) 0=if b=true then 1 else 0:=rfl
theorem Alo(b:Bool)(l:List Bool)(k:Nat):tb (b::l) (k+1)=tb l k:=by simp[tb]
theorem Axc{a b:List Bool}{k:Nat}(h:k<a.length):tb (a++b) k=tb a k:=by
 rw[tb,tb,List.getD_eq_getElem?_getD,List.getD_eq_getElem?_getD,List.getElem?_append_left h]
theorem Ak9(a b:List Bool)(k:Nat):tb (a++b) (a.length+k)=tb b k:=by
 rw[tb,tb,List.getD_eq_getElem?_getD,List.getD_eq_getElem?_getD,List.getElem?_append_right (by omega),Bch]
theorem Ajo{l:List Bool}{k:Nat}(h:l.length<=k):tb l k=0:=by
 rw[tb,List.getD_eq_getElem?_getD,List.getElem?_eq_none h];rfl
def At(p:List UInt8)(a:Nat)(c:List Bool):Prop:=∀i,i<c.length->Ib p (a+i)=tb c i
theorem At.left{p:List UInt8}{a:Nat}{c d:List Bool}(h:At p a (c++d)):At p a c:=λi hi=>by
 rw[h i (by rw[Adl];omega),Axc hi]
theorem At.right{p:List UInt8}{a:Nat}{c d:List Bool}(h:At p a (c++d)):At p (a+c.length) d:=λi hi=>by
 rw[Azo,h (c.length+i) (by rw[Adl];omega),Ak9]
theorem At.cons{p:List UInt8}{a:Nat}{b:Bool}{c:List Bool}(h:At p a (b::c)):Ib p a=(if b=true then 1 else 0)/\At p (a+1) c:=by
 have h0:=h 0 (by simp);rw[Bde,Aks]at h0;refine⟨h0,λi hi=>?_⟩;have:=h (i+1) (by simp;omega);rw[Alo]at this;rw[show a+1+i=a+(i+1) by omega,this]
def pO:Nat->Nat->List Bool
 |_,0=>[]
 |v,n+1=>decide (v %2=1)::pO (v/2) n
theorem GW:∀(v n:Nat),(pO v n).length=n
 |_,0=>rfl
 |v,n+1=>by rw[pO,Aqj,GW (v/2) n]
theorem tH(p:List UInt8):∀(n a v:Nat),At p a (pO v n)->Ce p a n=v %2^n
 |0,a,v,_=>by rw[Ce,Nat.pow_zero,Nat.mod_one]
 |n+1,a,v,h=>by
  rw[pO]at h;obtain⟨h0,h1⟩:=h.cons;rw[Ce,h0,tH p n (a+1) (v/2) h1,Av3,Aqr (2^n) 2,Nat.mod_mul];have:=Nat.mod_two_eq_zero_or_one v;rcases this with e|e<;>simp[e]
def yT(l v:Nat):List Bool:=if 48<=v/2^l then List.replicate 48 true++pO v 32 else List.replicate (v/2^l) true++(false::pO (v %2^l) l)
theorem Ape{l v:Nat}(hl:l<=24):1<= (yT l v).length/\ (yT l v).length<=80:=by
 rw[yT];generalize v/2^l=q;split
 ·rw[Adl,Au9,GW];omega
 ·rw[Adl,Au9,Aqj,GW];omega
def MO(k l:Nat)(v:UInt32):List Bool:=if v.toNat<2^k then false::pO v.toNat k else true::yT l (v.toNat-2^k)
theorem tB{k l:Nat}(v:UInt32)(hk:k<=24)(hl:l<=24):1<= (MO k l v).length/\ (MO k l v).length<=81:=by
 have:=Ape (v:=v.toNat-2^k) hl;rw[MO];split
 ·rw[Aqj,GW];omega
 ·rw[Aqj];omega
def bv:List Bool->Nat
 |[]=>0
 |b::r=>(if b=true then 1 else 0)+2*bv r
theorem Azv:∀l:List Bool,bv l<2^l.length
 |[]=>by decide
 |b::r=>by
  have:=Azv r;rw[bv,Aqj,Av3];split<;>omega
theorem As5:∀(l:List Bool) (k:Nat),bv l/2^k %2=tb l k
 |[],k=>by simp[bv,tb]
 |b::r,0=>by
  rw[bv,Aks,Nat.pow_zero,Nat.div_one];split<;>omega
 |b::r,k+1=>by
  have:((if b=true then 1 else 0)+2*bv r)/2=bv r:=by split<;>omega
  rw[bv,Alo,Av3,Aqr (2^k) 2,<-Beo,this,As5 r k]
def Om(c:List Bool):List UInt8:=(List.range ((c.length+7)/8)).map λj=>UInt8.ofNat (bv ((c.drop (8*j)).take 8))
theorem BK(c:List Bool):(Om c).length=(c.length+7)/8:=by simp[Om]
theorem YH(c:List Bool)(i:Nat):Ib (Om c) i=tb c i:=by
 rw[Ib];by_cases h:i/8<(c.length+7)/8
 ·have hg:(Om c).getD (i/8) 0=UInt8.ofNat (bv ((c.drop (8*(i/8))).take 8)):=by
   rw[List.getD_eq_getElem?_getD,List.getElem?_eq_getElem (by rw[BK];exact h)];simp[Om]
  have hlt:=Azv ((c.drop (8*(i/8))).take 8);have hl8:((c.drop (8*(i/8))).take 8).length<=8:=by rw[Ahn];omega
  have hp:=Ah1 (show 0<2 by omega) hl8;have hn:(UInt8.ofNat (bv ((c.drop (8*(i/8))).take 8))).toNat=bv ((c.drop (8*(i/8))).take 8):=by
   rw[Aqq];exact Adz (by omega)
  rw[hg,hn,As5,tb,tb];have:((c.drop (8*(i/8))).take 8).getD (i %8) false=c.getD i false:=by
   rw[List.getD_eq_getElem?_getD,List.getD_eq_getElem?_getD,List.getElem?_take,Acf (by omega),List.getElem?_drop,show 8*(i/8)+i %8=i by omega]
  rw[this]
 ·have hg:(Om c).getD (i/8) 0=0:=by
   rw[List.getD_eq_getElem?_getD,List.getElem?_eq_none (by rw[BK];omega)];rfl
  rw[hg,Ajo (by omega)];simp
def cM(ch:Nat)(V:List UInt32):Nat->List Bool
 |0=>[]
 |i+1=>cM ch V i++MO (now ch (V.take i)).1 (now ch (V.take i)).2.1 (V.getD i 0)
theorem Aid(ch:Nat)(v:List UInt32):(now ch v).1<=24/\ (now ch v).2.1<=24:=by
 have:=qY ch v (v.length %ch) v.length;exact⟨this.1,this.2.1⟩
theorem gU(ch:Nat)(V:List UInt32):∀i,(cM ch V i).length<=81*i
 |0=>by simp[cM]
 |i+1=>by
  have h:=Aid ch (V.take i);have:=tB (V.getD i 0) h.1 h.2;rw[cM,Adl];have:=gU ch V i;omega
def P64:Nat:=4823603603198064275
def VS(s:Nat):Nat:=(2*s %18446744073709551616)^^^ (s/9223372036854775808*P64)
theorem jO{s:Nat}(h:s<18446744073709551616):VS s<18446744073709551616:=by
 have h1:s/9223372036854775808=0\/s/9223372036854775808=1:=by omega
 exact Bb7 (n:=64) (Bdl _ (by decide)) (by rcases h1 with e|e<;>rw[e]<;>decide)
theorem Ana(x y:Nat):(x^^^y)/9223372036854775808=(x/9223372036854775808)^^^ (y/9223372036854775808):=by
 have:=Nat.shiftRight_xor_distrib (a:=x) (b:=y) (i:=63);simpa [Nat.shiftRight_eq_div_pow]using this
theorem Al6(x y:Nat):2*(x^^^y) %18446744073709551616=(2*x %18446744073709551616)^^^ (2*y %18446744073709551616):=by
 have h1:=Nat.shiftLeft_xor_distrib (a:=x) (b:=y) (i:=1);have h2:=Nat.xor_mod_two_pow (a:=2*x) (b:=2*y) (n:=64);have e:2*(x^^^y)=(2*x)^^^ (2*y):=by simpa [Nat.shiftLeft_eq,Aqr]using h1
 rw[e];exact h2
theorem Aw7{a b:Nat}(ha:a=0\/a=1)(hb:b=0\/b=1)(p:Nat):(a^^^b)*p=(a*p)^^^ (b*p):=by
 rcases ha with rfl|rfl<;>rcases hb with rfl|rfl<;>simp
theorem Bez(a b c d:Nat):(a^^^b)^^^ (c^^^d)=(a^^^c)^^^ (b^^^d):=by
 rw[Beg,Beg,<-Beg b c d,Bhf b c,Beg c b d]
theorem Ai7{x y:Nat}(hx:x<18446744073709551616)(hy:y<18446744073709551616):VS (x^^^y)=VS x^^^VS y:=by
 rw[VS,VS,VS,Al6,Ana,Aw7 (by omega) (by omega),Bez]
def Rk:Nat->Nat->Nat
 |0,s=>s
 |k+1,s=>Rk k (VS s)
theorem G4:∀(k:Nat) {s:Nat},s<18446744073709551616->Rk k s<18446744073709551616
 |0,_,h=>h
 |k+1,_,h=>G4 k (jO h)
theorem lq:∀(k:Nat) {x y:Nat},x<18446744073709551616->y<18446744073709551616->Rk k (x^^^y)=Rk k x^^^Rk k y
 |0,_,_,_,_=>rfl
 |k+1,x,y,hx,hy=>by rw[Rk,Ai7 hx hy,lq k (jO hx) (jO hy)];rfl
theorem U8:∀(k h:Nat),2^k*h<18446744073709551616->Rk k h=2^k*h
 |0,h,_=>by simp[Rk]
 |k+1,h,hl=>by
  have hpos:0<2^k:=Bem (by omega);rw[Av3,Azk]at hl;have h2:2*h<18446744073709551616:=Bee (Nat.le_mul_of_pos_left _ hpos) hl;have:VS h=2*h:=by rw[VS,Adz h2,show h/9223372036854775808=0 by omega];simp
  rw[Rk,this,U8 k _ hl,Av3,Azk]
def sA(s c:Nat):Nat:=Rk 8 (s^^^ (c*72057594037927936))
theorem c56{c:Nat}(hc:c<256):c*72057594037927936<18446744073709551616:=by omega
theorem J4{s c:Nat}(h:s<18446744073709551616)(hc:c<256):sA s c<18446744073709551616:=G4 8 (Bb7 (n:=64) h (c56 hc))
theorem Awu(s:Nat):s=(s/72057594037927936*72057594037927936)^^^ (s %72057594037927936):=by
 have h1:s %72057594037927936<2^56:=Bdl _ (by decide);have:=Bbs h1 (s/72057594037927936);have h2:2^56*(s/72057594037927936)|||s %72057594037927936=(2^56*(s/72057594037927936))^^^ (s %72057594037927936):=by
  apply Nat.eq_of_testBit_eq;intro i;rw[Nat.testBit_or,Nat.testBit_xor];by_cases hi:i<56
  ·have:(2^56*(s/72057594037927936)).testBit i=false:=by rw[Nat.testBit_two_pow_mul];simp;omega
   rw[this];simp
  ·have:(s %72057594037927936).testBit i=false:=Nat.testBit_lt_two_pow (Aqh h1 (Ah1 (by omega) (by omega)));rw[this];simp
 rw[Aqr (s/72057594037927936)]
 show s=(2^56*(s/72057594037927936))^^^ _;rw[<-h2,<-this];have:=Bfw s 72057594037927936
 show s=72057594037927936*_+_;omega
theorem An5(a c:Nat):(a^^^c)*72057594037927936=(a*72057594037927936)^^^ (c*72057594037927936):=by
 have h1:=Nat.shiftLeft_xor_distrib (a:=a) (b:=c) (i:=56);simpa [Nat.shiftLeft_eq]using h1
theorem Ab7{s c:Nat}(h:s<18446744073709551616)(hc:c<256):sA s c=(256*s %18446744073709551616)^^^Rk 8 (((s/72057594037927936)^^^c)*72057594037927936):=by
 have hs:s/72057594037927936<2^8:=by show _<256;omega
 have hx:(s/72057594037927936)^^^c<256:=Bb7 (n:=8) hs (by simpa using hc);have hl:s %72057594037927936<72057594037927936:=Bdl _ (by decide);rw[sA]
 conv=>lhs;rw[Awu s]
 rw[Bhf (s/72057594037927936*72057594037927936),Beg,<-An5,lq 8 (by omega) (c56 hx),U8 8 _ (by show 256*_<_;omega)];congr 1
 show 256*(s %72057594037927936)=_;omega
def jg(s:Nat)(l:List UInt8):Nat:=l.foldl (λs c=>sA s c.toNat) s
theorem xw{n:Nat}(h:n<18446744073709551616):(UInt64.ofNat n).toNat=n:=by rw[Ah8];exact Adz h
theorem Az5(s:UInt64)(bit:Nat)(hb:bit=0\/bit=1):MF s (bit:Int)=some (UInt64.ofNat ((2*s.toNat %18446744073709551616)^^^ (((s.toNat/9223372036854775808)^^^bit)*P64))):=by
 have hs:=s.toNat_lt;have ht:s.toNat/9223372036854775808=0\/s.toNat/9223372036854775808=1:=by omega
 have e1:(Bf s (2:UInt64)).toNat=2*s.toNat %18446744073709551616:=by
  rw[TN,UInt64.toNat_mul];show s.toNat*2 %_=_;rw[Aqr]
 have hlt:2*s.toNat %18446744073709551616<18446744073709551616:=Bdl _ (by decide);have ey:BA (Bf s (2:UInt64)) (4823603603198064275:UInt64)=UInt64.ofNat ((2*s.toNat %18446744073709551616)^^^P64):=by
  apply UInt64.toNat_inj.1;rw[X3,UInt64.toNat_xor,e1,xw (Bb7 (n:=64) hlt (by decide))];rfl
 have en:Bf s (2:UInt64)=UInt64.ofNat (2*s.toNat %18446744073709551616):=by
  apply UInt64.toNat_inj.1;rw[e1,xw hlt]
 have eg:Ms s (9223372036854775808:UInt64)=decide (s.toNat/9223372036854775808=1):=by
  rw[Avs,decide_eq_decide]
  show 9223372036854775808<=s.toNat↔_;omega
 have hp:∀b:Bool,Zw s b=some (if b=true then UInt64.ofNat ((2*s.toNat %18446744073709551616)^^^P64)else UInt64.ofNat (2*s.toNat %18446744073709551616)):=by
  intro b;rw[Zw,UC,ey,en];cases b<;>rfl
 rw[MF,TG,hp,hp,eg];rcases hb with rfl|rfl<;>rcases ht with h|h<;>rw[h]<;>simp[As]
theorem P9(c:UInt8):∀(j q:Nat) (s:UInt64),j<=8->j<q->Mx c q s ((2^j/2:Nat):Int)=some (UInt64.ofNat (Rk j (s.toNat^^^ (c.toNat %2^j*2^(64-j)))))
 |0,q+1,s,_,_=>by
  rw[Mx,BE,Aan (by rw[Aq];simp),SC,UH];simp[Rk,Nat.mod_one]
 |j+1,q+1,s,hj,hq=>by
  have hc:=c.toNat_lt;have hs:=s.toNat_lt;have hj2:2^j<=2^7:=Ah1 (by omega) (by omega);have hpos:0<2^j:=Bem (by omega);have e1:2^(j+1)/2=2^j:=by rw[Av3];omega
  have e2:Bt ((2^j:Nat):Int) 2=((2^j/2:Nat):Int):=by
   generalize 2^j=K at*
   rw[UZ,Bcd (by omega),De (by omega) (by omega)];omega
  have e3:Fo (Bt (Af c:Int) ((2^j:Nat):Int)) (2:Int)=((c.toNat/2^j %2:Nat):Int):=by
   have hX:=Aq1 c.toNat (2^j);rw[YI,UZ,<-Int.ofNat_tdiv];generalize c.toNat/2^j=X at*
   rw[De (by omega) (by omega),Fo,Bdm (by omega)];omega
  have hbit:c.toNat/2^j %2=0\/c.toNat/2^j %2=1:=by omega
  rw[Mx,BE,e1,Acf (by rw[Aq,Adx];omega),Bj (by rw[Ah,Bgu];omega),Aa,e3,Az5 s _ hbit,Aa,e2,P9 c j q _ (by omega) (by omega)];congr 2;rw[Rk];congr 1;have hx:c.toNat %2^(j+1)*2^(64-(j+1))=(c.toNat/2^j %2)*9223372036854775808+c.toNat %2^j*2^(63-j):=by
   have h63:(9223372036854775808:Nat)=2^j*2^(63-j):=by rw[<-Bgw,show j+(63-j)=63 by omega]
   rw[Nat.mod_pow_succ,h63,show 64-(j+1)=63-j by omega,Ajz,Bfk,Azk,Nat.mul_left_comm]
  have hr:c.toNat %2^j<2^j:=Bdl _ hpos;have Bie:c.toNat %2^j*2^(63-j)<9223372036854775808:=by
   have h63:(9223372036854775808:Nat)=2^j*2^(63-j):=by rw[<-Bgw,show j+(63-j)=63 by omega]
   rw[h63];exact Nat.mul_lt_mul_of_pos_right hr (Bem (by omega))
  have h64:c.toNat %2^j*2^(64-j)=2*(c.toNat %2^j*2^(63-j)):=by
   rw[show 64-j=(63-j)+1 by omega,Av3,<-Azk,Aqr]
  rw[hx,h64];generalize c.toNat %2^j*2^(63-j)=R at*
  generalize c.toNat/2^j %2=b at*
  have ht:s.toNat/9223372036854775808=0\/s.toNat/9223372036854775808=1:=by omega
  have hp:((s.toNat/9223372036854775808^^^b)*P64)<18446744073709551616:=by
   rcases ht with h|h<;>rcases hbit with h2|h2<;>rw[h,h2]<;>decide
  rw[xw (Bb7 (n:=64) (Bdl _ (by decide)) hp),VS,Al6,Ana,show(b*9223372036854775808+R)/9223372036854775808=b by omega,show 2*(b*9223372036854775808+R) %18446744073709551616=2*R by omega,Beg,Beg,Bhf (2*R)]
theorem Bac(c:UInt8)(s:UInt64):cT s c=some (UInt64.ofNat (sA s.toNat c.toNat)):=by
 have h:=P9 c 8 Au s (Ao7 _) (by have:=Ar;omega);have hc:=c.toNat_lt;rw[Adz (show c.toNat<2^8 by simpa using hc)]at h;exact h
theorem vS(b:List UInt8)(hb:b.length<4611686018427387904):∀(j i q:Nat) (s:UInt64),i+j=b.length->j<q->Kq b q s (i:Int)=some (UInt64.ofNat (jg s.toNat (b.drop i)))
 |0,i,q+1,s,hi,_=>by
  rw[Kq,Wn,Aan (by rw[Ae,Ac];simp;omega),show i=b.length by omega,Beb];simp[LD,LJ,jg]
 |j+1,i,q+1,s,hi,hq=>by
  have hlt:i<b.length:=by omega
  have hc:=b[i].toNat_lt;rw[Kq,Wn,Acf (by rw[Ae,Ac];simp;omega),Br hlt,Aa,Bac,Aa,Aj];have h:=vS b hb j (i+1) q (UInt64.ofNat (sA s.toNat b[i].toNat)) (by omega) (by omega);rw[show((i:Int)+1)=((i+1:Nat):Int) by omega,h,drop_cons hlt,xw (J4 s.toNat_lt (by simpa using hc))];rfl
def Uk(b:List UInt8):UInt64:=UInt64.ofNat (jg 0 b)
theorem Agh(b:List UInt8)(hb:b.length<=100000):CT 0 b=some (Uk b):=
 vS b (by omega) b.length 0 Au 0 (by omega) (by have:=Ar;omega)
theorem Ajc(c:UInt64):BA (Dp c (GI.toZ (1:UInt64)).toNat) (Bf (4823603603198064275:UInt64) (Ci c (GI.toZ (63:UInt64)).toNat))=UInt64.ofNat (VS c.toNat):=by
 have hc:=c.toNat_lt;apply UInt64.toNat_inj.1;have h1:(Dp c (GI.toZ (1:UInt64)).toNat).toNat=2*c.toNat %18446744073709551616:=by
  rw[show(GI.toZ (1:UInt64)).toNat=1 from rfl,cD,Aqr]
 have h2:(Bf (4823603603198064275:UInt64) (Ci c (GI.toZ (63:UInt64)).toNat)).toNat=c.toNat/9223372036854775808*P64:=by
  rw[show(GI.toZ (63:UInt64)).toNat=63 from rfl,TN,UInt64.toNat_mul,EI]
  show 4823603603198064275*(c.toNat/9223372036854775808) %18446744073709551616=_;have h1:c.toNat/9223372036854775808=0\/c.toNat/9223372036854775808=1:=by omega
  rcases h1 with e|e<;>rw[e]<;>decide
 rw[X3,UInt64.toNat_xor,h1,h2,xw (jO hc)];rfl
theorem M9(Iv:Int->List UInt64->Option (UInt64×Int))(s:UInt64)(b:List UInt8)(x:Int)(t:List UInt64):∀(j i q:Nat) (c:UInt64),i+j=8->j<q->
  Vn Iv s b x t q c (i:Int)=JN Iv s b x (UInt64.ofNat (Rk j c.toNat)) t
 |0,i,q+1,c,hi,_=>by
  obtain rfl:i=8:=by omega
  rw[Vn,IJ,Aan (by rw[Ae];simp),Rk,UInt64.ofNat_toNat]
 |j+1,i,q+1,c,hi,hq=>by
  rw[Vn,IJ,Acf (by rw[Ae];simp;omega),Ajc,Aj,show((i:Int)+1)=((i+1:Nat):Int) by omega,M9 Iv s b x t j (i+1) q _ (by omega) (by omega),xw (jO c.toNat_lt)];rfl
def eJ(n:Nat):List UInt64:=(List.range n).map λi=>UInt64.ofNat (Rk 8 (i*72057594037927936))
theorem jr(s:UInt64)(b:List UInt8):∀(j i q:Nat),i+j=256->j<q->Qn s b q (i:Int) (eJ i++List.replicate j 0)=KU s b (eJ 256)
 |0,i,q+1,hi,_=>by
  obtain rfl:i=256:=by omega
  rw[Qn,KL,Aan (by rw[Ae];simp)];simp
 |j+1,i,q+1,hi,hq=>by
  have hlen:(eJ i++List.replicate (j+1) 0).length=i+(j+1):=by simp[eJ]
  rw[Qn,KL,Acf (by rw[Ae];simp;omega),bW];have h:=M9 (Qn s b q) s b (i:Int) (eJ i++List.replicate (j+1) 0) 8 0 Au (Dp (Af (i:Int):UInt64) (GI.toZ (56:UInt64)).toNat) (by omega) (by have:=Ar;omega);rw[show((0:Int))=((0:Nat):Int)from rfl,h,JN,ZG,Br (by rw[hlen];omega),Aa,Vr _ (by rw[hlen];omega),Aa,ZP,pM,Aj];have e:(Dp (Af (i:Int):UInt64) (GI.toZ (56:UInt64)).toNat).toNat=i*72057594037927936:=by
   rw[cD,Yb,xw (by omega)]
   show i*72057594037927936 %18446744073709551616=_;omega
  rw[e,Bcb,kD (by simp[eJ])];have h2:=jr s b j (i+1) q (by omega) (by omega);have h3:eJ (i+1)=eJ i++[UInt64.ofNat (Rk 8 (i*72057594037927936))]:=by simp[eJ,List.range_succ]
  rw[h3]at h2;rw[show((i:Int)+1)=((i+1:Nat):Int) by omega,<-h2];simp
theorem Apc{i:Nat}(h:i<256):Ap (eJ 256) (i:Int)=some (UInt64.ofNat (Rk 8 (i*72057594037927936))):=by
 rw[Br (by simpa [eJ]using h)];simp[eJ]
theorem Ahr(s:UInt64)(c:UInt8):Ap (eJ 256) (GI.toZ (BA (Af (Ci s (GI.toZ (56:UInt64)).toNat):UInt8) c))=some (UInt64.ofNat (Rk 8 (((s.toNat/72057594037927936)^^^c.toNat)*72057594037927936))):=by
 have hs:=s.toNat_lt;have e:GI.toZ (BA (Af (Ci s (GI.toZ (56:UInt64)).toNat):UInt8) c)=(((s.toNat/72057594037927936)^^^c.toNat:Nat):Int):=by
  have e2:((Af (Ci s (GI.toZ (56:UInt64)).toNat):UInt8)).toNat=s.toNat/72057594037927936:=by
   rw[bK,Aqq,EI]
   show s.toNat/72057594037927936 %256=_;omega
  rw[GN,Ak5,UInt8.toNat_xor,e2]
 rw[e,Apc];exact Bb7 (n:=8) (by show _<256;omega) (by simpa using c.toNat_lt)
theorem Ab9(s:UInt64)(c:UInt8):BA (Dp s (GI.toZ (8:UInt64)).toNat) (UInt64.ofNat (Rk 8 (((s.toNat/72057594037927936)^^^c.toNat)*72057594037927936)))=UInt64.ofNat (sA s.toNat c.toNat):=by
 have hs:=s.toNat_lt;have hc:c.toNat<256:=by simpa using c.toNat_lt
 apply UInt64.toNat_inj.1;have hlt:Rk 8 (((s.toNat/72057594037927936)^^^c.toNat)*72057594037927936)<18446744073709551616:=G4 8 (c56 (Bb7 (n:=8) (by show _<256;omega) (by simpa using c.toNat_lt)));have e:(GI.toZ (8:UInt64)).toNat=8:=rfl;rw[e,X3,UInt64.toNat_xor,cD,xw hlt,xw (J4 hs hc),Ab7 hs hc,Aqr s.toNat]
theorem N2(b:List UInt8)(s0:UInt64)(hb:b.length<4611686018427387904):∀(j i q:Nat) (s:UInt64),i+j=b.length->j<q->Ux b s0 (eJ 256) q s (i:Int)=some (UInt64.ofNat (jg s.toNat (b.drop i)),0)
 |0,i,q+1,s,hi,_=>by
  rw[Ux,KG,Aan (by rw[Ae,Ac];simp;omega),show i=b.length by omega,Beb];simp[aT,ZA,aJ,qZ,jg]
 |j+1,i,q+1,s,hi,hq=>by
  have hlt:i<b.length:=by omega
  have hc:=b[i].toNat_lt;rw[Ux,KG,Acf (by rw[Ae,Ac];simp;omega),Br hlt,Aa,Ahr,Aa,Aa,Ab9,Aj];have h:=N2 b s0 hb j (i+1) q (UInt64.ofNat (sA s.toNat b[i].toNat)) (by omega) (by omega);rw[show((i:Int)+1)=((i+1:Nat):Int) by omega,h,drop_cons hlt,xw (J4 s.toNat_lt (by simpa using hc))];rfl
theorem Agq(b:List UInt8)(hb:b.length<=100000):iH b=some (Uk b,0):=by
 have h:=jr 0 b 256 0 Au (by omega) (by have:=Ar;omega);have h2:=N2 b 0 (by omega) b.length 0 Au 0 (by omega) (by have:=Ar;omega);have hn:mF 0 b=some (Uk b,0):=by
  rw[mF,fX,Aan (by rw[Aq,Ac];simp;omega),aD];refine Bda h ?_;rw[KU,YX,ZJ];exact h2
 rw[iH,hn,Aa]
theorem iC(p:List UInt8)(hp:p.length<=64):BY p=some (Sk (Uk p).toNat 8,0):=by
 rw[BY,J2,Aan (by rw[Aq,Ac];simp;omega),Agq p (by omega),Aa,Aa];simp only;have h:=bH (Uk p) 8 (by omega) (by omega) (by simpa using(Uk p).toNat_lt);rw[Aan (by rw[Ah];simp)];exact congrArg (λo=>Option.bind o λx:List UInt8×Int=>some (x.1,x.2)) h
theorem gM(p:List UInt8)(hp:p.length<=64):Nd p=some (Sk (Uk p).toNat 8):=by
 have h:=oq (Uk p) 8 (by omega);rw[Nd,dP,Agh p (by omega),Aa,Aa];exact congrArg (λo=>Option.bind o λl=>some l) h
def s8(n:Nat):Int32:=Int32.ofInt (if n<128 then(n:Int)else(n:Int)-256)
def dM(d:UInt64)(n:Nat):List Int32:=(List.range n).map λi=>s8 (d.toNat/256^i %256)
theorem iS(d:UInt64)(n:Nat):(dM d n).length=n:=by simp[dM]
theorem uf(d:UInt64)(n:Nat):dM d (n+1)=dM d n++[s8 (d.toNat/256^n %256)]:=by simp[dM,List.range_succ]
theorem bm8(z:Nat):(z:Int).bmod Int8.size=if z %256<128 then((z %256:Nat):Int)else((z %256:Nat):Int)-256:=by
 rw[show Int8.size=256 from rfl,Int.bmod_def];split<;>split<;>omega
theorem Al7(d:UInt64):∀(j i q:Nat),i+j=8->j<q->QG d q (i:Int) (dM d i++List.replicate (16-i) 0)=some (dM d 8++List.replicate 8 0)
 |0,i,q+1,hi,_=>by
  obtain rfl:i=8:=by omega
  rw[QG,mZ,Aan (by rw[Ae];simp)];rfl
 |j+1,i,q+1,hi,hq=>by
  have hlen:(dM d i++List.replicate (16-i) 0).length=16:=by simp[iS];omega
  have ih:=Al7 d j (i+1) q (by omega) (by omega);have e8:Bf (8:Int) (i:Int)=((8*i:Nat):Int):=by rw[Fa];omega
  have ev:(Af (Af (Ci d (GI.toZ (((8*i:Nat):Int))).toNat):Int8):Int32)=s8 (d.toNat/256^i %256):=by
   have e1:(Ci d (GI.toZ (((8*i:Nat):Int))).toNat).toNat=d.toNat/256^i:=by
    rw[show(GI.toZ (((8*i:Nat):Int))).toNat=8*i from rfl,EI,Nat.pow_mul]
   show Int32.ofInt (Int8.ofInt ((Ci d (GI.toZ (((8*i:Nat):Int))).toNat).toNat:Int)).toInt=_;rw[e1,s8,Int8.toInt_ofInt,bm8]
  rw[QG,mZ,Acf (by rw[Ae];simp;omega),e8,Bj (by rw[Ea];simp;omega),Aa,ev,Br,Aa,Vr _ (by omega),Aa,Aj,show 16-i=(15-i)+1 by omega,Bcb,kD (iS d i)];rw[uf,show 16-(i+1)=15-i by omega,Ae8]at ih;exact ih
theorem Ar2(d:UInt64):∀(j i q:Nat) (e:UInt64),i+j=8->j<q->e.toNat=d.toNat/256^i->Mn q e (i:Int) (dM d i++List.replicate (16-i) 0)=some (dM d 8++List.replicate 8 0)
 |0,i,q+1,e,hi,_,he=>by
  obtain rfl:i=8:=by omega
  rw[Mn,FP,Aan (by rw[Ae];simp)];rfl
 |j+1,i,q+1,e,hi,hq,he=>by
  have hlen:(dM d i++List.replicate (16-i) 0).length=16:=by simp[iS];omega
  have hq2:(Bt e (256:UInt64)).toNat=d.toNat/256^(i+1):=by
   rw[B5,Bg0,he,Av3,<-Beo];rfl
  have ih:=Ar2 d j (i+1) q (Bt e (256:UInt64)) (by omega) (by omega) hq2;have ev:(Af (HZ e (256:UInt64)):Int32)=Int32.ofInt ((d.toNat/256^i %256:Nat):Int):=by
   show Int32.ofInt ((HZ e (256:UInt64)).toNat:Int)=_;rw[Aeq,UInt64.toNat_mod,he];rfl
  have hz:d.toNat/256^i %256<256:=Bdl _ (by omega);have et:(Int32.ofInt ((d.toNat/256^i %256:Nat):Int)).toInt=((d.toNat/256^i %256:Nat):Int):=by
   rw[Bel,Bg9 (by show -(4294967296/2:Int)<= _;omega) (by show _<(4294967296+1)/2;omega)]
  have hp8:∀x:Int32,x=s8 (d.toNat/256^i %256)->GB (Mn q) e (i:Int) (dM d i++List.replicate (16-i) 0) x=some (dM d 8++List.replicate 8 0):=by
   intro x hx;rw[GB,aP,hx,Br,Aa,Vr _ (by omega),Aa,Aj,show 16-i=(15-i)+1 by omega,Bcb,kD (iS d i)];rw[uf,show 16-(i+1)=15-i by omega,Ae8]at ih;exact ih
  rw[Mn,FP,Acf (by rw[Ae];simp;omega),ev,Ai3,et,show(127:Int32).toInt=127 from rfl];by_cases h:d.toNat/256^i %256<128
  ·rw[Aan (by simp only[Adx];omega)];exact hp8 _ (by rw[s8,Acf h])
  ·rw[Acf (by simp only[Adx];omega)];refine hp8 _ ?_;rw[s8,Aan h,aA,Int32.ofInt_sub];rfl
def Na(p:List UInt8):List Int32:=dM (Uk p) 8++List.replicate 8 0
theorem Nv(p:List UInt8):(Na p).length=16:=by simp[Na,iS]
theorem YL(p:List UInt8)(hp:p.length<=64):Nq p=some (Na p,0):=by
 have h:=Al7 (Uk p) 8 0 Au (by omega) (by have:=Ar;omega);have h2:Ab0 (Uk p)=some (Na p):=h;rw[Nq,Aan (by rw[Aq,Ac];simp;omega),Agq p (by omega),Aa];simp only;rw[Aan (by rw[Ah];simp),h2,Aa]
theorem aS(p:List UInt8)(hp:p.length<=64):Nl p=some (Na p,0):=by
 have h:=Ar2 (Uk p) 8 0 Au (Uk p) (by omega) (by have:=Ar;omega) (by simp);have h2:nP (Uk p)=some (Na p):=h;rw[Nl,Aan (by rw[Aq,Ac];simp;omega),jD,dN,Aan (by rw[Aq,Ac];simp;omega),Agh p (by omega),Aa,Aa,Aa];simp only;rw[h2,Aa]
def u8(z:Int):UInt8:=UInt8.ofNat (z %256).toNat
theorem Abw(z:Int):u8 (z %256)=u8 z:=by rw[u8,u8];congr 2;omega
def wB(bits:Int):Nat:=if bits=8 then 1 else if bits=16 then 2 else 3
theorem Aj9{bits:Int}(h:Bl bits):Bt bits 8=(wB bits:Int):=by obtain rfl|rfl|rfl:=h<;>rfl
theorem M4(bits:Int):1<=wB bits/\wB bits<=3:=by
 unfold wB;split; · omega
 ·split<;>omega
def FR(bits:Int)(x:Int):List UInt8:=if bits=8 then [u8 (x+128)]else if bits=16 then [u8 x,u8 (x/256)]else [u8 x,u8 (x/256),u8 (x/65536)]
theorem Ad1(bits x:Int):(FR bits x).length<=3:=by
 unfold FR;split; · simp
 ·split<;>simp
theorem As2(x:Int32)(k:Nat)(hk:k<=32):(Af (Ci x k):UInt8)=u8 (x.toInt.fdiv (2^k)):=by
 have h:=DE x;have e:Ci x k=Int32.ofInt (x.toInt.fdiv (2^k)):=by
  show Int32.ofInt (x.toInt.fdiv (2^min k 32))=_;rw[Bbd hk]
 have hb: -2147483648<=x.toInt.fdiv (2^k)/\x.toInt.fdiv (2^k)<2147483648:=by
  have hpos:(0:Int)<2^k:=Int.pow_pos (by omega);rw[Asw _ (by omega)];constructor
  ·refine(Int.le_ediv_iff_mul_le hpos).2 ?_;have:(1:Int)<=2^k:=by omega
   have h2: -2147483648*(2^k:Int)<= -2147483648*1:=Int.mul_le_mul_of_nonpos_left (by omega) this;omega
  ·refine Int.ediv_lt_of_lt_mul hpos ?_;have:(1:Int)<=2^k:=by omega
   have h2:(2147483648:Int)*1<=2147483648*2^k:=Int.mul_le_mul_of_nonneg_left this (by omega);omega
 show UInt8.ofNat ((Ci x k).toInt %256).toNat=_;rw[e,Bel,Bg9 (by show -(4294967296/2:Int)<= _;omega) (by show _<(4294967296+1)/2;omega)];rfl
section
variable (bk:Int->List UInt8->Option (List UInt8×Int)) (l:List Int32)
theorem R7{bits:Int}(h:Bl bits)(c:Int32)(x:Int)(i q:Nat)(acc:List UInt8)(hi:i<wB bits)(ha:acc.length<=100000):
  Li bk bits l c x (q+1) (i:Int) acc=Li bk bits l c x q ((i+1:Nat):Int) (acc++[u8 (c.toInt.fdiv (2^(8*i)))]):=by
 have hw:=M4 bits;have e8:Bf (8:Int) (i:Int)=((8*i:Nat):Int):=by rw[Fa];omega
 rw[Li,EM,Aj9 h,Acf (by rw[Ae];simp;omega),e8,Bj (by rw[Ea];simp;omega),Aa,show(GI.toZ (((8*i:Nat):Int))).toNat=8*i from rfl,As2 _ _ (by omega),Bg (by simp;omega),Aa,Aj];rfl
theorem Ai9{bits:Int}(h:Bl bits)(c:Int32)(x:Int)(q:Nat)(acc:List UInt8):Li bk bits l c x (q+1) ((wB bits:Nat):Int) acc=bk (Ad x 1) acc:=by
 rw[Li,EM,Aj9 h,Aan (by rw[Ae];simp),VK,nY]
theorem Baa{bits:Int}(h:Bl bits)(c:Int32)(x:Int)(acc:List UInt8)(ha:acc.length<=90000)(hr: -(hB bits)<=c.toInt/\c.toInt<hB bits):
  Oc bk bits l x acc (if bits=8 then Ad c (128:Int32)else c)=bk (Ad x 1) (acc++FR bits c.toInt):=by
 have e:Au=(Au-4)+1+1+1+1:=by have:=Ar;omega
 have hc:=DE c;rw[Oc,UQ,WC,e];have g0:=λ(c:Int32) q acc ha=>R7 bk l h c x 0 q acc (by have:=M4 bits;omega) ha;obtain rfl|rfl|rfl:=h
 ·have hh:hB 8=128:=rfl;rw[hh]at hr;have e1:(Ad c (128:Int32)).toInt=c.toInt+128:=by
   show(Int32.ofInt (c.toInt+(128:Int32).toInt)).toInt=_;rw[show(128:Int32).toInt=128 from rfl,Bel,Bg9 (by show -(4294967296/2:Int)<= _;omega) (by show _<(4294967296+1)/2;omega)]
  have g1:=Ai9 bk l (bits:=8) (.inl rfl) (Ad c (128:Int32)) x (Au-4+1+1);rw[Acf rfl,show(0:Int)=((0:Nat):Int)from rfl,g0 _ _ _ (by omega)];refine Bda (g1 _) ?_;rw[e1,FR,Acf rfl]
  show bk _ (acc++[u8 ((c.toInt+128).fdiv 1)])=_;rw[Int.fdiv_one]
 ·have g1:=λq acc ha=>R7 bk l (bits:=16) (.inr (.inl rfl)) c x 1 q acc (by decide) ha;have g2:=Ai9 bk l (bits:=16) (.inr (.inl rfl)) c x (Au-4+1);rw[Aan (by decide),show(0:Int)=((0:Nat):Int)from rfl,g0 _ _ _ (by omega),g1 _ _ (by simp;omega)];refine Bda (g2 _) ?_;rw[FR,Aan (by decide),Acf rfl,Ae8]
  show bk _ (acc++[u8 (c.toInt.fdiv 1),u8 (c.toInt.fdiv 256)])=_;rw[Int.fdiv_one,Asw _ (by omega)]
 ·have g1:=λq acc ha=>R7 bk l (bits:=24) (.inr (.inr rfl)) c x 1 q acc (by decide) ha;have g2:=λq acc ha=>R7 bk l (bits:=24) (.inr (.inr rfl)) c x 2 q acc (by decide) ha;have g3:=Ai9 bk l (bits:=24) (.inr (.inr rfl)) c x (Au-4);rw[Aan (by decide),show(0:Int)=((0:Nat):Int)from rfl,g0 _ _ _ (by omega),g1 _ _ (by simp;omega),g2 _ _ (by simp;omega)];refine Bda (g3 _) ?_;rw[FR,Aan (by decide),Aan (by decide),Ae8,Ae8]
  show bk _ (acc++[u8 (c.toInt.fdiv 1),u8 (c.toInt.fdiv 256),u8 (c.toInt.fdiv 65536)])=_;rw[Int.fdiv_one,Asw _ (by omega),Asw _ (by omega)]
end
def Dz(bits:Int)(l:List Int32):List UInt8:=l.flatMap λx=>FR bits x.toInt
theorem RA(bits:Int):∀l:List Int32,(Dz bits l).length<=3*l.length
 |[]=>by simp[Dz]
 |x::l=>by
  have h1:=RA bits l;have h2:=Ad1 bits x.toInt;simp only[Dz,Bha,Adl,Aqj]at*
  omega
def xq(bits:Int)(l:List Int32):Prop:=∀x∈l, -(hB bits)<=x.toInt/\x.toInt<hB bits
theorem Ak8{bits:Int}(h:Bl bits)(l:List Int32)(hl:l.length<=4000)(hr:xq bits l):∀(j i q:Nat),i+j=l.length->j<q->Hs bits l q (i:Int) (Dz bits (l.take i))=some (Dz bits l,0)
 |0,i,q+1,hi,_=>by
  rw[Hs,EX,Aan (by rw[Ae,Ac];simp;omega),Apg (by omega)];rfl
 |j+1,i,q+1,hi,hq=>by
  have hlt:i<l.length:=by omega
  have ih:=Ak8 h l hl hr j (i+1) q (by omega) (by omega);have hlen:=RA bits (l.take i);have hx:=hr l[i] (Aqp _);have h1:=Baa (Hs bits l q) l h l[i] (i:Int) (Dz bits (l.take i)) (by rw[Ahn]at hlen;omega) hx;rw[Hs,EX,Acf (by rw[Ae,Ac];simp;omega),Br hlt,Aa];have e:(if(geq bits (8:Int))=true then Oc (Hs bits l q) bits l (i:Int) (Dz bits (l.take i)) (Ad l[i] (128:Int32))else Oc (Hs bits l q) bits l (i:Int) (Dz bits (l.take i)) l[i])=Oc (Hs bits l q) bits l (i:Int) (Dz bits (l.take i)) (if bits=8 then Ad l[i] (128:Int32)else l[i]):=by
   by_cases h8:bits=8
   ·rw[Acf (by rw[As];simpa using h8),Acf h8]
   ·rw[Aan (by rw[As];simpa using h8),Aan h8]
  rw[e,h1,Aj];rw[Lb hlt]at ih;have e2:Dz bits (l.take i++[l[i]])=Dz bits (l.take i)++FR bits l[i].toInt:=by unfold Dz;rw[List.flatMap_append,List.flatMap_singleton]
  rw[e2]at ih;exact ih
theorem jV{bits:Int}(h:Bl bits){l:List Int32}(hl:l.length<=4000)(hc:Ay bits l=some 0):xq bits l:=by
 have hh:=FL bits;have key:∀(j i q:Nat),i+j=l.length->j<q->Ba l (hB bits) q (i:Int)=some 0->∀k,i<=k-> (hk:k<l.length)-> -(hB bits)<=l[k].toInt/\l[k].toInt<hB bits:=by
  intro j
  induction j with
  |zero=>intro i q hi hq _ k h1 h2;omega
  |succ j ih=>
   intro i q hi hq hs k h1 h2;obtain⟨q,rfl⟩:∃k,q=k+1:=⟨q-1,by omega⟩;rw[Ba,Df,Acf (by rw[Ae,Ac];simp;omega),Br,Aa,Aa,Gk,Acb,De (by omega) (by omega),Aj,Ae,Ea]at hs;by_cases g1:l[i].toInt<0-hB bits
   ·rw[Acf (by simpa using g1)]at hs;simp at hs
   ·rw[Aan (by simpa using g1)]at hs;by_cases g2:hB bits<=l[i].toInt
    ·rw[Acf (by simpa using g2)]at hs;simp at hs
    ·rw[Aan (by simpa using g2)]at hs;by_cases hk:k=i
     ·subst hk;omega
     ·exact ih (i+1) q (by omega) (by omega) hs k (by omega) h2
 rw[Ay,Ed,WQ h,Aa,Aan (by rw[As];simp;omega),Aan (by rw[Aq,Ac];simp;omega)]at hc;have:=key l.length 0 Au (by omega) (by have:=Ar;omega) hc;intro x hx;obtain⟨k,hk,rfl⟩:=List.getElem_of_mem hx;exact this k (by omega) hk
theorem lP{bits:Int}(h:Bl bits){l:List Int32}(hl:l.length<=4000)(hc:Ay bits l=some 0):Ni bits l=some (Dz bits l,0):=by
 have h1:=Ak8 h l hl (jV h hl hc) l.length 0 Au (by omega) (by have:=Ar;omega);rw[Ni,aW,bA h l hl,hc,Aa,Aan (by rw[Ah];simp)];exact h1
theorem Avm{bits:Int}(h:Bl bits)(x:Int32)(hr: -(hB bits)<=x.toInt/\x.toInt<hB bits):OZ bits x=some (FR bits x.toInt):=by
 have hx:=DE x;have gu:∀z:Int,(Af z:UInt8)=u8 z:=λz=>rfl;have hq:∀n:Int,0<=n->n<=20000000->Bt n (256:Int)=n/256/\Bt n (65536:Int)=n/65536:=by
  intro n h1 h2;constructor<;>(rw[UZ,Bcd h1,De (by omega) (by omega)])
 have hm:∀n:Int,0<=n->Fo n (256:Int)=n %256:=λn h1=>by rw[Fo,Bdm h1]
 rw[OZ,XA,Gk];obtain rfl|rfl|rfl:=h
 ·rw[Acf (by rw[As];rfl),Aj,gu,FR,Acf rfl]
 ·have hh:hB 16=32768:=rfl;rw[hh]at hr;have hp:∀n:Int,0<=n->n<=70000->u8 n=u8 x.toInt->u8 (n/256)=u8 (x.toInt/256)->Oi 16 n=some (FR 16 x.toInt):=by
   intro n h1 h2 h3 h4;rw[Oi,DD,Aan (by rw[As];decide),hm n h1,(hq n h1 (by omega)).1,hm _ (by omega),gu,gu,Abw,Abw,h3,h4,FR,Aan (by decide),Acf rfl]
  rw[Aan (by rw[As];decide)];by_cases hn:x.toInt<0
  ·rw[Acf (by rw[Ae];simpa using hn),WQ (.inr (.inl rfl)),Aa,hh,Fa,Aj];refine hp _ (by omega) (by omega) ?_ ?_
   ·rw[u8,u8];congr 2;omega
   ·rw[u8,u8];congr 2;omega
  ·rw[Aan (by rw[Ae];simpa using hn)];exact hp _ (by omega) (by omega) rfl rfl
 ·have hh:hB 24=8388608:=rfl;rw[hh]at hr;have hp:∀n:Int,0<=n->n<=16777215->u8 n=u8 x.toInt->u8 (n/256)=u8 (x.toInt/256)->u8 (n/65536)=u8 (x.toInt/65536)->Oi 24 n=some (FR 24 x.toInt):=by
   intro n h1 h2 h3 h4 h5;rw[Oi,DD,Acf (by rw[As];rfl),hm n h1,(hq n h1 (by omega)).1,(hq n h1 (by omega)).2,hm _ (by omega),gu,gu,gu,Abw,Abw,h3,h4,h5,Bg (by simp),Aa,FR,Aan (by decide),Aan (by decide)];rfl
  rw[Aan (by rw[As];decide)];by_cases hn:x.toInt<0
  ·rw[Acf (by rw[Ae];simpa using hn),WQ (.inr (.inr rfl)),Aa,hh,Fa,Aj];refine hp _ (by omega) (by omega) ?_ ?_ ?_
   ·rw[u8,u8];congr 2;omega
   ·rw[u8,u8];congr 2;omega
   ·rw[u8,u8];congr 2;omega
  ·rw[Aan (by rw[Ae];simpa using hn)];exact hp _ (by omega) (by omega) rfl rfl rfl
theorem Ak0{bits:Int}(h:Bl bits)(l:List Int32)(hl:l.length<=4000)(hr:xq bits l):∀(j i q:Nat),i+j=l.length->j<q->Lu bits l q (i:Int) (Dz bits (l.take i))=some (Dz bits l,0)
 |0,i,q+1,hi,_=>by
  rw[Lu,Yo,Aan (by rw[Ae,Ac];simp;omega),Apg (by omega)];rfl
 |j+1,i,q+1,hi,hq=>by
  have hlt:i<l.length:=by omega
  have ih:=Ak0 h l hl hr j (i+1) q (by omega) (by omega);have hlen:=RA bits (l.take i);have hol:=Ad1 bits l[i].toInt;rw[Ahn]at hlen;have e2:Dz bits (l.take i++[l[i]])=Dz bits (l.take i)++FR bits l[i].toInt:=by unfold Dz;rw[List.flatMap_append,List.flatMap_singleton]
  rw[Lb hlt,e2]at ih;rw[Lu,Yo,Acf (by rw[Ae,Ac];simp;omega),Br hlt,Aa,Avm h _ (hr l[i] (Aqp _)),Aa,Bg,Aa,Aj];exact ih
theorem YK{bits:Int}(h:Bl bits){l:List Int32}(hl:l.length<=4000)(hc:Ay bits l=some 0):Wf bits l=some (Dz bits l,0):=by
 have h1:=Ak0 h l hl (jV h hl hc) l.length 0 Au (by omega) (by have:=Ar;omega);rw[Wf,OL,hc,Aa,Aan (by rw[Ah];simp)];exact h1
def fI:List UInt8->Nat->Int×Int
 |[],n=>((n:Int),0)
 |c::r,n=>if 128<=c.toNat then(0,12)else fI r (128*n+c.toNat)
theorem Am9:∀(l:List UInt8) (n k:Nat),n<128^k->0<= (fI l n).1/\ (fI l n).1<((128^(k+l.length):Nat):Int)
 |[],n,k,h=>by simp[fI];exact_mod_cast h
 |c::r,n,k,h=>by
  rw[fI];split
  ·have:0<128^(k+(c::r).length):=Bem (by omega);exact⟨Int.le_refl _,by simp only;exact_mod_cast this⟩
  ·have:=Am9 r (128*n+c.toNat) (k+1) (by rw[Av3];omega);rw[Aqj,show k+(r.length+1)=k+1+r.length by omega];exact this
theorem or7(n c:Nat)(hn:n<268435456)(hc:c<128):xC (Dp (n:Int) (GI.toZ (7:UInt64)).toNat) (c:Int)=((128*n+c:Nat):Int):=by
 have e:(GI.toZ (7:UInt64)).toNat=7:=rfl;have h1:Dp (n:Int) 7=((2^7*n:Nat):Int):=by
  have:Dp (n:Int) 7=wrap64 ((n:Int)*2^7):=rfl;rw[this,De (by omega) (by omega)];omega
 rw[e,h1];have h2:xC ((2^7*n:Nat):Int) (c:Int)=wrap64 ((BitVec.ofInt 64 ((2^7*n:Nat):Int)|||BitVec.ofInt 64 (c:Int)).toNat:Int):=rfl;rw[h2,BitVec.toNat_or,Bc3,Bc3];have h3:(((2^7*n:Nat):Int) %((2^64:Nat):Int)).toNat=2^7*n:=by omega
 have h4:((c:Int) %((2^64:Nat):Int)).toNat=c:=by omega
 rw[h3,h4,<-Bbs (by simpa using hc),De (by omega) (by omega)]
theorem Amw(b:List UInt8)(hb:b.length=4):∀(j i q n:Nat),i+j=4->j<q->n<128^i->Pn b q (n:Int) (i:Int)=some (fI (b.drop i) n)
 |0,i,q+1,n,hi,_,_=>by
  rw[Pn,BQ,Aan (by rw[Ae,Ac];simp;omega),show b.drop i=[] by simp;omega];rfl
 |j+1,i,q+1,n,hi,hq,hn=>by
  have hlt:i<b.length:=by omega
  have hn2:n<268435456:=Aqh hn (show 128^i<=128^4 from Ah1 (by omega) (by omega));rw[Pn,BQ,Acf (by rw[Ae,Ac];simp;omega),Br hlt,Aa,drop_cons hlt,fI,Auo];by_cases hc:128<=b[i].toNat
  ·rw[Acf (by simp;omega),Acf hc]
  ·rw[Aan (by simp;omega),Aan hc,YI,or7 n _ hn2 (by omega),Aj];exact Amw b hb j (i+1) q _ (by omega) (by omega) (by rw[Av3];omega)
theorem Aul(b:List UInt8)(hb:b.length=4):∀(j i q n:Nat),i+j=4->j<q->n<128^i->Lz b q (n:Int) (i:Int)=some (fI (b.drop i) n)
 |0,i,q+1,n,hi,_,_=>by
  rw[Lz,Yq,Aan (by rw[Ae];simp;omega),show b.drop i=[] by simp;omega];rfl
 |j+1,i,q+1,n,hi,hq,hn=>by
  have hlt:i<b.length:=by omega
  have hn2:n<268435456:=Aqh hn (show 128^i<=128^4 from Ah1 (by omega) (by omega));rw[Lz,Yq,Acf (by rw[Ae];simp;omega),Br hlt,Aa,drop_cons hlt,fI,As0];have h128:(128:UInt8).toNat=128:=rfl;by_cases hc:128<=b[i].toNat
  ·rw[Acf (by simpa using hc),Acf hc]
  ·have h3:=b[i].toNat_lt;rw[Aan (by simpa using hc),Aan hc,Aa,YI,Fa,Aj,Aj];have:=Aul b hb j (i+1) q (128*n+b[i].toNat) (by omega) (by omega) (by rw[Av3];omega);rw[<-this];rfl
theorem Ai6(b:List UInt8)(hb:b.length=4):RL b=some (fI b 0):=by
 have h:=Amw b hb 4 0 Au 0 (by omega) (by have:=Ar;omega) (by simp);rw[RL,QR,Aan (by rw[Ah,Ac];simp;omega),PC];exact h
theorem Apy(b:List UInt8)(hb:b.length=4):GD b=some (fI b 0):=by
 have h:=Aul b hb 4 0 Au 0 (by omega) (by have:=Ar;omega) (by simp);rw[GD,OM,Aan (by rw[Ah,Ac];simp;omega),NV];exact h
theorem Aiq{b:List UInt8}(hb:b.length=4):0<= (fI b 0).1/\ (fI b 0).1<268435456:=by
 have:=Am9 b 0 0 (by simp);rw[hb]at this;simpa using this
theorem lE(s p:List UInt8):Nw s p=some (decide (p.length<=s.length/\s.take p.length=p)):=by
 rw[Nw];by_cases h:p.length<=s.length
 ·rw[Acf (by rw[Ea,Ac,Ac];simp;omega),show Ac p=(p.length:Int)from rfl,Dk,Aa,Ij,Aa,Ahe];congr 1;rw[Ako];simp[h]
 ·rw[Aan (by rw[Ea,Ac,Ac];simp;omega)];simp[h]
def iE(b:List UInt8)(n:Int):Int×Int:=
 if 4000<n then(0,4)else if(b.length:Int)<n then(0,24)else
 if b.getD 5 0=16/\ (b.take n.toNat).drop (n-10).toNat≠ [51,68,73]++part b 3 7 then(0,12)else(n,0)
def O9(b:List UInt8)(r:Int):Int×Int:=iE b (r+10+(if b.getD 5 0=16 then 10 else 0))
def Zj(b:List UInt8):Int×Int:=
 if ¬(3<=b.length/\b.take 3=[73,68,51])then(0,6)else if b.length<10 then(0,24)else
 if(fI (part b 6 4) 0).2≠0\/b.getD 4 0≠0\/ ¬((b.getD 5 0=0/\2<= (b.getD 3 0).toNat/\ (b.getD 3 0).toNat<=4)\/ (b.getD 5 0=16/\b.getD 3 0=4))then(0,12)else
 O9 b (fI (part b 6 4) 0).1
theorem wF{b:List UInt8}{i:Nat}(h:i<b.length):Ap b (i:Int)=some (b.getD i 0):=by
 rw[Br h];simp[List.getD_eq_getElem?_getD,h]
theorem Ry{b:List UInt8}(a w:Nat)(h:a+w<=b.length:=by omega):Bp b (a:Int) ((a+w:Nat):Int)=some (part b a w):=by
 rw[Uy];rfl
theorem Awx(b:List UInt8)(r:Int)(h10:10<=b.length)(h0:0<=r)(h1:r<268435456):AB b r=some (O9 b r):=by
 have g5:Ap b (5:Int)=some (b.getD 5 0):=wF (i:=5) (by omega);have key:∀n:Int,10<=n->n<268435500->Zv b n=some (iE b n):=by
  intro n hn hn2;rw[Zv,TQ,iE];by_cases c1:4000<n
  ·rw[Acf (by rw[Aq];simpa using c1),Acf c1]
  ·rw[Aan (by rw[Aq];simpa using c1),Aan c1];by_cases c2:(b.length:Int)<n
   ·rw[Acf (by rw[Ae,Ac];simpa using c2),Acf c2]
   ·have e3:Bp b (3:Int) (10:Int)=some (part b 3 7):=Ry 3 7;rw[Aan (by rw[Ae,Ac];simpa using c2),Aan c2,g5,Aa];by_cases c3:b.getD 5 0=16
    ·rw[Acf (by rw[lB];simpa using c3),Bu,Uy,Aa,e3,Aa,Bg (by rw[Ey];simp),Aa];by_cases c4:(b.take n.toNat).drop (n-10).toNat=[51,68,73]++part b 3 7
     ·rw[Aan (by simpa using c4),Aan (by intro h;exact h.2 c4)]
     ·rw[Acf (by simpa using c4),Acf ⟨c3,c4⟩]
    ·rw[Aan (by rw[lB];simpa using c3),Aan (λh=>c3 h.1)]
 rw[AB,SN,g5,Aa,O9];by_cases c3:b.getD 5 0=16
 ·rw[Acf (by rw[lB];simpa using c3),Aj (by rw[Aj]<;>omega) (by rw[Aj]<;>omega),Aj,key _ (by omega) (by omega),Acf c3,show 10+r+10=r+10+10 by omega]
 ·rw[Aan (by rw[lB];simpa using c3),Aj,key _ (by omega) (by omega),Aan c3,show 10+r=r+10+0 by omega]
theorem At2(b:List UInt8)(hb:b.length<4611686018427387904):JR b=some (Zj b):=by
 rw[JR,SS,Zj];by_cases h3:3<=b.length
 ·rw[Aan (by rw[Ae,Ac];simp;omega),Dk,Aa];by_cases hp:b.take 3=[73,68,51]
  ·rw[Aan (by simpa using hp),Aan (by simp[h3,hp]),UM,TC];by_cases h10:b.length<10
   ·rw[Acf (by rw[Ae,Ac];simp;omega),Acf h10]
   ·have e6:Bp b (6:Int) (10:Int)=some (part b 6 4):=Ry 6 4;have g3:Ap b (3:Int)=some (b.getD 3 0):=wF (i:=3) (by omega);have g4:Ap b (4:Int)=some (b.getD 4 0):=wF (i:=4) (by omega);have g5:Ap b (5:Int)=some (b.getD 5 0):=wF (i:=5) (by omega);obtain⟨v1,v2⟩:=Aiq (b:=part b 6 4) (Ey);rw[Aan (by rw[Ae,Ac];simp;omega),Aan h10,e6,Aa,Apy _ (Ey),Aa];have ht:=Awx b (fI (part b 6 4) 0).1 (by omega) v1 v2;generalize fI (part b 6 4) 0=v at*
    obtain⟨v,e⟩:=v;simp only at ht v1 v2⊢;simp only[Aa,g3,g4,g5,ht];generalize b.getD 3 0=x at*
    generalize b.getD 4 0=y at*
    generalize b.getD 5 0=z at*
    simp only[Ajr,Bay,Auo,Ah];by_cases he:e=0<;>by_cases hy:y=0<;>by_cases hz:z=0<;>by_cases hz2:z=16<;>by_cases hx:x=4<;>by_cases hx2:x.toNat<2<;>by_cases hx4:4<x.toNat<;>simp_all<;>(rw[Aan (by omega),Aan (by omega)])
  ·rw[Acf (by simpa using hp),Acf (by simp[hp])]
 ·rw[Acf (by rw[Ae,Ac];simp;omega),Acf (by simp[h3])]
theorem yt(b:List UInt8)(n:Int)(h10:10<=b.length)(hn:10<=n)(hn2:n<268435500):EN b (b.getD 5 0) n=some (iE b n):=by
 rw[EN,nL];by_cases c1:4000<n
 ·rw[Acf (by rw[Aq];simpa using c1),iE,Acf c1]
 ·rw[Aan (by rw[Aq];simpa using c1)];by_cases c2:(b.length:Int)<n
  ·rw[Acf (by rw[Ae,Ac];simpa using c2),iE,Aan c1,Acf c2]
  ·have e3:Bp b (3:Int) (10:Int)=some (part b 3 7):=Ry 3 7;rw[Aan (by rw[Ae,Ac];simpa using c2)];by_cases c3:b.getD 5 0=16
   ·have hl:((b.take n.toNat).drop (n-10).toNat).length=10:=by simp;omega
    have ht:iE b n=if(b.take n.toNat).drop (n-10).toNat≠ [51,68,73]++part b 3 7 then(0,12)else(n,0):=by rw[iE,Aan c1,Aan c2];simp only[c3,true_and]
    rw[Acf (by rw[lB];simpa using c3),Bu,Uy,Aa,ht];generalize(b.take n.toNat).drop (n-10).toNat=f at*
    rw[Dk,Aa,Bv,Aa,e3,Aa,Ij,Aa];have hf:f=f.take 3++f.drop 3:=(Ba1 3 f).symm;by_cases c4:f=[51,68,73]++part b 3 7
    ·subst c4;simp
    ·by_cases c5:f.take 3=[51,68,73]
     ·have:f.drop 3≠part b 3 7:=λh=>c4 (by rw[hf,c5,h]);simp only[Bek,Auy]at c4;simp[c4,c5,this]
     ·simp only[Bek,Auy]at c4;simp[c4,c5]
   ·rw[Aan (by rw[lB];simpa using c3),iE,Aan c1,Aan c2,Aan (λh=>c3 h.1)]
theorem Atd(b:List UInt8)(r:Int)(h10:10<=b.length)(h0:0<=r)(h1:r<268435456):FB b r (b.getD 5 0)=some (O9 b r):=by
 rw[FB,VL,O9];by_cases c3:b.getD 5 0=16
 ·rw[Acf (by rw[lB];simpa using c3),Aj (by rw[Aj]<;>omega) (by rw[Aj]<;>omega),Aj,yt b _ h10 (by omega) (by omega),Acf c3]
 ·rw[Aan (by rw[lB];simpa using c3),Aj,yt b _ h10 (by omega) (by omega),Aan c3];simp
theorem Apu(b:List UInt8)(hb:b.length<4611686018427387904):XL b=some (Zj b):=by
 rw[XL,EO,lE,Aa];by_cases hp:3<=b.length/\b.take 3=[73,68,51]
 ·rw[Aan (by simpa using hp)];by_cases h10:b.length<10
  ·rw[Acf (by rw[Ae,Ac];simp;omega),Zj,Aan (λh=>h hp),Acf h10]
  ·have e6:Bp b (6:Int) (10:Int)=some (part b 6 4):=Ry 6 4;have g3:Ap b (3:Int)=some (b.getD 3 0):=wF (i:=3) (by omega);have g4:Ap b (4:Int)=some (b.getD 4 0):=wF (i:=4) (by omega);have g5:Ap b (5:Int)=some (b.getD 5 0):=wF (i:=5) (by omega);obtain⟨v1,v2⟩:=Aiq (b:=part b 6 4) (Ey);have ht:=Atd b (fI (part b 6 4) 0).1 (by omega) v1 v2;rw[Aan (by rw[Ae,Ac];simp;omega),g3,Aa,g5,Aa,VD,VZ,e6,Aa,Ai6 _ (Ey),Aa,Zj,Aan (λh=>h hp),Aan h10];generalize fI (part b 6 4) 0=v at*
   obtain⟨v,e⟩:=v;simp only at ht v1 v2⊢;simp only[Aa,g4,UT,US];generalize b.getD 3 0=x at*
   generalize b.getD 4 0=y at*
   generalize b.getD 5 0=z at*
   simp only[Ajr,Bbr,lB,As0,Ah];have e2:(2:UInt8).toNat=2:=rfl;have e4:(4:UInt8).toNat=4:=rfl;by_cases he:e=0<;>by_cases hy:y=0<;>by_cases hz:z=0<;>by_cases hz2:z=16<;>by_cases hx:x=4<;>by_cases hx2:2<=x.toNat<;>by_cases hx4:x.toNat<=4<;>simp_all
 ·rw[Acf (by rw[Awi,Azw];exact hp),Zj,Acf hp]
theorem Au4{b:List UInt8}{n:Int}(h:Zj b=(n,0)):10<=n/\n<=b.length/\n<=4000:=by
 unfold Zj at h;split at h; · simp at h
 split at h; · simp at h
 split at h; · simp at h
 rename_i h10 _;obtain⟨v1,v2⟩:=Aiq (b:=part b 6 4) (Ey);unfold O9 at h;generalize hm:(fI (part b 6 4) 0).1+10+(if b.getD 5 0=16 then 10 else 0)=m at h;unfold iE at h;split at h; · simp at h
 split at h; · simp at h
 split at h; · simp at h
 simp only[Ah7,Bhb]at h;subst h;refine⟨?_,by omega,by omega⟩;rw[<-hm];split<;>omega
def Q8:List UInt8:=[65,80,69,84,65,71,69,88]
def Rp(n m fl:Nat):List UInt8:=Q8++Sk 2000 4++Sk (n+32) 4++Sk m 4++Sk fl 4++List.replicate 8 0
theorem eK{n:Nat}(h:n<18446744073709551616):(UInt64.ofNat n).toNat=n:=by rw[Ah8,Adz h]
theorem uF(n m:Int)(fl:UInt64)(c:UInt64)(i q:Nat)(acc:List UInt8)(hi:i<6)(hc:Ap ([(2000:UInt64),(Af (Ad n (32:Int)):UInt64),(Af m:UInt64),fl,(0:UInt64),(0:UInt64)]:List UInt64) (i:Int)=some c)(h:c.toNat<4294967296)(ha:acc.length<=1000000):
  GO n m fl (q+1) (i:Int) acc=GO n m fl q ((i+1:Nat):Int) (acc++Sk c.toNat 4):=by
 have hb:=bH c 4 (by omega) (by omega) (by simpa using h);rw[GO,lI,Acf (by rw[Ae,Ac];simp;omega),hc,Aa,Aa,show((4:Int))=((4:Nat):Int)from rfl,hb,Aa];simp only;rw[Bg (by rw[Cg];omega),Aa,Aj];rfl
theorem Y0(n m:Nat)(fl:UInt64)(hn:n<=3000)(hm:m<=1000)(hf:fl.toNat<4294967296):tN (n:Int) (m:Int) fl=some (Rp n m fl.toNat):=by
 have e1:(Af (Ad (n:Int) (32:Int)):UInt64).toNat=n+32:=by rw[Aj,show(n:Int)+32=((n+32:Nat):Int) by omega,Yb,eK (by omega)]
 have e2:(Af (m:Int):UInt64).toNat=m:=by rw[Yb,eK (by omega)]
 have hF:Au=(Au-7)+1+1+1+1+1+1+1:=by have:=Ar;omega
 rw[tN,xN,wN,hF];rw[show((0:Int))=((0:Nat):Int)from rfl,uF n m fl 2000 0 _ _ (by omega) rfl (by decide) (by simp),uF n m fl _ 1 _ _ (by omega) rfl (by rw[e1];omega) (by simp[Cg]),uF n m fl _ 2 _ _ (by omega) rfl (by rw[e2];omega) (by simp[Cg]),
  uF n m fl fl 3 _ _ (by omega) rfl hf (by simp[Cg]),uF n m fl 0 4 _ _ (by omega) rfl (by decide) (by simp[Cg]),uF n m fl 0 5 _ _ (by omega) rfl (by decide) (by simp[Cg]),e1,e2]
 rw[GO,lI,Aan (by rw[Ae,Ac];simp),wT,qp,Rp];have z:Sk (0:UInt64).toNat 4++Sk (0:UInt64).toNat 4=List.replicate 8 0:=by decide
 have z2:Sk (2000:UInt64).toNat 4=Sk 2000 4:=rfl;rw[Ae8 _ (Sk (0:UInt64).toNat 4),z,z2];rfl
theorem D8(n m:Nat)(fl:UInt64)(hn:n<=3000)(hm:m<=1000)(hf:fl.toNat<4294967296):Vj (n:Int) (m:Int) fl=some (Rp n m fl.toNat):=by
 have e1:(Af (Ad (n:Int) (32:Int)):UInt64).toNat=n+32:=by rw[Aj,show(n:Int)+32=((n+32:Nat):Int) by omega,Yb,eK (by omega)]
 have e2:(Af (m:Int):UInt64).toNat=m:=by rw[Yb,eK (by omega)]
 have w:∀c:UInt64,Fq c 4=some (Sk c.toNat 4):=λc=>oq c 4 (by omega);have z2:Sk (2000:UInt64).toNat 4=Sk 2000 4:=rfl;rw[Vj];simp only[w,e1,e2,Aa];rw[Bg (by simp[Cg]),Aa,Bg (by simp[Cg]),Aa,Bg (by simp[Cg]),Aa,Bg (by simp[Cg]),Aa,rZ,Aa,Bg (by simp[Cg]),Aa,z2];rfl
theorem YG{b:List UInt8}{a w k:Nat}(h:a+w<=k):part (b.take k) a w=part b a w:=by rw[part,part,Bg3,Bbd h]
def HY(b:List UInt8):Bool:=decide (Gd (part b 12 4)<32\/3032<Gd (part b 12 4)\/1000<Gd (part b 16 4))
theorem Auf(b:List UInt8)(h:20<=b.length):(((Cj (vN (part b 12 4)) (32:UInt64))||(Ef (vN (part b 12 4)) (3032:UInt64)))||(Ef (vN (part b 16 4)) (1000:UInt64)))=HY b:=by
 rw[S8,dI,dI,eL (by rw[Ey];omega),eL (by rw[Ey];omega),HY];show((decide (Gd (part b 12 4)<32)||decide (3032<Gd (part b 12 4)))||decide (1000<Gd (part b 16 4)))=_;simp[Bool.or_assoc]
theorem I1(b:List UInt8)(h:20<=b.length)(hb:HY b=false):Ao (Af (vN (part b 12 4)):Int) (32:Int)=((Gd (part b 12 4)-32:Nat):Int)/\ (Af (vN (part b 16 4)):Int)=((Gd (part b 16 4):Nat):Int)/\Gd (part b 12 4)-32<=3000/\Gd (part b 16 4)<=1000:=by
 simp only[HY,Azw]at hb;refine⟨?_,RV (by rw[Ey];omega),by omega,by omega⟩;rw[RV (by rw[Ey];omega),Bu];omega
theorem lQ(b:List UInt8)(fl:UInt64)(h:20<=b.length)(hl:b.length<4611686018427387904)(hf:fl.toNat<4294967296):
  YJ b fl=some (if HY b=true then(0,0,false)else(((Gd (part b 12 4)-32:Nat):Int),((Gd (part b 16 4):Nat):Int),b==Rp (Gd (part b 12 4)-32) (Gd (part b 16 4)) fl.toNat)):=by
 have a1:iY b 12 4=some (vN (part b 12 4),0):=zk b 12 4 (by omega) (by omega) (by omega) hl;have a2:iY b 16 4=some (vN (part b 16 4),0):=zk b 16 4 (by omega) (by omega) (by omega) hl;rw[YJ,a1,Aa];simp only;rw[a2,Aa];simp only;rw[Auf b h];cases hb:HY b with
 |true=>rfl
 |false=>
  obtain⟨i1,i2,i3,i4⟩:=I1 b h hb;rw[i1,i2,Y0 _ _ _ i3 i4 hf];rfl
theorem Ad5(b:List UInt8)(h:20<=b.length)(hl:b.length<4611686018427387904):
  Za b=some (if HY b=true then(0,0,false)else(((Gd (part b 12 4)-32:Nat):Int),((Gd (part b 16 4):Nat):Int),true)):=by
 have a1:Bp b 12 16=some (part b 12 4):=Ry 12 4;have a2:Bp b 16 20=some (part b 16 4):=Ry 16 4;rw[Za,a1,Aa,Agl _ (by rw[Ey];omega),Aa,a2,Aa,Agl _ (by rw[Ey];omega),Aa,Auf b h];cases hb:HY b with
 |true=>rfl
 |false=>
  obtain⟨i1,i2,i3,i4⟩:=I1 b h hb;rw[i1,i2];rfl
def Lk(b:List UInt8):Int×Int:=
 if ¬(8<=b.length/\b.take 8=Q8)then(0,6)else if b.length<32 then(0,24)else
 if HY b=true\/b.take 32≠Rp (Gd (part b 12 4)-32) (Gd (part b 16 4)) 2684354560 then(0,12)else
 if b.length<Gd (part b 12 4)+32 then(0,24)else
 if(b.take (Gd (part b 12 4)+32)).drop (Gd (part b 12 4))≠Rp (Gd (part b 12 4)-32) (Gd (part b 16 4)) 2147483648 then(0,12)else(((Gd (part b 12 4)+32:Nat):Int),0)
theorem Ae4(b:List UInt8):HY (b.take 32)=HY b:=by rw[HY,HY,YG (by omega),YG (by omega)]
section
variable {b:List UInt8}
theorem fa1(h:¬(8<=b.length/\b.take 8=Q8)):Lk b=(0,6):=by rw[Lk,Acf h]
theorem fa2(h:8<=b.length/\b.take 8=Q8)(h2:b.length<32):Lk b=(0,24):=by rw[Lk,Aan (λh'=>h' h),Acf h2]
variable (h:8<=b.length/\b.take 8=Q8) (h2:¬b.length<32)
include h h2
theorem fa3(h3:HY b=true):Lk b=(0,12):=by rw[Lk,Aan (λh'=>h' h),Aan h2,Acf (.inl h3)]
theorem fa4(h4:b.take 32≠Rp (Gd (part b 12 4)-32) (Gd (part b 16 4)) 2684354560):Lk b=(0,12):=by rw[Lk,Aan (λh'=>h' h),Aan h2,Acf (.inr h4)]
variable (h3:HY b=false) (h4:b.take 32=Rp (Gd (part b 12 4)-32) (Gd (part b 16 4)) 2684354560)
include h3 h4
theorem fa5(h5:b.length<Gd (part b 12 4)+32):Lk b=(0,24):=by
 rw[Lk,Aan (λh'=>h' h),Aan h2,Aan (λh'=>h'.elim (λe=>by rw[h3]at e;cases e) λe=>e h4),Acf h5]
theorem fa6(h5:¬b.length<Gd (part b 12 4)+32)(h6:(b.take (Gd (part b 12 4)+32)).drop (Gd (part b 12 4))≠Rp (Gd (part b 12 4)-32) (Gd (part b 16 4)) 2147483648):Lk b=(0,12):=by
 rw[Lk,Aan (λh'=>h' h),Aan h2,Aan (λh'=>h'.elim (λe=>by rw[h3]at e;cases e) λe=>e h4),Aan h5,Acf h6]
theorem fa7(h5:¬b.length<Gd (part b 12 4)+32)(h6:(b.take (Gd (part b 12 4)+32)).drop (Gd (part b 12 4))=Rp (Gd (part b 12 4)-32) (Gd (part b 16 4)) 2147483648):Lk b=(((Gd (part b 12 4)+32:Nat):Int),0):=by
 rw[Lk,Aan (λh'=>h' h),Aan h2,Aan (λh'=>h'.elim (λe=>by rw[h3]at e;cases e) λe=>e h4),Aan h5,Aan (λh'=>h' h6)]
end
theorem Ai0(b:List UInt8)(hl:b.length<4611686018427387904):tR b=some (Lk b):=by
 rw[tR,lE,Aa];by_cases hp:8<=b.length/\b.take 8=Q8
 ·rw[Aan (by simpa [Q8]using hp)];by_cases h32:b.length<32
  ·rw[Acf (by rw[Ae,Ac];simp;omega),fa2 hp h32]
  ·have t:=lQ (b.take 32) 2684354560 (by simp;omega) (by simp;omega) (by decide);rw[Ae4,YG (by omega),YG (by omega)]at t;rw[Aan (by rw[Ae,Ac];simp;omega),Dk,Aa,show(32:Int).toNat=32 from rfl,t,Aa];cases hb:HY b with
   |true=>rw[fa3 hp h32 hb];simp
   |false=>
    obtain⟨i1,i2,i3,i4⟩:=I1 b (by omega) hb;have i5:32<=Gd (part b 12 4):=by simp only[HY,Azw]at hb;omega
    simp only[Avj,Bev,false_or];by_cases c1:b.take 32=Rp (Gd (part b 12 4)-32) (Gd (part b 16 4)) 2684354560
    ·have c1':b.take 32=Rp (Gd (part b 12 4)-32) (Gd (part b 16 4)) (2684354560:UInt64).toNat:=c1;rw[Aan (by simpa using c1'),Aj];have e1:((Gd (part b 12 4)-32:Nat):Int)+64=((Gd (part b 12 4)+32:Nat):Int):=by omega
     rw[e1];by_cases c2:b.length<Gd (part b 12 4)+32
     ·rw[Acf (by rw[Ae,Ac];simp;omega),fa5 hp h32 hb c1 c2]
     ·rw[Aan (by rw[Ae,Ac];simp;omega),Bu,Uy,Aa,Y0 _ _ _ i3 i4 (by decide),Aa,Ij,Aa];rw[show(((Gd (part b 12 4)+32:Nat):Int)).toNat=Gd (part b 12 4)+32 by omega,show(((Gd (part b 12 4)+32:Nat):Int)-32).toNat=Gd (part b 12 4) by omega];by_cases c3:(b.take (Gd (part b 12 4)+32)).drop (Gd (part b 12 4))=Rp (Gd (part b 12 4)-32) (Gd (part b 16 4)) 2147483648
      ·have c3':(b.take (Gd (part b 12 4)+32)).drop (Gd (part b 12 4))=Rp (Gd (part b 12 4)-32) (Gd (part b 16 4)) (2147483648:UInt64).toNat:=c3;rw[Aan (by simpa using c3'),fa7 hp h32 hb c1 c2 c3]
      ·have c3':¬(b.take (Gd (part b 12 4)+32)).drop (Gd (part b 12 4))=Rp (Gd (part b 12 4)-32) (Gd (part b 16 4)) (2147483648:UInt64).toNat:=c3;rw[Acf (by simpa using c3'),fa6 hp h32 hb c1 c2 c3]
    ·have c1':¬b.take 32=Rp (Gd (part b 12 4)-32) (Gd (part b 16 4)) (2684354560:UInt64).toNat:=c1;rw[Acf (by simpa using c1'),fa4 hp h32 c1]
 ·rw[Acf (by rw[Awi,Azw];exact hp),fa1 hp]
theorem Aol(b:List UInt8)(hl:b.length<4611686018427387904):FZ b=some (Lk b):=by
 rw[FZ,NQ];by_cases h8:8<=b.length
 ·rw[Aan (by rw[Ae,Ac];simp;omega),Dk,Aa,show(8:Int).toNat=8 from rfl];by_cases ha:b.take 8=Q8
  ·have hp:=And.intro h8 ha;rw[Aan (by simpa [Q8]using ha),OE,NX];by_cases h32:b.length<32
   ·rw[Acf (by rw[Ae,Ac];simp;omega),fa2 hp h32]
   ·have t:=Ad5 (b.take 32) (by simp;omega) (by simp;omega);rw[Ae4,YG (by omega),YG (by omega)]at t;rw[Aan (by rw[Ae,Ac];simp;omega),Dk,Aa,show(32:Int).toNat=32 from rfl,t,Aa];cases hb:HY b with
    |true=>rw[fa3 hp h32 hb];simp
    |false=>
     obtain⟨i1,i2,i3,i4⟩:=I1 b (by omega) hb;have i5:32<=Gd (part b 12 4):=by simp only[HY,Azw]at hb;omega
     simp only[Avj,Bev,false_or,Aa,Bgk];rw[Zi,D8 _ _ _ i3 i4 (by decide),Aa,Aa];by_cases c1:b.take 32=Rp (Gd (part b 12 4)-32) (Gd (part b 16 4)) 2684354560
     ·have c1':b.take 32=Rp (Gd (part b 12 4)-32) (Gd (part b 16 4)) (2684354560:UInt64).toNat:=c1;rw[Aan (by simpa using c1'),OT,OG,Aj];have e1:64+((Gd (part b 12 4)-32:Nat):Int)=((Gd (part b 12 4)+32:Nat):Int):=by omega
      rw[e1];by_cases c2:b.length<Gd (part b 12 4)+32
      ·rw[Acf (by rw[Ae,Ac];simp;omega),fa5 hp h32 hb c1 c2]
      ·rw[Aan (by rw[Ae,Ac];simp;omega),Bu,Uy,Aa,Nr,Acf rfl,D8 _ _ _ i3 i4 (by decide),Aa,Aa];rw[show(((Gd (part b 12 4)+32:Nat):Int)).toNat=Gd (part b 12 4)+32 by omega,show(((Gd (part b 12 4)+32:Nat):Int)-32).toNat=Gd (part b 12 4) by omega];by_cases c3:(b.take (Gd (part b 12 4)+32)).drop (Gd (part b 12 4))=Rp (Gd (part b 12 4)-32) (Gd (part b 16 4)) 2147483648
       ·have c3':(b.take (Gd (part b 12 4)+32)).drop (Gd (part b 12 4))=Rp (Gd (part b 12 4)-32) (Gd (part b 16 4)) (2147483648:UInt64).toNat:=c3;rw[Aan (by simpa using c3'),fa7 hp h32 hb c1 c2 c3]
       ·have c3':¬(b.take (Gd (part b 12 4)+32)).drop (Gd (part b 12 4))=Rp (Gd (part b 12 4)-32) (Gd (part b 16 4)) (2147483648:UInt64).toNat:=c3;rw[Acf (by simpa using c3'),fa6 hp h32 hb c1 c2 c3]
     ·have c1':¬b.take 32=Rp (Gd (part b 12 4)-32) (Gd (part b 16 4)) (2684354560:UInt64).toNat:=c1;rw[Acf (by simpa using c1'),fa4 hp h32 c1]
  ·rw[Acf (by simpa [Q8]using ha),fa1 (λh=>ha h.2)]
 ·rw[Acf (by rw[Ae,Ac];simp;omega),fa1 (λh=>h8 h.1)]
theorem Ap2{b:List UInt8}{n:Int}(h:Lk b=(n,0)):64<=n/\n<=b.length:=by
 unfold Lk at h;split at h; · simp at h
 split at h; · simp at h
 split at h; · simp at h
 rename_i hb;split at h; · simp at h
 split at h; · simp at h
 simp only[Ah7,Bhb]at h;have hb':¬HY b=true:=λe=>hb (.inl e);simp only[HY,Adx]at hb';omega
def Da(b:List UInt8):Int×Int:=if(Zj b).2≠6 then Zj b else Lk b
theorem size_eq(b:List UInt8)(hl:b.length<4611686018427387904):AK b=some (Da b):=by
 rw[AK,Apu b hl,Aa,Ai0 b hl];by_cases h:(Zj b).2=6
 ·simp[Da,h,Ah]
 ·simp[Da,h,Ah]
theorem rS{b:List UInt8}{n:Int}(h:Da b=(n,0)):10<=n/\n<=b.length:=by
 unfold Da at h;split at h
 ·have:=Au4 h;omega
 ·have:=Ap2 h;omega
def Cm(b:List UInt8):Nat->Nat->List Int×Int
 |0,_=>([],6)
 |j+1,p=>if(Da (b.drop p)).2=6 then([],0)else if(Da (b.drop p)).2≠0 then([],(Da (b.drop p)).2)else
  if 4000<(p:Int)+(Da (b.drop p)).1 then([],4)else
  if(Cm b j (p+(Da (b.drop p)).1.toNat)).2=0 then((Da (b.drop p)).1::(Cm b j (p+(Da (b.drop p)).1.toNat)).1,0)else([],(Cm b j (p+(Da (b.drop p)).1.toNat)).2)
theorem uJ(b:List UInt8):∀(j p:Nat),p<=b.length->p<=4000-> (Cm b j p).2=0-> (∀x∈(Cm b j p).1,10<=x)/\ (p:Int)+(Cm b j p).1.sum<=b.length/\ (p:Int)+(Cm b j p).1.sum<=4000
 |0,p,_,_,h=>by simp[Cm]at h
 |j+1,p,hp,hq,h=>by
  rw[Cm]at h⊢;split at h
  ·rename_i h6;rw[Acf h6];simp;omega
  ·rename_i h6;split at h
   ·rename_i h0;exact absurd h h0
   ·rename_i h0;rw[Aan h6,Aan h0];have hz:Da (b.drop p)=((Da (b.drop p)).1,0):=by rw[Prod.ext_iff];exact⟨rfl,Classical.not_not.1 h0⟩
    have hs:=rS hz;rw[Ah5]at hs;split at h
    ·simp at h
    ·rename_i h4;rw[Aan h4];split at h
     ·rename_i h00;rw[Acf h00];obtain⟨i1,i2,i3⟩:=uJ b j _ (by omega) (by omega) h00;refine⟨λx hx=>?_,?_,?_⟩
      ·rcases List.mem_cons.1 hx with rfl|hx
       ·exact hs.1
       ·exact i1 x hx
      ·simp only[Azg];omega
      ·simp only[Azg];omega
     ·rename_i h00;exact absurd h h00
def Z8(b:List UInt8)(j p:Nat):Int×Int:=if(Cm b j p).2=0 then((p:Int)+(Cm b j p).1.sum,0)else(0,(Cm b j p).2)
theorem qg(b:List UInt8)(hl:b.length<4611686018427387904):∀(j p q:Nat),p<=b.length->p<=4000->b.length-p<j->j<=q->Xy b q (p:Int)=some (Z8 b j p)
 |0,p,q,_,_,h,_=>by omega
 |j+1,p,q,hp,hp4,hj,hq=>by
  obtain⟨q,rfl⟩:∃k,q=k+1:=⟨q-1,by omega⟩;rw[Xy,Bv,Aa,Ahe,size_eq _ (by simp;omega),Aa,As,As,Ah,Z8];by_cases h6:(Da (b.drop p)).2=6
  ·rw[Acf (by simpa using h6)];have:Cm b (j+1) p=([],0):=by rw[Cm,Acf h6]
   rw[this];simp
  ·rw[Aan (by simpa using h6)];by_cases h0:(Da (b.drop p)).2=0
   ·have hz:Da (b.drop p)=((Da (b.drop p)).1,0):=by rw[Prod.ext_iff];exact⟨rfl,h0⟩
    have hs:=rS hz;rw[Ah5]at hs;rw[Aj,Aq];by_cases h4:4000<(p:Int)+(Da (b.drop p)).1
    ·rw[Acf (by simp[h0];omega)];have:Cm b (j+1) p=([],4):=by rw[Cm,Aan h6,Aan (λh=>h h0),Acf h4]
     rw[this];simp
    ·rw[Aan (by simp[h0];omega),Aan (by simpa using h0)];have ih:=qg b hl j (p+(Da (b.drop p)).1.toNat) q (by omega) (by omega) (by omega) (by omega);rw[show(p:Int)+(Da (b.drop p)).1=((p+(Da (b.drop p)).1.toNat:Nat):Int) by omega,ih,Z8];have:Cm b (j+1) p=if(Cm b j (p+(Da (b.drop p)).1.toNat)).2=0 then((Da (b.drop p)).1::(Cm b j (p+(Da (b.drop p)).1.toNat)).1,0)else([],(Cm b j (p+(Da (b.drop p)).1.toNat)).2):=by
      rw[Cm,Aan h6,Aan (λh=>h h0),Aan h4]
     rw[this];by_cases hr:(Cm b j (p+(Da (b.drop p)).1.toNat)).2=0
     ·simp only[hr,Bhg,Azg];congr 2;omega
     ·simp only[hr,Bev]
   ·rw[Aan (by simp[h0]),Acf (by simpa using h0)];have:Cm b (j+1) p=([],(Da (b.drop p)).2):=by rw[Cm,Aan h6,Acf h0]
    rw[this];simp[h0]
def Arp(b:List UInt8)(j p:Nat)(xs:List Int):List Int×Int:=if(Cm b j p).2=0 then(xs++(Cm b j p).1,0)else([],(Cm b j p).2)
theorem Arw(bk:Int->List Int->Option (List Int×Int))(b:List UInt8)(p:Nat)(hp:p<=b.length)(xs:List Int)(hx:xs.length<=4000)(hl:b.length<4611686018427387904):Yu (Qz bk b) b (p:Int) xs=Qz bk b (p:Int) xs (Da (b.drop p)).1 (Da (b.drop p)).2:=by
 have hf:=Aol (b.drop p) (by simp;omega);rw[Yu,Bv,Aa,Ahe,At2 _ (by simp;omega),Aa];by_cases h:(Zj (b.drop p)).2=6
 ·simp[Da,h,As,hf]
 ·simp[Da,h,As]
theorem Aa1(b:List UInt8)(hl:b.length<4611686018427387904):∀(j p q:Nat) (xs:List Int),p<=b.length->p<=4000->b.length-p<j->j<=q->xs.length<=p->Qr b q (p:Int) xs=some (Arp b j p xs)
 |0,p,q,_,_,_,h,_,_=>by omega
 |j+1,p,q,xs,hp,hp4,hj,hq,hx=>by
  obtain⟨q,rfl⟩:∃k,q=k+1:=⟨q-1,by omega⟩;rw[Qr,Arw _ b p hp xs (by omega) hl,Qz,OD,As,Ah,Arp];by_cases h6:(Da (b.drop p)).2=6
  ·rw[Acf (by simpa using h6)];have:Cm b (j+1) p=([],0):=by rw[Cm,Acf h6]
   rw[this];simp
  ·rw[Aan (by simpa using h6)];by_cases h0:(Da (b.drop p)).2=0
   ·have hz:Da (b.drop p)=((Da (b.drop p)).1,0):=by rw[Prod.ext_iff];exact⟨rfl,h0⟩
    have hs:=rS hz;rw[Ah5]at hs;rw[Aan (by simpa using h0),Aj,Aq];by_cases h4:4000<(p:Int)+(Da (b.drop p)).1
    ·rw[Acf (by simp;omega)];have:Cm b (j+1) p=([],4):=by rw[Cm,Aan h6,Aan (λh=>h h0),Acf h4]
     rw[this];simp
    ·rw[Aan (by simp;omega),Bg (by simp;omega),Aa];have ih:=Aa1 b hl j (p+(Da (b.drop p)).1.toNat) q (xs++[(Da (b.drop p)).1]) (by omega) (by omega) (by omega) (by omega) (by simp;omega);rw[show(p:Int)+(Da (b.drop p)).1=((p+(Da (b.drop p)).1.toNat:Nat):Int) by omega,ih,Arp];have:Cm b (j+1) p=if(Cm b j (p+(Da (b.drop p)).1.toNat)).2=0 then((Da (b.drop p)).1::(Cm b j (p+(Da (b.drop p)).1.toNat)).1,0)else([],(Cm b j (p+(Da (b.drop p)).1.toNat)).2):=by
      rw[Cm,Aan h6,Aan (λh=>h h0),Aan h4]
     rw[this];by_cases hr:(Cm b j (p+(Da (b.drop p)).1.toNat)).2=0
     ·simp only[hr,Bhg];simp
     ·simp only[hr,Bev]
   ·rw[Acf (by simpa using h0)];have:Cm b (j+1) p=([],(Da (b.drop p)).2):=by rw[Cm,Aan h6,Acf h0]
    rw[this];simp[h0]
theorem S3:∀{l:List Int},(∀x∈l,10<=x)->0<=l.sum/\ (l.length:Int)<=l.sum
 |[],_=>by simp
 |x::l,h=>by
  have h1:=h x Avi;have h2:=S3 (l:=l) λy hy=>h y (Ama _ hy);simp only[Azg,Aqj];omega
theorem W8(r:Int)(l:List Int)(hl:l.length<=4000)(hx:∀x∈l,10<=x):∀(j i q:Nat) (n:Int),i+j=l.length->j<q->0<=n->n+(l.drop i).sum<=4000->Lr r l q n (i:Int)=some (n+(l.drop i).sum,r)
 |0,i,q+1,n,hi,_,_,_=>by
  rw[Lr,Yd,Aan (by rw[Ae,Ac];simp;omega),show i=l.length by omega,Beb];simp[OS,NP]
 |j+1,i,q+1,n,hi,hq,hn,hs=>by
  have hlt:i<l.length:=by omega
  rw[drop_cons hlt,Azg]at hs⊢;have h1:=hx l[i] (Aqp hlt);have h2:=S3 (l:=l.drop (i+1)) λy hy=>hx y (Be1 hy);rw[Lr,Yd,Acf (by rw[Ae,Ac];simp;omega),Br hlt,Aa,Aa,Aj,Aj];have ih:=W8 r l hl hx j (i+1) q (n+l[i]) (by omega) (by omega) (by omega) (by omega);rw[show((i:Int)+1)=((i+1:Nat):Int) by omega,ih];congr 2;omega
def Bq(b:List UInt8):Int×Int:=Z8 b (b.length+1) 0
theorem Px(b:List UInt8)(hl:b.length<4611686018427387904):Jr b=some (Bq b):=by
 have:=qg b hl (b.length+1) 0 Au (by omega) (by omega) (by omega) (by have:=Ar;omega);exact this
theorem BT(b:List UInt8)(hl:b.length<4611686018427387904):Ml b=some (Bq b):=by
 have h:=Aa1 b hl (b.length+1) 0 Au [] (by omega) (by omega) (by omega) (by have:=Ar;omega) (by simp);have h':ZF b=some (Arp b (b.length+1) 0 []):=h;rw[Ml,OB,h',Aa,Bq,Z8,Arp];have ho:=uJ b (b.length+1) 0 (by omega) (by omega);by_cases h0:(Cm b (b.length+1) 0).2=0
 ·obtain⟨i1,i2,i3⟩:=ho h0;have hp:=S3 i1;simp only[h0,Bhg,Auy];have:=W8 0 (Cm b (b.length+1) 0).1 (by omega) i1 (Cm b (b.length+1) 0).1.length 0 Au 0 (by omega) (by have:=Ar;omega) (by omega) (by simpa using i3);simpa [Yg]using this
 ·simp only[h0,Bev];have:=W8 (Cm b (b.length+1) 0).2 [] (by simp) (by simp) 0 0 Au 0 (by simp) (by have:=Ar;omega) (by omega) (by simp);simpa [Yg]using this
theorem BI{b:List UInt8}(h:(Bq b).2=0):0<= (Bq b).1/\ (Bq b).1<=b.length/\ (Bq b).1<=4000:=by
 unfold Bq Z8 at h⊢;split at h
 ·rename_i h0;rw[Acf h0];obtain⟨i1,i2,i3⟩:=uJ b (b.length+1) 0 (by omega) (by omega) h0;have hp:=S3 i1;exact⟨by simp;omega,i2,i3⟩
 ·rename_i h0;exact absurd h h0
def Ag(r:Nat):Nat:=max 1 (256*r/245)
theorem Em(r:Nat):1<=Ag r:=Nat.le_max_left _ _
theorem TI{r:Nat}(h:r<=1048576):Ag r<=1100000:=by unfold Ag;omega
theorem qi{r:Nat}(h:r<=1048576):uT (1:Int) (Bt (Bf (256:Int) (r:Int)) (245:Int))=(Ag r:Int):=by
 rw[Fa,UZ,Bcd (by omega),De (by omega) (by omega),Ac4,Ag];omega
def Ak(g n:Nat):List Int:=List.replicate ((n-1)/g) (g:Int)++[((n-(n-1)/g*g:Nat):Int)]
theorem AH(g n:Nat):(Ak g n).length=(n-1)/g+1:=by simp[Ak]
theorem RX{g n:Nat}(h:n<=g)(h1:1<=n):Ak g n=[(n:Int)]:=by
 rw[Ak,Bd7 (by omega)];simp
theorem sT{g n:Nat}(hg:1<=g)(h:g<n):Ak g n=(g:Int)::Ak g (n-g):=by
 have e:(n-1)/g=(n-g-1)/g+1:=by rw[<-Nat.add_div_right _ (by omega)];congr 1;omega
 rw[Ak,Ak,e,Bcb,Bek];congr 4;have:=Bcc (n-g-1) g;rw[Ajz,Azu];omega
theorem yG{g n:Nat}(hg:1<=g)(h1:1<=n):(n+g-1)/g=(n-1)/g+1:=by
 rw[<-Nat.add_div_right _ (by omega)];congr 1;omega
theorem sZ{r:Nat}(h1:1<=r)(h:r<=1048576):Oq (r:Int)=some ((Ag r:Int),0):=by
 rw[Oq,Aan (by simp[Ae,Aq];omega),qi h]
theorem Asy{r:Nat}(h:r<=1048576):Zl (r:Int)=some (Ag r:Int):=by rw[Zl,qi h]
theorem lC{r n:Nat}(h1:1<=r)(h:r<=1048576)(n1:1<=n)(n2:n<=4000):Kb (r:Int) (n:Int)=some (if 1000<(n-1)/Ag r+1 then(0,4)else((((n-1)/Ag r+1:Nat):Int),0)):=by
 have hp:=Em r;have hl:=TI h;have e:Bt (Ao (Ad (n:Int) (Ag r:Int)) (1:Int)) (Ag r:Int)=(((n-1)/Ag r+1:Nat):Int):=by
  have:(n+Ag r-1)/Ag r<=n+Ag r-1:=Aq1 _ _;rw[Aj,Bu,UZ,Bcd (by omega),show(n:Int)+(Ag r:Int)-1=((n+Ag r-1:Nat):Int) by omega,<-Int.natCast_ediv,yG hp n1];rw[yG hp n1]at this;generalize(n-1)/Ag r=k at*
  exact De (by omega) (by omega)
 rw[Kb,sZ h1 h,Aa];simp only;rw[Aan (by rw[Ah];simp),Aan (by simp[Ae,Aq];omega),Bj (by rw[Ah];simp;omega),Aa,e];by_cases hk:1000<(n-1)/Ag r+1
 ·rw[Acf (by rw[Aq];simp;omega),Acf hk]
 ·rw[Aan (by rw[Aq];simp;omega),Aan hk]
theorem qx{r:Nat}(h:r<=1048576):∀(j n q:Nat) (acc:List Int),n<=4000->n<=j->j<q->acc.length+n<=10000->Gn (r:Int) q (n:Int) acc=some (acc++(if n=0 then []else Ak (Ag r) n))
 |0,n,q+1,acc,hn,hj,hq,ha=>by
  obtain rfl:n=0:=by omega
  rw[Gn,Lw,Aan (by rw[Aq];simp)];simp[Ra,Qu]
 |j+1,n,q+1,acc,hn,hj,hq,ha=>by
  have hp:=Em r;have hl:=TI h;by_cases h0:n=0
  ·subst h0;rw[Gn,Lw,Aan (by rw[Aq];simp)];simp[Ra,Qu]
  ·rw[Gn,Lw,Acf (by rw[Aq];simp;omega),Asy h,Aa,Bg (by simp;omega),Aa,Aa,Bu,FH];by_cases hs:n<=Ag r
   ·rw[show min (n:Int) (Ag r:Int)=(n:Int) by omega,Aan h0,RX hs (by omega)];have hz:∃k,q=k+1:=⟨q-1,by omega⟩;obtain⟨q,rfl⟩:=hz;rw[Gn,Lw,Aan (by rw[Aq];simp;omega)];simp[Ra,Qu]
   ·rw[show min (n:Int) (Ag r:Int)=(Ag r:Int) by omega,show(n:Int)-(Ag r:Int)=((n-Ag r:Nat):Int) by omega,qx h j (n-Ag r) q _ (by omega) (by omega) (by omega) (by simp;omega),Aan (by omega),Aan h0,sT hp (show Ag r<n by omega)];simp
theorem iO{r n:Nat}(h:r<=1048576)(n1:1<=n)(n2:n<=4000):Fw (r:Int) (n:Int)=some (Ak (Ag r) n):=by
 have:=qx h n n Au [] n2 (Ao7 _) (by have:=Ar;omega) (by simp;omega);rw[Fw,OA,NN,this,Aan (by omega)];rfl
theorem mul_one(m:Nat)(h:m<=100000):RW (1:UInt64) (UInt64.ofNat m)=some (0,UInt64.ofNat m):=by
 have y1:(UInt64.ofNat m).toNat=m:=eK (by omega);have s1:Ci (1:UInt64) (GI.toZ (32:UInt64)).toNat=0:=by decide
 have s2:Ci (UInt64.ofNat m) (GI.toZ (32:UInt64)).toNat=0:=by
  apply UInt64.toNat_inj.1;rw[EI,y1];exact Bd7 (Bee h (by decide))
 have s0:Ci (0:UInt64) (GI.toZ (32:UInt64)).toNat=0:=by decide
 have a1:Et (1:UInt64) (4294967295:UInt64)=1:=by decide
 have a0:Et (0:UInt64) (4294967295:UInt64)=0:=by decide
 have a2:Et (UInt64.ofNat m) (4294967295:UInt64)=UInt64.ofNat m:=by
  apply UInt64.toNat_inj.1;rw[zU,Bhc,y1]
  show m&&& (2^32-1)=m;rw[Ben,Adz (by omega)]
 have m1:∀x:UInt64,Bf 1 x=x:=λx=>by rw[TN,UInt64.one_mul]
 have m0:∀x:UInt64,Bf 0 x=0:=λx=>by rw[TN,UInt64.zero_mul]
 have p0:∀x:UInt64,Ad 0 x=x:=λx=>by rw[TT,UInt64.zero_add]
 have p1:∀x:UInt64,Ad x 0=x:=λx=>by rw[TT,UInt64.add_zero]
 rw[RW,VN];simp only[s1,s2,a1,a2,m1,m0,p0,p1,s0,a0,Aa]
theorem M8(v:Int)(m:Nat)(hm:m<=100000):∀(j n q:Nat),1<=n->n<=m->m-n<=j->j<q->Gj q (n:Int) (List.replicate n v++List.replicate (m-n) 0)=some (List.replicate m v)
 |j,n,q+1,hn,hnm,hj,hq=>by
  have hlen:Ac (List.replicate n v++List.replicate (m-n) 0)=(m:Int):=by simp[Ac];omega
  rw[Gj,Iq,hlen];by_cases h:n<m
  ·obtain⟨j,rfl⟩:∃k,j=k+1:=⟨j-1,by omega⟩;rw[Acf (by rw[Ae];simp;omega)];have v1:iM (m:Int) (n:Int) (m:Int)=some ():=by rw[iM,Bj];simp;omega
   have v2:iM (m:Int) (0:Int) (n:Int)=some ():=by rw[iM,Bj];simp;omega
   have e1:aV (List.replicate n v++List.replicate (m-n) 0) (0:Int) ((n:Int)-0)=List.replicate n v:=by
    simp[aV]
   rw[v1,Aa,v2,Aa,e1];have e2:bC ((m:Int)-(n:Int)) (List.replicate n v).length=((min n (m-n):Nat):Int):=by
    rw[bC,Au9];split<;>omega
   have e3:Yf (List.replicate n v++List.replicate (m-n) 0) (n:Int) ((m:Int)-(n:Int)) (List.replicate n v)=List.replicate (n+min n (m-n)) v++List.replicate (m-(n+min n (m-n))) 0:=by
    have t1:((m:Int)-(n:Int)).toNat=m-n:=by omega
    have t2:(List.replicate n v++List.replicate (m-n) (0:Int)).take n=List.replicate n v:=by simp
    rw[Yf,t1,Ahe,t2,List.take_replicate,Au9,<-Ae8,List.replicate_append_replicate,List.drop_append,Au9,Nat.min_comm (m-n) n];simp only[List.drop_replicate];rw[show n-(n+min n (m-n))=0 by omega,List.replicate_zero,Auy,show m-n-(n+min n (m-n)-n)=m-(n+min n (m-n)) by omega]
   rw[e2,e3,Aj,show(n:Int)+((min n (m-n):Nat):Int)=((n+min n (m-n):Nat):Int) by omega];exact M8 v m hm j (n+min n (m-n)) q (by omega) (by omega) (by omega) (by omega)
  ·rw[Aan (by rw[Ae];simp;omega)];obtain rfl:n=m:=by omega
   simp[Ll,Rh]
theorem Ap6(v:Int)(m:Nat)(hm:m<=100000):Qy [v] (m:Int)=some (List.replicate m v):=by
 have y1:(UInt64.ofNat m).toNat=m:=eK (by omega);have c1:(Af (Ac [v]):UInt64)=1:=by rfl
 have c2:(Af (m:Int):UInt64)=UInt64.ofNat m:=Yb m;have c3:(Af (UInt64.ofNat m):Int)=(m:Int):=by rw[K3 (by omega),y1]
 rw[Qy,Tg,Aan (by rw[Ae];simp),Tl,Sp,c1,c2,mul_one m hm,Aa];simp only;rw[Aan (by rw[dI,dI,y1];simp;show m<=9223372036854775807;omega),Td,Tk,c3,rZ,Aa,Bj (by rw[As];simp),Aa,Ti,Ahe];by_cases h0:m=0
 ·subst h0;have hF:Au=(Au-1)+1:=by have:=Ar;omega
  rw[hF,Gj,Iq];simp[Ac,XG,bC,Ae,Ll,Rh]
 ·have:=M8 v m hm m 1 Au (by omega) (by omega) (by omega) (by have:=Ar;omega);have e1:bC (Ac (List.replicate m (0:Int))) [v].length=((1:Nat):Int):=by simp[bC,Ac];omega
  have e2:XG (List.replicate m (0:Int)) [v]=List.replicate 1 v++List.replicate (m-1) 0:=by
   obtain⟨k,rfl⟩:∃k,m=k+1:=⟨m-1,by omega⟩;simp[XG]
  rw[e1,e2,this]
theorem Apn(l m:List Int)(h:l.length+m.length<=1000000):Qs [l,m]=some (l++m):=by
 have hF:Au=(Au-3)+1+1+1:=by have:=Ar;omega
 rw[Qs,Tf,Sy];have g0:Ap [l,m] (0:Int)=some l:=rfl;have g1:Ap [l,m] (1:Int)=some m:=rfl;have l2:Ac [l,m]=2:=rfl;have h3:Ln [l,m] []=some (l++m):=by
  rw[Ln,Ri,Rm,hF,Fs,Ia,l2,Acf (by decide),g0,Aa,Bg (by simp;omega),Aa,Auy,show Ad (0:Int) 1=1 by decide,
   Fs,Ia,l2,Acf (by decide),g1,Aa,Bg,Aa,show Ad (1:Int) 1=2 by decide,Fs,Ia,l2,Aan (by decide)]
  rfl
 rw[hF,Gh,Io,l2,Acf (by decide),g0,Aa,Aj (by unfold Ac;omega) (by unfold Ac;omega),Aan (by rw[Ae,Ac];simp),show Ad (0:Int) 1=1 by decide,
  Gh,Io,l2,Acf (by decide),g1,Aa,Aj (by unfold Ac;omega) (by unfold Ac;omega),Aan (by rw[Ae,Ac,Ac];simp;omega),show Ad (1:Int) 1=2 by decide,
  Gh,Io,l2,Aan (by decide),Rf,Rn,Aan (by rw[Ae,Ac,Ac];simp;omega),Rl,Rj]
 have z:Ao (0:Int) 0=0:=by decide
 have n0:(0:Int)+Ac l+Ac m=((l.length+m.length:Nat):Int):=by simp[Ac]
 rw[z,n0,Bu,Int.sub_zero];by_cases hp:0<l.length+m.length
 ·rw[Acf (by rw[Aq];simp;omega),show iM (0:Int) 0 0=some ()from rfl,Aa,rZ,Aa,Bg (by simp;omega),Aa];rw[show iM (Ac ([]++List.replicate ((l.length+m.length:Nat):Int).toNat (0:Int))) 0 0=some () by rw[iM,Bj];simp[Ac];omega,Aa];simp only[aV,Int.sub_self,Int.toNat_zero,Bbt];exact h3
 ·rw[Aan (by rw[Aq];simp;omega)];exact h3
theorem Ahj{r n:Nat}(h1:1<=r)(h:r<=1048576)(n1:1<=n)(n2:n<=4000)(hk:(n-1)/Ag r+1<=1000):AF (r:Int) (n:Int)=some (Ak (Ag r) n,0):=by
 have hp:=Em r;have hl:=TI h;have hd:=Bcc (n-1) (Ag r);rw[AF,lC h1 h n1 n2,Aan (by omega),Aa];simp only;rw[Aan (by rw[Ah];simp),sZ h1 h,Aa];simp only;rw[Ak];generalize(n-1)/Ag r=k at*
 have e1:Ao ((k+1:Nat):Int) 1=(k:Int):=by rw[Bu];omega
 have e2:(k:Int)*(Ag r:Int)=((k*Ag r:Nat):Int):=by simp
 rw[e1,Ap6 _ _ (by omega),Aa,Fa (by rw[e2];omega) (by rw[e2];omega),e2,Bu,aH,Apn _ _ (by simp;omega),Aa,Aa,show(n:Int)-((k*Ag r:Nat):Int)=((n-k*Ag r:Nat):Int) by omega]
def Fu(f c w r n:Nat):Bool:=decide ((f=1\/f=2)/\ (1<=c/\c<=6)/\ (w=8\/w=16\/w=24)/\ (1<=r/\r<=1048576)/\1<=n)
def Yj(c r n:Nat):Bool:=decide (n<=4000/c/\ (n-1)/Ag r+1<=1000)
theorem cX(f c w r n:Nat):Sn (f:Int) (c:Int) (w:Int) (r:Int) (n:Int)=some (Fu f c w r n):=by
 have e2:Pp (f:Int) (c:Int) (w:Int) (r:Int) (n:Int)=some (decide ((f=1\/f=2)/\ (1<=c/\c<=6)/\ (1<=r/\r<=1048576)/\1<=n)):=by
  rw[Pp,PQ];congr 1;rw[Ako];simp only[As,Aq,TV,Ady,Azr,Avz,Adx];omega
 have g:∀k:Nat,geq (w:Int) (k:Int)=decide (w=k):=λk=>by rw[As,Ako];simp;omega
 have g8:geq (w:Int) (8:Int)=decide (w=8):=g 8;have g16:geq (w:Int) (16:Int)=decide (w=16):=g 16;have g24:geq (w:Int) (24:Int)=decide (w=24):=g 24;rw[Sn,BM,e2,g8,g16,g24,Fu];by_cases h8:w=8
 ·subst h8;simp
 ·by_cases h16:w=16
  ·subst h16;simp
  ·by_cases h24:w=24
   ·subst h24;simp
   ·simp[h8,h16,h24]
theorem xU(f c w r n:Nat):Lc (f:Int) (c:Int) (w:Int) (r:Int) (n:Int)=some (Fu f c w r n):=by
 rw[Lc,Fu];simp only[As,Ea,TV,Ady,Azr,Avz,Adx,Bgm];split
 ·rename_i h;congr 1;rw[Ako];simp only[Ady,Azr,Avz,Adx];omega
 ·rename_i h;congr 1;symm;rw[Azw];omega
theorem Azi{c:Nat}(h:1<=c):Bt (4000:Int) (c:Int)=((4000/c:Nat):Int):=by
 have:4000/c<=4000:=Aq1 _ _;rw[UZ,Bcd (by omega),show(4000:Int)=((4000:Nat):Int)from rfl,<-Int.natCast_ediv];generalize 4000/c=k at*
 exact De (by omega) (by omega)
theorem tK{f c w r n:Nat}(h:Fu f c w r n=true):UG (f:Int) (c:Int) (w:Int) (r:Int) (n:Int)=some (Yj c r n):=by
 simp only[Fu,Adx]at h;have hd:4000/c<=4000:=Aq1 _ _;rw[UG,Bj (by rw[Ah];simp;omega),Aa,Azi (by omega),Yj];generalize 4000/c=m at*
 by_cases h1:n<=m
 ·rw[Aan (by rw[Aq];simp;omega),lC (by omega) (by omega) (by omega) (by omega),Aa];generalize(n-1)/Ag r+1=k;by_cases h2:1000<k
  ·rw[Acf h2];simp[As,TV];omega
  ·rw[Aan h2];simp[As,TV,h1];omega
 ·rw[Acf (by rw[Aq];simp;omega)];simp[h1]
theorem xc{f c w r n:Nat}(h:Fu f c w r n=true):Zq (f:Int) (c:Int) (w:Int) (r:Int) (n:Int)=some (!Yj c r n):=by
 simp only[Fu,Adx]at h;have hd:4000/c<=4000:=Aq1 _ _;rw[Zq,Bj (by rw[Ah];simp;omega),Aa,Azi (by omega),Yj];generalize 4000/c=m at*
 by_cases h1:n<=m
 ·rw[Aan (by rw[Aq];simp;omega),iO (by omega) (by omega) (by omega),Aa,Ac,AH];generalize(n-1)/Ag r+1=k;congr 1;rw[Aq,Ako];simp only[Adx,Awi,Azw];omega
 ·rw[Acf (by rw[Aq];simp;omega)];simp[h1]
def Pg:List UInt8:=[84,84,65,49]
def f0(b:List UInt8):Nat:=Gd (part b 4 2)
def f1(b:List UInt8):Nat:=Gd (part b 6 2)
def f2(b:List UInt8):Nat:=Gd (part b 8 2)
def f3(b:List UInt8):Nat:=Gd (part b 10 4)
def f4(b:List UInt8):Nat:=Gd (part b 14 4)
abbrev H6:=Int×Int×Int×Int×Int×Int
def Ek(b:List UInt8):H6:=
 if b.take (min 4 b.length)≠Pg.take (min 4 b.length)then(0,0,0,0,0,12)else if b.length<22 then(0,0,0,0,0,24)else
 if(Ez (b.take 18)).toNat≠Gd (part b 18 4)then(0,0,0,0,0,22)else
 if Fu (f0 b) (f1 b) (f2 b) (f3 b) (f4 b)=false then(0,0,0,0,0,12)else
 if Yj (f1 b) (f3 b) (f4 b)=false then(0,0,0,0,0,4)else((f0 b:Int),(f1 b:Int),(f2 b:Int),(f3 b:Int),(f4 b:Int),0)
section
variable {b:List UInt8}
theorem rs1(h:b.take (min 4 b.length)≠Pg.take (min 4 b.length)):Ek b=(0,0,0,0,0,12):=by rw[Ek,Acf h]
variable (h:b.take (min 4 b.length)=Pg.take (min 4 b.length))
include h
theorem rs2(h2:b.length<22):Ek b=(0,0,0,0,0,24):=by rw[Ek,Aan (λe=>e h),Acf h2]
variable (h2:¬b.length<22)
include h2
theorem rs3(h3:(Ez (b.take 18)).toNat≠Gd (part b 18 4)):Ek b=(0,0,0,0,0,22):=by rw[Ek,Aan (λe=>e h),Aan h2,Acf h3]
variable (h3:(Ez (b.take 18)).toNat=Gd (part b 18 4))
include h3
theorem rs4(h4:Fu (f0 b) (f1 b) (f2 b) (f3 b) (f4 b)=false):Ek b=(0,0,0,0,0,12):=by rw[Ek,Aan (λe=>e h),Aan h2,Aan (λe=>e h3),Acf h4]
variable (h4:Fu (f0 b) (f1 b) (f2 b) (f3 b) (f4 b)=true)
include h4
theorem rs5(h5:Yj (f1 b) (f3 b) (f4 b)=false):Ek b=(0,0,0,0,0,4):=by rw[Ek,Aan (λe=>e h),Aan h2,Aan (λe=>e h3),Aan (by rw[h4];simp),Acf h5]
theorem rs6(h5:Yj (f1 b) (f3 b) (f4 b)=true):Ek b=((f0 b:Int),(f1 b:Int),(f2 b:Int),(f3 b:Int),(f4 b:Int),0):=by rw[Ek,Aan (λe=>e h),Aan h2,Aan (λe=>e h3),Aan (by rw[h4];simp),Aan (by rw[h5];simp)]
end
theorem Aq7(b:List UInt8)(h2:¬b.length<22):Bc (Af (Ez (b.take 18)):UInt64) (vN (part b 18 4))=decide ((Ez (b.take 18)).toNat≠Gd (part b 18 4)):=by
 rw[XQ,Dx,Ako];simp only[Bgu,ne_eq,Adx];rw[<-Bge,eK (by have:=(Ez (b.take 18)).toNat_lt;omega),eL (by rw[Ey];omega)]
theorem pN(b:List UInt8)(a w:Nat)(i q:Nat)(l:List Int)(hi:i<5)(hl:l.length=5)(hw:Ap ([2,2,2,4,4]:List Int) (i:Int)=some (w:Int))(h1:1<=w)(h4:w<=4)(ha:a+w<=b.length)(hb:b.length<4611686018427387904):
  Py b (q+1) (a:Int) (i:Int) l=Py b q ((a+w:Nat):Int) ((i+1:Nat):Int) (l.set i (Gd (part b a w):Int)):=by
 rw[Py,JD,Acf (by rw[Ae];simp;omega),hw,Aa,zk b a w h1 (by omega) ha hb,Aa];simp only;rw[Br,Aa,Vr _ (by omega),Aa,RV (by rw[Ey ha];omega),Aj,Aj];rfl
theorem Asp(b:List UInt8)(h22:¬b.length<22)(hb:b.length<4611686018427387904):KD b 4 0 (List.replicate 5 0)=JB [(f0 b:Int),(f1 b:Int),(f2 b:Int),(f3 b:Int),(f4 b:Int)]:=by
 have hF:Au=(Au-6)+1+1+1+1+1+1:=by have:=Ar;omega
 rw[KD,hF,show(4:Int)=((4:Nat):Int)from rfl,show(0:Int)=((0:Nat):Int)from rfl];rw[pN b 4 2 0 _ _ (by omega) (by simp) rfl (by omega) (by omega) (by omega) hb,pN b 6 2 1 _ _ (by omega) (by simp) rfl (by omega) (by omega) (by omega) hb,pN b 8 2 2 _ _ (by omega) (by simp) rfl (by omega) (by omega) (by omega) hb,
  pN b 10 4 3 _ _ (by omega) (by simp) rfl (by omega) (by omega) (by omega) hb,pN b 14 4 4 _ _ (by omega) (by simp) rfl (by omega) (by omega) (by omega) hb,Py,JD,Aan (by rw[Ae];simp)]
 rfl
theorem Be5(b:List UInt8):Ke [84,84,65,49] (b.take (min 4 b.length))=some (decide (b.take (min 4 b.length)=Pg.take (min 4 b.length))):=by
 have hl:(b.take (min 4 b.length)).length=min 4 b.length:=by rw[Ahn];omega
 rw[Ke,Hw,Acf (by rw[Ea,Ac,Ac,hl];simp;omega),Ac,hl,Dk (by omega) (by simp;omega),Aa,Aa,Ahe];congr 1;rw[Ako];rw[Adx,Avz];exact eq_comm
theorem Bdk(b:List UInt8):Fi (4:Int) (Ac b)=((min 4 b.length:Nat):Int):=by rw[FH,Ac];omega
theorem QJ(b:List UInt8)(hb:b.length<4611686018427387904):Mw b=some (Ek b):=by
 rw[Mw,bF,Bdk,Dk,Aa,Ahe,Be5,Aa];by_cases h:b.take (min 4 b.length)=Pg.take (min 4 b.length)
 ·rw[Aan (by simpa using h)];by_cases h2:b.length<22
  ·rw[Acf (by rw[Ae,Ac];simp;omega),rs2 h h2]
  ·have a1:iY b 18 4=some (vN (part b 18 4),0):=zk b 18 4 (by omega) (by omega) (by omega) hb;rw[Aan (by rw[Ae,Ac];simp;omega),a1,Aa];simp only;rw[Dk,Aa,show(18:Int).toNat=18 from rfl,I5 _ (by simp;omega),Aa];simp only;rw[Aq7 b h2];by_cases h3:(Ez (b.take 18)).toNat=Gd (part b 18 4)
   ·rw[Aan (by simpa using h3),Asp b h2 hb,JB,sJ];rw[show Ap [(f0 b:Int),(f1 b:Int),(f2 b:Int),(f3 b:Int),(f4 b:Int)] 0=some (f0 b:Int)from rfl,show Ap [(f0 b:Int),(f1 b:Int),(f2 b:Int),(f3 b:Int),(f4 b:Int)] 1=some (f1 b:Int)from rfl,show Ap [(f0 b:Int),(f1 b:Int),(f2 b:Int),(f3 b:Int),(f4 b:Int)] 2=some (f2 b:Int)from rfl,
     show Ap [(f0 b:Int),(f1 b:Int),(f2 b:Int),(f3 b:Int),(f4 b:Int)] 3=some (f3 b:Int)from rfl,show Ap [(f0 b:Int),(f1 b:Int),(f2 b:Int),(f3 b:Int),(f4 b:Int)] 4=some (f4 b:Int)from rfl]
    simp only[Aa,cX];cases h4:Fu (f0 b) (f1 b) (f2 b) (f3 b) (f4 b)with
    |false=>rw[rs4 h h2 h3 h4];rfl
    |true=>
     rw[tK h4,Aan (by simp),Aa];cases h5:Yj (f1 b) (f3 b) (f4 b)with
     |false=>rw[rs5 h h2 h3 h4 h5];rfl
     |true=>rw[rs6 h h2 h3 h4 h5];rfl
   ·rw[Acf (by simpa using h3),rs3 h h2 h3]
 ·rw[Acf (by simpa using h),rs1 h]
theorem gY(b:List UInt8)(hb:b.length<4611686018427387904):Nm b=some (Ek b):=by
 rw[Nm,SX,Bdk,Dk,Aa,Ahe,Dk (by omega) (by simp;omega),Aa,Ahe];by_cases h:b.take (min 4 b.length)=Pg.take (min 4 b.length)
 ·rw[Aan (by rw[h];simp[Pg]),TZ,TA];by_cases h2:b.length<22
  ·rw[Acf (by rw[Ae,Ac];simp;omega),rs2 h h2]
  ·have a1:Bp b 18 22=some (part b 18 4):=Ry 18 4;have c1:Bp b 4 6=some (part b 4 2):=Ry 4 2;have c2:Bp b 6 8=some (part b 6 2):=Ry 6 2;have c3:Bp b 8 10=some (part b 8 2):=Ry 8 2;have c4:Bp b 10 14=some (part b 10 4):=Ry 10 4;have c5:Bp b 14 18=some (part b 14 4):=Ry 14 4;have hs:Bc (vN (part b 18 4)) (Af (Ez (b.take 18)):UInt64)=decide ((Ez (b.take 18)).toNat≠Gd (part b 18 4)):=by
    rw[<-Aq7 b h2,XQ,XQ,Ako];simp only[Bgu,ne_eq];exact not_congr eq_comm
   have lp:∀a w,a+w<=b.length->El (part b a w)=some (vN (part b a w)):=λa w h=>Agl _ (by rw[Ey h];omega);rw[Aan (by rw[Ae,Ac];simp;omega),a1,Aa,Dk,Aa,show(18:Int).toNat=18 from rfl,lp _ _ (by omega),Aa,Ara _ (by simp;omega),Aa,hs];by_cases h3:(Ez (b.take 18)).toNat=Gd (part b 18 4)
   ·rw[Aan (by simpa using h3),UD,TL,c1,Aa,c2,Aa,c3,Aa,c4,Aa,c5,Aa,lp _ _ (by omega),Aa,lp _ _ (by omega),Aa,lp _ _ (by omega),Aa,lp _ _ (by omega),Aa,lp _ _ (by omega),Aa,
     TW,TK,RV (by rw[Ey];omega),RV (by rw[Ey];omega),RV (by rw[Ey];omega),RV (by rw[Ey];omega),RV (by rw[Ey];omega)]
    rw[show Gd (part b 4 2)=f0 b from rfl,show Gd (part b 6 2)=f1 b from rfl,show Gd (part b 8 2)=f2 b from rfl,show Gd (part b 10 4)=f3 b from rfl,show Gd (part b 14 4)=f4 b from rfl,xU,Aa];cases h4:Fu (f0 b) (f1 b) (f2 b) (f3 b) (f4 b)with
    |false=>rw[rs4 h h2 h3 h4];rfl
    |true=>
     rw[xc h4,Aan (by simp),Aa];cases h5:Yj (f1 b) (f3 b) (f4 b)with
     |false=>rw[rs5 h h2 h3 h4 h5];rfl
     |true=>rw[rs6 h h2 h3 h4 h5];rfl
   ·rw[Acf (by simpa using h3),rs3 h h2 h3]
 ·rw[Acf (by simpa [Pg]using h),rs1 h]
theorem rX{b:List UInt8}(h:(Ek b).2.2.2.2.2=0):Ek b=((f0 b:Int),(f1 b:Int),(f2 b:Int),(f3 b:Int),(f4 b:Int),0)/\22<=b.length/\Fu (f0 b) (f1 b) (f2 b) (f3 b) (f4 b)=true/\Yj (f1 b) (f3 b) (f4 b)=true:=by
 unfold Ek at h⊢;split at h; · simp at h
 rename_i c1;rw[Aan c1];split at h; · simp at h
 rename_i c2;rw[Aan c2];split at h; · simp at h
 rename_i c3;rw[Aan c3];split at h; · simp at h
 rename_i c4;rw[Aan c4];split at h; · simp at h
 rename_i c5;rw[Aan c5];exact⟨rfl,by omega,by simpa using c4,by simpa using c5⟩
theorem qW{f c w r n:Nat}(h:Fu f c w r n=true)(h2:Yj c r n=true):Dw (f:Int) (c:Int) (w:Int) (r:Int) (n:Int)=some (Ak (Ag r) n,0):=by
 have hc:Oo (f:Int) (c:Int) (w:Int) (r:Int) (n:Int)=some 0:=by
  rw[Oo,cX,Aa,h,Aan (by simp),tK h,Aa,h2];rfl
 have hd:4000/c<=4000:=Aq1 _ _;simp only[Fu,Adx]at h;simp only[Yj,Adx]at h2;rw[Dw,hc,Aa,Aan (by rw[Ah];simp),Ahj (by omega) (by omega) (by omega) (by omega) h2.2];rfl
def okL:List Int->Int->Bool
 |[],_=>true
 |x::l,left=>decide (5<=x/\x<=left)&&okL l (left-x)
theorem Ar3:∀l:List Int,(∀x∈l,5<=x)->0<=l.sum
 |[],_=>by simp
 |x::l,h=>by
  have h1:=h x Avi;have h2:=Ar3 l λy hy=>h y (Ama _ hy);rw[Azg];omega
theorem EU:∀(l:List Int) (left:Int),0<=left-> (okL l left=true↔(∀x∈l,5<=x)/\l.sum<=left)
 |[],left,h=>by simp[okL];exact h
 |x::l,left,h=>by
  rw[okL,Ady,Adx,Azg];by_cases hx:5<=x/\x<=left
  ·rw[EU l (left-x) (by omega)];constructor
   ·rintro⟨_,h1,h2⟩;exact⟨λy hy=>(List.mem_cons.1 hy).elim (λe=>e▸hx.1) (h1 y),by omega⟩
   ·rintro⟨h1,h2⟩;exact⟨hx,λy hy=>h1 y (Ama _ hy),by omega⟩
  ·constructor
   ·rintro⟨h1,_⟩;exact absurd h1 hx
   ·rintro⟨h1,h2⟩;have h3:=h1 x Avi;have:0<=l.sum:=Ar3 l λy hy=>h1 y (Ama _ hy);omega
theorem tu(l:List Int)(hl:l.length<=1000):∀(j i q:Nat) (left:Int),i+j=l.length->j<q->0<=left->left<=100000->Vh l q left (i:Int)=some (if okL (l.drop i) left=true then 0 else 8)
 |0,i,q+1,left,hi,_,_,_=>by
  rw[Vh,MY,Aan (by rw[Ae,Ac];simp;omega),show i=l.length by omega,Beb];rfl
 |j+1,i,q+1,left,hi,hq,h0,h1=>by
  have hlt:i<l.length:=by omega
  rw[Vh,MY,Acf (by rw[Ae,Ac];simp;omega),Br hlt,Aa,drop_cons hlt];by_cases h:5<=l[i]/\l[i]<=left
  ·rw[Aan (by simp[Ae,Aq];omega),Bu,Aj];have ih:=tu l hl j (i+1) q (left-l[i]) (by omega) (by omega) (by omega) (by omega);rw[show((i:Int)+1)=((i+1:Nat):Int) by omega,ih];simp[okL,h]
  ·rw[Acf (by simp[Ae,Aq];omega)];have:okL (l[i]::l.drop (i+1)) left=false:=by rw[okL,Bb5 h];rfl
   rw[this];rfl
def Vt(l:List Int):Bool:=decide (1<=l.length/\l.length<=1000)&&okL l 100000
theorem Adv(l:List Int)(hl:l.length<=1000):Sf l=some (if Vt l=true then 0 else 8):=by
 rw[Sf,LZ,Vt];by_cases h:1<=l.length
 ·rw[Aan (by rw[As,Aq,Ac];simp;constructor;(intro e;subst e;simp at h);omega),aO];have:=tu l hl l.length 0 Au 100000 (by omega) (by have:=Ar;omega) (by omega) (by omega);rw[Bg4]at this;rw[Bcx (show 1<=l.length/\l.length<=1000 from⟨h,hl⟩),Ber];exact this
 ·have:l=[]:=by
   cases l with
   |nil=>rfl
   |cons _ _=>simp at h
  subst this;rfl
theorem Aaz(l:List Int)(hl:l.length<=1000):∀(j i q:Nat) (s:Int),i+j=l.length->j<q->0<=s->s<=100000*(i:Int)->Ma l q s (i:Int)=some (if(∀x∈l.drop i,5<=x/\x<=100000)/\s+(l.drop i).sum<=100000 then 0 else 8)
 |0,i,q+1,s,hi,_,_,_=>by
  rw[Ma,Yr,Aan (by rw[Ae,Ac];simp;omega),show i=l.length by omega,Beb,LW,MM];by_cases h:s<=100000
  ·rw[Aan (by rw[Aq];simp;omega),Acf (by simp;omega)]
  ·rw[Acf (by rw[Aq];simp;omega),Aan (by simp;omega)]
 |j+1,i,q+1,s,hi,hq,h0,h1=>by
  have hlt:i<l.length:=by omega
  rw[Ma,Yr,Acf (by rw[Ae,Ac];simp;omega),Br hlt,Aa,drop_cons hlt];by_cases h5:l[i]<5
  ·rw[Acf (by rw[Ae];simpa using h5),Aan (λh=>by have:=(h.1 l[i] Avi).1;omega)]
  ·rw[Aan (by rw[Ae];simpa using h5),Aa];by_cases h6:100000<l[i]
   ·rw[Acf (by rw[Aq];simpa using h6),Aan (λh=>by have:=(h.1 l[i] Avi).2;omega)]
   ·rw[Aan (by rw[Aq];simpa using h6),OH,OC,Br hlt,Aa,Aj,Aj];have ih:=Aaz l hl j (i+1) q (s+l[i]) (by omega) (by omega) (by omega) (by omega);rw[show((i:Int)+1)=((i+1:Nat):Int) by omega,ih];have e:((∀x∈l.drop (i+1),5<=x/\x<=100000)/\s+l[i]+(l.drop (i+1)).sum<=100000)↔((∀x∈l[i]::l.drop (i+1),5<=x/\x<=100000)/\s+(l[i]::l.drop (i+1)).sum<=100000):=by
     rw[Azg,List.forall_mem_cons,Bgy];constructor
     ·rintro⟨a,b⟩;exact⟨⟨by omega,a⟩,b⟩
     ·rintro⟨⟨_,a⟩,b⟩;exact⟨a,b⟩
    simp only[e]
theorem E4:∀{l:List Int},(∀x∈l,5<=x)->∀x∈l,x<=l.sum
 |[],_,x,hx=>by simp at hx
 |y::l,h,x,hx=>by
  have h1:=h y Avi;have h2:=Ar3 l λz hz=>h z (Ama _ hz);rw[Azg];rcases List.mem_cons.1 hx with rfl|hx
  ·omega
  ·have:=E4 (l:=l) (λz hz=>h z (Ama _ hz)) x hx;omega
theorem Ahc(l:List Int)(hl:l.length<=1000):Jd l=some (if Vt l=true then 0 else 8):=by
 rw[Jd,Ye,Vt];by_cases h:1<=l.length
 ·have:=Aaz l hl l.length 0 Au 0 (by omega) (by have:=Ar;omega) (by omega) (by omega);rw[Aan (by rw[Ae,Aq,Ac];simp;omega),OO];refine Bda this ?_;rw[Bg4,Bcx (show 1<=l.length/\l.length<=1000 from⟨h,hl⟩),Ber];have e:((∀x∈l,5<=x/\x<=100000)/\0+l.sum<=100000)↔okL l 100000=true:=by
   rw[EU l 100000 (by omega),Int.zero_add];constructor
   ·rintro⟨a,b⟩;exact⟨λx hx=>(a x hx).1,b⟩
   ·rintro⟨a,b⟩;exact⟨λx hx=>⟨a x hx,Int.le_trans (E4 a x hx) b⟩,b⟩
  simp only[e]
 ·have:l=[]:=by
   cases l with
   |nil=>rfl
   |cons _ _=>simp at h
  subst this;rfl
theorem YR(l:List Int):Sf l=some (if Vt l=true then 0 else 8):=by
 by_cases hl:l.length<=1000
 ·exact Adv l hl
 ·rw[Sf,LZ,Acf (by rw[Aq,Ac];simp;omega),Vt,Bb5 (by omega)];rfl
theorem fH(l:List Int):Jd l=some (if Vt l=true then 0 else 8):=by
 by_cases hl:l.length<=1000
 ·exact Ahc l hl
 ·rw[Jd,Ye,Acf (by rw[Aq,Ac];simp;omega),Vt,Bb5 (by omega)];rfl
theorem Aj4(l:List Int)(hl:l.length<=1000)(hx:∀x∈l,0<=x/\x<4294967296):Sf l=some (if Vt l=true then 0 else 8):=YR l
theorem Aob(l:List Int)(hl:l.length<=1000)(hx:∀x∈l,0<=x/\x<4294967296):Jd l=some (if Vt l=true then 0 else 8):=fH l
def UO(b:List UInt8)(n:Nat):List Int:=(List.range n).map λi=>(Gd (part b (4*i) 4):Int)
theorem Vl(b:List UInt8)(n:Nat):(UO b n).length=n:=by simp[UO]
theorem zx(b:List UInt8)(n:Nat):UO b (n+1)=UO b n++[(Gd (part b (4*n) 4):Int)]:=by simp[UO,List.range_succ]
theorem Akx(b:List UInt8)(n:Nat)(h:4*n<=b.length):∀x∈UO b n,0<=x/\x<4294967296:=by
 intro x hx;simp only[UO,List.mem_map,List.mem_range]at hx;obtain⟨i,hi,rfl⟩:=hx;have:=Ami (l:=part b (4*i) 4) (by rw[Ey];omega);omega
def Ej(b:List UInt8)(n:Nat):List Int×Int:=
 if ¬(1<=n/\n<=1000)then([],2)else if b.length<4*n+4 then([],24)else if(Ez (b.take (4*n))).toNat≠Gd (part b (4*n) 4)then([],22)else
 if Vt (UO b n)=true then(UO b n,0)else([],12)
theorem Al9{b:List UInt8}{n:Nat}(h:1<=n/\n<=1000)(h2:¬b.length<4*n+4):Bc (Af (Ez (b.take (4*n))):UInt64) (vN (part b (4*n) 4))=decide ((Ez (b.take (4*n))).toNat≠Gd (part b (4*n) 4)):=by
 rw[XQ,Dx,Ako];simp only[Bgu,ne_eq,Adx];rw[<-Bge,eK (by have:=(Ez (b.take (4*n))).toNat_lt;omega),eL (by rw[Ey];omega)]
section
variable {b:List UInt8} {n:Nat}
theorem ss1(h:¬(1<=n/\n<=1000)):Ej b n=([],2):=by rw[Ej,Acf h]
variable (h:1<=n/\n<=1000)
include h
theorem ss2(h2:b.length<4*n+4):Ej b n=([],24):=by rw[Ej,Aan (λe=>e h),Acf h2]
variable (h2:¬b.length<4*n+4)
include h2
theorem ss3(h3:(Ez (b.take (4*n))).toNat≠Gd (part b (4*n) 4)):Ej b n=([],22):=by rw[Ej,Aan (λe=>e h),Aan h2,Acf h3]
theorem ss4(h3:(Ez (b.take (4*n))).toNat=Gd (part b (4*n) 4)):Ej b n=if Vt (UO b n)=true then(UO b n,0)else([],12):=by rw[Ej,Aan (λe=>e h),Aan h2,Aan (λe=>e h3)]
end
theorem Aau(b:List UInt8)(l8:List Int)(n:Nat)(hn:n<=1000)(h8:l8.length=n)(hb:4*n+4<=b.length)(hb2:b.length<4611686018427387904):∀(j i q:Nat),i+j=n->j<q->Xv b l8 q (i:Int) (UO b i++List.replicate j 0)=RH (UO b n)
 |0,i,q+1,hi,_=>by
  obtain rfl:i=n:=by omega
  rw[Xv,RK,Aan (by rw[Ae,Ac];simp;omega)];simp
 |j+1,i,q+1,hi,hq=>by
  have hlen:(UO b i++List.replicate (j+1) 0).length=i+(j+1):=by simp[Vl]
  have ha:=zk b (4*i) 4 (by omega) (by omega) (by omega) hb2;rw[Xv,RK,Acf (by rw[Ae,Ac];simp;omega),Fa,show(4:Int)*(i:Int)=((4*i:Nat):Int) by omega,show(4:Int)=((4:Nat):Int)from rfl,ha,Aa];simp only;rw[Br (by rw[hlen];omega),Aa,Vr _ (by rw[hlen];omega),Aa,RV (by rw[Ey];omega),Aj,Bcb,kD (Vl _ _)];have ih:=Aau b l8 n hn h8 hb hb2 j (i+1) q (by omega) (by omega);rw[zx]at ih;rw[show((i:Int)+1)=((i+1:Nat):Int) by omega,<-ih];simp
theorem uL(b:List UInt8)(n:Nat)(hb:b.length<=100100):FY b (n:Int)=some (Ej b n):=by
 rw[FY,gG];by_cases h:1<=n/\n<=1000
 ·rw[Aan (by simp[Ae,Aq];omega),Fa,Aj];by_cases h2:b.length<4*n+4
  ·rw[Acf (by rw[Ae,Ac];simp;omega),ss2 h h2]
  ·have ha:iY b (4*(n:Int)) 4=some (vN (part b (4*n) 4),0):=by
    rw[show(4:Int)*(n:Int)=((4*n:Nat):Int) by omega];exact zk b (4*n) 4 (by omega) (by omega) (by omega) (by omega)
   rw[Aan (by rw[Ae,Ac];simp;omega),ha,Aa];simp only;rw[Dk,Aa,show(4*(n:Int)).toNat=4*n by omega,I5 _ (by simp;omega),Aa];simp only;rw[Al9 h h2];by_cases h3:(Ez (b.take (4*n))).toNat=Gd (part b (4*n) 4)
   ·have hlp:=Aau b (List.replicate n 0) n (by omega) (by simp) (by omega) (by omega) n 0 Au (by omega) (by have:=Ar;omega);rw[Aan (by simpa using h3),rZ,Aa,Bj (by rw[As];simp),Aa,fM,Ahe];refine Bda (hlp) ?_;rw[RH,wC,Aj4 _ (by rw[Vl];omega) (Akx b n (by omega)),Aa,ss4 h h2 h3];cases Vt (UO b n)<;>rfl
   ·rw[Acf (by simpa using h3),ss3 h h2 h3]
 ·rw[Acf (by simp[Ae,Aq];omega),ss1 h]
theorem vR(b:List UInt8)(n:Nat)(hn:n<=1000)(hb:4*n+4<=b.length)(hb2:b.length<4611686018427387904):∀(j i q:Nat),i+j=n->j<q->Mu b (n:Int) q (i:Int) (UO b i)=AP (UO b n)
 |0,i,q+1,hi,_=>by
  obtain rfl:i=n:=by omega
  rw[Mu,AJ,Aan (by rw[Ae];simp)]
 |j+1,i,q+1,hi,hq=>by
  have hc:Bp b ((4:Int)*(i:Int)) ((4:Int)*(i:Int)+4)=some (part b (4*i) 4):=by
   rw[show(4:Int)*(i:Int)=((4*i:Nat):Int) by omega];exact Ry (4*i) 4
  rw[Mu,AJ,Acf (by rw[Ae];simp;omega),Fa,Aj,hc,Aa,Agl _ (by rw[Ey];omega),Aa,Bg (by rw[Vl];simp;omega),Aa,
   RV (by rw[Ey];omega),Aj,<-zx]
  exact vR b n hn hb hb2 j (i+1) q (by omega) (by omega)
theorem uq(b:List UInt8)(n:Nat)(hb:b.length<=100100):Sd b (n:Int)=some (Ej b n):=by
 rw[Sd,SI];by_cases h:1<=n/\n<=1000
 ·rw[Aan (by simp[Ae,Aq];omega),Fa,Aj];by_cases h2:b.length<4*n+4
  ·rw[Acf (by rw[Ae,Ac];simp;omega),ss2 h h2]
  ·have hc:Bp b ((4:Int)*(n:Int)) ((4:Int)*(n:Int)+4)=some (part b (4*n) 4):=by
    rw[show(4:Int)*(n:Int)=((4*n:Nat):Int) by omega];exact Ry (4*n) 4
   have hs:Bc (vN (part b (4*n) 4)) (Af (Ez (b.take (4*n))):UInt64)=decide ((Ez (b.take (4*n))).toNat≠Gd (part b (4*n) 4)):=by
    rw[<-Al9 h h2,XQ,XQ,Ako];simp only[Bgu,ne_eq];exact not_congr eq_comm
   rw[Aan (by rw[Ae,Ac];simp;omega),hc,Aa,Dk,Aa,show(4*(n:Int)).toNat=4*n by omega,Agl _ (by rw[Ey];omega),Aa,Ara _ (by simp;omega),Aa,hs];by_cases h3:(Ez (b.take (4*n))).toNat=Gd (part b (4*n) 4)
   ·have hlp:=vR b n (by omega) (by omega) (by omega) n 0 Au (by omega) (by have:=Ar;omega);rw[Aan (by simpa using h3),SZ,SG,UF];refine Bda hlp ?_;rw[AP,TR,Aob _ (by rw[Vl];omega) (Akx b n (by omega)),Aa,ss4 h h2 h3];cases Vt (UO b n)<;>rfl
   ·rw[Acf (by simpa using h3),ss3 h h2 h3]
 ·rw[Acf (by simp[Ae,Aq];omega),ss1 h]
theorem iA{b:List UInt8}{n:Nat}(h:(Ej b n).2=0):Ej b n=(UO b n,0)/\1<=n/\n<=1000/\4*n+4<=b.length/\ (∀x∈UO b n,5<=x)/\ (UO b n).sum<=100000:=by
 unfold Ej at h⊢;split at h; · simp at h
 rename_i c1;rw[Aan c1];split at h; · simp at h
 rename_i c2;rw[Aan c2];split at h; · simp at h
 rename_i c3;rw[Aan c3];split at h
 ·rename_i c4;rw[Acf c4];have c4':=c4;rw[Vt,Ady,EU _ _ (by omega)]at c4';exact⟨rfl,by omega,by omega,by omega,c4'.2.1,c4'.2.2⟩
 ·simp at h
def Il(b:List UInt8):List UInt8:=b.drop (Bq b).1.toNat
abbrev Op8:=Int×Int×Int×Int×Int×Int×(List Int)×Int
def aR(e:Int):Op8:=(0,0,0,0,0,0,[],e)
theorem vg(A K:Nat)(h:A<=200000)(hk:K<=1000):Ad (Ad (A:Int) (Bf 4 (K:Int))) 4=((A+4*K+4:Nat):Int):=by
 rw[Fa,Aj (a:=(A:Int)) (by omega) (by omega),Aj];omega
theorem tM{f c w r n:Nat}(h1:Fu f c w r n=true)(h2:Yj c r n=true)(b:List UInt8)(hb:b.length<=100100)(A:Nat)(hA:A<=b.length):
  Qg b (f:Int) (c:Int) (w:Int) (r:Int) (n:Int) (A:Int)=
   some (if(Ej (b.drop A) (Ak (Ag r) n).length).2≠0 then aR (Ej (b.drop A) (Ak (Ag r) n).length).2 else((f:Int),(c:Int),(w:Int),(r:Int),(n:Int),((A+4*(Ak (Ag r) n).length+4:Nat):Int),(Ej (b.drop A) (Ak (Ag r) n).length).1,0)):=by
 rw[Qg,qP,qW h1 h2,Aa];simp only;rw[Aan (by rw[Ah];simp),Bv,Aa,Ac,show(A:Int).toNat=A from rfl,uL _ _ (by simp;omega),Aa];by_cases h:(Ej (b.drop A) (Ak (Ag r) n).length).2≠0
 ·rw[Acf h,Acf (by rw[Ah];simpa using h)];rfl
 ·have h0:(Ej (b.drop A) (Ak (Ag r) n).length).2=0:=by simpa using h
  obtain⟨g1,g2,g3,g4,g5,g6⟩:=iA h0;have gl:(Ej (b.drop A) (Ak (Ag r) n).length).1.length=(Ak (Ag r) n).length:=by rw[g1];exact Vl _ _
  rw[Aan h,Aan (by rw[Ah];simpa using h),Ac,gl,vg _ _ (by omega) (by omega)]
theorem Ari{f c w r n:Nat}(h1:Fu f c w r n=true)(h2:Yj c r n=true)(b:List UInt8)(hb:b.length<=100100)(A:Nat)(hA:A<=b.length):
  Ou b (f:Int) (c:Int) (w:Int) (r:Int) (n:Int) (A:Int)=
   some (if(Ej (b.drop A) (Ak (Ag r) n).length).2≠0 then aR (Ej (b.drop A) (Ak (Ag r) n).length).2 else((f:Int),(c:Int),(w:Int),(r:Int),(n:Int),((A+4*(Ak (Ag r) n).length+4:Nat):Int),(Ej (b.drop A) (Ak (Ag r) n).length).1,0)):=by
 have hs:(1<=r/\r<=1048576)/\1<=n/\1<=c:=by
  simp only[Fu,Adx]at h1;omega
 have hf:n<=4000:=by
  simp only[Yj,Adx]at h2;have:=Aq1 4000 c;omega
 rw[Ou,JK,Bv,Aa,iO hs.1.2 hs.2.1 hf,Aa,Ac,show(A:Int).toNat=A from rfl,uq _ _ (by simp;omega),Aa];simp only;rw[JF,JX];by_cases h:(Ej (b.drop A) (Ak (Ag r) n).length).2≠0
 ·rw[Acf h,Acf (by rw[Ah];simpa using h)];rfl
 ·have h0:(Ej (b.drop A) (Ak (Ag r) n).length).2=0:=by simpa using h
  obtain⟨g1,g2,g3,g4,g5,g6⟩:=iA h0;have gl:(Ej (b.drop A) (Ak (Ag r) n).length).1.length=(Ak (Ag r) n).length:=by rw[g1];exact Vl _ _
  rw[Aan h,Aan (by rw[Ah];simpa using h),Ac,gl,vg _ _ (by omega) (by omega)]
structure Opn (b p:List UInt8) (f c w r n A:Nat) (l:List Int):Prop where
 prog:Dh b p=some ((f:Int),(c:Int),(w:Int),(r:Int),(n:Int),(A:Int),l,0)
 ref:Fg b p=some ((f:Int),(c:Int),(w:Int),(r:Int),(n:Int),(A:Int),l,0)
 pass:p.length<=64
 file:b.length<=100000
 shape:Fu f c w r n=true
 fit:Yj c r n=true
 len:l.length=(Ak (Ag r) n).length
 some1:1<=l.length/\l.length<=1000
 five:∀x∈l,5<=x
 sum:l.sum<=100000
 at':A<=b.length
 tag:(Bq b).2=0
 head:Ek (Il b)=((f:Int),(c:Int),(w:Int),(r:Int),(n:Int),0)
 tab:Ej (b.drop ((Bq b).1.toNat+22+(if f=2 then 8 else 0))) l.length=(l,0)
 pos:A=(Bq b).1.toNat+22+(if f=2 then 8 else 0)+4*l.length+4
theorem C9(b p:List UInt8)(hb:b.length<=100100)(hp:p.length<=64):
  (∃e:Int,e≠0/\Dh b p=some (aR e)/\Fg b p=some (aR e))\/ (∃f c w r n A l,Opn b p f c w r n A l):=by
 by_cases h1:100000<b.length
 ·refine .inl ⟨4,by omega,?_,?_⟩
  ·rw[Dh,Uw,Aan (by rw[Aq,Ac];simp;omega),Acf (by rw[Aq,Ac];simp;omega)];rfl
  ·rw[Fg,Wa,Acf (by rw[Aq,Ac];simp;omega)];rfl
 have hP:Dh b p=Dh b p:=rfl;have hR:Fg b p=Fg b p:=rfl
 conv at hP=>rhs;rw[Dh,Uw,Aan (by rw[Aq,Ac];simp;omega),Aan (by rw[Aq,Ac];simp;omega),Px b (by omega),Aa]
 conv at hR=>rhs;rw[Fg,Wa,Aan (by rw[Aq,Ac];simp;omega),BT b (by omega),Aa]
 by_cases h2:(Bq b).2=0
 ·obtain⟨p0,p1,p2⟩:=BI h2;have hc:=Bv (l:=b) p0 p1;simp only[h2]at hP hR;rw[Aan (by rw[Ah];simp),hc,Aa,show b.drop (Bq b).1.toNat=Il b from rfl,QJ _ (by simp[Il];omega),Aa]at hP;rw[Aan (by rw[Ah];simp),hc,Aa,show b.drop (Bq b).1.toNat=Il b from rfl,gY _ (by simp[Il];omega),Aa]at hR;by_cases h3:(Ek (Il b)).2.2.2.2.2=0
  ·obtain⟨g1,g2,g3,g4⟩:=rX h3;have hlen:(Il b).length=b.length-(Bq b).1.toNat:=by simp[Il]
   generalize hF:(Bq b).1.toNat=F at*
   have hF':(Bq b).1=(F:Int):=by omega
   rw[g1,hF']at hP hR;simp only at hP hR;generalize f0 (Il b)=f at*
   generalize f1 (Il b)=c at*
   generalize f2 (Il b)=w at*
   generalize f3 (Il b)=r at*
   generalize f4 (Il b)=n at*
   have t22:Ad (F:Int) 22=((F+22:Nat):Int):=by rw[Aj];omega
   have t30:Ad ((F+22:Nat):Int) 8=((F+30:Nat):Int):=by rw[Aj];omega
   have Bef:f=1\/f=2:=by simp only[Fu,Adx]at g3;omega
   rw[Aan (by rw[Ah];simp),t22,t30]at hP hR;have hend:∀A:Nat,A<=b.length->A=F+22+(if f=2 then 8 else 0)->Dh b p=Qg b (f:Int) (c:Int) (w:Int) (r:Int) (n:Int) (A:Int)->Fg b p=Ou b (f:Int) (c:Int) (w:Int) (r:Int) (n:Int) (A:Int)->
     (∃e:Int,e≠0/\Dh b p=some (aR e)/\Fg b p=some (aR e))\/ (∃f c w r n A l,Opn b p f c w r n A l):=by
    intro A hA hA2 e1 e2;rw[tM g3 g4 b hb A hA]at e1;rw[Ari g3 g4 b hb A hA]at e2;by_cases h:(Ej (b.drop A) (Ak (Ag r) n).length).2≠0
    ·rw[Acf h]at e1 e2;exact .inl ⟨_,h,e1,e2⟩
    ·have h0:(Ej (b.drop A) (Ak (Ag r) n).length).2=0:=by simpa using h
     obtain⟨k1,k2,k3,k4,k5,k6⟩:=iA h0;have gl:(Ej (b.drop A) (Ak (Ag r) n).length).1.length=(Ak (Ag r) n).length:=by rw[k1];exact Vl _ _
     rw[Aan h]at e1 e2;rw[Ah5]at k4;refine .inr ⟨f,c,w,r,n,_,_,⟨e1,e2,hp,by omega,g3,g4,gl,by omega,by rw[k1];exact k5,by rw[k1];exact k6,by omega,h2,g1,by rw[gl,hF,<-hA2];exact Prod.ext rfl h0,by rw[gl,hF,<-hA2]⟩⟩
   by_cases NJ:((p==([]:List UInt8)) !=(geq (f:Int) (1:Int)))=true
   ·rw[Acf NJ]at hP hR;exact .inl ⟨26,by omega,hP,hR⟩
   ·rw[Aan NJ]at hP hR;have hpf:(p=[]↔f=1):=by
     rw[As]at NJ;have h5:(p==([]:List UInt8))=((f:Int)==1):=by simpa using NJ
     have h6:(p==([]:List UInt8))=true↔((f:Int)==1)=true:=by rw[h5]
     rw[Avz,Avz]at h6;rw[h6];omega
    by_cases h5:f=2
    ·have Aqm:p≠ []:=λe=>by have:=hpf.1 e;omega
     have h64:(p !=([]:List UInt8))=true:=by simpa using Aqm
     rw[Acf h64]at hP;rw[Acf (by rw[As,h5];rfl),Bu (by rw[Ac];omega) (by rw[Ac];omega)]at hR;by_cases h6:b.length<F+30
     ·rw[Acf (by rw[Ae,Ac];simp;omega)]at hP hR;exact .inl ⟨24,by omega,hP,hR⟩
     ·have hseg:((b.take (F+30)).drop (F+22)).length=8:=by simp;omega
      rw[Aan (by rw[Ae,Ac];simp;omega),Uy,Aa]at hP hR;rw[Pa,iC p hp,Aa]at hP;rw[gM p hp,Aa]at hR;simp only at hP;rw[Aan (by rw[Ah,Ah,Ac,Ac,Cg,show((F+30:Nat):Int).toNat=F+30 from rfl,show((F+22:Nat):Int).toNat=F+22 from rfl,hseg];simp),Ij,Aa,Aa]at hP;simp only at hP;rw[Aan (by rw[Ah];simp)]at hP;generalize(b.take ((F+30:Nat):Int).toNat).drop ((F+22:Nat):Int).toNat=uM at*
      by_cases h7:uM=Sk (Uk p).toNat 8
      ·rw[Aan (by simp[h7])]at hP;rw[Aan (by simp[h7])]at hR;exact hend (F+30) (by omega) (by rw[Acf h5]) hP hR
      ·rw[Acf (by simpa using h7)]at hP;rw[Acf (by simpa using h7)]at hR;exact .inl ⟨26,by omega,hP,hR⟩
    ·have hpe:p=[]:=hpf.2 (by omega);rw[Aan (by rw[hpe];simp)]at hP;rw[Aan (by rw[As];simp;omega)]at hR;exact hend (F+22) (by omega) (by rw[Aan h5]) hP hR
  ·generalize Ek (Il b)=v at*
   obtain⟨v1,v2,v3,v4,v5,v6⟩:=v;simp only at h3 hP hR;rw[Acf (by rw[Ah];simpa using h3)]at hP hR;exact .inl ⟨v6,h3,hP,hR⟩
 ·generalize Bq b=v at*
  obtain⟨v,e⟩:=v;simp only at h2 hP hR;rw[Acf (by rw[Ah];simpa using h2)]at hP hR;exact .inl ⟨e,h2,hP,hR⟩
theorem Abh(l:List Int)(i:Nat):(l.take i).sum+(l.drop i).sum=l.sum:=by
 conv=>rhs;rw[<-Ba1 i l,List.sum_append]
theorem Kk{l:List Int}(h5:∀x∈l,5<=x)(i:Nat):0<= (l.take i).sum/\ (l.take i).sum<=l.sum:=by
 have h1:=Ar3 (l.take i) λx hx=>h5 x (Bgp hx);have h2:=Ar3 (l.drop i) λx hx=>h5 x (Be1 hx);have:=Abh l i;omega
theorem Mp{l:List Int}{i:Nat}(h:i<l.length):(l.take (i+1)).sum=(l.take i).sum+l[i]:=by
 rw[Lb h,List.sum_append];simp
section
variable {l:List Int} (hl:l.length<=1000) (h5:∀x∈l,5<=x) (hs:l.sum<=100000)
include hl h5 hs
theorem ng(f c w r n A:Int)(hA:0<=A)(hA2:A<=200000)(k:Nat)(hk:k<=l.length):∀(j i q:Nat),i+j=k->j<q->Ly (k:Int) f c w r n A l q (A+(l.take i).sum) (i:Int)=some (A+(l.take k).sum)
 |0,i,q+1,hi,_=>by
  rw[Ly,Yi,Aan (by rw[Ae];simp;omega),show i=k by omega];rfl
 |j+1,i,q+1,hi,hq=>by
  have hlt:i<l.length:=by omega
  have ih:=ng f c w r n A hA hA2 k hk j (i+1) q (by omega) (by omega);have b1:=Kk h5 i;have b2:=Kk h5 (i+1);have e:=Mp hlt;rw[e,<-Bgy]at ih;rw[Ly,Yi,Acf (by rw[Ae];simp;omega),Br hlt,Aa,Aj,Aj];exact ih
theorem An1(f c w r n A:Int)(hA:0<=A)(hA2:A<=200000)(k:Nat)(hk:k<=l.length):YQ f c w r n A l (k:Int)=some (A+(l.take k).sum):=by
 have h:=ng hl h5 hs f c w r n A hA hA2 k hk k 0 Au (by omega) (by have:=Ar;omega);rw[Bbt,Bgh,Int.add_zero]at h;exact h
end
theorem Zz{g n:Nat}(hg:1<=g)(hn:1<=n){x:Int}(h:x∈Ak g n):∃m:Nat,x=m/\1<=m/\m<=n:=by
 have hmul:=Bcc (n-1) g;rw[Ak,List.mem_append]at h;rcases h with h|h
 ·rw[List.mem_replicate]at h;have h1:1<= (n-1)/g:=Nat.pos_of_ne_zero h.1;have:=Aep g h1;exact⟨g,h.2,hg,by omega⟩
 ·rw[List.mem_singleton]at h;exact⟨_,h,by omega,by omega⟩
theorem Uu{f c w r n:Nat}(h:Fu f c w r n=true):(1<=c/\c<=6)/\Bl (w:Int)/\ (1<=r/\r<=1048576)/\1<=n/\ (f=1\/f=2):=by
 simp only[Fu,Adx]at h;refine⟨h.2.1,?_,h.2.2.2.1,h.2.2.2.2,h.1⟩;rcases h.2.2.1 with rfl|rfl|rfl
 ·exact .inl rfl
 ·exact .inr (.inl rfl)
 ·exact .inr (.inr rfl)
theorem Az7(n m:Nat):Rp n m 0≠Rp n m 2147483648:=by
 intro h;simp[Rp,Sk,Q8]at h
def Dd(b:List UInt8):List UInt8:=b.drop (b.length-32)
theorem Ae6{b:List UInt8}(h:32<=b.length):(Dd b).length=32:=by rw[Dd,Ah5];omega
def ON(t:List UInt8):Nat:=Gd (part t 12 4)-32
def lg(t:List UInt8):Nat:=Gd (part t 16 4)
def AN(b:List UInt8):Int×Int:=
 if ¬(32<=b.length/\ (Dd b).take 8=Q8)then(0,6)else if HY (Dd b)=true then(0,12)else
 if Dd b=Rp (ON (Dd b)) (lg (Dd b)) 0 then(if b.length<ON (Dd b)+32 then(0,24)else(((ON (Dd b)+32:Nat):Int),0))else
 if Dd b≠Rp (ON (Dd b)) (lg (Dd b)) 2147483648 then(0,12)else
 if b.length<ON (Dd b)+64 then(0,24)else
 if(b.take (b.length-(ON (Dd b)+64)+32)).drop (b.length-(ON (Dd b)+64))≠Rp (ON (Dd b)) (lg (Dd b)) 2684354560 then(0,12)else(((ON (Dd b)+64:Nat):Int),0)
section
variable {b:List UInt8}
theorem ba1(h:¬(32<=b.length/\ (Dd b).take 8=Q8)):AN b=(0,6):=by rw[AN,Acf h]
variable (h:32<=b.length/\ (Dd b).take 8=Q8)
include h
theorem ba2(h2:HY (Dd b)=true):AN b=(0,12):=by rw[AN,Aan (λh'=>h' h),Acf h2]
variable (h2:HY (Dd b)=false)
include h2
theorem ba3(h3:Dd b=Rp (ON (Dd b)) (lg (Dd b)) 0):AN b=if b.length<ON (Dd b)+32 then(0,24)else(((ON (Dd b)+32:Nat):Int),0):=by
 rw[AN,Aan (λh'=>h' h),Aan (by rw[h2];simp),Acf h3]
variable (h3:Dd b≠Rp (ON (Dd b)) (lg (Dd b)) 0)
include h3
theorem ba4(h4:Dd b≠Rp (ON (Dd b)) (lg (Dd b)) 2147483648):AN b=(0,12):=by
 rw[AN,Aan (λh'=>h' h),Aan (by rw[h2];simp),Aan h3,Acf h4]
variable (h4:Dd b=Rp (ON (Dd b)) (lg (Dd b)) 2147483648)
include h4
theorem ba5(h5:b.length<ON (Dd b)+64):AN b=(0,24):=by
 rw[AN,Aan (λh'=>h' h),Aan (by rw[h2];simp),Aan h3,Aan (λe=>e h4),Acf h5]
theorem ba6(h5:¬b.length<ON (Dd b)+64):AN b=if(b.take (b.length-(ON (Dd b)+64)+32)).drop (b.length-(ON (Dd b)+64))≠Rp (ON (Dd b)) (lg (Dd b)) 2684354560 then(0,12)else(((ON (Dd b)+64:Nat):Int),0):=by
 rw[AN,Aan (λh'=>h' h),Aan (by rw[h2];simp),Aan h3,Aan (λe=>e h4),Aan h5]
end
theorem Ae3{b:List UInt8}{n:Int}(h:AN b=(n,0)):32<=n/\n<=b.length:=by
 unfold AN at h;split at h; · simp at h
 rename_i h32;split at h; · simp at h
 split at h
 ·split at h; · simp at h
  simp only[Ah7,Bhb]at h;omega
 split at h; · simp at h
 split at h; · simp at h
 split at h; · simp at h
 simp only[Ah7,Bhb]at h;omega
theorem Aok{b:List UInt8}(h:(AN b).2≠0):(AN b).1=0:=by
 revert h
 unfold AN;split; · simp
 split; · simp
 split
 ·split<;>simp
 split; · simp
 split; · simp
 split<;>simp
theorem Atp{b:List UInt8}(h:32<=b.length)(hl:b.length<4611686018427387904):Ao (Ac b) 32=((b.length-32:Nat):Int)/\Bp b ((b.length-32:Nat):Int) (Ac b)=some (Dd b):=by
 refine⟨by rw[Ac,Bu];omega,?_⟩;rw[Bv];rfl
theorem Aqg(b:List UInt8)(hl:b.length<4611686018427387904):zA b=some (AN b):=by
 rw[zA,rD];by_cases h32:32<=b.length
 ·obtain⟨e1,e2⟩:=Atp h32 hl;have hl3:=Ae6 h32;rw[Aan (by rw[e1,Ae];simp),e1,e2,Aa,lE,Aa];by_cases hp:(Dd b).take 8=Q8
  ·have h:=And.intro h32 hp;rw[Aan (by simpa [Q8,hl3]using hp),pD,P4,e1,e2,Aa,lQ _ 0 (by omega) (by omega) (by decide),Aa];cases hb:HY (Dd b)with
   |true=>
    rw[ba2 h hb];simp only[Bhg,Avj,Bev];rw[Aa,lQ _ 2147483648 (by omega) (by omega) (by decide),Aa,hb];rfl
   |false=>
    obtain⟨i1,i2,i3,i4⟩:=I1 (Dd b) (by omega) hb;have eI:Gd (part (Dd b) 12 4)-32=ON (Dd b):=rfl;have eM:Gd (part (Dd b) 16 4)=lg (Dd b):=rfl;simp only[Avj,Bev];rw[eI]at i3;rw[eM]at i4;rw[eI,eM];by_cases c1:Dd b=Rp (ON (Dd b)) (lg (Dd b)) 0
    ·have c1':Dd b=Rp (ON (Dd b)) (lg (Dd b)) (0:UInt64).toNat:=c1;rw[Acf (by simpa using c1'),ba3 h hb c1];by_cases c2:b.length<ON (Dd b)+32
     ·rw[Acf (by rw[Ae];simp;omega),Acf c2]
     ·rw[Aan (by rw[Ae];simp;omega),Aan c2,Aj];rfl
    ·have c1':¬Dd b=Rp (ON (Dd b)) (lg (Dd b)) (0:UInt64).toNat:=c1;rw[Aan (by simpa using c1'),Aa,lQ _ 2147483648 (by omega) (by omega) (by decide),Aa,hb];simp only[Avj,Bev];rw[eI,eM];by_cases c2:Dd b=Rp (ON (Dd b)) (lg (Dd b)) 2147483648
     ·have c2':Dd b=Rp (ON (Dd b)) (lg (Dd b)) (2147483648:UInt64).toNat:=c2;rw[Aan (by simpa using c2'),Aj];by_cases c3:b.length<ON (Dd b)+64
      ·rw[Acf (by rw[Ae,Ac];simp;omega),ba5 h hb c1 c2 c3]
      ·rw[Aan (by rw[Ae,Ac];simp;omega),Ac,Bu,Aj,Uy,Aa,Y0 _ _ _ i3 i4 (by decide),Aa,Ij,Aa,ba6 h hb c1 c2 c3];rw[show((b.length:Int)-(((ON (Dd b):Nat):Int)+64)).toNat=b.length-(ON (Dd b)+64) by omega,show((b.length:Int)-(((ON (Dd b):Nat):Int)+64)+32).toNat=b.length-(ON (Dd b)+64)+32 by omega];have e7:(2684354560:UInt64).toNat=2684354560:=rfl;rw[e7];by_cases c4:(b.take (b.length-(ON (Dd b)+64)+32)).drop (b.length-(ON (Dd b)+64))=Rp (ON (Dd b)) (lg (Dd b)) 2684354560
       ·rw[Aan (by simpa using c4),Aan (λe=>e c4)];rfl
       ·rw[Acf (by simpa using c4),Acf c4]
     ·have c2':¬Dd b=Rp (ON (Dd b)) (lg (Dd b)) (2147483648:UInt64).toNat:=c2;rw[Acf (by simpa using c2'),ba4 h hb c1 c2]
  ·rw[Acf (by rw[Awi,Azw];intro h;exact hp h.2),ba1 (λh=>hp h.2)]
 ·rw[Acf (by rw[Ac,Bu,Ae];simp;omega),ba1 (λh=>h32 h.1)]
theorem Axr{b:List UInt8}(h:32<=b.length):(b.take (b.length-32+8)).drop (b.length-32)=(Dd b).take 8:=by
 rw[Dd,List.take_drop]
theorem Auq(b:List UInt8)(hl:b.length<4611686018427387904):JU b=some (AN b):=by
 rw[JU,SB];by_cases h32:32<=b.length
 ·obtain⟨e1,e2⟩:=Atp h32 hl;have hl3:=Ae6 h32;rw[Aan (by rw[Ae,Ac];simp;omega),e1,Aj,Uy,Aa,show((b.length-32:Nat):Int).toNat=b.length-32 from rfl,show(((b.length-32:Nat):Int)+8).toNat=b.length-32+8 by omega,Axr h32];by_cases hp:(Dd b).take 8=Q8
  ·have h:=And.intro h32 hp;rw[Aan (by simpa [Q8]using hp),UE,UB,e1,e2,Aa,Ad5 _ (by omega) (by omega),Aa];cases hb:HY (Dd b)with
   |true=>rw[ba2 h hb];rfl
   |false=>
    obtain⟨i1,i2,i3,i4⟩:=I1 (Dd b) (by omega) hb;have eI:Gd (part (Dd b) 12 4)-32=ON (Dd b):=rfl;have eM:Gd (part (Dd b) 16 4)=lg (Dd b):=rfl;simp only[Avj,Bev,Bgk];rw[eI]at i3;rw[eM]at i4;rw[eI,eM,Nr,Acf rfl,D8 _ _ _ i3 i4 (by decide),Aa,Aa];have e7:(2147483648:UInt64).toNat=2147483648:=rfl;have e8:(2684354560:UInt64).toNat=2684354560:=rfl;rw[e7];by_cases c2:Dd b=Rp (ON (Dd b)) (lg (Dd b)) 2147483648
    ·have c1:Dd b≠Rp (ON (Dd b)) (lg (Dd b)) 0:=λe=>Az7 (ON (Dd b)) (lg (Dd b)) (e.symm.trans c2);rw[Aan (by simpa using c2),AQ,AA,Acf (by simpa using c2),AY,BD,Aj (a:=32) (by omega) (by omega),Aj];by_cases c3:b.length<ON (Dd b)+64
     ·rw[Acf (by rw[Ae,Ac];simp;omega),ba5 h hb c1 c2 c3]
     ·rw[Aan (by rw[Ae,Ac];simp;omega),Acf (by simpa using c2),Ac,Bu,Aj,Uy,Aa,Zi,D8 _ _ _ i3 i4 (by decide),Aa,Aa,ba6 h hb c1 c2 c3,e8];rw[show((b.length:Int)-(32+((ON (Dd b):Nat):Int)+32)).toNat=b.length-(ON (Dd b)+64) by omega,show((b.length:Int)-(32+((ON (Dd b):Nat):Int)+32)+32).toNat=b.length-(ON (Dd b)+64)+32 by omega];by_cases c4:(b.take (b.length-(ON (Dd b)+64)+32)).drop (b.length-(ON (Dd b)+64))=Rp (ON (Dd b)) (lg (Dd b)) 2684354560
      ·rw[Aan (by simpa using c4),Aan (λe=>e c4),show(32+((ON (Dd b):Nat):Int)+32)=((ON (Dd b)+64:Nat):Int) by omega]
      ·rw[Acf (by simpa using c4),Acf c4]
    ·rw[Acf (by simpa using c2),Nr,Aan (by simp),D8 _ _ _ i3 i4 (by decide),Aa,Aa];have e9:(0:UInt64).toNat=0:=rfl;rw[e9];by_cases c1:Dd b=Rp (ON (Dd b)) (lg (Dd b)) 0
     ·rw[Aan (by simpa using c1),AQ,AA,Aan (by simpa using c2),AY,BD,Aj,ba3 h hb c1,Aan (c:=(Dd b==Rp (ON (Dd b)) (lg (Dd b)) 2147483648)=true) (by simpa using c2)];by_cases c3:b.length<ON (Dd b)+32
      ·rw[Acf (by rw[Ae,Ac];simp;omega),Acf c3]
      ·rw[Aan (by rw[Ae,Ac];simp;omega),Aan c3,show(32+((ON (Dd b):Nat):Int))=((ON (Dd b)+32:Nat):Int) by omega]
     ·rw[Acf (by simpa using c1),ba4 h hb c1 c2]
  ·rw[Acf (by simpa [Q8]using hp),ba1 (λh=>hp h.2)]
 ·rw[Acf (by rw[Ae,Ac];simp;omega),ba1 (λh=>h32 h.1)]
def Acw:Nat->List UInt8->Nat->Int×Int
 |0,_,_=>(0,38)
 |j+1,b,a=>if b=[]then((a:Int),0)else if(AN b).2≠0 then(0,38)else Acw j (b.take (b.length-(AN b).1.toNat)) (a+1)
theorem Af7:∀(j q a:Nat) (b:List UInt8),b.length<j->j<=q->b.length<=4000->a+b.length<=4000->Xi q (a:Int) b=some (Acw j b a)
 |0,_,_,_,h,_,_,_=>by omega
 |j+1,q+1,a,b,h,hq,h4,ha=>by
  rw[Xi,VY,Acw];by_cases hb:b=[]
  ·subst hb;rw[Aan (by decide),Acf rfl];rfl
  ·have hpos:0<b.length:=List.length_pos_iff.2 hb;rw[Acf (by rw[Aq,Ac];simp;omega),Aan hb,Aqg b (by omega),Aa];have hbad:=Aok (b:=b);have hok:=λn=>Ae3 (b:=b) (n:=n);generalize AN b=v at*
   obtain⟨n,e⟩:=v;simp only at hbad⊢;rw[PY,QW];by_cases he:e≠0
   ·rw[Acf he,hbad he,Acf (by decide)]
   ·obtain⟨k1,k2⟩:=hok n (by rw[show e=0 by simpa using he]);rw[Aan he,Aan (by rw[As];simp;omega),Ac,Bu,Dk,Aa,QX,jP,Aj];rw[show((b.length:Int)-n).toNat=b.length-n.toNat by omega];have ih:=Af7 j q (a+1) (b.take (b.length-n.toNat)) (by rw[Ahn];omega) (by omega) (by rw[Ahn];omega) (by rw[Ahn];omega);rw[<-ih];rfl
theorem Alp:∀(j q a:Nat) (b:List UInt8),b.length<j->j<=q->b.length<=4000->a+b.length<=4000->Pb q b (a:Int)=some (Acw j b a)
 |0,_,_,_,h,_,_,_=>by omega
 |j+1,q+1,a,b,h,hq,h4,ha=>by
  rw[Pb,NG,Acw];by_cases hb:b=[]
  ·subst hb;rw[Aan (by decide),Acf rfl];rfl
  ·have hpos:0<b.length:=List.length_pos_iff.2 hb;rw[Acf (by rw[Aq,Ac];simp;omega),Aan hb,Auq b (by omega),Aa];have hok:=λn=>Ae3 (b:=b) (n:=n);generalize AN b=v at*
   obtain⟨n,e⟩:=v;simp only;by_cases he:e≠0
   ·rw[Acf he,Acf (by rw[Ah];simpa using he)]
   ·obtain⟨k1,k2⟩:=hok n (by rw[show e=0 by simpa using he]);rw[Aan he,Aan (by rw[Ah];simpa using he),Ac,Bu,Dk,Aa,Aj];rw[show((b.length:Int)-n).toNat=b.length-n.toNat by omega];have ih:=Alp j q (a+1) (b.take (b.length-n.toNat)) (by rw[Ahn];omega) (by omega) (by rw[Ahn];omega) (by rw[Ahn];omega);rw[<-ih];rfl
def Ww(b:List UInt8):Int×Int:=if 4000<b.length then(0,38)else Acw (b.length+1) b 0
theorem O0(b:List UInt8)(hl:b.length<4611686018427387904):KC b=some (Ww b):=by
 rw[KC,VR,Ww];by_cases h:4000<b.length
 ·rw[Acf (by rw[Aq,Ac];simp;omega),Acf h]
 ·rw[Aan (by rw[Aq,Ac];simp;omega),Aan h];exact Af7 _ Au 0 b (by omega) (by have:=Ar;omega) (by omega) (by omega)
theorem xY(b:List UInt8)(hl:b.length<4611686018427387904):Tx b=some (Ww b):=by
 rw[Tx,IV,Ww];by_cases h:4000<b.length
 ·rw[Acf (by rw[Aq,Ac];simp;omega),Acf h]
 ·rw[Aan (by rw[Aq,Ac];simp;omega),Aan h];exact Alp _ Au 0 b (by omega) (by have:=Ar;omega) (by omega) (by omega)
theorem GG{a b:Nat}(h:a<9223372036854775808:=by omega):Bt (a:Int) (b:Int)=((a/b:Nat):Int):=by
 have:a/b<=a:=Aq1 _ _;rw[UZ,Bcd (by omega),<-Int.natCast_ediv];generalize a/b=k at*
 exact De (by omega) (by omega)
theorem E7{bits:Int}(h:Bl bits)(x:Int):(FR bits x).length=wB bits:=by
 obtain rfl|rfl|rfl:=h<;>rfl
theorem SH{bits:Int}(h:Bl bits):∀l:List Int32,(Dz bits l).length=l.length*wB bits
 |[]=>by simp[Dz]
 |x::l=>by
  have h1:=SH h l;have h2:=E7 h x.toInt;simp only[Dz,Bha,Adl,Aqj,Bgg]at*
  omega
def Agx(b:List UInt8)(A:Nat)(l:List Int)(k:Nat):List UInt8:=(b.take ((A:Int)+(l.take (k+1)).sum).toNat).drop ((A:Int)+(l.take k).sum).toNat
structure Gts (b p:List UInt8) (f c w r n A:Nat) (l:List Int) (k m:Nat) (x:List Int32) (s:List UInt8) (e:Int):Prop where
 mom:Ap (Ak (Ag r) n) (k:Int)=some (m:Int)
 pos:1<=m/\m*c<=4000
 got:Vk b p (f:Int) (c:Int) (w:Int) (r:Int) (n:Int) (A:Int) l (k:Int)=some (s,e)
 none':e≠0->s=[]/\x=[]
 some':e=0->s=Dz (w:Int) x/\x.length=m*c/\Ay (w:Int) x=some 0/\Ni (w:Int) x=some (s,0)/\ (A:Int)+(l.take (k+1)).sum<=b.length
 way:((b.length:Int)<(A:Int)+(l.take (k+1)).sum/\e=24)\/ ((A:Int)+(l.take (k+1)).sum<=b.length/\Pu (c:Int) (w:Int) (Na p) (m:Int) (Agx b A l k)=some (x,e)/\Fc (c:Int) (w:Int) (Na p) (m:Int) (Agx b A l k)=some (x,e))
theorem tD{b p:List UInt8}{f c w r n A:Nat}{l:List Int}(o:Opn b p f c w r n A l)(k:Nat)(hk:k<l.length):∃m x s e,Gts b p f c w r n A l k m x s e:=by
 obtain⟨hc,hw,hr,hn,_⟩:=Uu o.shape;have hfit:n<=4000/c:=by have:=o.fit;simp only[Yj,Adx]at this;exact this.1
 have hn4:n<=4000:=by have:=Aq1 4000 c;omega
 have hA:=o.at';have Ah3:=o.file;have hlen:=o.len;have b1:=Kk o.five k;have b2:=Kk o.five (k+1);have e:=Mp hk;have h5:=o.five l[k] (Aqp _);have hsum:=o.sum;have hs1:=o.some1;have hkf:k<(Ak (Ag r) n).length:=by omega
 obtain⟨m,hm,m1,m2⟩:=Zz (Em r) hn (Aqp hkf);have Ay7:Ap (Ak (Ag r) n) (k:Int)=some (m:Int):=by rw[Br hkf,hm]
 have hpos:1<=m/\m*c<=4000:=by
  refine⟨m1,?_⟩;have:=Aep c (Bgv m2 hfit);have:=Bcc 4000 c;omega
 have hR:Vk b p (f:Int) (c:Int) (w:Int) (r:Int) (n:Int) (A:Int) l (k:Int)=Vk b p (f:Int) (c:Int) (w:Int) (r:Int) (n:Int) (A:Int) l (k:Int):=rfl
 conv at hR=>rhs;rw[Vk,WS,An1 hs1.2 o.five o.sum _ _ _ _ _ (A:Int) (by omega) (by omega) k (by omega),Aa,Br hk,Aa,Bu (by rw[Ac];omega) (by rw[Ac];omega)]
 by_cases hto:(b.length:Int)<(A:Int)+(l.take (k+1)).sum
 ·rw[Acf (by rw[Ae,Ac,Adx];omega)]at hR;exact⟨m,[],[],24,Ay7,hpos,hR,λ_=>⟨rfl,rfl⟩,λh=>by simp at h, .inl ⟨hto,rfl⟩⟩
 ·rw[Aan (by rw[Ae,Ac,Adx];omega),aS p o.pass,iO hr.2 hn hn4]at hR;simp only[Aa]at hR;rw[Aj (a:=(A:Int)+(l.take k).sum) (b:=l[k]) (by omega) (by omega),Bgy,<-e,Ay7]at hR;simp only[Aa]at hR;rw[Uy,Aa]at hR;obtain⟨x,er,g1,g2,g3,g4⟩:=TB (ch:=c) (n:=m) (t:=Na p) (Agx b A l k) hw (Nv p) hc.1 hc.2 m1 (by omega);rw[show(b.take ((A:Int)+(l.take (k+1)).sum).toNat).drop ((A:Int)+(l.take k).sum).toNat=Agx b A l k from rfl,g2,Aa]at hR;simp only at hR;rw[WU,XC]at hR;by_cases her:er=0
  ·obtain⟨g5,g6,g7⟩:=g3 her;rw[Aan (by rw[Ah];simpa using her),YK hw g6 g5,Aa]at hR;subst her;exact⟨m,x,_,0,Ay7,hpos,hR,λh=>absurd rfl h,λ_=>⟨rfl,g7,g5,lP hw g6 g5,by omega⟩, .inr ⟨by omega,g1,g2⟩⟩
  ·rw[Acf (by rw[Ah];simpa using her)]at hR;exact⟨m,x,_,er,Ay7,hpos,hR,λh=>⟨rfl,g4 h⟩,λh=>absurd h her, .inr ⟨by omega,g1,g2⟩⟩
theorem Gts.lens{b p:List UInt8}{f c w r n A:Nat}{l:List Int}{k m:Nat}{x:List Int32}{s:List UInt8}{e:Int}(hw:Bl (w:Int))(g:Gts b p f c w r n A l k m x s e):s.length<=12000/\x.length<=4000/\ (e=0->s.length=m*c*wB (w:Int)):=by
 by_cases he:e=0
 ·obtain⟨h1,h2,_⟩:=g.some' he;have h3:=RA (w:Int) x;have h4:=SH hw x;have h5:=g.pos;rw[<-h1]at h3 h4;refine⟨by omega,by omega,λ_=>by rw[h4,h2]⟩
 ·obtain⟨h1,h2⟩:=g.none' he;exact⟨by simp[h1],by simp[h2],λh=>absurd h he⟩
def nR(G:Nat->List UInt8×Int)(be:Int):Nat->Nat->List UInt8->List UInt8×Int
 |0,_,acc=>if be≠0 then([],38)else(acc,0)
 |j+1,k,acc=>if(G k).2≠0 then([],(G k).2)else nR G be j (k+1) (acc++(G k).1)
def GA(b p:List UInt8)(f c w r n A:Nat)(l:List Int)(k:Nat):List UInt8×Int:=(Vk b p (f:Int) (c:Int) (w:Int) (r:Int) (n:Int) (A:Int) l (k:Int)).getD ([],0)
theorem Gts.eq{b p:List UInt8}{f c w r n A:Nat}{l:List Int}{k m:Nat}{x:List Int32}{s:List UInt8}{e:Int}(g:Gts b p f c w r n A l k m x s e):GA b p f c w r n A l k=(s,e):=by rw[GA,g.got];rfl
def B2(b:List UInt8)(A:Nat)(l:List Int):Int:=(Ww (b.drop ((A:Int)+l.sum).toNat)).2
def Sm(b:List UInt8)(k:Nat):Nat:=(b.getD k 0).toNat
theorem nZ(b:List UInt8)(k:Nat):Sm b k<256:=(b.getD k 0).toNat_lt
def sx(n:Nat)(b:List UInt8)(a:Nat):Int:=
 if n=1 then(Sm b a:Int)-128 else
 if n=2 then(if Sm b a+256*Sm b (a+1)<32768 then(Sm b a+256*Sm b (a+1):Nat)else((Sm b a+256*Sm b (a+1):Nat):Int)-65536)else
 (if Sm b a+256*Sm b (a+1)+65536*Sm b (a+2)<8388608 then(Sm b a+256*Sm b (a+1)+65536*Sm b (a+2):Nat)else((Sm b a+256*Sm b (a+1)+65536*Sm b (a+2):Nat):Int)-16777216)
def nM(n m:Nat)(b:List UInt8):List Int32:=(List.range m).map λx=>Int32.ofInt (sx n b (x*n))
theorem zQ(n m:Nat)(b:List UInt8):(nM n m b).length=m:=by simp[nM]
theorem Af0(n m:Nat)(b:List UInt8):nM n (m+1) b=nM n m b++[Int32.ofInt (sx n b (m*n))]:=by simp[nM,List.range_succ]
theorem iW{n:Int}(h: -2147483648<=n)(h':n<2147483648):(Int32.ofInt n).toInt=n:=by
 rw[Bel,Int.bmod_def,show((Int32.size:Nat):Int)=4294967296 from rfl];split<;>omega
theorem uG{b:List UInt8}{k:Nat}(h:k<b.length):Ap b (k:Int)=some (b.getD k 0):=by
 rw[Br h];simp[List.getD_eq_getElem?_getD,h]
theorem aY(c:UInt8):(Af c:Int32)=Int32.ofInt (c.toNat:Int):=rfl
theorem I4{v:Nat}(k:Nat)(hk:k<=32)(h:v<2147483648):Dp (Int32.ofInt (v:Int)) k=Int32.ofInt ((v*2^k:Nat):Int):=by
 have e:Dp (Int32.ofInt (v:Int)) k=Int32.ofInt ((Int32.ofInt (v:Int)).toInt*2^min k 32):=rfl;rw[e,iW (by omega) (by omega),Bbd hk];simp
theorem Ayi{v w i:Nat}(hv:v<2^i)(hw:w*2^i<2147483648)(hi:i<=31):xC (Int32.ofInt (v:Int)) (Int32.ofInt ((w*2^i:Nat):Int))=Int32.ofInt ((v+w*2^i:Nat):Int):=by
 have hv2:v<2147483648:=Aqh hv (show 2^i<=2^31 from Ah1 (by omega) hi);have e:xC (Int32.ofInt (v:Int)) (Int32.ofInt ((w*2^i:Nat):Int))=Int32.ofInt ((BitVec.ofInt 32 (Int32.ofInt (v:Int)).toInt|||BitVec.ofInt 32 (Int32.ofInt ((w*2^i:Nat):Int)).toInt).toNat:Int):=rfl;rw[e,iW (by omega) (by omega),iW (by omega) (by omega),BitVec.toNat_or,Bc3,Bc3];have a1:((v:Int) %((2^32:Nat):Int)).toNat=v:=by omega
 have a2:(((w*2^i:Nat):Int) %((2^32:Nat):Int)).toNat=w*2^i:=by omega
 rw[a1,a2,Nat.or_comm,Aqr w,<-Bbs hv,Bfk]
theorem Abo(w:Nat)(h:w<2147483648):xC (0:Int32) (Int32.ofInt (w:Int))=Int32.ofInt (w:Int):=by
 have:=Ayi (v:=0) (w:=w) (i:=0) (by simp) (by simpa using h) (by omega);simpa using this
theorem carry{v k:Nat}(hk:k<=31)(h:v*2^k<4294967296)(hv:v<2147483648):Ci (Dp (Int32.ofInt (v:Int)) k) k=Int32.ofInt ((if v*2^k<2147483648 then((v*2^k:Nat):Int)else((v*2^k:Nat):Int)-4294967296).fdiv (2^k)):=by
 rw[I4 k (by omega) hv];have e:∀x:Int32,Ci x k=Int32.ofInt (x.toInt.fdiv (2^min k 32)):=λ_=>rfl;have hX:(Int32.ofInt ((v*2^k:Nat):Int)).toInt=if v*2^k<2147483648 then((v*2^k:Nat):Int)else((v*2^k:Nat):Int)-4294967296:=by
  rw[Bel,Int.bmod_def,show((Int32.size:Nat):Int)=4294967296 from rfl];generalize v*2^k=X at*
  split<;>split<;>omega
 rw[e,Bbd (by omega),hX]
theorem sx2(b:List UInt8)(a:Nat):sx 2 b a=if Sm b a+256*Sm b (a+1)<32768 then((Sm b a+256*Sm b (a+1):Nat):Int)else((Sm b a+256*Sm b (a+1):Nat):Int)-65536:=rfl
theorem sx3(b:List UInt8)(a:Nat):sx 3 b a=if Sm b a+256*Sm b (a+1)+65536*Sm b (a+2)<8388608 then((Sm b a+256*Sm b (a+1)+65536*Sm b (a+2):Nat):Int)else((Sm b a+256*Sm b (a+1)+65536*Sm b (a+2):Nat):Int)-16777216:=rfl
variable (b:List UInt8)
theorem Bdp(bk:Int->List Int32->Option (List Int32×Int))(a:Nat)(acc:List Int32)(h:a+1<=b.length)(hl:b.length<=100000)(ha:acc.length<=100000)(j25:Int->List Int32->Int32->Int->Option (List Int32×Int))(j30:List Int32->Option (List Int32×Int)):
  Gz (Ki bk 8 b) j25 j30 8 b (a:Int) acc=bk ((a+1:Nat):Int) (acc++[Int32.ofInt (sx 1 b a)]):=by
 have hb:=nZ b a;have e:Ao (Af (b.getD a 0):Int32) (128:Int32)=Int32.ofInt (sx 1 b a):=by
  have e1:Ao (Af (b.getD a 0):Int32) (128:Int32)=Int32.ofInt ((Int32.ofInt ((b.getD a 0).toNat:Int)).toInt-(128:Int32).toInt):=rfl;rw[e1,iW (by omega) (by have:=(b.getD a 0).toNat_lt;omega)];rfl
 have q8:Bt (8:Int) 8=1:=by decide
 rw[Gz,Acf (by rw[Ae,Ac];simp;omega),Acf (by rw[As];rfl),uG (by omega),Aa,e,Bg (by simp;omega),Aa,Ki,Zg,q8,Aj];rfl
theorem Bbf(bk:Int->List Int32->Option (List Int32×Int))(a:Nat)(acc:List Int32)(h:a+2<=b.length)(hl:b.length<=100000)(ha:acc.length<=100000)(j28:Int->List Int32->Option (List Int32×Int))(j30:List Int32->Option (List Int32×Int)):
  Gz j28 (Np bk 16 b) j30 16 b (a:Int) acc=bk ((a+2:Nat):Int) (acc++[Int32.ofInt (sx 2 b a)]):=by
 have h0:=nZ b a;have h1:=nZ b (a+1);have q:Bt (16:Int) 8=2:=by decide
 have hF:Au=(Au-3)+1+1+1:=by have:=Ar;omega
 have z0:(GI.toZ (Bf (8:Int) 0)).toNat=0:=by decide
 have z1:(GI.toZ (Bf (8:Int) 1)).toNat=8:=by decide
 have z16:(GI.toZ (Ao (32:Int) 16)).toNat=16:=by decide
 have s0:Dp (Int32.ofInt (Sm b a:Int)) 0=Int32.ofInt (Sm b a:Int):=by have:=I4 (v:=Sm b a) 0 (by omega) (by omega);simpa using this
 have s1:Dp (Int32.ofInt (Sm b (a+1):Int)) 8=Int32.ofInt ((Sm b (a+1)*2^8:Nat):Int):=I4 8 (by omega) (by omega);have o1:=Ayi (v:=Sm b a) (w:=Sm b (a+1)) (i:=8) (by simpa using h0) (by omega) (by omega);have c:=carry (v:=Sm b a+Sm b (a+1)*2^8) (k:=16) (by omega) (by omega) (by omega);rw[Gz,Acf (by rw[Ae,Ac];simp;omega),Aan (by rw[As];decide),Np,hF,Fl,Gv,q,Acf (by decide),show Ad (a:Int) 0=((a:Nat):Int) by rw[Aj];omega,uG (by omega),Aa,Bj (by decide),Aa,z0,
  aY,show((b.getD a 0).toNat:Int)=(Sm b a:Int)from rfl,s0,Abo _ (by omega),show Ad (0:Int) 1=1 by decide,
  Fl,Gv,q,Acf (by decide),show Ad (a:Int) 1=((a+1:Nat):Int) by rw[Aj];omega,uG (by omega),Aa,Bj (by decide),Aa,z1,
  aY,show((b.getD (a+1) 0).toNat:Int)=(Sm b (a+1):Int)from rfl,s1,o1,show Ad (1:Int) 1=2 by decide,
  Fl,Gv,q,Aan (by decide),Zm,Yx,Bj (by decide),Aa,Aa,z16,c,Bg (by simp;omega),Aa,Ki,Zg,q,Aj]
 have e:((if(Sm b a+Sm b (a+1)*2^8)*2^16<2147483648 then(((Sm b a+Sm b (a+1)*2^8)*2^16:Nat):Int)else(((Sm b a+Sm b (a+1)*2^8)*2^16:Nat):Int)-4294967296).fdiv (2^16))=sx 2 b a:=by
  rw[Asw _ (by omega),sx2];split<;>split<;>omega
 rw[e];rfl
theorem Bbk(bk:Int->List Int32->Option (List Int32×Int))(a:Nat)(acc:List Int32)(h:a+3<=b.length)(hl:b.length<=100000)(ha:acc.length<=100000)(j28:Int->List Int32->Option (List Int32×Int))(j30:List Int32->Option (List Int32×Int)):
  Gz j28 (Np bk 24 b) j30 24 b (a:Int) acc=bk ((a+3:Nat):Int) (acc++[Int32.ofInt (sx 3 b a)]):=by
 have h0:=nZ b a;have h1:=nZ b (a+1);have h2:=nZ b (a+2);have q:Bt (24:Int) 8=3:=by decide
 have hF:Au=(Au-4)+1+1+1+1:=by have:=Ar;omega
 have z0:(GI.toZ (Bf (8:Int) 0)).toNat=0:=by decide
 have z1:(GI.toZ (Bf (8:Int) 1)).toNat=8:=by decide
 have z2:(GI.toZ (Bf (8:Int) 2)).toNat=16:=by decide
 have z8:(GI.toZ (Ao (32:Int) 24)).toNat=8:=by decide
 have s0:Dp (Int32.ofInt (Sm b a:Int)) 0=Int32.ofInt (Sm b a:Int):=by have:=I4 (v:=Sm b a) 0 (by omega) (by omega);simpa using this
 have s1:Dp (Int32.ofInt (Sm b (a+1):Int)) 8=Int32.ofInt ((Sm b (a+1)*2^8:Nat):Int):=I4 8 (by omega) (by omega);have s2:Dp (Int32.ofInt (Sm b (a+2):Int)) 16=Int32.ofInt ((Sm b (a+2)*2^16:Nat):Int):=I4 16 (by omega) (by omega);have o1:=Ayi (v:=Sm b a) (w:=Sm b (a+1)) (i:=8) (by simpa using h0) (by omega) (by omega);have o2:=Ayi (v:=Sm b a+Sm b (a+1)*2^8) (w:=Sm b (a+2)) (i:=16) (by omega) (by omega) (by omega);have c:=carry (v:=Sm b a+Sm b (a+1)*2^8+Sm b (a+2)*2^16) (k:=8) (by omega) (by omega) (by omega);rw[Gz,Acf (by rw[Ae,Ac];simp;omega),Aan (by rw[As];decide),Np,hF,Fl,Gv,q,Acf (by decide),show Ad (a:Int) 0=((a:Nat):Int) by rw[Aj];omega,uG (by omega),Aa,Bj (by decide),Aa,z0,
  aY,show((b.getD a 0).toNat:Int)=(Sm b a:Int)from rfl,s0,Abo _ (by omega),show Ad (0:Int) 1=1 by decide,
  Fl,Gv,q,Acf (by decide),show Ad (a:Int) 1=((a+1:Nat):Int) by rw[Aj];omega,uG (by omega),Aa,Bj (by decide),Aa,z1,
  aY,show((b.getD (a+1) 0).toNat:Int)=(Sm b (a+1):Int)from rfl,s1,o1,show Ad (1:Int) 1=2 by decide,
  Fl,Gv,q,Acf (by decide),show Ad (a:Int) 2=((a+2:Nat):Int) by rw[Aj];omega,uG (by omega),Aa,Bj (by decide),Aa,z2,
  aY,show((b.getD (a+2) 0).toNat:Int)=(Sm b (a+2):Int)from rfl,s2,o2,show Ad (2:Int) 1=3 by decide,
  Fl,Gv,q,Aan (by decide),Zm,Yx,Bj (by decide),Aa,Aa,z8,c,Bg (by simp;omega),Aa,Ki,Zg,q,Aj]
 have e:((if(Sm b a+Sm b (a+1)*2^8+Sm b (a+2)*2^16)*2^8<2147483648 then(((Sm b a+Sm b (a+1)*2^8+Sm b (a+2)*2^16)*2^8:Nat):Int)else(((Sm b a+Sm b (a+1)*2^8+Sm b (a+2)*2^16)*2^8:Nat):Int)-4294967296).fdiv (2^8))=sx 3 b a:=by
  rw[Asw _ (by omega),sx3];split<;>split<;>omega
 rw[e];rfl
theorem yL(bits:Int)(n m:Nat)(hn:1<=n)(hm:b.length=m*n)(hl:b.length<=100000)(step:∀(q a:Nat) (acc:List Int32),a+n<=b.length->acc.length<=100000->Eo bits b (q+1) (a:Int) acc=Eo bits b q ((a+n:Nat):Int) (acc++[Int32.ofInt (sx n b a)])):
  ∀(j x q:Nat),x+j=m->j<q->Eo bits b q ((x*n:Nat):Int) (nM n x b)=some (nM n m b,0)
 |0,x,q+1,hx,_=>by
  obtain rfl:x=m:=by omega
  rw[Eo,Gz,Aan (by rw[Ae,Ac];simp;omega)];rfl
 |j+1,x,q+1,hx,hq=>by
  have h1:(x+1)*n<=m*n:=Aep n (by omega);rw[Ajz,Azu]at h1;have h2:m<=m*n:=Bgx m hn;rw[step q (x*n) _ (by omega) (by rw[zQ];omega),<-Af0,show x*n+n=(x+1)*n by rw[Ajz,Azu]];exact yL bits n m hn hm hl step j (x+1) q (by omega) (by omega)
theorem Bdc{bits:Int}(h:Bl bits)(hl:b.length<=100000)(q a:Nat)(acc:List Int32)(ha:a+wB bits<=b.length)(hc:acc.length<=100000):
  Eo bits b (q+1) (a:Int) acc=Eo bits b q ((a+wB bits:Nat):Int) (acc++[Int32.ofInt (sx (wB bits) b a)]):=by
 rw[Eo];obtain rfl|rfl|rfl:=h
 ·exact Bdp b _ a acc ha hl hc _ _
 ·exact Bbf b _ a acc ha hl hc _ _
 ·exact Bbk b _ a acc ha hl hc _ _
theorem yD{bits:Int}(h:Bl bits){m:Nat}(hm:b.length=m*wB bits)(h4:m<=4000):Xu bits b=some (nM (wB bits) m b,0):=by
 have hn:=M4 bits;have hl:b.length<=12000:=by rw[hm];exact Ba9 h4 hn.2
 rw[Xu,QF,ic h,Aa];simp only;rw[Aan (by rw[Ah];simp),Aj9 h,Bj (by rw[Ah];simp;omega),Aa];have hr:Fo (Ac b) (wB bits:Int)=0:=by rw[Ac,IZ,hm,Bcf];rfl
 have hq:Bt (Ac b) (wB bits:Int)=(m:Int):=by rw[Ac,GG,hm,Bgd _ (by omega)]
 rw[Aan (by rw[Ah,hr];simp),Aa,hq,Aan (by rw[Aq];simp;omega),MR];have:=yL b bits (wB bits) m (by omega) hm (by omega) (λq a acc ha hc=>Bdc b h (by omega) q a acc ha hc) m 0 Au (by omega) (by have:=Ar;omega);simpa [nM]using this
end Go.Pl
namespace Go.Pl
open Go Go.Lv
theorem Bbg{c:Nat}{w:Nat}(hc:c<=6)(hw:Bl (w:Int)):Bt (Bf (c:Int) (w:Int)) 8=((c*wB (w:Int):Nat):Int):=by
 have h:w=8\/w=16\/w=24:=by unfold Bl at hw;omega
 have:c=0\/c=1\/c=2\/c=3\/c=4\/c=5\/c=6:=by omega
 rcases h with rfl|rfl|rfl<;>rcases this with rfl|rfl|rfl|rfl|rfl|rfl|rfl<;>rfl
theorem Bam{w:Nat}(hw:Bl (w:Int)):8*wB (w:Int)=w/\w<=24:=by
 have h:w=8\/w=16\/w=24:=by unfold Bl at hw;omega
 rcases h with rfl|rfl|rfl<;>exact⟨rfl,by omega⟩
theorem Bbz{t c w:Nat}(ht:t<=4000)(hc:c<=6)(hw:Bl (w:Int)):Bt (Bf (Bf (t:Int) (c:Int)) (w:Int)) 8=((t*(c*wB (w:Int)):Nat):Int):=by
 obtain⟨h1,h2⟩:=Bam hw;have e1:(t:Int)*(c:Int)=((t*c:Nat):Int):=by simp
 have b1:t*c<=4000*6:=Ba9 ht hc;have b2:t*c*w<=24000*24:=Ba9 b1 h2;rw[Fa (a:=(t:Int)) (by rw[e1];omega) (by rw[e1];omega),e1,Fa (by rw[<-Aqn];omega) (by rw[<-Aqn];omega),<-Aqn,show(8:Int)=((8:Nat):Int)from rfl,GG];congr 1;generalize wB (w:Int)=W at*
 subst h1;rw[Nat.mul_left_comm,Nat.mul_div_cancel_left _ (by omega),Azk]
def smF(w:Nat)(y:List UInt8×Int):List Int32:=if y.2≠0 then []else nM (wB (w:Int)) (y.1.length/wB (w:Int)) y.1
theorem xA(z:Int):(u8 z).toNat=(z %256).toNat:=by
 have:(z %256).toNat<256:=by omega
 rw[u8,Aqq,Adz (by omega)]
theorem W6{bits:Int}(h:Bl bits):∀(l:List Int32) (i j:Nat),i<l.length->j<wB bits-> (Dz bits l).getD (i*wB bits+j) 0=(FR bits (l.getD i 0).toInt).getD j 0
 |[],i,j,hi,_=>by simp at hi
 |x::l,0,j,_,hj=>by
  have h1:=E7 h x.toInt;have e:Dz bits (x::l)=FR bits x.toInt++Dz bits l:=by simp[Dz]
  rw[e,Bhd,Bcg,List.getD_eq_getElem?_getD,List.getD_eq_getElem?_getD,List.getElem?_append_left (by omega)];rfl
 |x::l,i+1,j,hi,hj=>by
  have h1:=E7 h x.toInt;have e:Dz bits (x::l)=FR bits x.toInt++Dz bits l:=by simp[Dz]
  have ih:=W6 h l i j (by simpa using hi) hj;have e2:(i+1)*wB bits+j=(FR bits x.toInt).length+(i*wB bits+j):=by rw[Ajz,Azu,h1];omega
  rw[e,e2,List.getD_eq_getElem?_getD,List.getElem?_append_right (by omega),Bch,<-List.getD_eq_getElem?_getD,ih];rfl
theorem Ayv{bits:Int}(h:Bl bits)(l:List Int32)(hr:xq bits l)(i:Nat)(hi:i<l.length):Int32.ofInt (sx (wB bits) (Dz bits l) (i*wB bits))=l.getD i 0:=by
 have hm:l.getD i 0∈l:=by rw[List.getD_eq_getElem?_getD,List.getElem?_eq_getElem hi];exact Aqp hi
 have hv:=hr _ hm;have g:∀j,j<wB bits->Sm (Dz bits l) (i*wB bits+j)=((FR bits (l.getD i 0).toInt).getD j 0).toNat:=λj hj=>by rw[Sm,W6 h l i j hi hj]
 generalize l.getD i 0=x at*
 have key:sx (wB bits) (Dz bits l) (i*wB bits)=x.toInt:=by
  generalize hA:i*wB bits=a at*
  obtain rfl|rfl|rfl:=h
  ·have g0:=g 0 (by decide);have e1:(FR 8 x.toInt).getD 0 0=u8 (x.toInt+128):=rfl;rw[Bde,e1,xA]at g0;simp only[hB]at hv;simp at hv;have e2:wB 8=1:=rfl;rw[e2,sx,Acf rfl,g0];omega
  ·have g0:=g 0 (by decide);have g1:=g 1 (by decide);have e0:(FR 16 x.toInt).getD 0 0=u8 x.toInt:=rfl;have e1:(FR 16 x.toInt).getD 1 0=u8 (x.toInt/256):=rfl;rw[Bde,e0,xA]at g0;rw[e1,xA]at g1;simp only[hB]at hv;simp at hv;have e2:wB 16=2:=rfl;rw[e2,sx2,g0,g1];split<;>omega
  ·have g0:=g 0 (by decide);have g1:=g 1 (by decide);have g2:=g 2 (by decide);have e0:(FR 24 x.toInt).getD 0 0=u8 x.toInt:=rfl;have e1:(FR 24 x.toInt).getD 1 0=u8 (x.toInt/256):=rfl;have e3:(FR 24 x.toInt).getD 2 0=u8 (x.toInt/65536):=rfl;rw[Bde,e0,xA]at g0;rw[e1,xA]at g1;rw[e3,xA]at g2;simp only[hB]at hv;simp at hv;have e2:wB 24=3:=rfl;rw[e2,sx3,g0,g1,g2];split<;>omega
 rw[key];simp
theorem Ahb{bits:Int}(h:Bl bits)(l:List Int32)(hr:xq bits l):nM (wB bits) l.length (Dz bits l)=l:=by
 refine Bb4 (zQ _ _ _) λi h1 h2=>?_;have:=Ayv h l hr i h2;simp only[nM,Be6,Bex];rw[this,List.getD_eq_getElem?_getD,List.getElem?_eq_getElem h2];rfl
theorem Gts.O6{b p:List UInt8}{f c w r n A:Nat}{l:List Int}{k m:Nat}{x:List Int32}{s:List UInt8}{e:Int}(hw:Bl (w:Int))(g:Gts b p f c w r n A l k m x s e):smF w (s,e)=x:=by
 have hwb:=M4 (w:Int);by_cases he:e=0
 ·obtain⟨h1,h2,h3,_⟩:=g.some' he;have h4:=g.pos;have h5:=SH hw x;rw[smF,Aan (by simpa using he)];simp only;rw[h1,h5,Bgd _ (by omega)];exact Ahb hw x (jV hw (by omega) h3)
 ·rw[smF,Acf he,(g.none' he).2]
abbrev C5:=Int×Int×Int×List Int32×Int
def Abt(e:Int):C5:=(0,0,0,[],e)
theorem yV{uM p:List UInt8}(hs:uM.length=8)(hp:p.length<=64):Pa uM p=some (uM==Sk (Uk p).toNat 8,0):=by
 rw[Pa,iC p hp,Aa];simp only;rw[Aan (by rw[Ah,Ah,Ac,Ac,Cg,hs];simp),Ij,Aa]
theorem Avw(b p:List UInt8)(m c w h o q n g y ab:Int)(k v:List Int){e:Int}(he:e≠0):Qd b p m c w h o q n g k e y ab v=some (Abt e):=by
 rw[Qd,KT,Acf (by rw[Ah];simpa using he)];rfl
theorem S2(b p:List UInt8)(m c w h o q n g y ab:Int)(k:List Int){e:Int}(he:e≠0):Va b p m c w h o q n g y ab k e=some (Abt e):=by
 rw[Va,KZ,Acf (by rw[Ah];simpa using he)];rfl
theorem Atu(b p:List UInt8)(m c w h o q n g y ab:Int)(k:List Int):Va b p m c w h o q n g y ab k 0=AU b p m c w h o q n g y ab k:=by
 rw[Va,KZ,Aan (by rw[Ah];simp)]
def pG(X:Nat->List Int32)(E:Nat->Int)(be:Int):Nat->Nat->List Int32->List Int32×Int
 |0,_,acc=>if be≠0 then([],38)else(acc,0)
 |j+1,k,acc=>if E k≠0 then([],E k)else pG X E be j (k+1) (acc++X k)
def nG(c w r:Nat)(y:List Int32×Int):C5:=if y.2≠0 then Abt y.2 else((c:Int),(w:Int),(r:Int),y.1,0)
def Auv(b p:List UInt8)(f c w r n A:Nat)(l:List Int):C5:=
 nG c w r (pG (λk=>smF w (GA b p f c w r n A l k)) (λk=>(GA b p f c w r n A l k).2) (B2 b A l) l.length 0 [])
section
variable {b p:List UInt8} {f c w r n A:Nat} {l:List Int} (o:Opn b p f c w r n A l)
include o
theorem uA(a1 a2 a3 a4:Int):∀(j k q:Nat) (acc:List Int32),k+j=l.length->j<q-> (k=l.length-> (A:Int)+l.sum<=b.length)->acc.length<=4000*k->
  Uz b l (f:Int) (c:Int) (w:Int) (r:Int) (n:Int) a1 a2 a3 (A:Int) a4 (Na p) (Ak (Ag r) n) q ((A:Int)+(l.take k).sum) (k:Int) acc=
   some (nG c w r (pG (λk=>smF w (GA b p f c w r n A l k)) (λk=>(GA b p f c w r n A l k).2) (B2 b A l) j k acc))
 |0,k,q+1,acc,hk,_,hfit,_=>by
  have hA:=o.at';have Ah3:=o.file;have hs1:=o.some1;have hsum:=o.sum;have b1:=Kk o.five l.length;have hf:=hfit (by omega);obtain rfl:k=l.length:=by omega
  rw[Azd]at b1⊢;rw[Uz,LV,Aan (by rw[Ae,Ac];simp),aB,pI,Bv,Aa,O0 _ (by rw[Ah5];omega),Aa,pG,B2];generalize Ww (b.drop ((A:Int)+l.sum).toNat)=v;obtain⟨v1,v2⟩:=v;simp only;by_cases hv:v2≠0
  ·rw[Acf hv,Acf (by rw[Ah];simpa using hv),nG,Acf (by simp)];rfl
  ·rw[Aan hv,Aan (by rw[Ah];simpa using hv),nG,Aan (by simp)]
 |j+1,k,q+1,acc,hk,hq,hfit,hacc=>by
  have hA:=o.at';have Ah3:=o.file;have hs1:=o.some1;have hsum:=o.sum;have b1:=Kk o.five k;have b2:=Kk o.five (k+1);have hkl:k<l.length:=by omega
  have e2:=Mp hkl;have h5:=o.five l[k] (Aqp _);obtain⟨m,x,s,e,g⟩:=tD o k hkl;obtain⟨hc,hw,hr,hn,_⟩:=Uu o.shape;have hl:=g.lens hw;rw[Uz,LV,Acf (by rw[Ae,Ac];simp;omega),Br hkl,Aa,Aa,Aj (a:=(A:Int)+(l.take k).sum) (by omega) (by omega),Bgy,<-e2,Ac,pG,g.eq];simp only;rcases g.way with⟨h1,h2⟩|⟨h1,h2,_⟩
  ·rw[Acf (by rw[Ae,Adx];omega),Acf (by rw[h2];simp),h2,nG,Acf (by simp)];rfl
  ·rw[Aan (by rw[Ae,Adx];omega),g.mom];simp only[Aa];rw[Uy,Aa,show(b.take ((A:Int)+(l.take (k+1)).sum).toNat).drop ((A:Int)+(l.take k).sum).toNat=Agx b A l k from rfl,h2,Aa];simp only;rw[ZY,qL];by_cases he:e≠0
   ·rw[Acf (by rw[Ah];simpa using he),Acf he,nG,Acf he];rfl
   ·have he0:e=0:=by simpa using he
    have Ah4:=(g.some' he0).2.2.2.2;rw[Aan (by rw[Ah];simpa using he),Aan he,g.O6 hw,Bg,Aa,Aj (a:=(A:Int)+(l.take k).sum) (by omega) (by omega),Bgy,<-e2,Aj];exact uA a1 a2 a3 a4 j (k+1) q (acc++x) (by omega) (by omega) (λh=>by rw[h,Azd]at Ah4;exact Ah4) (by rw[Adl];omega)
theorem vV:∀(j k q:Nat) (acc:List Int32),k+j=l.length->j<q-> (k=l.length-> (A:Int)+l.sum<=b.length)->acc.length<=4000*k->
  Nc b (f:Int) (c:Int) (w:Int) (r:Int) (n:Int) l (Ak (Ag r) n) (Na p) q ((A:Int)+(l.take k).sum) (k:Int) acc=
   some (nG c w r (pG (λk=>smF w (GA b p f c w r n A l k)) (λk=>(GA b p f c w r n A l k).2) (B2 b A l) j k acc))
 |0,k,q+1,acc,hk,_,hfit,_=>by
  have hA:=o.at';have Ah3:=o.file;have hs1:=o.some1;have hsum:=o.sum;have b1:=Kk o.five l.length;have hf:=hfit (by omega);obtain rfl:k=l.length:=by omega
  rw[Azd]at b1⊢;rw[Nc,BC,Aan (by rw[Ae,Ac];simp),OQ,NR,Bv,Aa,xY _ (by rw[Ah5];omega),Aa,pG,B2];generalize Ww (b.drop ((A:Int)+l.sum).toNat)=v;obtain⟨v1,v2⟩:=v;simp only;by_cases hv:v2≠0
  ·rw[Acf hv,Acf (by rw[Ah];simpa using hv),nG,Acf (by simp)];rfl
  ·rw[Aan hv,Aan (by rw[Ah];simpa using hv),nG,Aan (by simp)]
 |j+1,k,q+1,acc,hk,hq,hfit,hacc=>by
  have hA:=o.at';have Ah3:=o.file;have hs1:=o.some1;have hsum:=o.sum;have b1:=Kk o.five k;have b2:=Kk o.five (k+1);have hkl:k<l.length:=by omega
  have e2:=Mp hkl;have h5:=o.five l[k] (Aqp _);obtain⟨m,x,s,e,g⟩:=tD o k hkl;obtain⟨hc,hw,hr,hn,_⟩:=Uu o.shape;have hl:=g.lens hw;rw[Nc,BC,Acf (by rw[Ae,Ac];simp;omega),Br hkl,Aa,Aa,Ac,Bu,pG,g.eq];simp only;rcases g.way with⟨h1,h2⟩|⟨h1,_,h2⟩
  ·rw[Acf (by rw[Ae,Adx];omega),Acf (by rw[h2];simp),h2,nG,Acf (by simp)];rfl
  ·rw[Aan (by rw[Ae,Adx];omega),g.mom];simp only[Aa];rw[Aj (a:=(A:Int)+(l.take k).sum) (by omega) (by omega),Bgy,<-e2,Uy,Aa,show(b.take ((A:Int)+(l.take (k+1)).sum).toNat).drop ((A:Int)+(l.take k).sum).toNat=Agx b A l k from rfl,h2,Aa];simp only;rw[OR,NU];by_cases he:e≠0
   ·rw[Acf (by rw[Ah];simpa using he),Acf he,nG,Acf he];rfl
   ·have he0:e=0:=by simpa using he
    have Ah4:=(g.some' he0).2.2.2.2;rw[Aan (by rw[Ah];simpa using he),Aan he,g.O6 hw,Bg,Aa,Br hkl,Aa,Aa,Aj (a:=(A:Int)+(l.take k).sum) (by omega) (by omega),Bgy,<-e2,Aj];exact vV j (k+1) q (acc++x) (by omega) (by omega) (λh=>by rw[h,Azd]at Ah4;exact Ah4) (by rw[Adl];omega)
end
theorem zb(l:List Int)(b p:List UInt8)(m c w h o q n g:Int)(k:List Int)(hl:l.length<=1000)(h5:∀x∈l,5<=x)(A:Int)(hA:0<=A)(hb:A+l.sum<=1000000):∀(j i z:Nat),i+j=l.length->j<z->Um l b p m c w h o q n g k z (i:Int) (A+(l.take i).sum)=KB b p l m c w h o q n g (A+l.sum) k
 |0,i,z+1,hi,_=>by
  rw[Um,KI,Aan (by rw[Ae,Ac];simp;omega),show i=l.length by omega,Azd]
 |j+1,i,z+1,hi,hz=>by
  have hlt:i<l.length:=by omega
  have b1:=Kk h5 i;have b2:=Kk h5 (i+1);have e:=Mp hlt;have ih:=zb l b p m c w h o q n g k hl h5 A hA hb j (i+1) z (by omega) (by omega);rw[e,<-Bgy]at ih;rw[Um,KI,Acf (by rw[Ae,Ac];simp;omega),Br hlt,Aa,Aa,Aj,Aj];exact ih
theorem Aii(b p:List UInt8)(hb:b.length<=100100)(hp:p.length<=64):
  (∃e:Int,e≠0/\Dh b p=some (aR e)/\Tc b p=some (Abt e)/\Kn b p=some (Abt e))\/
  (∃f c w r n T:Nat,∃q d:Int,T<=b.length/\b.length<=100000/\Fu f c w r n=true/\Yj c r n=true/\
   Dh b p=Qg b (f:Int) (c:Int) (w:Int) (r:Int) (n:Int) (T:Int)/\
   Tc b p=AU b p (f:Int) (c:Int) (w:Int) (r:Int) (n:Int) q d (T:Int) 0 0 (Ak (Ag r) n)/\
   Kn b p=(FV b (T:Int) (f:Int) (c:Int) (w:Int) (r:Int) (n:Int)).bind λ(h,ae)=>if Bc ae 0=true then some (Abt ae)else(Fw (r:Int) (n:Int)).bind λp2=>(Nl p).bind λ(u,ap)=>SU b (f:Int) (c:Int) (w:Int) (r:Int) (n:Int) h p2 u (Ad (T:Int) (Ad (Bf 4 (Ac h)) 4)) 0 []):=by
 have hO:Dh b p=Dh b p:=rfl;have hV:Tc b p=Tc b p:=rfl;have hR:Kn b p=Kn b p:=rfl
 conv at hO=>rhs;rw[Dh,Uw,Aan (by rw[Aq,Ac];simp;omega)]
 conv at hV=>rhs;rw[Tc,eX,Aan (by rw[Aq,Ac];simp;omega),pK]
 conv at hR=>rhs;rw[Kn,SV,Aan (by rw[Aq,Ac];simp;omega),aL]
 by_cases h1:100000<b.length
 ·rw[Acf (by rw[Aq,Ac];simp;omega)]at hO hV hR;refine .inl ⟨4,by omega,hO,?_,?_⟩
  ·rw[hV,Aa];rfl
  ·rw[hR,Aa];rfl
 rw[Aan (by rw[Aq,Ac];simp;omega)]at hO hV hR;rw[Px b (by omega),Aa]at hO hV;rw[BT b (by omega),Aa]at hR;by_cases h2:(Bq b).2=0
 ·obtain⟨p0,p1,p2⟩:=BI h2;have hc:=Bv (l:=b) p0 p1;simp only[h2]at hO hV hR;rw[Aan (by rw[Ah];simp),hc,Aa,show b.drop (Bq b).1.toNat=Il b from rfl]at hO hV hR;rw[QJ _ (by simp[Il];omega),Aa]at hO hV;rw[gY _ (by simp[Il];omega),Aa]at hR;by_cases h3:(Ek (Il b)).2.2.2.2.2=0
  ·obtain⟨g1,g2,g3,g4⟩:=rX h3;have hlen:(Il b).length=b.length-(Bq b).1.toNat:=by simp[Il]
   generalize hF:(Bq b).1.toNat=F at*
   have hF':(Bq b).1=(F:Int):=by omega
   rw[g1,hF']at hO hV hR;simp only at hO hV hR;generalize f0 (Il b)=f at*
   generalize f1 (Il b)=c at*
   generalize f2 (Il b)=w at*
   generalize f3 (Il b)=r at*
   generalize f4 (Il b)=n at*
   have t22:Ad (F:Int) 22=((F+22:Nat):Int):=by rw[Aj];omega
   have t30:Ad ((F+22:Nat):Int) 8=((F+30:Nat):Int):=by rw[Aj];omega
   have Bef:f=1\/f=2:=by simp only[Fu,Adx]at g3;omega
   rw[Aan (by rw[Ah];simp),t22,t30]at hO;rw[Aan (by rw[Ah];simp),qW g3 g4,Aa,t22,t30]at hV;rw[Aa]at hR;simp only at hV hR;rw[Aan (by rw[Ah];simp),t22,WV,t30]at hR;by_cases NJ:((p==([]:List UInt8)) !=(geq (f:Int) (1:Int)))=true
   ·rw[Acf NJ]at hO hR;refine .inl ⟨26,by omega,hO,?_,?_⟩
    ·rw[hV];by_cases h5:f=2
     ·rw[Acf (by rw[As,h5];rfl),Aa];simp only;rw[Aan (by rw[Ah];simp),Acf NJ,S2 _ _ _ _ _ _ _ _ _ _ _ _ _ (by omega)]
     ·rw[Aan (by rw[As];simp;omega),Aa];simp only;rw[Aan (by rw[Ah];simp),Acf NJ,S2 _ _ _ _ _ _ _ _ _ _ _ _ _ (by omega)]
    ·rw[hR,Aa];rfl
   ·rw[Aan NJ]at hO hR;have hpf:(p=[]↔f=1):=by
     rw[As]at NJ;have h5:(p==([]:List UInt8))=((f:Int)==1):=by simpa using NJ
     have h6:(p==([]:List UInt8))=true↔((f:Int)==1)=true:=by rw[h5]
     rw[Avz,Avz]at h6;rw[h6];omega
    by_cases h5:f=2
    ·have Aqm:p≠ []:=λe=>by have:=hpf.1 e;omega
     rw[Acf (by rw[As,h5];rfl),Aa]at hV;simp only at hV;rw[Aan (by rw[Ah];simp),Aan NJ,Aan (by rw[As];simp;omega)]at hV;rw[Acf (by simpa using Aqm)]at hO;rw[Aan (by simpa using Aqm)]at hR;by_cases h6:b.length<F+30
     ·rw[Acf (by rw[Ae,Ac];simp;omega)]at hO hV hR;refine .inl ⟨24,by omega,hO,?_,?_⟩
      ·rw[hV,S2 _ _ _ _ _ _ _ _ _ _ _ _ _ (by omega)]
      ·rw[hR,Aa];rfl
     ·have hseg:((b.take (F+30)).drop (F+22)).length=8:=by simp;omega
      rw[Aan (by rw[Ae,Ac];simp;omega),Uy,Aa,show((F+30:Nat):Int).toNat=F+30 from rfl,show((F+22:Nat):Int).toNat=F+22 from rfl]at hO hV hR;rw[yV hseg hp,Aa]at hO hV;rw[gM p hp,Aa]at hR;simp only at hO hV;rw[Aan (by rw[Ah];simp)]at hO;generalize(b.take (F+30)).drop (F+22)=uM at*
      by_cases h7:uM=Sk (Uk p).toNat 8
      ·rw[Aan (by simp[h7])]at hO hV;rw[Aan (by simp[h7]),Aa]at hR;simp only at hR;rw[Aan (by rw[Ah];simp)]at hR;rw[Atu]at hV;exact .inr ⟨f,c,w,r,n,F+30,(F:Int),((F+22:Nat):Int),by omega,by omega,g3,g4,hO,hV,hR⟩
      ·rw[Acf (by simpa using h7)]at hO hV;rw[Acf (by simpa using h7)]at hR;refine .inl ⟨26,by omega,hO,?_,?_⟩
       ·rw[hV,S2 _ _ _ _ _ _ _ _ _ _ _ _ _ (by omega)]
       ·rw[hR,Aa];rfl
    ·have hpe:p=[]:=hpf.2 (by omega);rw[Aan (by rw[As];simp;omega),Aa]at hV;simp only at hV;rw[Aan (by rw[Ah];simp),Aan NJ,Acf (by rw[As];simp;omega),Atu]at hV;rw[Aan (by rw[hpe];simp)]at hO;rw[Acf (by rw[hpe];rfl),Aa]at hR;simp only at hR;rw[Aan (by rw[Ah];simp)]at hR;exact .inr ⟨f,c,w,r,n,F+22,(F:Int),((F+22:Nat):Int),by omega,by omega,g3,g4,hO,hV,hR⟩
  ·generalize Ek (Il b)=v at*
   obtain⟨v1,v2,v3,v4,v5,v6⟩:=v;simp only at h3 hO hV hR;rw[Acf (by rw[Ah];simpa using h3)]at hO hV;refine .inl ⟨v6,h3,hO,?_,?_⟩
   ·rw[hV,Aa];simp only;rw[Acf (by rw[Ah];simpa using h3)];rfl
   ·rw[hR,Aa];simp only;rw[Acf (by rw[Ah];simpa using h3)];rfl
 ·generalize Bq b=v at*
  obtain⟨v,e⟩:=v;simp only at h2 hO hV hR;rw[Acf (by rw[Ah];simpa using h2)]at hO hV hR;refine .inl ⟨e,h2,hO,?_,?_⟩
  ·rw[hV,Aa];simp only;rw[Acf (by rw[Ah];simpa using h2)];rfl
  ·rw[hR,Aa];simp only;rw[Acf (by rw[Ah];simpa using h2)];rfl
theorem Ak2(b p:List UInt8)(hb:b.length<=100100)(hp:p.length<=64):
  (∃e:Int,e≠0/\Dh b p=some (aR e)/\Fg b p=some (aR e)/\Tc b p=some (Abt e)/\Kn b p=some (Abt e))\/
  (∃f c w r n A l,Opn b p f c w r n A l/\Tc b p=some (Auv b p f c w r n A l)/\Kn b p=some (Auv b p f c w r n A l)):=by
 have Az2:∀{e e2:Int},aR e=aR e2->e=e2:=λh=>by simpa [aR]using h
 rcases Aii b p hb hp with⟨e,he,h1,h2,h3⟩|⟨f,c,w,r,n,T,q,d,hT,Ah3,g3,g4,hO,hV,hR⟩
 ·rcases C9 b p hb hp with⟨e',he',k1,k2⟩|⟨f,c,w,r,n,A,l,o⟩
  ·rw[h1]at k1;have:=Az2 (Bba k1);subst this;exact .inl ⟨e,he,h1,k2,h2,h3⟩
  ·have:=o.prog;rw[h1]at this;have:=Bba this;simp only[aR,Ah7]at this;exact absurd this.2.2.2.2.2.2.2 he
 ·obtain⟨hc,hw,hr,hn,_⟩:=Uu g3;have hfit:n<=4000/c:=by simp only[Yj,Adx]at g4;exact g4.1
  have hn4:n<=4000:=by have:=Aq1 4000 c;omega
  rw[tM g3 g4 b hb T hT]at hO;have hcut:=Bv (l:=b) (a:=(T:Int)) (by omega) (by omega);rw[Ahe]at hcut;have hdl:(b.drop T).length<=100100:=by simp;omega
  rw[AU,aM,Aan (by rw[Ae,Ac];simp;omega),hcut,Aa,Ac,uL _ _ hdl,Aa]at hV;rw[FV,hcut,Aa,iO hr.2 hn hn4,Aa,Ac,uq _ _ hdl,Aa,Aa]at hR;by_cases h:(Ej (b.drop T) (Ak (Ag r) n).length).2≠0
  ·rw[Acf h]at hO;generalize Ej (b.drop T) (Ak (Ag r) n).length=v at*
   obtain⟨v1,v2⟩:=v;simp only at h hO hV hR;rcases C9 b p hb hp with⟨e',he',k1,k2⟩|⟨f,c,w,r,n,A,l,o⟩
   ·rw[hO]at k1;have:=Az2 (Bba k1);subst this;refine .inl ⟨_,h,hO,k2,?_,?_⟩
    ·rw[hV,IC,JC,Acf (by rw[Ah];simpa using h),Avw _ _ _ _ _ _ _ _ _ _ _ _ _ _ h]
    ·rw[hR,Acf (by rw[Ah];simpa using h)]
   ·have:=o.prog;rw[hO]at this;have:=Bba this;simp only[aR,Ah7]at this;exact absurd this.2.2.2.2.2.2.2 h
  ·have h0:(Ej (b.drop T) (Ak (Ag r) n).length).2=0:=by simpa using h
   rw[Aan h]at hO;generalize hsv:Ej (b.drop T) (Ak (Ag r) n).length=v at*
   obtain⟨v1,v2⟩:=v;simp only at h0 hO hV hR;subst h0;rcases C9 b p hb hp with⟨e',he',k1,k2⟩|⟨f',c',w',r',n',A,l,o⟩
   ·rw[hO]at k1;have:=Bba k1;simp only[aR,Ah7]at this;exact absurd this.2.2.2.2.2.2.2.symm he'
   ·have hp2:=o.prog;rw[hO]at hp2;have hp3:=Bba hp2;simp only[Ah7]at hp3;obtain⟨i1,i2,i3,i4,i5,i6,i7,_⟩:=hp3;obtain rfl:f=f':=by omega
    obtain rfl:c=c':=by omega
    obtain rfl:w=w':=by omega
    obtain rfl:r=r':=by omega
    obtain rfl:n=n':=by omega
    subst i7;have hlen:=o.len;have hs1:=o.some1;have hsum:=o.sum;have hA:=o.at';have hAT:(A:Int)=(T:Int)+4*(v1.length:Int)+4:=by omega
    have a1:Bf 4 (v1.length:Int)=4*(v1.length:Int):=Fa;have eV:Ad (Ad (T:Int) (Bf 4 (Ac v1))) 4=(A:Int):=by
     rw[Ac,a1,Aj (a:=(T:Int)) (by omega) (by omega),Aj];omega
    have eR:Ad (T:Int) (Ad (Bf 4 (Ac v1)) 4)=(A:Int):=by
     rw[Ac,a1,Aj (a:=4*(v1.length:Int)) (by omega) (by omega),Aj];omega
    have hlv:=uA o q d (T:Int) ((A:Int)+v1.sum) v1.length 0 Au [] (by omega) (by have:=Ar;omega) (by omega) (by simp);have hlr:=vV o v1.length 0 Au [] (by omega) (by have:=Ar;omega) (by omega) (by simp);rw[Bbt,Bgh,Int.add_zero]at hlv hlr;refine .inr ⟨f,c,w,r,n,A,v1,o,?_,?_⟩
    ·have hs:=zb v1 b p (f:Int) (c:Int) (w:Int) (r:Int) (n:Int) q d (T:Int) (Ak (Ag r) n) hs1.2 o.five (A:Int) (by omega) (by omega) v1.length 0 Au (by omega) (by have:=Ar;omega);rw[Bbt,Bgh,Int.add_zero]at hs;rw[hV,IC,JC,Aan (by rw[Ah];simp),YS,eV];refine Bda hs ?_;rw[KB,ZD,eV,Qd,KT,Aan (by rw[Ah];simp),YL p o.pass,Aa];exact hlv
    ·rw[hR,Aan (by rw[Ah];simp),Aa,aS p o.pass,Aa,eR];exact hlr
def E3(b:List UInt8):List Int:=Ak (Ag (f3 (Il b))) (f4 (Il b))
theorem Aji{ch:Nat}{bits:Int}(hb:Bl bits)(h1:1<=ch)(h6:ch<=6):Gi (ch:Int) bits=some 0:=by
 have hr:∃x y,Sg bits=some (x,y,0):=⟨_,_,ic hb⟩;obtain⟨x,y,hr⟩:=hr;rw[Gi,hr,Aa];simp only;rw[Aan (by simp[Ah,Ae,Aq];omega)]
abbrev P6':=Int×Int×Int×List Int32×List Int×Int
def As8(e:Int):P6':=(0,0,0,[],[],e)
theorem ny{c r n:Nat}(h:Yj c r n=true):1<= (Ak (Ag r) n).length/\ (Ak (Ag r) n).length<=1000:=by
 simp only[Yj,Adx]at h;rw[AH];exact⟨Nat.le_add_left _ _,h.2⟩
end Go.Pl
