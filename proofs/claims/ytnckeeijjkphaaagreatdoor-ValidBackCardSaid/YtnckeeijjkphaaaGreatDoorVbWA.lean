/- A part of a proof (see the text that ends in Proof). No conditions. -/
import Derived.Test.YtnckeeijjkphaaaGreatDoorVbPA
set_option linter.unusedVariables false
set_option linter.unusedSimpArgs false
namespace Go.Lv
theorem Ag{a b:Int}(h: -9223372036854775808<=a+b:=by omega)(h':a+b<=9223372036854775807:=by omega):Ae a b=a+b:=by rw[At1,Bo h h']
theorem Bi{a b:Int}(h: -9223372036854775808<=a-b:=by omega)(h':a-b<=9223372036854775807:=by omega):Ah a b=a-b:=by rw[Aud,Bo h h']
theorem Hc{a b:Int}(h: -9223372036854775808<=a*b:=by omega)(h':a*b<=9223372036854775807:=by omega):Bd a b=a*b:=by rw[Aj8,Bo h h']
theorem OQ(c:UInt8):(Ad c:Int)=(c.toNat:Int):=by rw[Al1,Bo]<;>have:=c.toNat_lt<;>omega
theorem wS(c:UInt32):(Ad c:Int)=(c.toNat:Int):=by rw[Ah8,Bo]<;>have:=c.toNat_lt<;>omega
theorem nD(c:UInt8):(Ad c:UInt64)=UInt64.ofNat c.toNat:=by simp only[Ad,Zq,Gd]
theorem Cn(c:UInt32):(Ad c:UInt64)=UInt64.ofNat c.toNat:=by simp only[Ad,Vy,Gd]
theorem SB(c:UInt64):(Ad c:UInt8)=UInt8.ofNat c.toNat:=by simp only[Ad,Ia,Lo]
theorem nM(c:UInt32):(Ad c:UInt8)=UInt8.ofNat c.toNat:=by simp only[Ad,Vy,Lo]
theorem Nf(n:Nat):(Ad (n:Int):UInt64)=UInt64.ofNat n:=by simp only[Ad];exact Gd n
theorem P9(n:Nat):(Ad (n:Int):UInt32)=UInt32.ofNat n:=by simp only[Ad];exact Ej n
theorem All(n:Nat):(Ad (n:Int):UInt8)=UInt8.ofNat n:=by simp only[Ad];exact Lo n
theorem tN{c:UInt64}(h:c.toNat<9223372036854775808):(Ad c:Int)=(c.toNat:Int):=by rw[Ah3,Bo]<;>omega
theorem Afv:kg=17179869184:=by decide
theorem Al:36893488147419103231<Aq:=by decide
theorem Ck{α:Type}{l:List α}{n:Nat}(h:n<l.length:=by omega):Aj l (n:Int)=some l[n]:=by simp[Aj,h]
theorem Rj{α:Type}{l:List α}{n:Nat}(x:α)(h:n<l.length):Ip l (n:Int) x=some (l.set n x):=by simp[Ip,h]
theorem Qx{α:Type}{l:List α}{a b:Int}(h:0<=a:=by omega)(h1:a<=b:=by omega)(h2:b<=l.length:=by omega):Ca l a b=some ((l.take b.toNat).drop a.toNat):=by rw[Ca,Abb ⟨h,h1,h2⟩]
theorem Jb{α:Type}{l:List α}{a:Int}(h:0<=a:=by omega)(h1:a<=l.length:=by omega):Ca l a (Ac l)=some (l.drop a.toNat):=by
 unfold Ac;rw[Qx h h1 (Int.le_refl _),Ajv,Ax1]
theorem Je{α:Type}{l:List α}{b:Int}(h:0<=b:=by omega)(h1:b<=l.length:=by omega):Ca l 0 b=some (l.take b.toNat):=by rw[Qx (Int.le_refl _) h h1];rfl
theorem Cg{α:Type}{l m:List α}(h:l.length+m.length<=17179869184:=by omega):Dd l m=some (l++m):=by rw[Dd,Afv,Abb h]
theorem mG{α:Type}{n:Int}{z:α}(h:0<=n:=by omega)(h':n<=17179869184:=by omega):mkI n z=some (List.replicate n.toNat z):=by rw[mkI,Afv,Abb ⟨h,h'⟩]
theorem Bf{b:Bool}(h:b=true):Hy b=some ():=by rw[h];rfl
theorem Aa{α β:Type}(a:α)(f:α->Option β):Option.bind (some a) f=f a:=rfl
theorem drop_cons{α:Type}{l:List α}{n:Nat}(h:n<l.length):l.drop n=l[n]::l.drop (n+1):=List.drop_eq_getElem_cons h
theorem Nd{α:Type}{l:List α}{n:Nat}(h:n<l.length):l.take (n+1)=l.take n++[l[n]]:=by rw[List.take_add_one,List.getElem?_eq_getElem h];rfl
def Ek:List UInt8->Nat
 |[]=>0
 |x::r=>x.toNat+256*Ek r
theorem Z8:∀l:List UInt8,Ek l<256^l.length
 |[]=>by simp[Ek]
 |x::r=>by
  have h:=Z8 r;have:=x.toNat_lt;simp only[Ek,Aj2,Atb];omega
theorem yO:∀l m:List UInt8,Ek (l++m)=Ek l+256^l.length*Ek m
 |[],m=>by simp[Ek]
 |x::r,m=>by
  simp only[Ek,Ayc,yO r m,Aj2,Atb,Nat.mul_add];rw[Aor (256^r.length) 256,Azp];omega
def lX(l:List UInt8):UInt64:=UInt64.ofNat (Ek l)
theorem Aow{l:List UInt8}(h:l.length<=8):Ek l<18446744073709551616:=by
 have h1:=Z8 l;have h2:256^l.length<=256^8:=Aef (by omega) h;exact Aj5 h1 (by simpa using h2)
theorem Af5{l:List UInt8}(h:l.length<=4):Ek l<4294967296:=by
 have h1:=Z8 l;have h2:256^l.length<=256^4:=Aef (by omega) h;exact Aj5 h1 (by simpa using h2)
theorem UT{l:List UInt8}(h:l.length<=8):(lX l).toNat=Ek l:=by
 rw[lX,Afg,Abk (Aow h)]
theorem IV{l:List UInt8}(h:l.length<=4):(Ad (lX l):Int)=(Ek l:Int):=by
 have:=Af5 h;rw[tN]<;>rw[UT (by omega)];omega
def Kq(n:Nat):Nat->List UInt8
 |0=>[]
 |w+1=>UInt8.ofNat n::Kq (n/256) w
theorem Ba:∀(w n:Nat),(Kq n w).length=w
 |0,_=>rfl
 |w+1,n=>by simp[Kq,Ba w]
theorem uh:∀(w n:Nat),Kq n (w+1)=Kq n w++[UInt8.ofNat (n/256^w)]
 |0,n=>by simp[Kq]
 |w+1,n=>by
  rw[Kq,uh w (n/256),Kq];simp[Ax4,Atb,Aor]
def Fp(p:List UInt8)(i:Nat):Nat:=(p.getD (i/8) 0).toNat/2^(i %8) %2
theorem Yc(p:List UInt8)(i:Nat):Fp p i<2:=Axr _ (by omega)
def Bl(p:List UInt8):Nat->Nat->Nat
 |_,0=>0
 |a,n+1=>Fp p a+2*Bl p (a+1) n
theorem Mj(p:List UInt8):∀(n a:Nat),Bl p a n<2^n
 |0,_=>by simp[Bl]
 |n+1,a=>by
  have:=Mj p n (a+1);have:=Yc p a;rw[Bl,Atb];omega
theorem KA(p:List UInt8):∀(m n a:Nat),Bl p a (m+n)=Bl p a m+2^m*Bl p (a+m) n
 |0,n,a=>by simp[Bl]
 |m+1,n,a=>by
  rw[show m+1+n=(m+n)+1 by omega,Bl,Bl,KA p m n (a+1),show a+1+m=a+(m+1) by omega,Atb,Nat.mul_add,Aor (2^m) 2,Azp];omega
theorem pN(p:List UInt8)(a:Nat):Bl p a 1=Fp p a:=by simp[Bl]
theorem jU(p:List UInt8)(a n:Nat):Bl p a (n+1)=Bl p a n+2^n*Fp p (a+n):=by rw[KA p n 1 a,pN]
theorem YF(p:List UInt8)(a:Nat):∀t:Nat,a %8+t<=8->Bl p a t=(p.getD (a/8) 0).toNat/2^(a %8) %2^t
 |0,_=>by simp[Bl,Nat.mod_one]
 |t+1,h=>by
  have h1:(a+t)/8=a/8:=by omega
  have h2:(a+t) %8=a %8+t:=by omega
  rw[jU,YF p a t (by omega),Fp,h1,h2,Nat.mod_pow_succ,Az6,Ax4]
theorem sD{p:List UInt8}:∀(n a:Nat),(∀k,k<n->Fp p (a+k)=0)->Bl p a n=0
 |0,_,_=>rfl
 |n+1,a,h=>by
  have h0:=h 0 (by omega);rw[Bl,sD n (a+1) λk hk=>by have:=h (k+1) (by omega);rwa [show a+1+k=a+(k+1) by omega]];rw[Axv]at h0;omega
def okB(p:List UInt8)(n:Nat):Prop:=n<=330000/\p.length=(n+7)/8/\∀k,n<=k->k<8*p.length->Fp p k=0
def Ng(p:List UInt8)(a n:Nat):List UInt8:=(List.range ((n+7)/8)).map λj=>UInt8.ofNat (Bl p (a+8*j) (min 8 (n-8*j)))
theorem Hf(p:List UInt8)(a n:Nat):(Ng p a n).length=(n+7)/8:=by simp[Ng]
theorem uf(p:List UInt8):∀(n a k:Nat),k<n->Bl p a n/2^k %2=Fp p (a+k)
 |n+1,a,0,_=>by have:=Yc p a;rw[Bl];simp;omega
 |n+1,a,k+1,h=>by
  have hb:=Yc p a;have e:(Fp p a+2*Bl p (a+1) n)/2=Bl p (a+1) n:=by omega
  rw[Bl,Atb,Aor (2^k) 2,<-Ax4,e,uf p n (a+1) k (by omega),show a+1+k=a+(k+1) by omega]
theorem Ah9(p:List UInt8)(n a k:Nat)(h:n<=k):Bl p a n/2^k %2=0:=by
 have:=Mj p n a;rw[Axp (Aj5 this (Aef (by omega) h))]
theorem oK(p:List UInt8)(a n k:Nat):Fp (Ng p a n) k=if k<n then Fp p (a+k)else 0:=by
 rw[Fp];by_cases hj:k/8<(n+7)/8
 ·have e:(Ng p a n).getD (k/8) 0=UInt8.ofNat (Bl p (a+8*(k/8)) (min 8 (n-8*(k/8)))):=by
   rw[List.getD_eq_getElem?_getD,List.getElem?_eq_getElem (by rw[Hf];exact hj)];simp[Ng]
  have hlt:Bl p (a+8*(k/8)) (min 8 (n-8*(k/8)))<256:=by
   have:=Mj p (min 8 (n-8*(k/8))) (a+8*(k/8));have h2:2^(min 8 (n-8*(k/8)))<=2^8:=Aef (by omega) (by omega);omega
  have hu:(UInt8.ofNat (Bl p (a+8*(k/8)) (min 8 (n-8*(k/8))))).toNat=Bl p (a+8*(k/8)) (min 8 (n-8*(k/8))):=by
   rw[Aoi];exact Abk hlt
  rw[e,hu];by_cases hk:k<n
  ·rw[Abb hk,uf p _ _ _ (by omega),show a+8*(k/8)+k %8=a+k by omega]
  ·rw[Aba hk,Ah9 p _ _ _ (by omega)]
 ·have e:(Ng p a n).getD (k/8) 0=0:=by
   rw[List.getD_eq_getElem?_getD,List.getElem?_eq_none (by rw[Hf];omega)];rfl
  rw[e,Aba (by omega)];simp
theorem oV(p:List UInt8)(a n:Nat)(h:n<=330000):okB (Ng p a n) n:=⟨h,Hf p a n,λk hk _=>by rw[oK,Aba (by omega)]⟩
theorem og{p q:List UInt8}(hl:p.length=q.length)(h:∀k,k<8*p.length->Fp p k=Fp q k):p=q:=by
 apply Avq hl;intro i h1 h2;have hp:Bl p (8*i) 8=Bl q (8*i) 8:=by
  have key:∀(n a:Nat),a+n<=8*p.length->Bl p a n=Bl q a n:=by
   intro n
   induction n with
   |zero=>intros;rfl
   |succ n ih=>intro a ha;rw[Bl,Bl,h a (by omega),ih (a+1) (by omega)]
  exact key 8 (8*i) (by omega)
 rw[YF p _ 8 (by omega),YF q _ 8 (by omega)]at hp;have e1:8*i/8=i:=by omega
 have e2:8*i %8=0:=by omega
 rw[e1,e2]at hp;have a1:p.getD i 0=p[i]:=by simp[List.getD_eq_getElem?_getD,h1]
 have a2:q.getD i 0=q[i]:=by simp[List.getD_eq_getElem?_getD,h2]
 rw[a1,a2]at hp;apply UInt8.toNat_inj.1;have:=p[i].toNat_lt;have:=q[i].toNat_lt;simp at hp;omega
end Go.Lv
namespace Go.Pl
open Go Go.Lv
theorem Ak3(b:List UInt8)(hb:b.length<4611686018427387904):∀(j q:Nat),j<=b.length->j<q->Lz b q (lX (b.drop j)) ((j:Int)-1)=some (lX b)
 |0,q+1,_,_=>by
  rw[Lz,Zp,Aba (by rw[De];simp)];simp[RL,PF]
 |j+1,q+1,hj,hq=>by
  rw[Lz,Zp,Abb (by rw[De];simp),show((j+1:Nat):Int)-1=(j:Int) by omega,Ck,Aa,Bi];have h:Ae (Bd (256:UInt64) (lX (b.drop (j+1)))) (Ad b[j]:UInt64)=lX (b.drop j):=by
   rw[KO,KI,nD,drop_cons (n:=j) (by omega),lX,lX,Ek,UInt64.ofNat_add,UInt64.ofNat_mul];exact UInt64.add_comm _ _
  rw[h];exact Ak3 b hb j q (by omega) (by omega)
theorem Aag(b:List UInt8)(hb:b.length<4611686018427387904):Cz b=some (lX b):=by
 have h:=Ak3 b hb b.length Aq (Aj3 _) (by have:=Al;omega);rw[Cz,QL,QO];have e:Ah (Ac b) 1=(b.length:Int)-1:=Bi (by unfold Ac;omega) (by unfold Ac;omega);rw[e,<-h,Ayy];rfl
theorem Amu{n c:UInt64}{i:Nat}(hn:n.toNat<2^i)(hc:c.toNat*2^i<18446744073709551616):sW n (Cr c i)=UInt64.ofNat (n.toNat+c.toNat*2^i):=by
 rw[Ary];apply UInt64.toNat_inj.1;rw[UInt64.toNat_or,SW,Abk hc,Aor,Nat.or_comm,<-Awk hn,Afg,Abk,Azw,Aor];have h:=Awk hn c.toNat;have h2:2^i*c.toNat+n.toNat<2^64:=by
  rw[h];exact Nat.or_lt_two_pow (by rw[Aor];simpa using hc) n.toNat_lt
 rw[Azw];first|exact h2|(rw[Aor];exact h2)
theorem Q3(b:List UInt8)(hb:b.length<=8):∀(j i q:Nat),i+j=b.length->j<q->Zw b q (lX (b.take i)) (i:Int)=some (lX b,0)
 |0,i,q+1,hi,_=>by
  rw[Zw,UC,Aba (by rw[Af,Ac];simp;omega),show i=b.length by omega,Ax1];rfl
 |j+1,i,q+1,hi,hq=>by
  have hlt:i<b.length:=by omega
  rw[Zw,UC,Abb (by rw[Af,Ac];simp;omega),Ck hlt,Aa,Hc,Bf (by rw[De];simp;omega),Aa,Ag];have h:sW (lX (b.take i)) (Cr (Ad b[i]:UInt64) (GI.toZ ((8:Int)*(i:Int))).toNat)=lX (b.take (i+1)):=by
   have e:(GI.toZ ((8:Int)*(i:Int))).toNat=8*i:=by show((8:Int)*(i:Int)).toNat=_;omega
   have e2:(2:Nat)^(8*i)=256^i:=by rw[Nat.pow_mul]
   have h1:=Z8 (b.take i);rw[Aiq,Aw8 (by omega)]at h1;have h3:=b[i].toNat_lt;have hle:(256:Nat)^(i+1)<=256^8:=Aef (by omega) (by omega);rw[Atb]at hle;have h4:(Ad b[i]:UInt64).toNat=b[i].toNat:=by rw[nD,Afg];omega
   have h5:b[i].toNat*256^i<18446744073709551616:=by
    have:b[i].toNat*256^i<256*256^i:=Nat.mul_lt_mul_of_pos_right (by simpa using h3) (Ax3 (by omega));simp at hle;omega
   rw[e,Amu (by rw[UT (by simp;omega),e2];exact h1) (by rw[h4,e2];exact h5),UT (by simp;omega),h4,e2,Nd hlt];rw[lX,yO];simp only[Ek,Aiq,Aw8 (Nat.le_of_lt hlt),Nat.mul_zero,Axv];rw[Aor]
  rw[h];exact Q3 b hb j (i+1) q (by omega) (by omega)
theorem Aaq(b:List UInt8)(h1:1<=b.length)(h2:b.length<=8):fW b=some (lX b,0):=by
 have h:=Q3 b h2 b.length 0 Aq (by omega) (by have:=Al;omega);rw[fW,jM,Aba (by simp[Af,Am,Ac];omega),iF];exact h
def part(b:List UInt8)(at' w:Nat):List UInt8:=(b.take (at'+w)).drop at'
theorem Di{b:List UInt8}{a w:Nat}(h:a+w<=b.length:=by omega):(part b a w).length=w:=by simp[part];omega
theorem L8(b:List UInt8)(a w:Nat)(h1:1<=w)(h2:w<=8)(h3:a+w<=b.length)(hb:b.length<4611686018427387904):YB b (a:Int) (w:Int)=some (lX (part b a w),0):=by
 rw[YB,Aba (by simp[Af,Am];omega),Aba (by rw[Am,Bi (by unfold Ac;omega) (by unfold Ac;omega),Ac];simp;omega),Ag,Qx,Aa];rw[show((a:Int)+(w:Int)).toNat=a+w by omega,show(a:Int).toNat=a by omega];rw[Aaq _ (by rw[show((b.take (a+w)).drop a).length=_ from Di h3];exact h1) (by rw[show((b.take (a+w)).drop a).length=_ from Di h3];exact h2),Aa];rfl
theorem uD(w:Nat)(hw:w<=1000):∀(j i q:Nat) (n:UInt64) (acc:List UInt8),i+j=w->j<q->acc.length+j<=1000000->Gu (w:Int) q n (i:Int) acc=some (acc++Kq n.toNat j)
 |0,i,q+1,n,acc,hi,_,_=>by
  rw[Gu,Qe,Aba (by rw[Af];simp;omega)];simp[Zu,AJ,Kq]
 |j+1,i,q+1,n,acc,hi,hq,ha=>by
  rw[Gu,Qe,Abb (by rw[Af];simp;omega)];have e:(Ad (BB n (256:UInt64)):UInt8)=UInt8.ofNat n.toNat:=by
   rw[SB,qg];apply UInt8.toNat_inj.1;rw[Aoi,Aoi,UInt64.toNat_mod]
   show n.toNat %256 %256=_;omega
  have e2:(Bv n (256:UInt64)).toNat=n.toNat/256:=by rw[qJ,Bab];rfl
  rw[Cg (by simp;omega),Aa,Ag,e];have h:=uD w hw j (i+1) q (Bv n 256) (acc++[UInt8.ofNat n.toNat]) (by omega) (by omega) (by simp;omega);rw[e2]at h;rw[show((i:Int)+1)=((i+1:Nat):Int) by omega,h,Kq];simp
theorem B4(n:UInt64)(w:Nat)(hw:w<=1000):Ds n (w:Int)=some (Kq n.toNat w):=by
 rw[Ds,AQ,AH];have h:=uD w hw w 0 Aq n [] (by omega) (by have:=Al;omega) (by simp;omega);simpa using h
theorem ZB{α:Type}{l m:List α}{x y:α}{i:Nat}(h:l.length=i):(l++x::m).set i y=l++y::m:=by subst h;simp
theorem K4(n:UInt64)(l4:List UInt8)(w:Nat)(hl:l4.length=w)(hw:w<=8):∀(j i q:Nat),i+j=w->j<q->AS n l4 q (i:Int) (Kq n.toNat i++List.replicate j 0)=some (Kq n.toNat w,0)
 |0,i,q+1,hi,_=>by
  rw[AS,TX,Aba (by rw[Af,Ac];simp;omega)];obtain rfl:i=w:=by omega
  simp[fA,vA]
 |j+1,i,q+1,hi,hq=>by
  have hlen:(Kq n.toNat i++List.replicate (j+1) 0).length=i+(j+1):=by simp[Ba]
  rw[AS,TX,Abb (by rw[Af,Ac];simp;omega),Hc,Bf (by rw[De];simp;omega),Aa,Ck (by rw[hlen];omega),Aa,Rj _ (by rw[hlen];omega),Aa,Ag];have e:(Ad (Bt n (GI.toZ ((8:Int)*(i:Int))).toNat):UInt8)=UInt8.ofNat (n.toNat/256^i):=by
   have e:(GI.toZ ((8:Int)*(i:Int))).toNat=8*i:=by show((8:Int)*(i:Int)).toNat=_;omega
   rw[e,SB,EV,Nat.pow_mul]
  rw[e,Awh,ZB (Ba _ _)];have h:=K4 n l4 w hl hw j (i+1) q (by omega) (by omega);rw[uh]at h;simpa using h
theorem Ar7(n:UInt64)(w:Nat)(h1:1<=w)(h2:w<=8)(h:n.toNat<256^w):wM n (w:Int)=some true:=by
 rw[wM];by_cases h8:w=8
 ·subst h8;rw[Abb (by rw[Be];rfl)]
 ·rw[Aba (by rw[Be];simp;omega),Hc,Bf (by rw[De];simp;omega),Aa];have e:(GI.toZ ((8:Int)*(w:Int))).toNat=8*w:=by show((8:Int)*(w:Int)).toNat=_;omega
  rw[e,wA];have:Bt n (8*w)=0:=by
   apply UInt64.toNat_inj.1;rw[EV,Nat.pow_mul];exact Axp h
  rw[this];rfl
theorem EE(n:UInt64)(w:Nat)(h1:1<=w)(h2:w<=8)(h:n.toNat<256^w):Lk n (w:Int)=some (Kq n.toNat w,0):=by
 rw[Lk,gS,Aba (by simp[Af,Am];omega),Ar7 n w h1 h2 h,Aa,Aba (by simp),mG,Aa,Bf (by rw[Be];simp),Aa,iA];have h:=K4 n (List.replicate (w:Int).toNat 0) w (by simp) h2 w 0 Aq (by omega) (by have:=Al;omega);simpa [Kq]using h
theorem uZ(n:Nat)(h:n<4611686018427387904):Db (n:Int) (7:Int)=((n %8:Nat):Int):=by
 have e:Db (n:Int) (7:Int)=wrap64 ((BitVec.ofInt 64 (n:Int)&&&BitVec.ofInt 64 7).toNat:Int):=rfl;rw[e,Az9,Av9,Av9];have h1:((n:Int) %((2^64:Nat):Int)).toNat=n:=by omega
 have h2:((7:Int) %((2^64:Nat):Int)).toNat=2^3-1:=by decide
 rw[h1,h2,Awr,Bo (by omega) (by omega)]
theorem Avx(n:Nat):Y4 (n:Int) (GI.toZ (3:UInt64)).toNat=((n/8:Nat):Int):=by
 have e:Y4 (n:Int) (GI.toZ (3:UInt64)).toNat=(n:Int).fdiv 8:=rfl;rw[e,As3 _ (by omega)];omega
theorem Awz{t:Nat}(h:t<=8):Ah (Cr (1:UInt8) t) (1:UInt8)=UInt8.ofNat (2^t-1):=by
 have:t=0\/t=1\/t=2\/t=3\/t=4\/t=5\/t=6\/t=7\/t=8:=by omega
 rcases this with rfl|rfl|rfl|rfl|rfl|rfl|rfl|rfl|rfl<;>decide
theorem bitsOf(c:UInt8)(off t:Nat)(h:t<=8):(Db (Bt c off) (Ah (Cr (1:UInt8) t) (1:UInt8))).toNat=c.toNat/2^off %2^t:=by
 have hp:2^t<=2^8:=Aef (by omega) h;rw[Awz h,Aep,UInt8.toNat_and,dw,Aoi,Abk (by have:=Ax3 (n:=t) (show 0<2 by omega);omega),Awr]
theorem B6{p:List UInt8}{k:Nat}(h:k<p.length):Aj p (k:Int)=some (p.getD k 0):=by
 rw[Ck h];simp[List.getD_eq_getElem?_getD,h]
def Mn(p:List UInt8)(a n:Nat):UInt64:=UInt64.ofNat (Bl p a n)
theorem Vm(p:List UInt8)(a n:Nat)(h:n<=64):(Mn p a n).toNat=Bl p a n:=by
 have h1:=Mj p n a;have h2:2^n<=2^64:=Aef (by omega) h;rw[Mn,Afg,Abk (by omega)]
theorem xq(p:List UInt8)(N:Int)(a n:Nat)(hn:n<=64)(ha:a+n<=8*p.length)(hp:p.length<=1000000):∀(j h q:Nat),h+j=n->j<q->KD (a:Int) (n:Int) p N q (Mn p a h) (h:Int)=some (Mn p a n)
 |j,h,q+1,hj,hq=>by
  rw[KD,gZ];by_cases hlt:h<n
  ·have e1:Ae (a:Int) (h:Int)=((a+h:Nat):Int):=by rw[Ag];omega
   have e2:Dt (Ah (n:Int) (h:Int)) (Ah (8:Int) (((a+h) %8:Nat):Int))=((min (n-h) (8-(a+h) %8):Nat):Int):=by
    rw[GU,Bi,Bi];omega
   have hm:(a+h)/8<p.length:=by omega
   rw[Abb (by rw[Af];simp;omega),e1,Avx,B6 hm,Aa,uZ _ (by omega),Bf (by rw[De];simp;omega),Aa,e2,Bf (by rw[De];simp),Aa,Bf (by rw[De];simp),Aa];generalize hT:min (n-h) (8-(a+h) %8)=T;have hT8:T<=8:=by omega
   have hT1:1<=T:=by omega
   have hb:(a+h) %8+T<=8:=by omega
   have hv:=YF p (a+h) T hb;have z1:(GI.toZ (((a+h) %8:Nat):Int)).toNat=(a+h) %8:=rfl;have z2:(GI.toZ ((T:Nat):Int)).toNat=T:=rfl;have z3:(GI.toZ ((h:Nat):Int)).toNat=h:=rfl;rw[z1,z2,z3];have hx:(Ad (Db (Bt (p.getD ((a+h)/8) 0) ((a+h) %8)) (Ah (Cr (1:UInt8) T) (1:UInt8))):UInt64).toNat=Bl p (a+h) T:=by
    rw[nD,Afg,bitsOf _ _ _ hT8,<-hv];have:=Mj p T (a+h);have h2:2^T<=2^8:=Aef (by omega) hT8;omega
   have hlt2:=Mj p (h+T) a;rw[KA]at hlt2;have h64:2^(h+T)<=2^64:=Aef (by omega) (by omega);have hor:sW (Mn p a h) (Cr (Ad (Db (Bt (p.getD ((a+h)/8) 0) ((a+h) %8)) (Ah (Cr (1:UInt8) T) (1:UInt8))):UInt64) h)=Mn p a (h+T):=by
    rw[Amu (by rw[Vm p a h (by omega)];exact Mj p h a) (by rw[hx,Aor];omega),hx,Vm p a h (by omega),Mn,KA,Aor (2^h)]
   rw[hor,Ag,show(h:Int)+((T:Nat):Int)=((h+T:Nat):Int) by omega];exact xq p N a n hn ha hp (j-T) (h+T) q (by omega) (by omega)
  ·rw[Aba (by rw[Af];simp;omega),show h=n by omega];rfl
theorem get_eq(p:List UInt8)(N:Int)(a n:Nat)(hn:n<=64)(ha:a+n<=8*p.length)(hp:p.length<=1000000):qI p N (a:Int) (n:Int)=some (Mn p a n):=by
 have:=xq p N a n hn ha hp n 0 Aq (by omega) (by have:=Al;omega);exact this
theorem Vz{p:List UInt8}{n:Nat}(h:okB p n):Ho p (n:Int)=some 0:=by
 obtain⟨h1,h2,h3⟩:=h;have e7:Ae (n:Int) 7=((n+7:Nat):Int):=by rw[Ag];omega
 rw[Ho,e7,Avx,Aba (by simp[Af,Am,Ak,Ac,h2];omega),uZ _ (by omega)];by_cases hz:n %8=0
 ·rw[Aba (by rw[Am];simp;omega)]
 ·have el:Ah (Ac p) 1=((p.length-1:Nat):Int):=by rw[Ac,Bi];omega
  rw[Abb (by rw[Am];simp;omega),el,B6 (by omega),Aa,Bf (by rw[De];simp;omega),Aa];have z:(GI.toZ ((n %8:Nat):Int)).toNat=n %8:=rfl;have hs:Bt (p.getD (p.length-1) 0) (n %8)=0:=by
   apply UInt8.toNat_inj.1;rw[dw];have hv:=YF p n (8-n %8) (by omega);have h0:Bl p n (8-n %8)=0:=sD _ _ λk hk=>h3 _ (by omega) (by omega);rw[h0,show n/8=p.length-1 by omega]at hv;have hlt:(p.getD (p.length-1) 0).toNat/2^(n %8)<2^(8-n %8):=by
    have:=(p.getD (p.length-1) 0).toNat_lt;rw[Nat.div_lt_iff_lt_mul (Ax3 (by omega)),<-Az6,show 8-n %8+n %8=8 by omega];simpa using this
   rw[Abk hlt]at hv;exact hv.symm
  rw[z,hs,Aba (by rw[Adh];simp)]
theorem tQ{p:List UInt8}{N:Nat}(h:okB p N)(a n:Nat)(hn:n<=64):DY p (N:Int) (a:Int) (n:Int)=some (if N<a+n then(0,24)else(Mn p a n,0)):=by
 obtain⟨h1,h2,h3⟩:=h;rw[DY,Vz ⟨h1,h2,h3⟩,Aa,Aba (by rw[Ak];simp),Aba (by simp[Af,Am];omega),Bi];by_cases hl:N<a+n
 ·rw[Abb (by rw[Am];simp;omega),Abb hl]
 ·rw[Aba (by rw[Am];simp;omega),get_eq p N a n hn (by omega) (by omega),Aa,Aba hl]
theorem Aye(c:Nat)(h:c<4611686018427387904):Bv (c:Int) (2:Int)=((c/2:Nat):Int):=by
 rw[MG,Aws (by omega),Bo (by omega) (by omega)];omega
theorem Avy(c:Nat)(h:c<4611686018427387904):Bv (c:Int) (8:Int)=((c/8:Nat):Int):=by
 rw[MG,Aws (by omega),Bo (by omega) (by omega)];omega
theorem Akr(c:Nat):Ga (c:Int) (8:Int)=((c %8:Nat):Int):=by rw[Ga,Azb (by omega)];omega
theorem Ayo(c:Nat):Ga (c:Int) (2:Int)=((c %2:Nat):Int):=by rw[Ga,Azb (by omega)];omega
theorem Afi(i c:Nat)(hc:c<256):∀(j k q:Nat),k+j=i %8->j<q->Md (i:Int) q ((c/2^k:Nat):Int) (k:Int)=some (((c/2^(i %8) %2:Nat):Int))
 |0,k,q+1,hk,_=>by
  rw[Md,Zh,Akr,Aba (by rw[Af];simp;omega),SX,SJ,Ayo,show k=i %8 by omega]
 |j+1,k,q+1,hk,hq=>by
  have hle:c/2^k<=c:=As9 _ _;rw[Md,Zh,Akr,Abb (by rw[Af];simp;omega),Aye _ (by omega),Ag,Ax4,<-Atb];exact Afi i c hc j (k+1) q (by omega) (by omega)
theorem rU(p:List UInt8)(N:Int)(i:Nat)(h:i/8<p.length)(hi:i<4611686018427387904):Kf p N (i:Int)=some ((Fp p i:Nat):Int):=by
 have hc:=(p.getD (i/8) 0).toNat_lt;have:=Afi i (p.getD (i/8) 0).toNat (by simpa using hc) (i %8) 0 Aq (by omega) (by have:=Al;omega);rw[Kf,SM,Avy _ hi,B6 h,Aa,OQ,SK];simpa [Fp]using this
theorem zO(p:List UInt8)(N:Int)(a n:Nat)(ha:a+n<=8*p.length)(hp:p.length<=1000000):∀(j q:Nat),j<=n->j<q->If (a:Int) p N q (Mn p (a+j) (n-j)) ((j:Int)-1)=some (Mn p a n)
 |0,q+1,_,_=>by
  rw[If,Tl,Aba (by rw[De];simp)];rfl
 |j+1,q+1,hj,hq=>by
  have hb:=Yc p (a+j);rw[If,Tl,show((j+1:Nat):Int)-1=(j:Int) by omega,Abb (by rw[De];simp),Ag (a:=(a:Int)) (by omega) (by omega),show(a:Int)+(j:Int)=((a+j:Nat):Int) by omega,rU p N (a+j) (by omega) (by omega),Aa,Bi];have e:Ae (Bd (2:UInt64) (Mn p (a+(j+1)) (n-(j+1)))) (Ad ((Fp p (a+j):Nat):Int):UInt64)=Mn p (a+j) (n-j):=by
   rw[KO,KI,Nf,Mn,Mn,show n-j=(n-(j+1))+1 by omega,Bl,show a+j+1=a+(j+1) by omega,UInt64.ofNat_add,UInt64.ofNat_mul];exact UInt64.add_comm _ _
  rw[e];exact zO p N a n ha hp j q (by omega) (by omega)
theorem mO(p:List UInt8)(N:Int)(a n:Nat)(ha:a+n<=8*p.length)(hp:p.length<=1000000):Rm p N (a:Int) (n:Int)=some (Mn p a n):=by
 have:=zO p N a n ha hp n Aq (Aj3 _) (by have:=Al;omega);have hz:Mn p (a+n) (n-n)=0:=by rw[Nat.sub_self];rfl
 rw[hz]at this;rw[Rm,GC,FT,Bi];exact this
theorem Agn(bit:Int)(N:Nat)(l:List UInt8):∀(j k q:Nat),k+j=N %8->j<q->Kr bit (N:Int) l q ((2^k:Nat):Int) (k:Int)=Wr bit ((2^(N %8):Nat):Int) (N:Int) l
 |0,k,q+1,hk,_=>by
  rw[Kr,Xp,Akr,Aba (by rw[Af];simp;omega),show k=N %8 by omega]
 |j+1,k,q+1,hk,hq=>by
  have hp:2^k<=2^8:=Aef (by omega) (by omega);have e:Bd ((2^k:Nat):Int) 2=((2^(k+1):Nat):Int):=by
   rw[Atb];generalize 2^k=K at*
   rw[Hc];omega
  rw[Kr,Xp,Akr,Abb (by rw[Af];simp;omega),e,Ag];exact Agn bit N l j (k+1) q (by omega) (by omega)
theorem C2(p:List UInt8)(a n j:Nat)(h:j<(n+7)/8):(Ng p a n)[j]'(by rw[Hf];exact h)=UInt8.ofNat (Bl p (a+8*j) (min 8 (n-8*j))):=by simp[Ng]
theorem rG(p:List UInt8)(a t:Nat)(h:t<=8):Bl p a t<256:=by
 have h1:=Mj p t a;have h2:2^t<=2^8:=Aef (by omega) h;omega
def room(p:List UInt8)(a n:Nat):List UInt8:=if n %8=0 then Ng p a n++[0]else Ng p a n
theorem Ls(p:List UInt8)(a n:Nat):(room p a n).length=n/8+1:=by
 rw[room];split<;>simp[Hf]<;>omega
theorem Abh(p:List UInt8)(a n j:Nat)(h:j<n/8+1):(room p a n)[j]'(by rw[Ls];exact h)=UInt8.ofNat (Bl p (a+8*j) (min 8 (n-8*j))):=by
 have h0:(room p a n)[j]? =some (UInt8.ofNat (Bl p (a+8*j) (min 8 (n-8*j)))):=by
  rw[room];split
  ·by_cases hj:j<(n+7)/8
   ·rw[List.getElem?_append_left (by rw[Hf];exact hj),List.getElem?_eq_getElem (by rw[Hf];exact hj),C2 p a n j hj]
   ·rw[List.getElem?_append_right (by rw[Hf];omega),Hf,show j-(n+7)/8=0 by omega,show n-8*j=0 by omega];rfl
  ·rw[List.getElem?_eq_getElem (by rw[Hf];omega),C2 p a n j (by omega)]
 rw[List.getElem?_eq_getElem (by rw[Ls];exact h)]at h0;exact Aus h0
theorem qO(p:List UInt8)(a n T:Nat)(h1:1<=T)(h:n %8+T<=8):(room p a n).set (n/8) (UInt8.ofNat (Bl p (a+8*(n/8)) (n %8+T)))=Ng p a (n+T):=by
 apply Avq (by rw[Axz,Ls,Hf];omega);intro j g1 g2;rw[Axz,Ls]at g1;rw[Bac,C2 p a (n+T) j (by rw[Hf]at g2;exact g2)];split
 ·rename_i e;subst e;rw[show min 8 (n+T-8*(n/8))=n %8+T by omega]
 ·rw[Abh p a n j g1,show min 8 (n-8*j)=8 by omega,show min 8 (n+T-8*j)=8 by omega]
theorem jZ(p:List UInt8)(a n:Nat):(room p a n)[n/8]'(by rw[Ls];omega)=UInt8.ofNat (Bl p (a+8*(n/8)) (n %8)):=by
 rw[Abh p a n _ (by omega),show min 8 (n-8*(n/8))=n %8 by omega]
theorem Akk(p:List UInt8)(a n:Nat)(hn:n<=400000):Vw (Ng p a n) (n:Int) ((Fp p (a+n):Nat):Int)=some (Ng p a (n+1),((n+1:Nat):Int)):=by
 have hb:=Yc p (a+n);have hp:2^(n %8)<=2^7:=Aef (by omega) (by omega);have hroom:Vw (Ng p a n) (n:Int) ((Fp p (a+n):Nat):Int)=Wv ((Fp p (a+n):Nat):Int) (n:Int) (room p a n):=by
  rw[Vw,NH,Akr,room];by_cases h0:n %8=0
  ·rw[Abb (by rw[Be,h0];rfl),Cg (by rw[Hf];simp;omega),Aa,Abb h0]
  ·rw[Aba (by rw[Be];simp;omega),Aba h0]
 have hl:=Agn ((Fp p (a+n):Nat):Int) n (room p a n) (n %8) 0 Aq (by omega) (by have:=Al;omega);rw[hroom,Wv,NN,NF];refine Axb hl ?_;have hg:Aj (room p a n) ((n/8:Nat):Int)=some (UInt8.ofNat (Bl p (a+8*(n/8)) (n %8))):=by
  rw[Ck (by rw[Ls];omega),jZ]
 have hlt:=rG p (a+8*(n/8)) (n %8+1) (by omega);have hsn:=jU p (a+8*(n/8)) (n %8);rw[show a+8*(n/8)+n %8=a+n by omega]at hsn;have hm:Bd ((Fp p (a+n):Nat):Int) ((2^(n %8):Nat):Int)=((2^(n %8)*Fp p (a+n):Nat):Int):=by
  have hle:2^(n %8)*Fp p (a+n)<=2^7*1:=Azx hp (by omega);rw[Aj8,<-Aw7,Bo (by omega) (by rw[Aor];omega),Aor]
 have hx:Ae (UInt8.ofNat (Bl p (a+8*(n/8)) (n %8))) (Ad (((2^(n %8)*Fp p (a+n):Nat):Int)):UInt8)=UInt8.ofNat (Bl p (a+8*(n/8)) (n %8+1)):=by
  rw[Aru,All,hsn,UInt8.ofNat_add]
 rw[Wr,NG,Avy _ (by omega),hg,Aa,Aa,Aa,hm,hx,Rj _ (by rw[Ls];omega),Aa,qO p a n 1 (by omega) (by omega),Ag];rfl
theorem qL(p:List UInt8)(N:Int)(a n:Nat)(ha:a+n<=8*p.length)(hp:p.length<=1000000)(hn:n<=300000):∀(j m q:Nat),m+j=n->j<q->Gw ((a+n:Nat):Int) p N q ((a+m:Nat):Int) (m:Int) (Ng p a m)=some (Ng p a n,(n:Int))
 |0,m,q+1,hm,_=>by
  rw[Gw,Qd,Aba (by rw[Af];simp;omega),show m=n by omega];rfl
 |j+1,m,q+1,hm,hq=>by
  rw[Gw,Qd,Abb (by rw[Af];simp;omega),rU p N (a+m) (by omega) (by omega),Aa,Akk p a m (by omega),Aa];simp only;rw[Ag];exact qL p N a n ha hp hn j (m+1) q (by omega) (by omega)
theorem nk(p:List UInt8)(N:Int)(a n:Nat)(ha:a+n<=8*p.length)(hp:p.length<=1000000)(hn:n<=300000):KH p N (a:Int) ((a+n:Nat):Int)=some (Ng p a n,(n:Int)):=by
 have:=qL p N a n ha hp hn n 0 Aq (by omega) (by have:=Al;omega);exact this
theorem Atp{t:Nat}(h:t<=8):Ah (Cr (1:UInt64) t) (1:UInt64)=UInt64.ofNat (2^t-1):=by
 have:t=0\/t=1\/t=2\/t=3\/t=4\/t=5\/t=6\/t=7\/t=8:=by omega
 rcases this with rfl|rfl|rfl|rfl|rfl|rfl|rfl|rfl|rfl<;>decide
theorem Awu(v:UInt64){t:Nat}(h:t<=8):(Db v (Ah (Cr (1:UInt64) t) (1:UInt64))).toNat=v.toNat %2^t:=by
 have hp:2^t<=2^8:=Aef (by omega) h;rw[Atp h,B2,UInt64.toNat_and,Afg,Abk (by have:=Ax3 (n:=t) (show 0<2 by omega);omega),Awr]
theorem or8{v w i:Nat}(hv:v<2^i)(hw:w*2^i<256)(hi:i<8):sW (UInt8.ofNat v) (Cr (UInt8.ofNat w) i)=UInt8.ofNat (v+w*2^i):=by
 have hp:2^i<=2^8:=Aef (by omega) (by omega);have hpos:0<2^i:=Ax3 (by omega);have hw2:w<256:=Axx (Nat.le_mul_of_pos_right w hpos) hw;rw[Aty];apply UInt8.toNat_inj.1;have e1:(UInt8.ofNat v).toNat=v:=by rw[Aoi,Abk (by omega)]
 have e2:(UInt8.ofNat w).toNat=w:=by rw[Aoi,Abk (by omega)]
 rw[UInt8.toNat_or,Aqm,e1,e2,Abk hw,Aor w,Nat.or_comm,<-Awk hv,Aoi,Azw v];rw[Aor]at hw;have hb:2^i*w+v<256:=by
  rw[Awk hv];exact Nat.or_lt_two_pow (n:=8) hw (by omega)
 rw[Abk hb]
theorem yc(p:List UInt8)(a n T:Nat)(h:T<=n)(hn:n<=64):Bt (Mn p a n) T=Mn p (a+T) (n-T):=by
 apply UInt64.toNat_inj.1;rw[EV,Vm p a n hn,Vm p (a+T) (n-T) (by omega)];have:=Mj p T a
 conv=>lhs;rw[show n=T+(n-T) by omega,KA,Nat.add_mul_div_left _ _ (Ax3 (by omega)),Axp this,Avi]
theorem Aa5(p:List UInt8)(a n T:Nat)(h:T<=n)(hn:n<=64):(Mn p a n).toNat %2^T=Bl p a T:=by
 have:=Mj p T a;rw[Vm p a n hn]
 conv=>lhs;rw[show n=T+(n-T) by omega,KA,Nat.add_mul_mod_self_left,Abk this]
theorem zX(bk:Int->Int->List UInt8->Option (List UInt8×Int×Int))(to':Int)(p:List UInt8)(N fr:Int)(r6:UInt64)(a:Nat):∀(j m q:Nat),m+j<=300000->j<=64->j<q->
  Nj bk to' p N fr r6 q (Mn p (a+m) j) (j:Int) (m:Int) (Ng p a m)=NV bk to' p N fr ((m+j:Nat):Int) (Ng p a (m+j))
 |0,m,q+1,_,_,_=>by
  rw[Nj,OC,Aba (by rw[Am];simp)];rfl
 |j+1,m,q+1,hm,hj,hq=>by
  have hroom:Nj bk to' p N fr r6 (q+1) (Mn p (a+m) (j+1)) ((j+1:Nat):Int) (m:Int) (Ng p a m)=OG (Nj bk to' p N fr r6 q) to' fr p N r6 (Mn p (a+m) (j+1)) ((j+1:Nat):Int) (m:Int) (room p a m):=by
   rw[Nj,OC,Abb (by rw[Am];simp),uZ m (by omega),room];by_cases h0:m %8=0
   ·rw[Abb (by rw[Be,h0];rfl),Cg (by rw[Hf];simp;omega),Aa,Abb h0]
   ·rw[Aba (by rw[Be];simp;omega),Aba h0]
  have hl:Ah (Ac (room p a m)) 1=((m/8:Nat):Int):=by
   rw[Ac,Ls,Bi];omega
  have e2:Dt ((j+1:Nat):Int) (Ah (8:Int) ((m %8:Nat):Int))=((min (j+1) (8-m %8):Nat):Int):=by
   rw[GU,Bi];omega
  rw[hroom,OG,cE,uZ m (by omega),e2,hl];generalize hT:min (j+1) (8-m %8)=T;have hT1:1<=T:=by omega
  have hT8:m %8+T<=8:=by omega
  have hg:Aj (room p a m) ((m/8:Nat):Int)=some (UInt8.ofNat (Bl p (a+8*(m/8)) (m %8))):=by
   rw[Ck (by rw[Ls];omega),jZ]
  have z1:(GI.toZ ((m %8:Nat):Int)).toNat=m %8:=rfl;have z2:(GI.toZ ((T:Nat):Int)).toNat=T:=rfl;have hlt:=rG p (a+8*(m/8)) (m %8+T) (by omega);have hadd:=KA p (m %8) T (a+8*(m/8));rw[show a+8*(m/8)+m %8=a+m by omega]at hadd;have hbyte:(Ad (Db (Mn p (a+m) (j+1)) (Ah (Cr (1:UInt64) T) (1:UInt64))):UInt8)=UInt8.ofNat (Bl p (a+m) T):=by
   rw[SB,Awu _ (by omega),Aa5 p (a+m) (j+1) T (by omega) hj]
  have hnew:sW (UInt8.ofNat (Bl p (a+8*(m/8)) (m %8))) (Cr (UInt8.ofNat (Bl p (a+m) T)) (m %8))=UInt8.ofNat (Bl p (a+8*(m/8)) (m %8+T)):=by
   rw[or8 (Mj _ _ _) (by rw[Aor];omega) (by omega),hadd,Aor (2^(m %8))]
  rw[hg,z1,z2,hbyte];simp only[Aa];rw[Bf (by rw[De];simp),Aa,Bf (by rw[De];simp;omega),Aa,hnew,Rj _ (by rw[Ls];omega),Aa,qO p a m T hT1 hT8,bD,pL,uZ m (by omega),e2,hT,Bf (by rw[De];simp),Aa,z2,yc p (a+m) (j+1) T (by omega) hj,Bi,Ag];have ih:=zX bk to' p N fr r6 a (j+1-T) (m+T) q (by omega) (by omega) (by omega);rw[show m+T+(j+1-T)=m+(j+1) by omega]at ih;rw[<-ih,show a+m+T=a+(m+T) by omega,show((j+1:Nat):Int)-((T:Nat):Int)=((j+1-T:Nat):Int) by omega,show(m:Int)+((T:Nat):Int)=((m+T:Nat):Int) by omega]
theorem wu(p:List UInt8)(N:Int)(a n:Nat)(ha:a+n<=8*p.length)(hp:p.length<=1000000)(hn:n<=300000):∀(j m f q:Nat),(f=m\/n<=f/\m=n)->m+j=n->f<=n+64->j<q->Vs ((a+n:Nat):Int) p N q ((a+f:Nat):Int) (m:Int) (Ng p a m)=some (Ng p a n,(n:Int),0)
 |j,m,f,q+1,hf,hm,hf2,hq=>by
  rw[Vs,bE];by_cases hlt:f<n
  ·obtain rfl:f=m:=by omega
   have e1:Dt (64:Int) (Ah ((a+n:Nat):Int) ((a+f:Nat):Int))=((min 64 (n-f):Nat):Int):=by
    rw[GU,Bi];omega
   rw[Abb (by rw[Af];simp;omega),e1,get_eq p N (a+f) _ (by omega) (by omega) hp,Aa,bH];have h1:=zX (Vs ((a+n:Nat):Int) p N q) ((a+n:Nat):Int) p N ((a+f:Nat):Int) (Mn p (a+f) (min 64 (n-f))) a (min 64 (n-f)) f Aq (by omega) (by omega) (by have:=Al;omega);refine Axb h1 ?_;rw[NV,pJ,Ag,show((a+f:Nat):Int)+64=((a+(f+64):Nat):Int) by omega];exact wu p N a n ha hp hn (j-min 64 (n-f)) (f+min 64 (n-f)) (f+64) q (by omega) (by omega) (by omega) (by omega)
  ·rw[Aba (by rw[Af];simp;omega),ZO,qK,show m=n by omega]
theorem At0{p:List UInt8}{N:Nat}(h:okB p N)(a n:Nat)(ha:a+n<=N)(hn:n<=300000):gU p (N:Int) (a:Int) ((a+n:Nat):Int)=some (Ng p a n,(n:Int),0):=by
 obtain⟨h1,h2,h3⟩:=h;have:=wu p N a n (by omega) (by omega) hn n 0 0 Aq (by omega) (by omega) (by omega) (by have:=Al;omega);rw[gU,iC,Vz ⟨h1,h2,h3⟩,Aa,Aba (by rw[Ak];simp),Aba (by simp[Af,Am];omega),YY];exact this
def Ez(p:List UInt8):Nat->Nat->Nat
 |_,0=>0
 |a,m+1=>if Fp p a=1 then 1+Ez p (a+1) m else 0
theorem TV(p:List UInt8):∀(m a:Nat),Ez p a m<=m
 |0,_=>Aj3 _
 |m+1,a=>by rw[Ez];split<;>have:=TV p m (a+1)<;>omega
theorem zf(p:List UInt8):∀(m a:Nat),∃s,Bl p a m+1=2^(Ez p a m+1)*s+2^Ez p a m/\ (Ez p a m=m->s=0)
 |0,a=>⟨0,by simp[Bl,Ez],λ_=>rfl⟩
 |m+1,a=>by
  have hb:=Yc p a;obtain⟨s,h1,h2⟩:=zf p m (a+1);by_cases h:Fp p a=1
  ·refine⟨s,?_,λe=>h2 ?_⟩
   ·rw[Ez,Abb h,Bl,h,show 1+Ez p (a+1) m+1=(Ez p (a+1) m+1)+1 by omega,show 1+Ez p (a+1) m=Ez p (a+1) m+1 by omega,Atb,Atb (n:=2) (m:=Ez p (a+1) m)];rw[Atb]at h1;generalize Bl p (a+1) m=V at*
    generalize 2^Ez p (a+1) m=W at*
    have e1:W*2*2*s=2*(W*2*s):=by rw[Nat.mul_right_comm (W*2) 2 s,Aor]
    omega
   ·rw[Ez,Abb h]at e;omega
  ·refine⟨Bl p (a+1) m,?_,λe=>?_⟩
   ·rw[Ez,Aba h,Bl];simp;omega
   ·rw[Ez,Aba h]at e;omega
theorem Arr{n t s:Nat}(h:2^(t+1)*s+2^t<=2^n)(ht:t<n)(x:Nat)(hx:x=2^n-(2^(t+1)*s+2^t)):x&&& (2^(t+1)*s+2^t)=2^t:=by
 have hpos:0<2^t:=Ax3 (by omega);have hlt:2^t<2^(t+1):=by rw[Atb];omega
 have e:x=2^n-((2^(t+1)*s+(2^t-1))+1):=by rw[hx];congr 1;omega
 apply Nat.eq_of_testBit_eq;intro i;rw[Nat.testBit_and,e,Nat.testBit_two_pow_sub_succ (by omega),Nat.testBit_two_pow_mul_add _ (by omega),Nat.testBit_two_pow_mul_add _ hlt];by_cases hi:i<t+1
 ·rw[Abb hi,Abb hi,Nat.testBit_two_pow_sub_one,Nat.testBit_two_pow];by_cases hit:t=i
  ·subst hit;simp;exact ht
  ·have:¬i=t:=λe=>hit e.symm;simp[hit]
 ·rw[Aba hi,Aba hi,Nat.testBit_two_pow];have:¬t=i:=by omega
  simp[this]
theorem Anh(a:UInt64):(C0 a).toNat=18446744073709551615-a.toNat:=by
 have h:=a.toNat_lt;have e:C0 a=UInt64.ofNat (BitVec.ofInt 64 18446744073709551615^^^BitVec.ofInt 64 (a.toNat:Int)).toNat:=Gd _;have h1:BitVec.ofInt 64 (a.toNat:Int)=a.toBitVec:=Y6 a;have h2:(BitVec.ofInt 64 18446744073709551615:BitVec 64)=BitVec.allOnes 64:=by decide
 rw[e,Afg,h1,h2,BitVec.allOnes_xor,BitVec.toNat_not];show(18446744073709551616-1-a.toNat) %18446744073709551616=18446744073709551615-a.toNat;omega
theorem Amc(a:UInt64):(oS a).toNat=(18446744073709551616-a.toNat) %18446744073709551616:=by
 have h:=a.toNat_lt;have e:oS a=UInt64.ofNat ((0-(a.toNat:Int)) %18446744073709551616).toNat:=U1 _;rw[e,Afg];show((0-(a.toNat:Int)) %18446744073709551616).toNat %18446744073709551616=_;omega
def Awt:List UInt8:=[0,1,56,2,57,49,28,3,61,58,42,50,38,29,17,4,62,47,59,36,45,43,51,22,53,39,33,30,24,18,12,5,63,55,48,27,60,41,37,16,46,35,44,21,52,32,23,11,54,26,40,15,34,20,31,10,25,14,19,9,13,8,7,6]
theorem Ahk:∀t:Fin 64,Aj Awt (GI.toZ (Bt (Bd (UInt64.ofNat (2^t.val)) (285870213051353865:UInt64)) (GI.toZ (58:UInt64)).toNat))=some (UInt8.ofNat t.val):=by decide +kernel
theorem Awe(x:UInt64)(t s:Nat)(ht:t<64)(h:x.toNat+(2^(t+1)*s+2^t)=18446744073709551616):Fv x=some (t:Int):=by
 have hpos:0<2^t:=Ax3 (by omega);have hx:x.toNat=2^64-(2^(t+1)*s+2^t):=by show x.toNat=18446744073709551616-_;omega
 have hle:2^t<=2^63:=Aef (by omega) (by omega);have hne:x≠0:=by
  intro e;rw[e]at h;have h':2^t*(2*s+1)=2^64:=by
   rw[Nat.mul_add,Az2,<-Azp,<-Atb]
   show _=18446744073709551616;simpa using h
  have h2:2^64=2^t*2^(64-t):=by rw[<-Az6];congr 1;omega
  rw[h2]at h';have h3:=Nat.eq_of_mul_eq_mul_left hpos h';rw[show 64-t=(63-t)+1 by omega,Atb]at h3;omega
 have hx0:x.toNat≠0:=λe=>hne (UInt64.toNat_inj.1 e);have hl:Db x (oS x)=UInt64.ofNat (2^t):=by
  apply UInt64.toNat_inj.1;rw[B2,UInt64.toNat_and,Amc,show(18446744073709551616-x.toNat) %18446744073709551616=2^(t+1)*s+2^t by omega,Arr (n:=64) (by show _<=18446744073709551616;omega) ht _ hx,Afg,Abk];exact Axx hle (by decide)
 have hb:=Ahk ⟨t,ht⟩;rw[Fv,Aba (by rw[wA];simpa using hne),hl];refine Axb (congrArg (λo=>Option.bind o λc=>some (Ad c:Int)) hb) ?_;rw[Aa,OQ,Aoi,Abk (by show t<256;omega)]
theorem Ar0(p:List UInt8)(a m:Nat)(hm:m<=48):Fv (C0 (Mn p a m))=some ((Ez p a m:Nat):Int):=by
 obtain⟨s,h1,h2⟩:=zf p m a;have hle:=TV p m a;have hlt:=Mj p m a;have h48:2^m<=2^48:=Aef (by omega) hm;have hn:(C0 (Mn p a m)).toNat=18446744073709551615-Bl p a m:=by rw[Anh,Vm p a m (by omega)]
 have h3:(281474976710656:Nat)=2^48:=rfl;refine Awe _ (Ez p a m) s (by omega) ?_;rw[hn];omega
def qd(p:List UInt8)(N a:Nat):Int×Int×Int:=
 if Ez p a (min 48 (N-a))<min 48 (N-a)then((Ez p a (min 48 (N-a)):Nat),((a+Ez p a (min 48 (N-a))+1:Nat):Int),0)else
 if Ez p a (min 48 (N-a))=48 then(48,((a+48:Nat):Int),0)else(0,0,24)
theorem Am3{p:List UInt8}{N:Nat}(h:okB p N)(a:Nat)(ha:a<N):HO p (N:Int) (a:Int)=some (qd p N a):=by
 have hN:=h.1;have e1:Dt (48:Int) (Ah (N:Int) (a:Int))=((min 48 (N-a):Nat):Int):=by rw[GU,Bi];omega
 have hle:=TV p (min 48 (N-a)) a;rw[HO,Yg,Vz h,Aa,Aba (by rw[Ak];simp),Aba (by rw[Af];simp),Aba (by rw[De];simp;omega),e1,tQ h a _ (by omega),Aba (by omega),Aa];simp only;rw[VL,VZ,Aba (by rw[Ak];simp),Ar0 p a _ (by omega),Aa,WC,VR,e1,qd];by_cases h1:Ez p a (min 48 (N-a))<min 48 (N-a)
 ·rw[Abb (by rw[Af];simp;omega),Abb h1,Ag (a:=(a:Int)) (by omega) (by omega),show Ae (0:Int) 1=1 by decide,Ag];congr 3;omega
 ·rw[Aba (by rw[Af];simp;omega),Aba h1,VV,VO];by_cases h2:Ez p a (min 48 (N-a))=48
  ·rw[Abb (by rw[Be,h2];rfl),Abb h2,h2,Ag (a:=(a:Int)) (by omega) (by omega),Ag];congr 3;omega
  ·rw[Aba (by rw[Be];simp;omega),Aba h2];rfl
theorem P2(p:List UInt8):∀(m a:Nat),Ez p a m<m->Fp p (a+Ez p a m)≠1
 |0,_,h=>by simp[Ez]at h
 |m+1,a,h=>by
  by_cases hb:Fp p a=1
  ·rw[Ez,Abb hb]at h⊢;have:=P2 p m (a+1) (by omega);rwa [show a+(1+Ez p (a+1) m)=a+1+Ez p (a+1) m by omega]
  ·rw[Ez,Aba hb];exact hb
theorem N0(p:List UInt8):∀(m a k:Nat),k<Ez p a m->Fp p (a+k)=1
 |0,a,k,h=>by simp[Ez]at h
 |m+1,a,k,h=>by
  by_cases hb:Fp p a=1
  ·rw[Ez,Abb hb]at h;cases k with
   |zero=>exact hb
   |succ k=>
    have:=N0 p m (a+1) k (by omega);rwa [show a+(k+1)=a+1+k by omega]
  ·rw[Ez,Aba hb]at h;omega
def unR(p:List UInt8)(N a:Nat):Int×Int:=if(qd p N a).2.2=0 then((qd p N a).1,(qd p N a).2.1)else(-1,0)
theorem D8{p:List UInt8}{N:Nat}(h:okB p N)(a:Nat)(ha:a<N):∀(j k q:Nat),k+j=Ez p a (min 48 (N-a))->j<q->Kj (a:Int) p (N:Int) q (k:Int)=some (unR p N a)
 |0,k,q+1,hk,_=>by
  obtain⟨hN,hl,hz⟩:=h;have hle:=TV p (min 48 (N-a)) a;have hk':k=Ez p a (min 48 (N-a)):=by omega
  have e1:Ae (a:Int) (k:Int)=((a+k:Nat):Int):=by rw[Ag];omega
  have hend:Xo (a:Int) (k:Int) p (N:Int)=some (unR p N a):=by
   rw[Xo,NQ,e1];by_cases h48:k=48
   ·have hu:qd p N a=(48,((a+48:Nat):Int),0):=by rw[qd,<-hk',Aba (by omega),Abb h48]
    rw[Abb (by rw[Be,h48];rfl),unR,hu,h48];rfl
   ·rw[Aba (by rw[Be];simp;omega)];by_cases hN2:N<=a+k
    ·have hu:qd p N a=(0,0,24):=by rw[qd,<-hk',Aba (by omega),Aba h48]
     rw[Abb (by rw[De];simp;omega),unR,hu];rfl
    ·have hu:qd p N a=(((k:Nat):Int),((a+k+1:Nat):Int),0):=by rw[qd,<-hk',Abb (by omega)]
     rw[Aba (by rw[De];simp;omega),unR,hu,Ag];rfl
  rw[Kj,Xj,e1];by_cases hc:a+k<N/\k<48
  ·have hb:=Yc p (a+k);have hs:=P2 p (min 48 (N-a)) a (by omega);rw[<-hk']at hs;rw[Abb (by simp[Af];omega),rU p _ (a+k) (by omega) (by omega),Aa,Aba (by rw[Be];simp;omega),hend]
  ·rw[Aba (by simp[Af];omega),hend]
 |j+1,k,q+1,hk,hq=>by
  obtain⟨hN,hl,hz⟩:=h;have hle:=TV p (min 48 (N-a)) a;have hb:=N0 p (min 48 (N-a)) a k (by omega);have e1:Ae (a:Int) (k:Int)=((a+k:Nat):Int):=by rw[Ag];omega
  rw[Kj,Xj,e1,Abb (by simp[Af];omega),rU p _ (a+k) (by omega) (by omega),Aa,hb,Abb (by decide),Ag];exact D8 ⟨hN,hl,hz⟩ a ha j (k+1) q (by omega) (by omega)
theorem Alf{p:List UInt8}{N:Nat}(h:okB p N)(a:Nat)(ha:a<N):XH p (N:Int) (a:Int)=some (unR p N a):=by
 have hle:=TV p (min 48 (N-a)) a;have:=D8 h a ha (Ez p a (min 48 (N-a))) 0 Aq (by omega) (by have:=Al;omega);exact this
theorem Alw{p:List UInt8}{N a:Nat}(h:Ez p a (min 48 (N-a))<min 48 (N-a)):qd p N a=(((Ez p a (min 48 (N-a)):Nat):Int),((a+Ez p a (min 48 (N-a))+1:Nat):Int),0):=by rw[qd,Abb h]
theorem Am7{p:List UInt8}{N a:Nat}(h:¬Ez p a (min 48 (N-a))<min 48 (N-a))(h2:Ez p a (min 48 (N-a))=48):qd p N a=(48,((a+48:Nat):Int),0):=by rw[qd,Aba h,Abb h2]
theorem Akx{p:List UInt8}{N a:Nat}(h:¬Ez p a (min 48 (N-a))<min 48 (N-a))(h2:¬Ez p a (min 48 (N-a))=48):qd p N a=(0,0,24):=by rw[qd,Aba h,Aba h2]
theorem Ahx{p:List UInt8}{N:Nat}(h:okB p N)(a:Nat)(ha:N<=a):HO p (N:Int) (a:Int)=some (0,0,24):=by
 rw[HO,Yg,Vz h,Aa,Aba (by rw[Ak];simp),Aba (by rw[Af];simp),Abb (by rw[De];simp;omega)]
def TF(p:List UInt8)(N a k:Nat):UInt32×Int×Int:=
 if N<=a then(0,0,24)else
 if Ez p a (min 48 (N-a))<min 48 (N-a)then
  (if N<a+Ez p a (min 48 (N-a))+1+k then(0,0,24)else(UInt32.ofNat (Ez p a (min 48 (N-a))*2^k+Bl p (a+Ez p a (min 48 (N-a))+1) k),((a+Ez p a (min 48 (N-a))+1+k:Nat):Int),0))
 else if Ez p a (min 48 (N-a))=48 then
  (if N<a+48+32 then(0,0,24)else if Bl p (a+48) 32/2^k<48 then(0,0,12)else(UInt32.ofNat (Bl p (a+48) 32),((a+48+32:Nat):Int),0))
 else(0,0,24)
theorem pF{p:List UInt8}{a n:Nat}(h:n<=32):(Ad (Mn p a n):UInt32)=UInt32.ofNat (Bl p a n):=by
 have e:(Ad (Mn p a n):UInt32)=UInt32.ofNat (Mn p a n).toNat:=by simp only[Ad,Ia,Ej]
 rw[e,Vm p a n (by omega)]
theorem TW{n:Nat}(h:n<4294967296):(UInt32.ofNat n).toNat=n:=by rw[Aj1];exact Abk h
theorem yw(p:List UInt8)(a:Nat){n:Nat}(h:n<=32):Bl p a n<4294967296:=by
 have h1:=Mj p n a;have h2:2^n<=2^32:=Aef (by omega) h;omega
theorem Aur{q v k:Nat}(hq:q<48)(hv:v<2^k)(hk:k<=24):sW (Cr (Ad (q:Int):UInt32) k) (UInt32.ofNat v)=UInt32.ofNat (q*2^k+v):=by
 have hp:2^k<=2^24:=Aef (by omega) hk;have h1:q*2^k<=47*2^24:=Azx (by omega) hp;rw[Aqk];apply UInt32.toNat_inj.1;rw[UInt32.toNat_or,eL,P9,TW (by omega),TW (n:=v) (by omega),Abk (by omega),Aor q,<-Awk hv,TW (by rw[Aor];omega)]
theorem Aqd{p:List UInt8}{N:Nat}(h:okB p N)(a k:Nat)(hk:k<=24):kH p (N:Int) (a:Int) (k:Int)=some (TF p N a k):=by
 have hN:=h.1;rw[kH,aU,Vz h,Aa,Aba (by rw[Ak];simp),Aba (by simp[Af,Am];omega)];by_cases ha:N<=a
 ·rw[Ahx h a ha,Aa,TF,Abb ha];rfl
 have hle:=TV p (min 48 (N-a)) a;rw[Am3 h a (by omega),Aa];by_cases h1:Ez p a (min 48 (N-a))<min 48 (N-a)
 ·have hS:TF p N a k=if N<a+Ez p a (min 48 (N-a))+1+k then(0,0,24)else(UInt32.ofNat (Ez p a (min 48 (N-a))*2^k+Bl p (a+Ez p a (min 48 (N-a))+1) k),((a+Ez p a (min 48 (N-a))+1+k:Nat):Int),0):=by rw[TF,Aba ha,Abb h1]
  rw[Alw h1,hS];generalize Ez p a (min 48 (N-a))=q at*
  simp only;rw[Aba (by rw[Ak];simp),Aba (by rw[Be];simp;omega),OL,aK,tQ h _ k (by omega),Aa];by_cases h2:N<a+q+1+k
  ·rw[Abb h2,Abb h2];rfl
  ·rw[Aba h2,Aba h2];simp only;have z:(GI.toZ (k:Int)).toNat=k:=rfl;rw[Aba (by rw[Ak];simp),Abb (by rw[Af];simp;omega),Bf (by rw[De];simp),Aa,z,pF (by omega),Aur (by omega) (Mj _ _ _) hk,Ag];rfl
 ·by_cases h2:Ez p a (min 48 (N-a))=48
  ·have hS:TF p N a k=if N<a+48+32 then(0,0,24)else if Bl p (a+48) 32/2^k<48 then(0,0,12)else(UInt32.ofNat (Bl p (a+48) 32),((a+48+32:Nat):Int),0):=by rw[TF,Aba ha,Aba h1,Abb h2]
   have hg:=tQ h (a+48) 32 (by omega);rw[Am7 h1 h2,hS];simp only;rw[Aba (by rw[Ak];simp),Abb (by rw[Be];rfl),OL,aK];refine Axb (congrArg (λo=>Option.bind o _) hg) ?_;rw[Aa];by_cases h3:N<a+48+32
   ·rw[Abb h3,Abb h3];rfl
   ·rw[Aba h3,Aba h3];simp only;have z:(GI.toZ (k:Int)).toNat=k:=rfl;have hv:=yw p (a+48) (n:=32) (by omega);rw[Aba (by rw[Ak];simp),Aba (by rw[Af];simp),Wj,Bf (by rw[De];simp),Aa,Aa,z,pF (by omega),Ae6];have e:(decide ((48:UInt32).toNat<= (Bt (UInt32.ofNat (Bl p (a+48) 32)) k).toNat))=decide (¬Bl p (a+48) 32/2^k<48):=by
     rw[JI,TW hv];simp
    rw[e];by_cases h4:Bl p (a+48) 32/2^k<48
    ·rw[Abb (by simp[h4]),Abb h4]
    ·rw[Aba (by simp;omega),Aba h4,Ag];rfl
  ·rw[Akx h1 h2,TF,Aba ha,Aba h1,Aba h2];rfl
theorem zU(k:Nat)(hk:k<=63):∀(j i q:Nat),i+j=k->j<q->Ie (k:Int) q (UInt64.ofNat (2^i)) (i:Int)=some (UInt64.ofNat (2^k))
 |0,i,q+1,hi,_=>by
  rw[Ie,To,Aba (by rw[Af];simp;omega),show i=k by omega];rfl
 |j+1,i,q+1,hi,hq=>by
  have e:Bd (UInt64.ofNat (2^i)) (2:UInt64)=UInt64.ofNat (2^(i+1)):=by
   rw[KI,Atb,UInt64.ofNat_mul];rfl
  rw[Ie,To,Abb (by rw[Af];simp;omega),Ag,e];exact zU k hk j (i+1) q (by omega) (by omega)
theorem KL(k:Nat)(hk:k<=63):Fh (k:Int)=some (UInt64.ofNat (2^k)):=
 zU k hk k 0 Aq (by omega) (by have:=Al;omega)
theorem TS{k:Nat}(hk:k<=63):(UInt64.ofNat (2^k)).toNat=2^k:=by
 have hp:2^k<=2^63:=Aef (by omega) hk;rw[Afg,Abk (by omega)]
theorem Apu(v:UInt32)(k:Nat)(hk:k<=24):BM v (k:Int)=some ((min 48 (v.toNat/2^k):Nat):Int):=by
 have hpos:0<2^k:=Ax3 (by omega);have hv:=v.toNat_lt;rw[BM,KL k (by omega),Aa,Bf (by rw[NZ];simp only[Bak,ne_eq,<-Azu,TS (show k<=63 by omega)];simp),Aa];have e:(Bv (Ad v:UInt64) (UInt64.ofNat (2^k))).toNat=v.toNat/2^k:=by
  rw[qJ,Bab,Cn,TS (by omega),Afg,Abk (by omega)]
 have hle:v.toNat/2^k<=v.toNat:=As9 _ _;have e2:Dt (48:UInt64) (Bv (Ad v:UInt64) (UInt64.ofNat (2^k)))=UInt64.ofNat (min 48 (v.toNat/2^k)):=by
  apply UInt64.toNat_inj.1;rw[Afg,Abk (by omega)];show(if _ then _ else _:UInt64).toNat=_;rw[show(GI.toZ (Bv (Ad v:UInt64) (UInt64.ofNat (2^k))))=((v.toNat/2^k:Nat):Int) by rw[Ia,e],show GI.toZ (48:UInt64)=48 from rfl];split
  ·rw[e];omega
  ·show 48=_;omega
 rw[e2,tN (by rw[Afg,Abk]<;>omega),Afg,Abk (by omega)]
theorem Alb{p:List UInt8}{N:Nat}(h:okB p N)(a k:Nat)(hk:k<=24):HK p (N:Int) (a:Int) (k:Int)=some (TF p N a k):=by
 obtain⟨hN,hl,hz⟩:=h;have h:okB p N:=⟨hN,hl,hz⟩;rw[HK,NC];by_cases ha:N<=a
 ·rw[Abb (by rw[De];simp;omega),TF,Abb ha]
 have hle:=TV p (min 48 (N-a)) a;rw[Aba (by rw[De];simp;omega),Alf h a (by omega),Aa,unR];by_cases h1:Ez p a (min 48 (N-a))<min 48 (N-a)
 ·have hS:TF p N a k=if N<a+Ez p a (min 48 (N-a))+1+k then(0,0,24)else(UInt32.ofNat (Ez p a (min 48 (N-a))*2^k+Bl p (a+Ez p a (min 48 (N-a))+1) k),((a+Ez p a (min 48 (N-a))+1+k:Nat):Int),0):=by rw[TF,Aba ha,Abb h1]
  rw[Alw h1,hS];generalize Ez p a (min 48 (N-a))=q at*
  rw[Abb rfl];simp only;rw[Aba (by rw[Be];simp;omega),Xl,Xa,Bi];by_cases h2:N<a+q+1+k
  ·rw[Abb (by simp[Af];omega),Abb h2]
  ·have hp:2^k<=2^24:=Aef (by omega) hk;have hm:q*2^k<=47*2^24:=Azx (by omega) hp;have hv:=Mj p k (a+q+1);have e:(Ad (Ae (Bd (Ad (q:Int):UInt64) (UInt64.ofNat (2^k))) (Mn p (a+q+1) k)):UInt32)=UInt32.ofNat (q*2^k+Bl p (a+q+1) k):=by
    have e1:Ae (Bd (Ad (q:Int):UInt64) (UInt64.ofNat (2^k))) (Mn p (a+q+1) k)=UInt64.ofNat (q*2^k+Bl p (a+q+1) k):=by
     rw[KO,KI,Nf,Mn,UInt64.ofNat_add,UInt64.ofNat_mul]
    rw[e1];have e2:∀x:UInt64,(Ad x:UInt32)=UInt32.ofNat x.toNat:=λx=>by simp only[Ad,Ia,Ej]
    rw[e2,Afg,Abk (by omega)]
   rw[Aba (by simp[Af];omega),Aba h2,mO p _ _ k (by omega) (by omega),Aa,Abb (by rw[Af];simp;omega),KL k (by omega),Aa,e,Ag];rfl
 ·by_cases h2:Ez p a (min 48 (N-a))=48
  ·have hS:TF p N a k=if N<a+48+32 then(0,0,24)else if Bl p (a+48) 32/2^k<48 then(0,0,12)else(UInt32.ofNat (Bl p (a+48) 32),((a+48+32:Nat):Int),0):=by rw[TF,Aba ha,Aba h1,Abb h2]
   rw[Am7 h1 h2,hS,Abb rfl];simp only;rw[Abb (by rw[Be];rfl),Xl,Xa,Bi];by_cases h3:N<a+48+32
   ·rw[Abb (by simp[Af];omega),Abb h3]
   ·have hg:=mO p (N:Int) (a+48) 32 (by omega) (by omega);have hv:=yw p (a+48) (n:=32) (by omega);rw[Aba (by simp[Af];omega),Aba h3];refine Axb (congrArg (λo=>Option.bind o _) hg) ?_;rw[Aa,Aba (by rw[Af];simp),pF (by omega),Apu _ k hk,Aa,TW hv];by_cases h4:Bl p (a+48) 32/2^k<48
    ·rw[Abb (by rw[Af];simp;omega),Abb h4]
    ·rw[Aba (by rw[Af];simp;omega),Aba h4,Ag];rfl
  ·rw[Akx h1 h2,TF,Aba ha,Aba h1,Aba h2];have e:(if((0:Int),(0:Int),(24:Int)).2.2=0 then(((0:Int),(0:Int),(24:Int)).1,((0:Int),(0:Int),(24:Int)).2.1)else((-1:Int),(0:Int)))=(-1,0):=by decide
   rw[e];rfl
theorem Atw{p:List UInt8}{N a k:Nat}{v:UInt32}{n:Int}(h:TF p N a k=(v,n,0)):(a:Int)<n/\n<=N:=by
 unfold TF at h;split at h
 ·simp at h
 split at h
 ·split at h
  ·simp at h
  ·simp only[Avn]at h;omega
 ·split at h
  ·split at h
   ·simp at h
   ·split at h
    ·simp at h
    ·simp only[Avn]at h;omega
  ·simp at h
def okD(k l:Nat)(s t:UInt64):Prop:=k<=24/\l<=24/\s.toNat<=68719476735/\t.toNat<=68719476735
theorem ze(a b:UInt64)(h:a.toNat<=b.toNat):Dt a b=a:=by
 show(if _ then _ else _)=_;rw[Ia,Ia,Aba (by omega)]
theorem oO(a:UInt64):geq a a=true:=by rw[wA];simp
theorem Akf{k l:Nat}{s t:UInt64}(h:okD k l s t):SC (k:Int) (l:Int) s t=some 0:=by
 obtain⟨h1,h2,h3,h4⟩:=h;have e1:Dt (lB (k:Int) 0) 24=(k:Int):=by rw[GU,Z2];omega
 have e2:Dt (lB (l:Int) 0) 24=(l:Int):=by rw[GU,Z2];omega
 have e3:Dt s (68719476735:UInt64)=s:=ze _ _ (by simpa using h3);have e4:Dt t (68719476735:UInt64)=t:=ze _ _ (by simpa using h4);have e5:∀a:Int,geq a a=true:=λa=>by rw[Be];simp
 rw[SC,IJ,WM,IC,UY,lN,e1,e2,e3,e4,e5,e5,oO,oO];rfl
def Ub(s n:UInt64):UInt64:=s+n-s/16
def kS(k:Nat)(s:UInt64):Nat:=if 0<k/\s.toNat<2^(k+4)then k-1 else if k<24/\2^(k+5)<s.toNat then k+1 else k
theorem Asy{k:Nat}(h:k<=24)(s:UInt64):kS k s<=24:=by
 unfold kS;by_cases h1:0<k/\s.toNat<2^(k+4)
 ·rw[Abb h1];omega
 ·rw[Aba h1];split<;>omega
theorem Ae5{k:Nat}{s:UInt64}(h:¬(0<k/\s.toNat<2^(k+4))):(if k<24/\2^(k+5)<s.toNat then((k+1:Nat):Int)else(k:Int))=((kS k s:Nat):Int):=by
 rw[kS,Aba h];split<;>rfl
theorem Ae7{s n:UInt64}(h:s.toNat<=68719476735)(hn:n.toNat<=4294967295):(Ub s n).toNat<=68719476735:=by
 have h1:=s.toNat_lt;have e:(s+n).toNat=s.toNat+n.toNat:=by rw[UInt64.toNat_add];omega
 have e2:(s/16).toNat=s.toNat/16:=by rw[Bab];rfl
 rw[Ub,UInt64.toNat_sub_of_le _ _ (by rw[UInt64.le_iff_toNat_le,e,e2];omega),e,e2];omega
theorem WZ(s n:UInt64):Ae s (Ah n (Bt s (GI.toZ (4:UInt64)).toNat))=Ub s n:=by
 have e:Bt s (GI.toZ (4:UInt64)).toNat=s/16:=by
  apply UInt64.toNat_inj.1;rw[EV,Bab];rfl
 rw[e,KO,qR,Ub,UInt64.sub_eq_add_neg,UInt64.sub_eq_add_neg,UInt64.add_assoc]
theorem Aff(s n:UInt64):Ah (Ae s n) (Bv s (16:UInt64))=Ub s n:=by rw[KO,qR,qJ,Ub]
theorem Av0{k:Nat}(h:k<=24):(Cr (16:UInt64) k).toNat=2^(k+4):=by
 have hp:2^k<=2^24:=Aef (by omega) h;rw[SW,Az6]
 show 16*2^k %_=2^k*16;rw[Abk (by omega),Aor]
theorem Au1{k:Nat}(h:k<=24):(Cr (32:UInt64) k).toNat=2^(k+5):=by
 have hp:2^k<=2^24:=Aef (by omega) h;rw[SW,Az6]
 show 32*2^k %_=2^k*32;rw[Abk (by omega),Aor]
theorem Asp{k:Nat}{s:UInt64}(h:0<k)(h2:s.toNat<2^(k+4)):kS k s=k-1:=by rw[kS,Abb ⟨h,h2⟩]
theorem As4{k:Nat}{s:UInt64}(h:¬(0<k/\s.toNat<2^(k+4)))(h2:k<24)(h3:2^(k+5)<s.toNat):kS k s=k+1:=by rw[kS,Aba h,Abb ⟨h2,h3⟩]
theorem Afc{k:Nat}{s:UInt64}(h:¬(0<k/\s.toNat<2^(k+4)))(h2:¬(k<24/\2^(k+5)<s.toNat)):kS k s=k:=by rw[kS,Aba h,Aba h2]
theorem Agr{α:Type}(k:Nat)(hk:k<=24)(s:UInt64)(f:Int->Option α):
  (if(Dv (k:Int) (0:Int))=true then(
   Option.bind (Hy (Ly (k:Int) (0:Int))) λ_=>
   if(Cf s (Cr (16:UInt64) (GI.toZ (k:Int)).toNat))=true then f (Ah (k:Int) (1:Int))
   else(if(Cf (k:Int) (24:Int))=true then(
    Option.bind (Hy (Ly (k:Int) (0:Int))) λ_=>
    if(Dv s (Cr (32:UInt64) (GI.toZ (k:Int)).toNat))=true then f (Ae (k:Int) (1:Int))else f (k:Int))
    else f (k:Int)))
  else(if(Cf (k:Int) (24:Int))=true then(
    Option.bind (Hy (Ly (k:Int) (0:Int))) λ_=>
    if(Dv s (Cr (32:UInt64) (GI.toZ (k:Int)).toNat))=true then f (Ae (k:Int) (1:Int))else f (k:Int))
    else f (k:Int)))=f ((kS k s:Nat):Int):=by
 have z:(GI.toZ (k:Int)).toNat=k:=rfl;rw[z,Bf (by rw[De];simp)];simp only[Aa];rw[wI,TZ,Av0 hk,Au1 hk];by_cases h0:0<k
 ·rw[Abb (by rw[Am];simp;omega)];by_cases h1:s.toNat<2^(k+4)
  ·rw[Abb (by simp[h1]),Asp h0 h1,Bi];congr 1;omega
  ·rw[Aba (by simp;omega)];by_cases h2:k<24
   ·rw[Abb (by rw[Af];simp;omega)];by_cases h3:2^(k+5)<s.toNat
    ·rw[Abb (by simp[h3]),As4 (λh=>h1 h.2) h2 h3,Ag];rfl
    ·rw[Aba (by simp;omega),Afc (λh=>h1 h.2) (λh=>h3 h.2)]
   ·rw[Aba (by rw[Af];simp;omega),Afc (λh=>h1 h.2) (λh=>h2 h.1)]
 ·rw[Aba (by rw[Am];simp;omega)];by_cases h2:k<24
  ·rw[Abb (by rw[Af];simp;omega)];by_cases h3:2^(k+5)<s.toNat
   ·rw[Abb (by simp[h3]),As4 (λh=>h0 h.1) h2 h3,Ag];rfl
   ·rw[Aba (by simp;omega),Afc (λh=>h0 h.1) (λh=>h3 h.2)]
  ·rw[Aba (by rw[Af];simp;omega),Afc (λh=>h0 h.1) (λh=>h2 h.1)]
theorem Agf(k:Nat)(hk:k<=24)(s n:UInt64):Tv (k:Int) s n=some (((kS k (Ub s n):Nat):Int),Ub s n):=by
 have g1:Ae (k:Int) 4=((k+4:Nat):Int):=by rw[Ag];omega
 have g2:Ae (k:Int) 5=((k+5:Nat):Int):=by rw[Ag];omega
 have hp:Ug (k:Int) s n=some (if k<24/\2^(k+5)<(Ub s n).toNat then((k+1:Nat):Int)else(k:Int),Ub s n):=by
  rw[Ug,LM,g2,KL _ (by omega),Aa,Aff,TZ,TS (by omega)];by_cases h2:k<24
  ·rw[Abb (by rw[Af];simp;omega)];by_cases h3:2^(k+5)<(Ub s n).toNat
   ·rw[Abb (by simp[h3]),Abb ⟨h2,h3⟩,Ag];rfl
   ·rw[Aba (by simp;omega),Aba (λh=>h3 h.2)]
  ·rw[Aba (by rw[Af];simp;omega),Aba (λh=>h2 h.1)]
 rw[Tv,JY,g1,KL _ (by omega),Aa,Aff,wI,TS (by omega),hp];by_cases h0:0<k
 ·rw[Abb (by rw[Am];simp;omega)];by_cases h1:(Ub s n).toNat<2^(k+4)
  ·rw[Abb (by simp[h1]),Asp h0 h1,Bi];congr 2;omega
  ·rw[Aba (by simp;omega),Ae5 (λh=>h1 h.2)]
 ·rw[Aba (by rw[Am];simp;omega),Ae5 (λh=>h0 h.1)]
def vY(v:UInt32):UInt64:=UInt64.ofNat v.toNat
theorem Alo(v:UInt32):(vY v).toNat<=4294967295:=by have:=v.toNat_lt;rw[vY,Afg,Abk (by omega)];omega
def cU(k:Nat)(v:UInt32):UInt32:=UInt32.ofNat (v.toNat-2^k)
def lK(l:Nat)(t:UInt64)(k:Nat)(v:UInt32):Nat:=if v.toNat<2^k then l else kS l (Ub t (vY (cU k v)))
def lT(t:UInt64)(k:Nat)(v:UInt32):UInt64:=if v.toNat<2^k then t else Ub t (vY (cU k v))
theorem Akp{k l:Nat}{s t:UInt64}(h:okD k l s t)(v:UInt32):okD (kS k (Ub s (vY v))) (lK l t k v) (Ub s (vY v)) (lT t k v):=by
 obtain⟨h1,h2,h3,h4⟩:=h;refine⟨Asy h1 _,?_,Ae7 h3 (Alo v),?_⟩
 ·unfold lK;split; · exact h2
  exact Asy h2 _
 ·unfold lT;split; · exact h4
  exact Ae7 h4 (Alo _)
theorem Aua(k l:Nat)(s t:UInt64)(hk:k<=24)(v:UInt32):HF (k:Int) (l:Int) s t v=some (decide (v.toNat<2^k)):=by
 have:=v.toNat_lt;rw[HF,KL k (by omega),Aa,wI,TS (by omega),Cn,Afg,Abk (by omega)]
theorem left_eq(k l:Nat)(s t:UInt64)(hk:k<=24)(v:UInt32)(h:¬v.toNat<2^k):DK (k:Int) (l:Int) s t v=some (cU k v):=by
 have:=v.toNat_lt;have e2:∀x:UInt64,(Ad x:UInt32)=UInt32.ofNat x.toNat:=λx=>by simp only[Ad,Ia,Ej]
 have e3:(UInt64.ofNat v.toNat).toNat=v.toNat:=by rw[Afg,Abk (by omega)]
 rw[DK,KL k (by omega),Aa,e2,qR,Cn,UInt64.toNat_sub_of_le _ _ (by rw[UInt64.le_iff_toNat_le,TS (by omega),e3];omega),TS (by omega),e3,cU]
theorem Ajd{k l:Nat}{s t:UInt64}(h:okD k l s t)(v:UInt32):Wq (k:Int) (l:Int) s t v=some (((kS k (Ub s (vY v)):Nat):Int),((lK l t k v:Nat):Int),Ub s (vY v),lT t k v):=by
 obtain⟨h1,h2,h3,h4⟩:=h;have hp:∀(r1:Int) (r2:UInt64),Qz v (k:Int) (l:Int) s t r1 r2=some (((kS k (Ub s (vY v)):Nat):Int),r1,Ub s (vY v),r2):=by
  intro r1 r2;rw[Qz,ED,Cn,Agf k h1,Aa];rfl
 rw[Wq,BR,Aua k l s t h1,Aa];by_cases hv:v.toNat<2^k
 ·rw[Aba (by simp[hv]),hp,lK,Abb hv,lT,Abb hv]
 ·rw[Abb (by simp;omega),left_eq k l s t h1 v hv,Aa,Cn,Agf l h2,Aa];simp only;rw[hp,lK,Aba hv,lT,Aba hv];rfl
theorem yQ(k l:Nat)(s t:UInt64)(hk:k<=24)(v:UInt32):HQ (k:Int) (l:Int) s t v=some (if v.toNat<2^k then(0,v)else(1,cU k v)):=by
 have hp:2^k<=2^24:=Aef (by omega) hk;have hpos:0<2^k:=Ax3 (by omega);have hl:=v.toNat_lt;have z:(GI.toZ (k:Int)).toNat=k:=rfl;have e1:geq (Bt v k) (0:UInt32)=decide (v.toNat<2^k):=by
  rw[T6,Akg];simp only[Ax2,<-UInt32.toNat_inj,JI,Ab1]
  show _/_=0↔_;rw[Nat.div_eq_zero_iff];omega
 have e2:¬v.toNat<2^k->Ah v (Cr (1:UInt32) k)=cU k v:=by
  intro h;have e3:(Cr (1:UInt32) k).toNat=2^k:=by rw[eL];show 1*2^k %_=_;rw[Abk (by omega),Nat.one_mul]
  apply UInt32.toNat_inj.1;rw[xX,UInt32.toNat_sub_of_le _ _ (by rw[UInt32.le_iff_toNat_le,e3];omega),e3,cU,TW (by omega)]
 rw[HQ,Bf (by rw[De];simp),Aa,Aa,z,e1];by_cases h:v.toNat<2^k
 ·rw[Abb (by simp[h]),Abb h]
 ·rw[Aba (by simp;omega),Aba h,e2 h]
abbrev Rd:=UInt32×Int×Int×Int×UInt64×UInt64×Int
theorem xI{k l:Nat}{s t:UInt64}(h:okD k l s t)(v:UInt32)(r:Int):OB (k:Int) (l:Int) s t v r=some (v,r,((kS k (Ub s (vY v)):Nat):Int),((lK l t k v:Nat):Int),Ub s (vY v),lT t k v,0):=by
 obtain⟨h1,h2,h3,h4⟩:=h;have hp:∀(x:Int) (y:UInt64),ER v r (k:Int) s x y=some (v,r,((kS k (Ub s (vY v)):Nat):Int),x,Ub s (vY v),y,0):=by
  intro x y;rw[ER,bW,Cn,WZ,Agr k h1];rw[ZC,bJ,VP,lM,Cn,WZ];rfl
 rw[OB,ZP,yQ k l s t h1,Aa];by_cases hv:v.toNat<2^k
 ·rw[Abb hv];simp only;rw[Aba (by rw[Be];simp),hp,lK,Abb hv,lT,Abb hv]
 ·rw[Aba hv];simp only;rw[Abb (by rw[Be];rfl),Cn,WZ,Agr l h2 _ (λx=>ER v r (k:Int) s x (Ub t (UInt64.ofNat (cU k v).toNat))),hp,lK,Aba hv,lT,Aba hv];rfl
def YX(p:List UInt8)(N a k l:Nat):UInt32×Int×Int:=
 if N<=a then(0,0,24)else
 if Fp p a=0 then(if N<a+1+k then(0,0,24)else(UInt32.ofNat (Bl p (a+1) k),((a+1+k:Nat):Int),0))else
 if(TF p N (a+1) l).2.2≠0 then(0,0,(TF p N (a+1) l).2.2)else
 if 4294967295<(TF p N (a+1) l).1.toNat+2^k then(0,0,12)else(UInt32.ofNat ((TF p N (a+1) l).1.toNat+2^k),(TF p N (a+1) l).2.1,0)
theorem Auk{p:List UInt8}{N a k l:Nat}(h:(YX p N a k l).2.2=0):(a:Int)<(YX p N a k l).2.1/\ (YX p N a k l).2.1<=N:=by
 revert h
 unfold YX;split
 ·simp
 split
 ·split
  ·simp
  ·simp only;omega
 ·split
  ·intro h;contradiction
  ·rename_i h1;split
   ·simp
   ·intro _;have:=Atw (p:=p) (N:=N) (a:=a+1) (k:=l) (v:=(TF p N (a+1) l).1) (n:=(TF p N (a+1) l).2.1) (by
     have e:(TF p N (a+1) l).2.2=0:=by simpa using h1
     rw[<-e])
    simp only;omega
theorem Aqb{p:List UInt8}{N:Nat}(h:okB p N)(a:Nat){k l:Nat}{s t:UInt64}(hd:okD k l s t):HH p (N:Int) (a:Int) (k:Int) (l:Int) s t=
  some (if(YX p N a k l).2.2≠0 then(0,0,0,0,0,0,(YX p N a k l).2.2)else((YX p N a k l).1,(YX p N a k l).2.1,((kS k (Ub s (vY (YX p N a k l).1)):Nat):Int),((lK l t k (YX p N a k l).1:Nat):Int),Ub s (vY (YX p N a k l).1),lT t k (YX p N a k l).1,0)):=by
 obtain⟨h1,h2,h3,h4⟩:=hd;have hd:okD k l s t:=⟨h1,h2,h3,h4⟩;have hN:=h.1;have hg:=tQ h a 1 (by omega);have hb:=Yc p a;rw[HH,cH,Vz h,Aa,Aba (by rw[Ak];simp),Akf hd,Aa,Aba (by rw[Ak];simp),cC,ZV];refine Axb (congrArg (λo=>Option.bind o _) hg) ?_;rw[Aa];by_cases ha:N<=a
 ·have hS:YX p N a k l=(0,0,24):=by rw[YX,Abb ha]
  rw[Abb (by omega),hS];rfl
 rw[Aba (by omega)];simp only;have e0:geq (Mn p a 1) (0:UInt64)=decide (Fp p a=0):=by
  rw[wA,Akg];simp only[Ax2,<-Azu,Ab1,Vm p a 1 (by omega),pN];rfl
 have e1:Ae (a:Int) 1=((a+1:Nat):Int):=by rw[Ag];omega
 rw[Aba (by rw[Ak];simp),e0,e1];by_cases hz:Fp p a=0
 ·rw[Abb (by simp[hz]),tQ h (a+1) k (by omega),Aa];by_cases h5:N<a+1+k
  ·have hS:YX p N a k l=(0,0,24):=by rw[YX,Aba ha,Abb hz,Abb h5]
   rw[Abb h5,hS];rfl
  ·have hS:YX p N a k l=(UInt32.ofNat (Bl p (a+1) k),((a+1+k:Nat):Int),0):=by rw[YX,Aba ha,Abb hz,Aba h5]
   rw[Aba h5,hS];simp only;rw[Aba (by rw[Ak];simp),xI hd,pF (by omega),Ag];rfl
 ·rw[Aba (by simp[hz]),Aqd h (a+1) l h2,Aa];have hp:2^k<=2^24:=Aef (by omega) h1;by_cases h5:(TF p N (a+1) l).2.2≠0
  ·have hS:YX p N a k l=(0,0,(TF p N (a+1) l).2.2):=by rw[YX,Aba ha,Aba hz,Abb h5]
   rw[hS];generalize TF p N (a+1) l=R at*
   obtain⟨v,n,e⟩:=R;simp only at*
   rw[Abb (by rw[Ak];simpa using h5),Abb h5]
  ·have hv:=(TF p N (a+1) l).1.toNat_lt;have z:(GI.toZ (k:Int)).toNat=k:=rfl;have e3:(Cr (1:UInt32) k).toNat=2^k:=by rw[eL];show 1*2^k %_=_;rw[Abk (by omega),Nat.one_mul]
   by_cases h6:4294967295<(TF p N (a+1) l).1.toNat+2^k
   ·have hS:YX p N a k l=(0,0,12):=by rw[YX,Aba ha,Aba hz,Aba h5,Abb h6]
    rw[hS];generalize TF p N (a+1) l=R at*
    obtain⟨v,n,e⟩:=R;simp only at*
    rw[Aba (by rw[Ak];simpa using h5),Bf (by rw[De];simp),Aa,z,Abb (by rw[Ae8,wR,UInt32.toNat_add,e3];simp;omega),Abb (by decide)]
   ·have hS:YX p N a k l=(UInt32.ofNat ((TF p N (a+1) l).1.toNat+2^k),(TF p N (a+1) l).2.1,0):=by rw[YX,Aba ha,Aba hz,Aba h5,Aba h6]
    rw[hS];generalize TF p N (a+1) l=R at*
    obtain⟨v,n,e⟩:=R;simp only at*
    have e4:Ae v (Cr (1:UInt32) k)=UInt32.ofNat (v.toNat+2^k):=by
     apply UInt32.toNat_inj.1;rw[wR,UInt32.toNat_add,e3,TW (by omega),Abk (by omega)]
    rw[Aba (by rw[Ak];simpa using h5),Bf (by rw[De];simp),Aa,z,Aba (by rw[Ae8,wR,UInt32.toNat_add,e3];simp;omega),e4,xI hd];rfl
theorem Ank{p:List UInt8}{N:Nat}(h:okB p N)(a:Nat)(k l:Nat)(s t:UInt64)(h1:k<=24)(h2:l<=24):HI p (N:Int) (a:Int) (k:Int) (l:Int) s t=some (YX p N a k l):=by
 have hN:=h.1;have hl:=h.2.1;have hb:=Yc p a;rw[HI];by_cases ha:N<=a
 ·rw[Abb (by rw[De];simp;omega),YX,Abb ha]
 rw[Aba (by rw[De];simp;omega),rU p _ a (by omega) (by omega),Aa,Bi (a:=(N:Int)) (b:=(a:Int)) (by omega) (by omega),Bi];have e1:Ae (a:Int) 1=((a+1:Nat):Int):=by rw[Ag];omega
 rw[e1];by_cases hz:Fp p a=0
 ·rw[Abb (by rw[Be];simp[hz])];by_cases h5:N<a+1+k
  ·rw[Abb (by rw[Af];simp;omega),YX,Aba ha,Abb hz,Abb h5]
  ·rw[Aba (by rw[Af];simp;omega),mO p _ (a+1) k (by omega) (by omega),Aa,YX,Aba ha,Abb hz,Aba h5,pF (by omega),Ag];rfl
 ·rw[Aba (by rw[Be];simp;omega),Alb h (a+1) l h2,Aa];have hp:2^k<=2^24:=Aef (by omega) h1;have hv:=(TF p N (a+1) l).1.toNat_lt;have e2:∀x:UInt64,(Ad x:UInt32)=UInt32.ofNat x.toNat:=λx=>by simp only[Ad,Ia,Ej]
  by_cases h5:(TF p N (a+1) l).2.2≠0
  ·have hS:YX p N a k l=(0,0,(TF p N (a+1) l).2.2):=by rw[YX,Aba ha,Aba hz,Abb h5]
   rw[hS];generalize TF p N (a+1) l=R at*
   obtain⟨v,n,e⟩:=R;simp only at*
   rw[Abb (by rw[Ak];simpa using h5)]
  ·have hsum:∀v:UInt32,(Ae (Ad v:UInt64) (UInt64.ofNat (2^k))).toNat=v.toNat+2^k:=by
    intro v;have:=v.toNat_lt;have:=Ax3 (n:=k) (show 0<2 by omega);rw[KO,UInt64.toNat_add,Cn,TS (by omega),Afg];omega
   by_cases h6:4294967295<(TF p N (a+1) l).1.toNat+2^k
   ·have hS:YX p N a k l=(0,0,12):=by rw[YX,Aba ha,Aba hz,Aba h5,Abb h6]
    rw[hS];generalize TF p N (a+1) l=R at*
    obtain⟨v,n,e⟩:=R;simp only at*
    rw[Aba (by rw[Ak];simpa using h5),KL k (by omega),Aa,Abb (by rw[TZ,hsum];simpa using h6)]
   ·have hS:YX p N a k l=(UInt32.ofNat ((TF p N (a+1) l).1.toNat+2^k),(TF p N (a+1) l).2.1,0):=by rw[YX,Aba ha,Aba hz,Aba h5,Aba h6]
    rw[hS];generalize TF p N (a+1) l=R at*
    obtain⟨v,n,e⟩:=R;simp only at*
    rw[Aba (by rw[Ak];simpa using h5),KL k (by omega),Aa,Aba (by rw[TZ,hsum];simpa using h6),e2,hsum]
abbrev DuN:=Nat×Nat×UInt64×UInt64
def okN(d:DuN):Prop:=okD d.1 d.2.1 d.2.2.1 d.2.2.2
def nxt(d:DuN)(v:UInt32):DuN:=(kS d.1 (Ub d.2.2.1 (vY v)),lK d.2.1 d.2.2.2 d.1 v,Ub d.2.2.1 (vY v),lT d.2.2.2 d.1 v)
def cu:DuN:=(10,10,16384,16384)
theorem Aly:okN cu:=⟨by decide,by decide,by decide,by decide⟩
theorem Aum{d:DuN}(h:okN d)(v:UInt32):okN (nxt d v):=Akp h v
abbrev DuL:=Int×Int×UInt64×UInt64×Unit
def toI(d:DuN):DuL:=((d.1:Int),(d.2.1:Int),d.2.2.1,d.2.2.2,())
def dX(ch:Nat)(v:List UInt32)(c:Nat):Nat->DuN
 |0=>cu
 |m+1=>if m %ch=c then nxt (dX ch v c m) (v.getD m 0)else dX ch v c m
theorem gQ(ch:Nat)(v:List UInt32)(c:Nat):∀m,okN (dX ch v c m)
 |0=>Aly
 |m+1=>by rw[dX];split;exact Aum (gQ ch v c m) _;exact gQ ch v c m
theorem Agk(ch:Nat)(v w:List UInt32)(c:Nat):∀m,m<=v.length->dX ch (v++w) c m=dX ch v c m
 |0,_=>rfl
 |m+1,h=>by
  have e:(v++w).getD m 0=v.getD m 0:=by simp[List.getD_eq_getElem?_getD,List.getElem?_append_left (show m<v.length by omega)]
  rw[dX,dX,Agk ch v w c m (by omega),e]
theorem T3(ch:Nat)(v:List UInt32)(c:Nat):∀m,m<=c->c<ch->dX ch v c m=cu
 |0,_,_=>rfl
 |m+1,h,h2=>by rw[dX,Aba (by rw[Abk (by omega)];omega),T3 ch v c m (by omega) h2]
theorem Aao(ch:Nat)(v:List UInt32)(c i:Nat)(hi:i %ch=c)(hc:c<ch):∀j,j<ch->dX ch v c (i+1+j)=dX ch v c (i+1)
 |0,_=>rfl
 |j+1,h=>by
  have hne:(i+1+j) %ch≠c:=by
   intro e;have h1:(i+(1+j)) %ch=i %ch:=by rw[hi,<-e];congr 1;omega
   have h2:(1+j) %ch=0:=by
    have h3:=Nat.sub_mod_eq_zero_of_mod_eq h1;rwa [Aw1]at h3
   rw[Abk (by omega)]at h2;omega
  rw[show i+1+(j+1)=(i+1+j)+1 by omega,dX,Aba hne,Aao ch v c i hi hc j (by omega)]
theorem Amj(ch:Nat)(v:List UInt32)(c i:Nat)(hi:i %ch=c)(hc:c<ch):dX ch v c (i+ch)=nxt (dX ch v c i) (v.getD i 0):=by
 have h:=Aao ch v c i hi hc (ch-1) (by omega);rw[show i+1+(ch-1)=i+ch by omega]at h;rw[h,dX,Abb hi]
theorem qS{l:List UInt32}{k:Nat}(h:k<l.length):Aj l (k:Int)=some (l.getD k 0):=by
 rw[Ck h];simp[List.getD_eq_getElem?_getD,h]
theorem PH(a b:Nat):Ga (a:Int) (b:Int)=((a %b:Nat):Int):=by rw[Ga,Azb (by omega)];omega
theorem vI(ch:Nat)(v:List UInt32)(hch:1<=ch)(Avj:ch<=6)(hv:v.length<=4000):∀(j i q:Nat),i %ch=v.length %ch->i<=v.length->v.length-i<=j->j<q->
  Ky (ch:Int) v q (i:Int) ((dX ch v (v.length %ch) i).1:Int) ((dX ch v (v.length %ch) i).2.1:Int) (dX ch v (v.length %ch) i).2.2.1 (dX ch v (v.length %ch) i).2.2.2=
   some (((dX ch v (v.length %ch) v.length).1:Int),((dX ch v (v.length %ch) v.length).2.1:Int),(dX ch v (v.length %ch) v.length).2.2.1,(dX ch v (v.length %ch) v.length).2.2.2)
 |j,i,q+1,hi,hl,hj,hq=>by
  have hc:v.length %ch<ch:=Axr _ (by omega);rw[Ky,EB];by_cases h:i<v.length
  ·have h1:=Ajd (gQ ch v (v.length %ch) i) (v.getD i 0);rw[Abb (by rw[Af,Ac];simp;omega),qS h,Aa,h1,Aa];have hle:i+ch<=v.length:=by
    have h2:=Azz i ch;have h3:=Azz v.length ch;rw[hi]at h2;have h4:ch*(i/ch)<ch*(v.length/ch):=by omega
    have h5:=Nat.lt_of_mul_lt_mul_left h4;have h6:ch*(i/ch+1)<=ch*(v.length/ch):=Nat.mul_le_mul_left _ h5;rw[Nat.mul_add]at h6;omega
   have ih:=vI ch v hch Avj hv (j-ch) (i+ch) q (by rw[Az5];exact hi) hle (by omega) (by omega);rw[Amj ch v _ i hi hc]at ih;simp only;rw[Ag];exact ih
  ·rw[Aba (by rw[Af,Ac];simp;omega),show i=v.length by omega];rfl
theorem Aih(ch:Nat)(v:List UInt32)(hch:1<=ch)(Avj:ch<=6)(hv:v.length<=4000):On (ch:Int) v=some (((dX ch v (v.length %ch) v.length).1:Int),((dX ch v (v.length %ch) v.length).2.1:Int),(dX ch v (v.length %ch) v.length).2.2.1,(dX ch v (v.length %ch) v.length).2.2.2):=by
 have hc:v.length %ch<ch:=Axr _ (by omega);have hle:v.length %ch<=v.length:=Nat.mod_le _ _;have h:=vI ch v hch Avj hv v.length (v.length %ch) Aq (by rw[Nat.mod_mod]) hle (by omega) (by have:=Al;omega);rw[T3 ch v _ _ (Aj3 _) hc]at h;rw[On,CP,Lq,Aa];simp only;rw[Bf (by rw[Ak];simp;omega),Aa,Ac,PH];exact h
def now(ch:Nat)(v:List UInt32):DuN:=dX ch v (v.length %ch) v.length
def rK(N a:Nat):Nat:=min 81 (N-a)
def Jy(ch:Nat)(p:List UInt8)(N a:Nat)(out:List UInt32):UInt32×Int×Int:=YX (Ng p a (rK N a)) (rK N a) 0 (now ch out).1 (now ch out).2.1
def Wk(ch:Nat)(p:List UInt8)(N:Nat):Nat->Nat->List UInt32->List UInt32×Nat×Int
 |0,a,out=>(out,a,0)
 |j+1,a,out=>if(Jy ch p N a out).2.2≠0 then(out,a,(Jy ch p N a out).2.2)else Wk ch p N j (a+(Jy ch p N a out).2.1.toNat) (out++[(Jy ch p N a out).1])
theorem kD{ch:Nat}{p:List UInt8}{N a:Nat}{out:List UInt32}(h:(Jy ch p N a out).2.2=0):0<(Jy ch p N a out).2.1/\ (Jy ch p N a out).2.1<=rK N a:=by
 have:=Auk h;exact⟨this.1,this.2⟩
theorem Q0{ch:Nat}{p:List UInt8}{N a:Nat}{out:List UInt32}(h:(Jy ch p N a out).2.2=0):((a:Int)+(Jy ch p N a out).2.1)=((a+(Jy ch p N a out).2.1.toNat:Nat):Int):=by
 have:=kD h;omega
def sts(ch:Nat)(v:List UInt32):List DuL:=(List.range 6).map λc=>toI (dX ch v c v.length)
theorem U7{ch:Nat}{v:List UInt32}{c:Nat}(h:c<6):Aj (sts ch v) (c:Int)=some (toI (dX ch v c v.length)):=by
 rw[Ck (by simp[sts];exact h)];simp[sts]
theorem Agl{ch:Nat}{v:List UInt32}{c:Nat}(x:UInt32)(h:c<6)(hc:c=v.length %ch):Ip (sts ch v) (c:Int) (toI (nxt (dX ch v c v.length) x))=some (sts ch (v++[x])):=by
 rw[Rj _ (by simp[sts];exact h)];congr 1;apply Avq (by simp[sts]);intro i h1 h2;rw[Bac];simp only[sts,Ay1,Ayp];have e:(v++[x]).getD v.length 0=x:=by simp
 rw[Abw,List.length_singleton,dX,e,Agk ch v [x] i v.length (Aj3 _)];by_cases hi:c=i
 ·subst hi;rw[Abb rfl,Abb hc.symm]
 ·rw[Aba hi,Aba (by omega)]
theorem Arz{ch:Nat}{v:List UInt32}{c:Nat}(hc:c=v.length %ch):dX ch v c v.length=now ch v:=by rw[now,hc]
section
variable {p:List UInt8} {N ch n:Nat}
theorem mh(hp:okB p N)(h1:1<=ch)(h6:ch<=6)(hn:n*ch<=4000):∀(j a q:Nat) (out:List UInt32),out.length+j=n*ch->j<q->a<=N->
  Ll (ch:Int) (n:Int) p (N:Int) q (a:Int) (out.length:Int) (sts ch out) out=
   some (if(Wk ch p N j a out).2.2≠0 then([],0,(Wk ch p N j a out).2.2)else((Wk ch p N j a out).1,((Wk ch p N j a out).2.1:Int),0))
 |j,a,q+1,out,hj,hq,ha=>by
  have hN:=hp.1;have hnn:n<=n*ch:=Nat.le_mul_of_pos_right n (by omega);have em:Bd (n:Int) (ch:Int)=((n*ch:Nat):Int):=by rw[Hc (by rw[<-Aw7];omega) (by rw[<-Aw7];omega),Aw7]
  rw[Ll,Rs,em];cases j with
  |zero=>
   rw[Aba (by rw[Af];simp;omega)];rfl
  |succ j=>
   have hc:out.length %ch<6:=Aj5 (Axr _ (by omega)) h6;have ew:Dt (Ae (a:Int) 81) (N:Int)=((a+rK N a:Nat):Int):=by rw[GU,Ag];unfold rK;omega
   have hw:a+rK N a<=N:=by unfold rK;omega
   have hw2:rK N a<=81:=by unfold rK;omega
   have hd:=Aqb (oV p a (rK N a) (by omega)) 0 (gQ ch out (out.length %ch) out.length);have Aop:YX (Ng p a (rK N a)) (rK N a) 0 (dX ch out (out.length %ch) out.length).1 (dX ch out (out.length %ch) out.length).2.1=Jy ch p N a out:=rfl;rw[Abb (by rw[Af];simp;omega),ew,At0 hp a _ hw (by omega),Aa];simp only;rw[Aba (by rw[Ak];simp),Bf (by rw[Ak];simp;omega),Aa,PH,U7 hc,Aa,Aa];refine Axb (congrArg (λo=>Option.bind o _) hd) ?_;rw[Aa,Aop,Wk];by_cases he:(Jy ch p N a out).2.2≠0
   ·rw[Abb he,Abb he];simp only;rw[Rc,Rb,Abb (by rw[Ak];simpa using he),Abb he]
   ·have he0:(Jy ch p N a out).2.2=0:=by simpa using he
    have hok:=kD he0;have hset:=Agl (ch:=ch) (v:=out) (Jy ch p N a out).1 hc rfl;rw[Aba he,Aba he];simp only;rw[Rc,Rb,Aba (by rw[Ak];simp),Bf (by rw[Ak];simp;omega),Aa,PH,U7 hc,Aa];refine Axb (congrArg (λo=>Option.bind o _) hset) ?_;rw[Aa,Yw,RY,Cg (by simp;omega),Aa,Ag,Ag,Q0 he0];have ih:=mh hp h1 h6 hn j (a+(Jy ch p N a out).2.1.toNat) q (out++[(Jy ch p N a out).1]) (by simp;omega) (by omega) (by omega);rw[Abw,List.length_singleton]at ih;exact ih
theorem Ag5{p:List UInt8}(hN:N=8*p.length)(hN2:N<=330000)(h1:1<=ch)(h6:ch<=6)(hn:n*ch<=4000):∀(j a q:Nat) (out:List UInt32),out.length+j=n*ch->j<q->a<=N->
  Er (ch:Int) (n:Int) p q (a:Int) (out.length:Int) out=
   if(Wk ch p N j a out).2.2≠0 then some ((Wk ch p N j a out).1,(Wk ch p N j a out).2.2)else Tq ((Wk ch p N j a out).2.1:Int) p (Wk ch p N j a out).1
 |j,a,q+1,out,hj,hq,ha=>by
  have hnn:n<=n*ch:=Nat.le_mul_of_pos_right n (by omega);have em:Bd (n:Int) (ch:Int)=((n*ch:Nat):Int):=by rw[Hc (by rw[<-Aw7];omega) (by rw[<-Aw7];omega),Aw7]
  have e8:Bd (8:Int) (Ac p)=(N:Int):=by rw[Ac,Hc];omega
  rw[Er,GK,em];cases j with
  |zero=>
   rw[Aba (by rw[Af];simp;omega)];rfl
  |succ j=>
   have ew:Dt (Ae (a:Int) 81) (N:Int)=((a+rK N a:Nat):Int):=by rw[GU,Ag];unfold rK;omega
   have hw:a+rK N a<=N:=by unfold rK;omega
   have hw2:rK N a<=81:=by unfold rK;omega
   have hpre:(Option.bind Lq λ(r_4,r_5,r_6,r_7)=>
     if(Ly (out.length:Int) (ch:Int))=true then(
     Option.bind (On (ch:Int) out) λ(r_8,r_9,r_10,r_11)=>
     Ih (Er (ch:Int) (n:Int) p q) (ch:Int) (n:Int) p (a:Int) (out.length:Int) out r_8 r_9 r_10 r_11)
     else Ih (Er (ch:Int) (n:Int) p q) (ch:Int) (n:Int) p (a:Int) (out.length:Int) out r_4 r_5 r_6 r_7)=
     Ih (Er (ch:Int) (n:Int) p q) (ch:Int) (n:Int) p (a:Int) (out.length:Int) out ((now ch out).1:Int) ((now ch out).2.1:Int) (now ch out).2.2.1 (now ch out).2.2.2:=by
    rw[Lq,Aa];by_cases hc:ch<=out.length
    ·simp only;rw[Abb (by rw[De];simp;omega),Aih ch out h1 h6 (by omega),Aa];rfl
    ·have e:now ch out=cu:=by rw[now,Abk (by omega),T3 ch out _ _ (Aj3 _) (by omega)]
     simp only;rw[Aba (by rw[De];simp;omega),e];rfl
   have hd:=Ank (oV p a (rK N a) (by omega)) 0 (now ch out).1 (now ch out).2.1 (now ch out).2.2.1 (now ch out).2.2.2 (gQ ch out _ _).1 (gQ ch out _ _).2.1;have Aop:YX (Ng p a (rK N a)) (rK N a) 0 (now ch out).1 (now ch out).2.1=Jy ch p N a out:=rfl;rw[Abb (by rw[Af];simp;omega),hpre,Ih,GD,e8,ew,nk p (N:Int) a _ (by omega) (by omega) (by omega),Aa];simp only;refine Axb (congrArg (λo=>Option.bind o _) hd) ?_;rw[Aa,Aop,Wk];by_cases he:(Jy ch p N a out).2.2≠0
   ·rw[Abb he,Abb (by rw[Ak];simpa using he),Abb he]
   ·have he0:(Jy ch p N a out).2.2=0:=by simpa using he
    have hok:=kD he0;have ih:=Ag5 hN hN2 h1 h6 hn j (a+(Jy ch p N a out).2.1.toNat) q (out++[(Jy ch p N a out).1]) (by simp;omega) (by omega) (by omega);have hx:=Q0 he0;rw[Abw,List.length_singleton]at ih;rw[Aba he];generalize Jy ch p N a out=R at*
    obtain⟨v,nx,e⟩:=R;simp only at*
    rw[Aba (by rw[Ak];simpa using he),Cg (by simp;omega),Aa,Ag,Ag,hx];exact ih
end
theorem S1{ch:Nat}{p:List UInt8}{N:Nat}:∀(j a:Nat) (out:List UInt32),a<=N-> (Wk ch p N j a out).2.1<=N/\ (Wk ch p N j a out).1.length<=out.length+j/\ ((Wk ch p N j a out).2.2=0-> (Wk ch p N j a out).1.length=out.length+j)
 |0,a,out,h=>⟨h,Aj3 _,λ_=>rfl⟩
 |j+1,a,out,h=>by
  rw[Wk];split
  ·rename_i he;exact⟨h,by simp,λe=>absurd e he⟩
  ·rename_i he;have hok:=kD (ch:=ch) (p:=p) (N:=N) (a:=a) (out:=out) (by simpa using he);have hw:a+rK N a<=N:=by unfold rK;omega
   have ih:=S1 (ch:=ch) (p:=p) (N:=N) j (a+(Jy ch p N a out).2.1.toNat) (out++[(Jy ch p N a out).1]) (by omega);rw[Abw,List.length_singleton]at ih;exact⟨ih.1,by omega,λe=>by have:=ih.2.2 e;omega⟩
theorem ou(ch n:Int)(b:List UInt8)(N:Int):Rt ch n b N 0 (List.replicate 6 ((0:Int),(0:Int),(0:UInt64),(0:UInt64),()))=Yt ch n b N (List.replicate 6 ((10:Int),(10:Int),(16384:UInt64),(16384:UInt64),())):=by
 have e:Aq=(Aq-7)+1+1+1+1+1+1+1:=by have:=Al;omega
 rw[Rt,e];rfl
theorem values_eq{p:List UInt8}{N ch n:Nat}(hp:okB p N)(h1:1<=ch)(h6:ch<=6)(hn:n*ch<=4000):DH (ch:Int) (n:Int) p (N:Int)=
  some (if(Wk ch p N (n*ch) 0 []).2.2≠0 then([],0,(Wk ch p N (n*ch) 0 []).2.2)else((Wk ch p N (n*ch) 0 []).1,((Wk ch p N (n*ch) 0 []).2.1:Int),0)):=by
 have h:=mh hp h1 h6 hn (n*ch) 0 Aq [] (by simp) (by have:=Al;omega) (by omega);rw[DH,DG,ou];exact h
theorem O3(p:List UInt8)(x:List UInt32)(N:Nat)(hN:N=8*p.length)(hN2:N<=330000):∀(j a q:Nat),a+j=N->j<q->Ii p x q (a:Int)=some (x,if Bl p a j=0 then 0 else 12)
 |0,a,q+1,ha,_=>by
  have e8:Bd (8:Int) (Ac p)=(N:Int):=by rw[Ac,Hc];omega
  rw[Ii,Tg,e8,Aba (by rw[Af];simp;omega),Bl,Abb rfl];rfl
 |j+1,a,q+1,ha,hq=>by
  have e8:Bd (8:Int) (Ac p)=(N:Int):=by rw[Ac,Hc];omega
  have hb:=Yc p a;rw[Ii,Tg,e8,Abb (by rw[Af];simp;omega),rU p _ a (by omega) (by omega),Aa,Bl];by_cases h:Fp p a=0
  ·rw[Aba (by rw[Ak];simp[h]),Ag,h];have ih:=O3 p x N hN hN2 j (a+1) q (by omega) (by omega);rw[show((a:Int)+1)=((a+1:Nat):Int) by omega,ih];congr 2;by_cases hv:Bl p (a+1) j=0
   ·rw[Abb hv,Abb (by omega)]
   ·rw[Aba hv,Aba (by omega)]
  ·rw[Abb (by rw[Ak];simp;omega),Aba (by omega)]
theorem Afo{p:List UInt8}{N ch n:Nat}(hN:N=8*p.length)(hN2:N<=330000)(h1:1<=ch)(h6:ch<=6)(hn:n*ch<=4000):BO (ch:Int) (n:Int) p=
  some (if(Wk ch p N (n*ch) 0 []).2.2≠0 then((Wk ch p N (n*ch) 0 []).1,(Wk ch p N (n*ch) 0 []).2.2)else
   ((Wk ch p N (n*ch) 0 []).1,if 7<N-(Wk ch p N (n*ch) 0 []).2.1\/Bl p (Wk ch p N (n*ch) 0 []).2.1 (N-(Wk ch p N (n*ch) 0 []).2.1)≠0 then 12 else 0)):=by
 have h:=Ag5 hN hN2 h1 h6 hn (n*ch) 0 Aq [] (by simp) (by have:=Al;omega) (by omega);have hat:=(S1 (ch:=ch) (p:=p) (N:=N) (n*ch) 0 [] (by omega)).1;have e8:Bd (8:Int) (Ac p)=(N:Int):=by rw[Ac,Hc];omega
 rw[BO,KT];refine Axb h ?_;generalize Wk ch p N (n*ch) 0 []=V at*
 obtain⟨v,a,e⟩:=V;simp only at*
 by_cases he:e≠0
 ·rw[Abb he,Abb he]
 ·rw[Aba he,Aba he,Tq,FM,e8,Bi];by_cases h7:7<N-a
  ·rw[Abb (by rw[Am];simp;omega),Abb (.inl h7)]
  ·rw[Aba (by rw[Am];simp;omega),FU,O3 p v N hN hN2 (N-a) a Aq (by omega) (by have:=Al;omega)];by_cases hv:Bl p a (N-a)=0
   ·rw[Abb hv,Aba (by omega)]
   ·rw[Aba hv,Abb (.inr hv)]
theorem jh(n:Int):(GI.ofZ n:Int32)=Int32.ofInt n:=rfl
theorem IQ(a:Int32):GI.toZ a=a.toInt:=rfl
theorem XG(a b:Int32):Ae a b=a+b:=by
 rw[Ae,IQ,IQ,jh,Int32.ofInt_add,Avr,Avr]
theorem QP(a b:Int32):Ah a b=a-b:=by
 rw[Ah,IQ,IQ,jh,Int32.ofInt_sub,Avr,Avr]
theorem Ae9(a b:Int32):geq a b=(a==b):=by
 rw[geq,IQ,IQ,Akg];simp[Int32.toInt_inj]
theorem Apf(a b:Int32):Bk a b=(a !=b):=by
 rw[Bk,IQ,IQ,Akg];simp[Int32.toInt_inj]
def ZX(p:Nat->Bool)(a b:List Int32):List Int32:=(List.range a.length).map λk=>if p k=true then a.getD k 0 else b.getD k 0
section
variable {p q:Nat->Bool} {a b:List Int32}
theorem IP:(ZX p a b).length=a.length:=by simp[ZX]
theorem Hg{k:Nat}(h:k<a.length):a.getD k 0=a[k]:=by simp[List.getD_eq_getElem?_getD,h]
theorem Ql{k:Nat}(h:k<(ZX p a b).length):(ZX p a b)[k]=if p k=true then a.getD k 0 else b.getD k 0:=by simp[ZX]
theorem Yn{k:Nat}(h:k<a.length):Aj (ZX p a b) (k:Int)=some (if p k=true then a.getD k 0 else b.getD k 0):=by
 rw[Ck (by rw[IP];exact h),Ql]
theorem Sg(h:∀k,k<a.length->p k=q k):ZX p a b=ZX q a b:=by
 apply List.map_congr_left;intro k hk;rw[h k (List.mem_range.1 hk)]
theorem bP{k:Nat}(h:k<a.length):Ip (ZX p a b) (k:Int) (a.getD k 0)=some (ZX (λj=>p j||decide (j=k)) a b):=by
 rw[Rj _ (by rw[IP];exact h)];congr 1;apply Avq (by simp[IP]);intro i h1 h2;rw[Bac,Ql,Ql];by_cases hi:k=i
 ·subst hi;simp
 ·have:¬i=k:=λe=>hi e.symm;simp[hi,this]
theorem kJ(h:∀k,k<a.length->p k=true):ZX p a b=a:=by
 apply Avq (by simp[IP]);intro i h1 h2;rw[Ql,Abb (h i h2),Hg h2]
theorem eX(hl:b.length=a.length)(h:∀k,k<a.length->p k=false):ZX p a b=b:=by
 apply Avq (by simp[IP,hl]);intro i h1 h2;rw[Ql,h i (by omega)];simp[List.getD_eq_getElem?_getD,h2]
end
theorem wY(a b:Int32):Bd a b=a*b:=by
 rw[Bd,IQ,IQ,jh,Int32.ofInt_mul,Avr,Avr]
theorem Xi(a:Int32): -2147483648<=a.toInt/\a.toInt<2147483648:=⟨a.le_toInt,a.toInt_lt⟩
theorem Ei(a:Int32):(Ad a:Int)=a.toInt:=by
 have:=Xi a
 show wrap64 a.toInt=_;rw[Bo]<;>omega
theorem OT(n:Int):(Ad n:Int32)=Int32.ofInt n:=rfl
theorem Aiz(x:Int):Int32.ofInt (x %4294967296)=Int32.ofInt x:=by
 apply Int32.toInt_inj.1;rw[Azn,Azn];exact Int.emod_bmod x 4294967296
theorem wH(x:Int):Ch x=some (Int32.ofInt x):=by
 have e1:(Ad x:UInt64).toNat=(x %18446744073709551616).toNat:=by
  rw[yt,Afg,Abk (by omega)]
 have e2:(Ad (Ad x:UInt64):UInt32).toNat=(x %4294967296).toNat:=by
  have e:(Ad (Ad x:UInt64):UInt32)=UInt32.ofNat (Ad x:UInt64).toNat:=by simp only[Ad,Ia,Ej]
  rw[e,Aj1,e1];show(x %18446744073709551616).toNat %4294967296=_;omega
 have e3:(Ad (Ad (Ad x:UInt64):UInt32):Int32)=Int32.ofInt ((Ad (Ad x:UInt64):UInt32).toNat:Int):=rfl;rw[Ch,e3,e2,<-Aiz x];congr 2;omega
theorem oU(a b:Int32):Ch (Ae (Ad a:Int) (Ad b:Int))=some (a+b):=by
 have:=Xi a;have:=Xi b;rw[Ei,Ei,Ag,wH,Int32.ofInt_add,Avr,Avr]
theorem Am2(a b:Int32):Ch (Bd (Ad a:Int) (Ad b:Int))=some (a*b):=by
 have ha:=Xi a;have hb:=Xi b;have h1: -9223372036854775808<=a.toInt*b.toInt/\a.toInt*b.toInt<=9223372036854775807:=by
  have h2:(a.toInt*b.toInt).natAbs<=2147483648*2147483648:=by
   rw[Int.natAbs_mul];exact Azx (by omega) (by omega)
  omega
 rw[Ei,Ei,Hc h1.1 h1.2,wH,Int32.ofInt_mul,Avr,Avr]
def OkF(s:Int)(t p:List Int32):Prop:=(s=9\/s=10)/\t.length=16/\p.length=16
theorem sG{s:Int}{t p:List Int32}(h:OkF s t p):HL s t p=some 0:=by
 obtain⟨rfl|rfl,_,_⟩:=h<;>rfl
theorem g32{l:List Int32}{k:Nat}(h:k<l.length):Aj l (k:Int)=some (l.getD k 0):=by
 rw[Ck h];simp[List.getD_eq_getElem?_getD,h]
def hH(t p:List Int32):Nat->Int32
 |0=>0
 |i+1=>hH t p i+t.getD i 0*p.getD i 0
def half(s:Int):Int32:=if s=9 then 256 else 512
def gF(s:Int)(t p:List Int32):Int32:=Int32.ofInt ((half s+hH t p 16).toInt.fdiv (if s=9 then 512 else 1024))
theorem N3{s:Int}{t p:List Int32}(h:OkF s t p):∀(j i q:Nat),i+j=16->j<q->So t s p q (half s+hH t p i) (i:Int)=some (gF s t p,0)
 |0,i,q+1,hi,_=>by
  obtain rfl:i=16:=by omega
  have hs:=h.1;rw[So,IG,Aba (by rw[Af];simp),VN,mI,Bf (by rw[De];simp;omega),Aa];obtain rfl|rfl:=hs<;>rfl
 |j+1,i,q+1,hi,hq=>by
  obtain⟨hs,ht,hp⟩:=h;rw[So,IG,Abb (by rw[Af];simp;omega),g32 (by omega),Aa,g32 (by omega),Aa,Aa,Ag (b:=1) (by omega) (by omega),XG,wY,Int32.add_assoc];exact N3 ⟨hs,ht,hp⟩ j (i+1) q (by omega) (by omega)
theorem zn{s:Int}{t p:List Int32}(h:OkF s t p):RI s t p=some (gF s t p,0):=by
 have hs:=h.1;have h1:=N3 h 16 0 Aq (by omega) (by have:=Al;omega);have e:Cr (1:Int32) (GI.toZ (Ah s (1:Int))).toNat=half s+hH t p 0:=by
  obtain rfl|rfl:=hs<;>rfl
 rw[RI,VH,sG h,Aa,Aba (by rw[Ak];simp),Bf (by rw[De,Bi];simp;omega),Aa,VU,e];exact h1
theorem G1{s:Int}{t p:List Int32}(ht:t.length=16)(hp:p.length=16){g:Int32}(hg:hH t p 16=g):∀(j i q:Nat),i+j=16->j<q->Kn s t p q (hH t p i).toInt (i:Int)=some g
 |0,i,q+1,hi,_=>by
  obtain rfl:i=16:=by omega
  rw[Kn,Wp,Aba (by rw[Af];simp),ND,NT,OT,Avr,hg]
 |j+1,i,q+1,hi,hq=>by
  have ih:=G1 (s:=s) ht hp hg j (i+1) q (by omega) (by omega);rw[hH]at ih;rw[Kn,Wp,Abb (by rw[Af];simp;omega),g32 (by omega),g32 (by omega),Aa,Aa,Aa,Aa,Am2,Aa,<-Ei (hH t p i),oU,Aa,Ei,Ag];exact ih
theorem Als{s:Int}{t p:List Int32}(h:OkF s t p):XD s t p=some (hH t p 16):=
 G1 h.2.1 h.2.2 rfl 16 0 Aq (by omega) (by have:=Al;omega)
theorem Ajh(x n:Int)(hn:n=512\/n=1024\/n=16\/n=32):(if x.tmod n<0 then x.tdiv n-1 else x.tdiv n)=x.fdiv n:=by
 have hs:n.sign=1:=by obtain rfl|rfl|rfl|rfl:=hn<;>rfl
 rw[Int.tdiv_eq_ediv,Int.tmod_eq_emod,hs,As3 _ (by omega)];by_cases h:0<=x\/n∣x
 ·rw[Abb h,Abb h];obtain rfl|rfl|rfl|rfl:=hn<;>(rw[Aba (by omega)];omega)
 ·rw[Aba h,Aba h];obtain rfl|rfl|rfl|rfl:=hn<;>(rw[Abb (by omega)];omega)
theorem G8(x n:Int)(hn:n=512\/n=1024\/n=16\/n=32)(h: -1000000000000<=x)(h':x<=1000000000000): -1000000000000<=x.tdiv n/\x.tdiv n<=1000000000000:=by
 have hs:n.sign=1:=by obtain rfl|rfl|rfl|rfl:=hn<;>rfl
 rw[Int.tdiv_eq_ediv,hs];by_cases h:0<=x\/n∣x
 ·rw[Abb h];obtain rfl|rfl|rfl|rfl:=hn<;>omega
 ·rw[Aba h];obtain rfl|rfl|rfl|rfl:=hn<;>omega
theorem Awg(x n:Int)(hn:n=512\/n=1024\/n=16\/n=32)(h: -1000000000000<=x)(h':x<=1000000000000):Bv x n=x.tdiv n:=by
 have:=G8 x n hn h h';rw[MG,Bo (by omega) (by omega)]
theorem Aaa(x n:Int)(hn:n=512\/n=1024\/n=16\/n=32)(h: -1000000000000<=x)(h':x<=1000000000000):
  (if(Cf (Ga x n) (0:Int))=true then some (Ad (Ah (Bv x n) (1:Int)):Int32)else some (Ad (Bv x n):Int32))=some (Int32.ofInt (x.fdiv n)):=by
 have hb:=G8 x n hn h h';rw[Af,Ga,Awg x n hn h h',Bi,OT,OT,<-Ajh x n hn];by_cases hx:x.tmod n<0
 ·rw[Abb (by simpa using hx),Abb hx]
 ·rw[Aba (by simpa using hx),Aba hx]
theorem Apl{s:Int}{t p:List Int32}(h:OkF s t p):DA s t p=some (gF s t p):=by
 obtain⟨hs,ht,hp⟩:=h;have h:OkF s t p:=⟨hs,ht,hp⟩;have hx:=Xi (hH t p 16+half s);have key:∀n:Int,(n=512\/n=1024)-> (half s).toInt=n/2->gF s t p=Int32.ofInt ((half s+hH t p 16).toInt.fdiv n)->Vk s t p n=some (gF s t p):=by
  intro n hn hh hg;have e2:Bv n (2:Int)=(half s).toInt:=by rw[hh];obtain rfl|rfl:=hn<;>rfl
  rw[Vk,JH,Als h,Aa,e2,<-Ei (half s),oU,Aa,Bf (by rw[Ak];simp;omega),Aa,Aa,Ei,Aaa _ n (by omega) (by omega) (by omega),hg,Int32.add_comm]
 rw[DA,JO];obtain rfl|rfl:=hs
 ·rw[Abb (by rw[Be];rfl)];exact key 512 (.inl rfl) rfl rfl
 ·rw[Aba (by rw[Be];decide)];exact key 1024 (.inr rfl) rfl rfl
def kr(i:Nat):Int32:=if i=0 then 4 else if i<4 then 2 else 1
def sg(x:Int32):Int32:=if x.toInt<0 then -1 else if 0<x.toInt then 1 else 0
def wZ(t p:List Int32)(w:Int32):List Int32:=(List.range 16).map λi=>t.getD i 0+kr i*sg (p.getD i 0)*sg w
theorem EK(t p:List Int32)(w:Int32):(wZ t p w).length=16:=by simp[wZ]
theorem X1(t p:List Int32)(w:Int32){i:Nat}(h:i<16):(wZ t p w).getD i 0=t.getD i 0+kr i*sg (p.getD i 0)*sg w:=by
 rw[Hg (by rw[EK];exact h)];simp[wZ]
theorem step_eq(i:Nat):XJ (i:Int)=some (kr i):=by
 rw[XJ,kr];by_cases h:i=0
 ·rw[Abb (by rw[Be];simp[h]),Abb h]
 ·rw[Aba (by rw[Be];simp;omega),Aba h];by_cases h2:i<4
  ·rw[Abb (by rw[Af];simp;omega),Abb h2]
  ·rw[Aba (by rw[Af];simp;omega),Aba h2]
theorem Aid(i:Nat):EP (i:Int)=some (kr i):=by
 rw[EP,kr];by_cases h:i=0
 ·rw[Abb (by rw[Be];simp[h]),Abb h]
 ·rw[Aba (by rw[Be];simp;omega),Aba h];by_cases h2:i<4
  ·rw[Abb (by rw[D4];simp;omega),Abb h2]
  ·rw[Aba (by rw[D4];simp;omega),Aba h2]
theorem X3(a b:Int32):Cf a b=decide (a.toInt<b.toInt):=rfl
theorem Acu(a b:Int32):Dv a b=decide (b.toInt<a.toInt):=rfl
theorem sign_eq(x:Int32):Tr x=some (sg x):=by
 rw[Tr,sg,X3,Acu,show(0:Int32).toInt=0 from rfl];by_cases h:x.toInt<0
 ·rw[Abb (by simpa using h),Abb h]
 ·rw[Aba (by simpa using h),Aba h];by_cases h2:0<x.toInt
  ·rw[Abb (by simpa using h2),Abb h2]
  ·rw[Aba (by simpa using h2),Aba h2]
theorem Afs:sg 0=0:=rfl
theorem toInt_ne{x:Int32}(h:x≠0):x.toInt≠0:=λe=>h (Int32.toInt_inj.1 (by rw[e];rfl))
theorem S7{x:Int32}(h:x.toInt<0):sg x= -1:=by rw[sg,Abb h]
theorem S8{x:Int32}(h:x≠0)(h2:¬x.toInt<0):sg x=1:=by
 have:=toInt_ne h;rw[sg,Aba h2,Abb (by omega)]
theorem kG(i:Nat):kr i=4\/kr i=2\/kr i=1:=by
 unfold kr;by_cases h:i=0
 ·rw[Abb h];exact .inl rfl
 ·rw[Aba h];split;exact .inr (.inl rfl);exact .inr (.inr rfl)
theorem Ain{x w:Int32}(hx:x≠0)(hw:w≠0)(h:(x.toInt<0)=(w.toInt<0))(i:Nat):kr i*sg x*sg w=kr i:=by
 by_cases h1:x.toInt<0
 ·rw[S7 h1,S7 (by rw[<-h];exact h1)];obtain e|e|e:=kG i<;>rw[e]<;>decide
 ·rw[S8 hx h1,S8 hw (by rw[<-h];exact h1)];obtain e|e|e:=kG i<;>rw[e]<;>decide
theorem Aca{x w:Int32}(hx:x≠0)(hw:w≠0)(h:¬(x.toInt<0)=(w.toInt<0))(i:Nat)(a:Int32):a+kr i*sg x*sg w=a-kr i:=by
 have key:kr i*sg x*sg w=-kr i:=by
  by_cases h1:x.toInt<0
  ·have h2:¬w.toInt<0:=λh2=>h (propext ⟨λ_=>h2,λ_=>h1⟩);rw[S7 h1,S8 hw h2];obtain e|e|e:=kG i<;>rw[e]<;>decide
  ·have h2:w.toInt<0:=Decidable.by_contra λh2=>h (propext ⟨λh3=>absurd h3 h1,λh3=>absurd h3 h2⟩);rw[S8 hx h1,S7 h2];obtain e|e|e:=kG i<;>rw[e]<;>decide
 rw[key,Int32.sub_eq_add_neg]
def qH(i:Nat):Nat->Bool:=λj=>decide (j<i)
theorem H4{a b:List Int32}{i:Nat}(h:i<a.length):Ip (ZX (qH i) a b) (i:Int) (a.getD i 0)=some (ZX (qH (i+1)) a b):=by
 rw[bP h];congr 1;apply Sg;intro k _;rw[Akg];simp only[qH,Axl,Ab1];omega
theorem Ai7{a b:List Int32}{i:Nat}(e:a.getD i 0=b.getD i 0):ZX (qH i) a b=ZX (qH (i+1)) a b:=by
 apply List.map_congr_left;intro k _;simp only[qH,Ab1];by_cases h1:k<i
 ·rw[Abb h1,Abb (by omega)]
 ·by_cases h2:k=i
  ·subst h2;rw[Aba h1,Abb (by omega),e]
  ·rw[Aba h1,Aba (by omega)]
theorem Aa0{a b:List Int32}{i:Nat}(h:i<a.length):Aj (ZX (qH i) a b) (i:Int)=some (b.getD i 0):=by
 rw[Yn h,Aba (by simp[qH])]
theorem Q8{s:Int}{t p:List Int32}{w:Int32}(hw:w≠0)(ht:t.length=16)(hp:p.length=16):∀(j i q:Nat),i+j=16->j<q->Sf w p s q (i:Int) (ZX (qH i) (wZ t p w) t)=some (s,wZ t p w,p,0)
 |0,i,q+1,hi,_=>by
  obtain rfl:i=16:=by omega
  rw[Sf,IH,Aba (by rw[Af];simp),kJ (λk hk=>by rw[EK]at hk;simpa [qH]using hk)];rfl
 |j+1,i,q+1,hi,hq=>by
  have hl:=EK t p w;have hg:=X1 t p w (i:=i) (by omega);rw[Sf,IH,Abb (by rw[Af];simp;omega),g32 (by omega),Aa,Ag (b:=1) (by omega) (by omega),Aa0 (by omega),step_eq];simp only[Aa];rw[XG,QP,Ae9,X3,X3,show(0:Int32).toInt=0 from rfl];have ih:=Q8 (s:=s) hw ht hp j (i+1) q (by omega) (by omega);by_cases hx:p.getD i 0=0
  ·rw[Abb (by rw[hx];rfl),Ai7 (by rw[hg,hx,Afs,Int32.mul_zero,Int32.zero_mul,Int32.add_zero])];exact ih
  ·rw[Aba (by simpa using hx)];by_cases hs:((p.getD i 0).toInt<0)=(w.toInt<0)
   ·rw[Abb (by rw[Ax2];simp only[hs]),show t.getD i 0+kr i=(wZ t p w).getD i 0 by rw[hg,Ain hx hw hs],H4 (by omega),Aa];exact ih
   ·rw[Aba (by rw[Ax2,decide_eq_decide];exact λh=>hs (propext h)),show t.getD i 0-kr i=(wZ t p w).getD i 0 by rw[hg,Aca hx hw hs],H4 (by omega),Aa];exact ih
theorem Akc{t:List Int32}(p:List Int32)(ht:t.length=16):wZ t p 0=t:=by
 apply Avq (by rw[EK,ht]);intro i h1 h2;have:=X1 t p 0 (i:=i) (by omega);rw[Hg h1,Hg h2]at this;rw[this,Afs,Int32.mul_zero,Int32.add_zero]
theorem yj{s:Int}{t p:List Int32}(h:OkF s t p)(w:Int32):cK s t p w=some (s,wZ t p w,p,0):=by
 rw[cK,WB,sG h,Aa,Aba (by rw[Ak];simp),Ae9];by_cases hw:w=0
 ·rw[Abb (by simpa using hw),hw,Akc p h.2.1]
 ·have h1:=Q8 (s:=s) hw h.2.1 h.2.2 16 0 Aq (by omega) (by have:=Al;omega);rw[eX (by rw[EK,h.2.1]) (λk _=>by simp[qH])]at h1;rw[Aba (by simpa using hw)];exact h1
theorem pQ{s:Int}{t p:List Int32}{w:Int32}(ht:t.length=16)(hp:p.length=16):∀(j i q:Nat),i+j=16->j<q->Gy w s p q (i:Int) (ZX (qH i) (wZ t p w) t)=some (s,wZ t p w,p)
 |0,i,q+1,hi,_=>by
  obtain rfl:i=16:=by omega
  rw[Gy,Pj,Aba (by rw[Af];simp),kJ (λk hk=>by rw[EK]at hk;simpa [qH]using hk)];rfl
 |j+1,i,q+1,hi,hq=>by
  have hl:=EK t p w;have hg:=X1 t p w (i:=i) (by omega);rw[Gy,Pj,Abb (by rw[Af];simp;omega),g32 (l:=p) (by omega),Ag (b:=1) (by omega) (by omega),Aa0 (by omega),Aid,sign_eq w,Aa,Aa,Aa,Aa,Aa,sign_eq,Aa,Aa,Aa,XG,wY,wY,<-hg,H4 (by omega),Aa];exact pQ ht hp j (i+1) q (by omega) (by omega)
theorem Ad0{s:Int}{t p:List Int32}(h:OkF s t p)(w:Int32):JG s t p w=some (s,wZ t p w,p):=by
 have h1:=pQ (s:=s) (w:=w) h.2.1 h.2.2 16 0 Aq (by omega) (by have:=Al;omega);rw[eX (by rw[EK,h.2.1]) (λk _=>by simp[qH])]at h1;exact h1
theorem Apx{p:List Int32}(h:p.length=16):∃a0 a1 a2 a3 a4 a5 a6 a7 a8 a9 b0 b1 b2 b3 b4 b5,p=[a0,a1,a2,a3,a4,a5,a6,a7,a8,a9,b0,b1,b2,b3,b4,b5]:=by
 match p,h with
 |[a0,a1,a2,a3,a4,a5,a6,a7,a8,a9,b0,b1,b2,b3,b4,b5],_=>exact⟨a0,a1,a2,a3,a4,a5,a6,a7,a8,a9,b0,b1,b2,b3,b4,b5,rfl⟩
theorem Aen{s:Int}{t p:List Int32}(h:OkF s t p)(x:Int32):kQ s t p x=some (s,t,x::p.take 15,0):=by
 obtain⟨hs,ht,hp⟩:=h;rw[kQ,OH,sG ⟨hs,ht,hp⟩,Aa,Aba (by rw[Ak];simp),show cW (16:Int) 1 16=some ()from rfl,Aa,show cW (16:Int) 0 16=some ()from rfl,Aa,aW,oR];obtain⟨a0,a1,a2,a3,a4,a5,a6,a7,a8,a9,b0,b1,b2,b3,b4,b5,rfl⟩:=Apx hp;rfl
def U2(p:List Int32)(i:Nat):List Int32:=(List.range 16).map λk=>if k<=i then p.getD k 0 else p.getD (k-1) 0
theorem Yq(p:List Int32)(i:Nat):(U2 p i).length=16:=by simp[U2]
theorem Aqn(p:List Int32)(i k:Nat)(h:k<16):(U2 p i).getD k 0=if k<=i then p.getD k 0 else p.getD (k-1) 0:=by
 rw[Hg (by rw[Yq];exact h)];simp[U2]
theorem Aqy(p:List Int32)(i:Nat)(h:i+1<16):Ip (U2 p (i+1)) ((i+1:Nat):Int) (p.getD i 0)=some (U2 p i):=by
 rw[Rj _ (by rw[Yq];exact h)];congr 1;apply Avq (by simp[Yq]);intro k h1 h2;rw[Yq]at h2;rw[Bac];simp only[U2,Ay1,Ayp];by_cases hk:i+1=k
 ·subst hk;rw[Abb rfl,Aba (by omega)];rfl
 ·rw[Aba hk];by_cases h3:k<=i
  ·rw[Abb (by omega),Abb h3]
  ·rw[Aba (by omega),Aba h3]
theorem vG(s:Int)(t p:List Int32)(x:Int32)(hp:p.length=16):∀(i q:Nat),i<16->i<q->Hn x s t q (i:Int) (U2 p i)=some (s,t,x::p.take 15)
 |0,q+1,_,_=>by
  have hg:Aj (U2 p 0) (0:Int)=some ((U2 p 0).getD 0 0):=g32 (l:=U2 p 0) (k:=0) (by rw[Yq];omega);have hset:Ip (U2 p 0) (0:Int) x=some ((U2 p 0).set 0 x):=Rj (l:=U2 p 0) (n:=0) x (by rw[Yq];omega);rw[Hn,Rq,Aba (by rw[Am];simp),BK,CO,hg,Aa,hset,Aa];congr 3;apply Avq (by simp[Yq,hp]);intro k h1 h2;rw[Axz,Yq]at h1;rw[Bac];cases k with
  |zero=>rw[Abb rfl];rfl
  |succ k=>
   rw[Aba (by omega)];simp only[U2,Ay1,Ayp,List.getElem_cons_succ,List.getElem_take];rw[Aba (by omega),Nat.add_sub_cancel,Hg (by omega)]
 |i+1,q+1,hi,hq=>by
  have hg:=g32 (l:=U2 p (i+1)) (k:=i) (by rw[Yq];omega);rw[Aqn p (i+1) i (by omega),Abb (by omega)]at hg;have e1:Ah ((i+1:Nat):Int) (1:Int)=(i:Int):=by rw[Bi];omega
  have hg2:=g32 (l:=U2 p (i+1)) (k:=i+1) (by rw[Yq];omega);rw[Hn,Rq,Abb (by rw[Am];simp),e1,hg,Aa,Aa,hg2,Aa,Aqy p i hi,Aa];exact vG s t p x hp i q (by omega) (by omega)
theorem Ai0{s:Int}{t p:List Int32}(hp:p.length=16)(x:Int32):MZ s t p x=some (s,t,x::p.take 15):=by
 have h:=vG s t p x hp 15 Aq (by omega) (by have:=Al;omega);have e:U2 p 15=p:=by
  apply Avq (by rw[Yq,hp]);intro k h1 h2;rw[Yq]at h1;simp only[U2,Ay1,Ayp];rw[Abb (by omega),Hg h2]
 rw[e]at h;exact h
theorem Ak0{s:Int}{t p:List Int32}(h:OkF s t p)(w x:Int32):OkF s (wZ t p w) (x::p.take 15):=⟨h.1,EK _ _ _,by simp[h.2.2]⟩
theorem Aq7{s:Int}{t p:List Int32}(h:OkF s t p)(y:Int32):jD s t p y=some (y+gF s t p,s,wZ t p y,(y+gF s t p)::p.take 15,0):=by
 rw[jD,zn h,Aa];simp only;rw[Aba (by rw[Ak];simp),XG,PG,yj h,Aa];simp only;rw[Aen (s:=s) (t:=wZ t p y) (p:=p) ⟨h.1,EK _ _ _,h.2.2⟩,Aa];rfl
theorem Ahc{s:Int}{t p:List Int32}(h:OkF s t p)(y:Int32):Uk s t p y=some (y+gF s t p,s,wZ t p y,(y+gF s t p)::p.take 15):=by
 rw[Uk,Apl h,Aa,oU,Aa,Ad0 h,Aa];simp only;rw[Ai0 h.2.2,Aa]
def sB(bits:Int):Int:=if bits=16 then 9 else 10
def shB(bits:Int):Int:=if bits=8 then 4 else 5
def Bu(bits:Int):Prop:=bits=8\/bits=16\/bits=24
def gs(sh:Int)(last:Int32):Int32:=Ad (Y4 (Ah (Cr (Ad last:Int) sh.toNat) (Ad last)) sh.toNat)
theorem Awl(bits:Int):sB bits=9\/sB bits=10:=by unfold sB;split<;>simp
theorem Aq0(bits:Int):0<=shB bits:=by unfold shB;split<;>omega
theorem Aym{bits:Int}(h:Bu bits)(t:List Int32):qA bits t=some (sB bits,t,List.replicate 16 0,0):=by
 obtain rfl|rfl|rfl:=h<;>rfl
theorem Au8{bits:Int}(h:Bu bits):gM bits=some (shB bits,0):=by
 obtain rfl|rfl|rfl:=h<;>rfl
theorem Atz{sh:Int}(h:0<=sh)(last:Int32):TO sh last=some (gs sh last):=by
 rw[TO,Bf (by rw[De];simpa using h),Aa,Aa];rfl
theorem Al4{bits:Int}(h:Bu bits)(last:Int32):Ur bits last=some (gs (shB bits) last,0):=by
 rw[Ur,Au8 h,Aa];simp only;rw[Aba (by rw[Ak];simp),Atz (Aq0 bits),Aa]
theorem G3{bits:Int}(h:Bu bits)(last:Int32)(t p:List Int32):Up bits last (sB bits) t p=some 0:=by
 rw[Up,Aym h,Aa];simp only;rw[Aba (by rw[Ak,Ak];simp)]
theorem Ah0{bits:Int}(h:Bu bits){t p:List Int32}(hF:OkF (sB bits) t p)(last y:Int32):
  Kg bits last (sB bits) t p y=some (y+gF (sB bits) t p+gs (shB bits) last,bits,y+gF (sB bits) t p+gs (shB bits) last,sB bits,wZ t p y,(y+gF (sB bits) t p)::p.take 15,0):=by
 rw[Kg,G3 h,Aa,Aba (by rw[Ak];simp),Al4 h,Aa];simp only;rw[Aq7 hF,Aa];simp only;rw[XG]
theorem tF(sh:Int)(hs:sh=4\/sh=5)(last:Int32):Ot sh last=some (gs sh last):=by
 have hl:=Xi last;have key:∀n:Int,n=16\/n=32->gs sh last=Int32.ofInt (((n-1)*last.toInt).fdiv n)->Rk last n=some (gs sh last):=by
  intro n hn hg;have e:Bd (Ah n (1:Int)) (Ad last:Int)=(n-1)*last.toInt:=by
   obtain rfl|rfl:=hn<;>(rw[Ei,Bi,Hc])
  rw[Rk,BN,Bf (by rw[Ak];simp;omega),Aa,Aa,e,Aaa _ n (by omega) (by obtain rfl|rfl:=hn<;>omega) (by obtain rfl|rfl:=hn<;>omega),hg]
 rw[Ot,EI];obtain rfl|rfl:=hs
 ·rw[Aba (by rw[Be];decide)];refine key 16 (.inl rfl) ?_;have e:Cr (Ad last:Int) (4:Int).toNat=last.toInt*16:=by
   rw[Ei];show wrap64 (last.toInt*2^4)=_;rw[Bo]<;>omega
  rw[gs,e,Ei,Bi,OT]
  show Int32.ofInt ((last.toInt*16-last.toInt).fdiv 16)=_;congr 2;omega
 ·rw[Abb (by rw[Be];rfl)];refine key 32 (.inr rfl) ?_;have e:Cr (Ad last:Int) (5:Int).toNat=last.toInt*32:=by
   rw[Ei];show wrap64 (last.toInt*2^5)=_;rw[Bo]<;>omega
  rw[gs,e,Ei,Bi,OT]
  show Int32.ofInt ((last.toInt*32-last.toInt).fdiv 32)=_;congr 2;omega
theorem Ajq{bits:Int}(h:Bu bits){t p:List Int32}(hF:OkF (sB bits) t p)(last y:Int32):
  Uh bits last (sB bits) t p y=some (y+gF (sB bits) t p+gs (shB bits) last,bits,y+gF (sB bits) t p+gs (shB bits) last,sB bits,wZ t p y,(y+gF (sB bits) t p)::p.take 15):=by
 have hb:Xf bits last (sB bits) t p=some (Ad (gs (shB bits) last):Int):=by
  rw[Xf];obtain rfl|rfl|rfl:=h
  ·rw[Abb (by rw[Be];rfl),tF 4 (.inl rfl),Aa];rfl
  ·rw[Aba (by rw[Be];decide),tF 5 (.inr rfl),Aa];rfl
  ·rw[Aba (by rw[Be];decide),tF 5 (.inr rfl),Aa];rfl
 rw[Uh,Ahc hF,Aa];simp only;rw[hb,Aa,oU,Aa]
theorem Aw4{bits:Int}(h:Bu bits)(t:List Int32):WW bits t=some (bits,0,sB bits,t,List.replicate 16 0,0):=by
 obtain rfl|rfl|rfl:=h<;>rfl
def PC(n:UInt32):Int32:=if n.toNat %2=0 then Int32.ofInt ((n.toNat/2:Nat):Int)else Int32.ofInt (-((n.toNat/2:Nat):Int)-1)
theorem Aal(a b:Int32):(Rn a b).toBitVec=a.toBitVec^^^b.toBitVec:=by
 show(Int32.ofInt ((BitVec.ofInt 32 a.toBitVec.toInt^^^BitVec.ofInt 32 b.toBitVec.toInt).toNat:Int)).toBitVec=_;rw[BitVec.ofInt_toInt,BitVec.ofInt_toInt,Int32.toBitVec_ofInt,BitVec.ofInt_natCast,BitVec.ofNat_toNat,BitVec.setWidth_eq]
theorem Aw3(m:Nat)(h:m<2147483648):Rn (Int32.ofInt (m:Int)) (Int32.ofInt (-1))=Int32.ofInt (-(m:Int)-1):=by
 apply Int32.toBitVec_inj.1;have e1:(Int32.ofInt (-1)).toBitVec=BitVec.allOnes 32:=by decide
 rw[Aal,e1,BitVec.xor_allOnes,Int32.toBitVec_ofInt,Int32.toBitVec_ofInt];apply Azs;rw[BitVec.toNat_not,Av9,Av9];omega
theorem Amg(n:UInt32):Wc n=some (PC n):=by
 have hn:=n.toNat_lt;have e1:(Ad (Bt n (GI.toZ (1:UInt64)).toNat):Int32)=Int32.ofInt ((n.toNat/2:Nat):Int):=by
  show Int32.ofInt ((Bt n 1).toNat:Int)=_;rw[JI]
 have e2:(Ad (Db n (1:UInt32)):Int32)=Int32.ofInt ((n.toNat %2:Nat):Int):=by
  show Int32.ofInt ((Db n (1:UInt32)).toNat:Int)=_;rw[yW,UInt32.toNat_and]
  show Int32.ofInt ((n.toNat&&&1:Nat):Int)=_;rw[Nat.and_one_is_mod]
 rw[Wc,e1,e2,PC];congr 1;by_cases h:n.toNat %2=0
 ·have e3:oS (Int32.ofInt ((n.toNat %2:Nat):Int))=Int32.ofInt 0:=by rw[h];decide
  rw[Abb h,e3];apply Int32.toBitVec_inj.1;rw[Aal,show(Int32.ofInt 0).toBitVec=0#32 from rfl,BitVec.xor_zero]
 ·have e3:oS (Int32.ofInt ((n.toNat %2:Nat):Int))=Int32.ofInt (-1):=by rw[show n.toNat %2=1 by omega];decide
  rw[Aba h,e3,Aw3 _ (by omega)]
theorem Apv(n:UInt32):CK n=some (PC n):=by
 have hn:=n.toNat_lt;have e1:geq (BB n (2:UInt32)) (0:UInt32)=decide (n.toNat %2=0):=by
  rw[T6,oz,Akg];simp only[Ax2,<-UInt32.toNat_inj,UInt32.toNat_mod,Ab1];rfl
 rw[CK,e1,PC];by_cases h:n.toNat %2=0
 ·rw[Abb (by simpa using h),Abb h,qp];rfl
 ·have e2:(Ad n:Int)=(n.toNat:Int):=wS n;rw[Aba (by simpa using h),Aba h,e2,Ag,T9,Bo (by omega) (by omega),MG,Int.tdiv_eq_ediv,OT];congr 2;rw[Abb (.inr (by omega)),Bo (by omega) (by omega)];omega
theorem lU{c:Prop} [Decidable c](h:c):Hy (decide c)=some ():=by rw[decide_eq_true h];rfl
def ku(f:Nat->Int32)(ch:Nat):Nat->Int32
 |0=>if 1<ch then f (ch-1)+Bv (f (ch-2)) (2:Int32)else f (ch-1)
 |j+1=>ku f ch j-f (ch-2-j)
def wE(ch:Nat)(m:List Int32):List Int32:=(List.range m.length).map λk=>ku (λi=>m.getD (k-k %ch+i) 0) ch (ch-1-k %ch)
theorem aV(ch:Nat)(m:List Int32):(wE ch m).length=m.length:=by simp[wE]
theorem qG{ch:Nat}{m:List Int32}{a i:Nat}(ha:a %ch=0)(hi:i<ch)(h:a+i<m.length):(wE ch m).getD (a+i) 0=ku (λi=>m.getD (a+i) 0) ch (ch-1-i):=by
 have hb:(a+i) %ch=i:=by rw[Nat.add_mod,ha,Avi,Nat.mod_mod,Abk hi]
 rw[Hg (by rw[aV];exact h)];simp only[wE,Ay1,Ayp,hb];rw[show a+i-i=a by omega]
section
variable (ch:Nat) (m:List Int32)
theorem rz(h1:1<=ch)(h6:ch<=6)(hm:m.length %ch=0)(hl2:m.length<=4000):XY (ch:Int) m=some 0:=by
 rw[XY,Aba (by simp[Af,Am];omega),Aba (by rw[Am,Ac];simp;omega),Bf (by rw[Ak];simp;omega),Aa,Aba];rw[Ak,Ga,Ac,<-Int.ofNat_tmod,hm];simp
theorem wV(bk:Int->List Int32->Option (List Int32×Int))(at':Nat)(h1:1<=ch)(h6:ch<=6)(hm:at' %ch=0)(hl:at'+ch<=m.length)(hl2:m.length<=4000):∀(i q:Nat),i<=ch-1->i<q->
  Wb bk (ch:Int) (at':Int) q ((i:Int)-1) (ZX (λk=>decide (k<at'\/ (at'+i<=k/\k<at'+ch))) (wE ch m) m)=bk ((at'+ch:Nat):Int) (ZX (λk=>decide (k<at'+ch)) (wE ch m) m)
 |0,q+1,hi,_=>by
  have e4:Ae (at':Int) (ch:Int)=((at'+ch:Nat):Int):=by rw[Ag];omega
  rw[Wb,NY,Aba (by rw[De];simp),aR,pR,e4];congr 1;apply Sg;intro k _;rw[Akg];simp;omega
 |i+1,q+1,hi,hq=>by
  have hlen:=aV ch m;have e2:Ae (at':Int) (ch:Int)-(at':Int)=(ch:Int):=by rw[Ag];omega
  have e3:Ae (i:Int) 1=((i+1:Nat):Int):=by rw[Ag];omega
  have hv:((wE ch m).getD (at'+(i+1)) 0-m.getD (at'+i) 0)=(wE ch m).getD (at'+i) 0:=by
   rw[qG hm (by omega) (by omega),qG hm (by omega) (by omega),show ch-1-i=(ch-1-(i+1))+1 by omega,ku,show ch-2-(ch-1-(i+1))=i by omega]
  rw[Wb,NY,show((i+1:Nat):Int)-1=(i:Int) by omega,Abb (by rw[De];simp),e2,e3,lU (by omega),Aa,lU (by omega),Aa,
   show(at':Int)+((i+1:Nat):Int)=((at'+(i+1):Nat):Int) by omega,show(at':Int)+(i:Int)=((at'+i:Nat):Int) by omega,
   Yn (by omega),Aa,Yn (by omega),Aa,Aa,Abb (by simp;omega),Aba (by simp;omega),QP,hv,bP (by omega),Aa,Bi]
  have ih:=wV bk at' h1 h6 hm hl hl2 i q (by omega) (by omega);rw[<-ih];congr 1;apply Sg;intro k _;rw[Akg];simp;omega
theorem pY{at' ch n:Nat}(ha:at' %ch=0)(hm:n %ch=0)(h:at'<n):at'+ch<=n:=by
 have d1:=Azz at' ch;have d2:=Azz n ch;rw[ha,Axv]at d1;rw[hm,Axv]at d2;have hlt:at'/ch<n/ch:=by
  rcases Azv (at'/ch) (n/ch)with h'|h'
  ·exact h'
  ·have:=Nat.mul_le_mul_left ch h';omega
 have:=Nat.mul_le_mul_left ch (show at'/ch+1<=n/ch from hlt);rw[Nat.mul_add]at this;omega
theorem L9(h1:1<=ch)(h6:ch<=6)(hm:m.length %ch=0)(hl2:m.length<=4000):∀(j at' q:Nat),at' %ch=0->at'<=m.length->m.length-at'<=j->j<q->
  Rg (ch:Int) q (at':Int) (ZX (λk=>decide (k<at')) (wE ch m) m)=some (wE ch m,0)
 |j,at',q+1,ha,hle,hj,hq=>by
  have hlen:=aV ch m;have hl:Ac (ZX (λk=>decide (k<at')) (wE ch m) m)=(m.length:Int):=by rw[Ac,IP,hlen]
  rw[Rg,ZJ,hl];by_cases h:at'<m.length
  ·have hb:=pY ha hm h;obtain⟨j,rfl⟩:∃k,j=k+1:=⟨j-1,by omega⟩;have e1:Ah (Ae (at':Int) (ch:Int)-(at':Int)) 1=((ch-1:Nat):Int):=by rw[Ag,Bi];omega
   have e2:Ae (at':Int) (ch:Int)-(at':Int)=(ch:Int):=by rw[Ag];omega
   have e4:Ae (at':Int) (ch:Int)=((at'+ch:Nat):Int):=by rw[Ag];omega
   have hi:=wV ch m (Rg (ch:Int) q) at' h1 h6 ha hb hl2 (ch-1) Aq (by omega) (by have:=Al;omega);have hrest:=L9 h1 h6 hm hl2 j (at'+ch) q (by rw[Az5,ha]) hb (by omega) (by omega);have hstart:OK (Rg (ch:Int) q) (ch:Int) (at':Int) (ZX (λk=>decide (k<at'\/ (at'+(ch-1)<=k/\k<at'+ch))) (wE ch m) m)=some (wE ch m,0):=by
    have e6:Ah ((ch-1:Nat):Int) 1=((ch-1:Nat):Int)-1:=Bi;rw[OK,ZA,ZN,e1,e6];exact Axb hi hrest
   rw[Abb (by rw[Af];simp;omega),show cW (m.length:Int) (at':Int) (Ae (at':Int) (ch:Int))=some () by rw[e4,cW,lU];omega,Aa,e1,e2];have hlast:=qG (m:=m) ha (show ch-1<ch by omega) (by omega);rw[show ch-1-(ch-1)=0 by omega,ku]at hlast;by_cases hc:1<ch
   ·have e5:Ah ((ch-1:Nat):Int) 1=((ch-2:Nat):Int):=by rw[Bi];omega
    rw[Abb hc]at hlast;rw[Abb (by rw[Am];simp;omega),lU (by omega),Aa,e5,lU (by omega),Aa,show(at':Int)+((ch-1:Nat):Int)=((at'+(ch-1):Nat):Int) by omega,show(at':Int)+((ch-2:Nat):Int)=((at'+(ch-2):Nat):Int) by omega,
     Yn (by omega),Aa,Yn (by omega),Aa,Aa,Aba (by simp),Aba (by simp),XG,<-hlast,bP (by omega),Aa]
    rw[<-hstart];congr 1;apply Sg;intro k _;rw[Akg];simp;omega
   ·have hc1:ch=1:=by omega
    rw[Aba (by rw[Am];simp;omega),<-hstart];congr 1;rw[Aba hc]at hlast;apply List.map_congr_left;intro k hk;by_cases hk2:k=at'
    ·subst hk2;rw[Aba (by simp),Abb (by simp;omega)];rw[show k+(ch-1)=k by omega]at hlast;exact hlast.symm
    ·by_cases hk3:k<at'
     ·rw[Abb (by simp;omega),Abb (by simp;omega)]
     ·rw[Aba (by simp;omega),Aba (by simp;omega)]
  ·rw[Aba (by rw[Af];simp;omega),kJ (λk hk=>by simp;omega)];rfl
theorem Ap3(h1:1<=ch)(h6:ch<=6)(hm:m.length %ch=0)(hl2:m.length<=4000):pH (ch:Int) m=some (wE ch m,0):=by
 have hlen:=aV ch m;have h:=L9 ch m h1 h6 hm hl2 m.length 0 Aq (by simp) (by omega) (by omega) (by have:=Al;omega);rw[pH,jH,rz ch m h1 h6 hm hl2,Aa,Aba (by rw[Ak];simp),Df,Cg (by simp;omega),Aa,Aa,Avf,aY];rw[eX hlen.symm (λk _=>by simp)]at h;exact h
end
def tO(f:Nat->Int32)(ch:Nat):List Int32:=(List.range ch).map λi=>ku f ch (ch-1-i)
theorem XT(f:Nat->Int32)(ch:Nat):(tO f ch).length=ch:=by simp[tO]
theorem qU(f:Nat->Int32){ch i:Nat}(h:i<ch):(tO f ch).getD i 0=ku f ch (ch-1-i):=by
 rw[Hg (by rw[XT];exact h)];simp[tO]
theorem Anb(a b:Int32):Ch (Ah (Ad a:Int) (Ad b:Int))=some (a-b):=by
 have:=Xi a;have:=Xi b;rw[Ei,Ei,Bi,wH,Int32.ofInt_sub,Avr,Avr]
theorem Aiw(a b:Int32):Ch (Ae (Ad a:Int) (Bv (Ad b:Int) (2:Int)))=some (a+Bv b (2:Int32)):=by
 have:=Xi a;have hb:=Xi b;have hd: -2147483648<=b.toInt.tdiv 2/\b.toInt.tdiv 2<=2147483648:=by
  rw[Int.tdiv_eq_ediv,show Int.sign 2=1 from rfl];by_cases h:0<=b.toInt\/2∣b.toInt
  ·rw[Abb h];omega
  ·rw[Aba h];omega
 have e:Bv b (2:Int32)=Int32.ofInt (b.toInt.tdiv 2):=rfl;rw[Ei,Ei,MG,Bo (by omega) (by omega),Ag,wH,Int32.ofInt_add,Avr,e]
theorem pB(seg z:List Int32)(ch:Nat)(h6:ch<=6)(hs:seg.length=ch)(hz:z.length=ch):∀(i q:Nat),i+1<=ch->i<q->
  Gv seg q ((i:Int)-1) (ZX (λk=>decide (i<=k)) (tO (λi=>seg.getD i 0) ch) z)=some (tO (λi=>seg.getD i 0) ch)
 |0,q+1,hi,_=>by
  rw[Gv,Qa,Aba (by rw[De];simp),kJ (λk hk=>by simp)];rfl
 |i+1,q+1,hi,hq=>by
  have hlen:=XT (λi=>seg.getD i 0) ch;have e3:Ae (i:Int) 1=((i+1:Nat):Int):=by rw[Ag];omega
  have hv:(tO (λi=>seg.getD i 0) ch).getD (i+1) 0-seg.getD i 0=(tO (λi=>seg.getD i 0) ch).getD i 0:=by
   rw[qU _ (by omega),qU _ (by omega),show ch-1-i=(ch-1-(i+1))+1 by omega,ku,show ch-2-(ch-1-(i+1))=i by omega]
  rw[Gv,Qa,show((i+1:Nat):Int)-1=(i:Int) by omega,Abb (by rw[De];simp),e3,Yn (by omega),Aa,g32 (by omega),Aa,Aa,Abb (by simp),Anb,Aa,Yn (by omega),Aa,hv,bP (by omega),Aa,Bi];have ih:=pB seg z ch h6 hs hz i q (by omega) (by omega);rw[<-ih];congr 1;apply Sg;intro k _;rw[Akg];simp;omega
theorem Aap{l:List Int32}{i:Nat}(v:Int32)(h:i<l.length):(l.set i v).getD i 0=v:=by
 rw[Hg (by rw[Axz];exact h)];simp
theorem Ab4(seg:List Int32)(ch:Nat)(h1:1<=ch)(h6:ch<=6)(hs:seg.length=ch):Vg seg=some (tO (λi=>seg.getD i 0) ch):=by
 have hlen:=XT (λi=>seg.getD i 0) ch;have hzl:(List.replicate ch (0:Int32)).length=ch:=by simp
 have e1:Ah (Ac seg) 1=((ch-1:Nat):Int):=by rw[Ac,hs,Bi];omega
 have e2:Ah (Ac seg) 2=((ch-1:Nat):Int)-1:=by rw[Ac,hs,Bi];omega
 have hlast:=qU (λi=>seg.getD i 0) (show ch-1<ch by omega);rw[show ch-1-(ch-1)=0 by omega,ku]at hlast;have hend:∀z:List Int32,z.length=ch->z.getD (ch-1) 0=(tO (λi=>seg.getD i 0) ch).getD (ch-1) 0->Pn seg z=some (tO (λi=>seg.getD i 0) ch):=by
  intro z hz hzl;have h:=pB seg z ch h6 hs hz (ch-1) Aq (by omega) (by have:=Al;omega);have e:ZX (λk=>decide (ch-1<=k)) (tO (λi=>seg.getD i 0) ch) z=z:=by
   apply Avq (by rw[IP,hlen,hz]);intro k k1 k2;rw[Ql];by_cases hk:ch-1<=k
   ·obtain rfl:k=ch-1:=by omega
    rw[Abb (by simp),<-hzl,Hg k2]
   ·rw[Aba (by simpa using hk),Hg k2]
  rw[e]at h;rw[Pn,AY,e2];exact h
 rw[Vg,Zx,Ac,hs,mG,Aa,Bf (by rw[Be];simp),Aa];rw[Ac,hs]at e1;rw[Ac,hs]at e2;have hz1:(List.replicate (Int.toNat (ch:Int)) (0:Int32)).length=ch:=by simp
 have hs1:=g32 (l:=seg) (k:=ch-1) (by omega);rw[e1,hs1,Aa,g32 (by omega),Aa,Rj _ (by omega),Aa];by_cases hc:1<ch
 ·rw[Abb hc]at hlast;have e3:((ch-1:Nat):Int)-1=((ch-2:Nat):Int):=by omega
  have hs2:=g32 (l:=seg) (k:=ch-2) (by omega);rw[Abb (by rw[Am];simp;omega),Aa,e2,e3,hs2,Aa,Aiw,Aa,g32 (by rw[Axz];omega),Aa,Rj _ (by rw[Axz];omega),Aa];refine hend _ (by simp) ?_;rw[hlast,Aap _ (by rw[Axz];omega)]
 ·rw[Aba hc]at hlast;rw[Aba (by rw[Am];simp;omega)];refine hend _ (by simp) ?_;rw[hlast,Aap _ (by omega)]
theorem Aq4(ch:Nat)(m:List Int32)(h1:1<=ch)(h6:ch<=6)(hm:m.length %ch=0)(hl2:m.length<=4000):Ra (ch:Int) m=some 0:=by
 rw[Ra,Aba (by simp[Af,Am];omega),Aba (by rw[Am,Ac];simp;omega),Bf (by rw[Ak];simp;omega),Aa,Aba];rw[Am,Ga,Ac,<-Int.ofNat_tmod,hm];simp
theorem uF(ch:Nat)(m:List Int32)(h1:1<=ch)(h6:ch<=6)(hm:m.length %ch=0)(hl2:m.length<=4000):∀(j at' q:Nat),at' %ch=0->at'<=m.length->m.length-at'<=j->j<q->
  Nl (ch:Int) m q (at':Int) ((wE ch m).take at')=some (wE ch m,0)
 |j,at',q+1,ha,hle,hj,hq=>by
  have hlen:=aV ch m;rw[Nl,LO];by_cases h:at'<m.length
  ·have hb:=pY ha hm h;have e4:Ae (at':Int) (ch:Int)=((at'+ch:Nat):Int):=by rw[Ag];omega
   have hrest:=uF ch m h1 h6 hm hl2 (j-1) (at'+ch) q (by rw[Az5,ha]) hb (by omega) (by omega);have hseg:((m.take (at'+ch)).drop at').length=ch:=by simp;omega
   have htl:((wE ch m).take at').length=at':=by simp[hlen];omega
   rw[Abb (by rw[Af,Ac];simp;omega),e4,Qx,Aa,show((at'+ch:Nat):Int).toNat=at'+ch from rfl,show(at':Int).toNat=at' from rfl,Ab4 _ ch h1 h6 hseg,Aa,Cg (by rw[htl,XT];omega),Aa];have e:(wE ch m).take at'++tO (λi=>((m.take (at'+ch)).drop at').getD i 0) ch=(wE ch m).take (at'+ch):=by
    apply Avq (by rw[Abw,htl,XT,Aiq,hlen];omega);intro k k1 k2;rw[Aiq,hlen]at k2;rw[List.getElem_append,List.getElem_take];by_cases hk:k<at'
    ·rw[dif_pos (by rw[htl];exact hk),List.getElem_take]
    ·rw[dif_neg (by rw[htl];exact hk)];have hu:=qG (m:=m) ha (show k-at'<ch by omega) (by omega);rw[show at'+(k-at')=k by omega,Hg (by omega)]at hu;have hx:∀n,n<=ch->ku (λi=>((m.take (at'+ch)).drop at').getD i 0) ch n=ku (λi=>m.getD (at'+i) 0) ch n:=by
      have hf:∀i,i<ch-> ((m.take (at'+ch)).drop at').getD i 0=m.getD (at'+i) 0:=by
       intro i hi;rw[Hg (by omega),Hg (by omega)];simp
      intro n
      induction n with
      |zero=>
       intro _;rw[ku,ku,hf _ (by omega)];split
       ·rw[hf _ (by omega)]
       ·rfl
      |succ n ih=>intro hn;rw[ku,ku,ih (by omega),hf _ (by omega)]
     have hy:=qU (λi=>((m.take (at'+ch)).drop at').getD i 0) (show k-at'<ch by omega);rw[Hg (by rw[XT];omega)]at hy;rw[hu,<-hx _ (by omega),<-hy];congr 1;rw[htl]
   rw[e];exact hrest
  ·rw[Aba (by rw[Af,Ac];simp;omega),Asm (by omega)];rfl
theorem Aik(ch:Nat)(m:List Int32)(h1:1<=ch)(h6:ch<=6)(hm:m.length %ch=0)(hl2:m.length<=4000):CN (ch:Int) m=some (wE ch m,0):=by
 have h:=uF ch m h1 h6 hm hl2 m.length 0 Aq (by simp) (by omega) (by omega) (by have:=Al;omega);rw[CN,JM,Aq4 ch m h1 h6 hm hl2,Aa,Aba (by rw[Ak];simp)];exact h
def pre{α:Type}(ch c:Nat)(f:α->Nat->α)(a0:α):Nat->α
 |0=>a0
 |m+1=>if m %ch=c then f (pre ch c f a0 m) m else pre ch c f a0 m
theorem Ags{α:Type}(ch c:Nat)(f:α->Nat->α)(a0:α):∀m,m<=c->c<ch->pre ch c f a0 m=a0
 |0,_,_=>rfl
 |m+1,h,h2=>by rw[pre,Aba (by rw[Abk (by omega)];omega),Ags ch c f a0 m (by omega) h2]
theorem lq{α:Type}(ch c i:Nat)(f:α->Nat->α)(a0:α)(hi:i %ch=c)(hc:c<ch):∀j,j<ch->pre ch c f a0 (i+1+j)=pre ch c f a0 (i+1)
 |0,_=>rfl
 |j+1,h=>by
  have hne:(i+1+j) %ch≠c:=by
   intro e;have h1:(i+(1+j)) %ch=i %ch:=by rw[hi,<-e];congr 1;omega
   have h2:(1+j) %ch=0:=by
    have h3:=Nat.sub_mod_eq_zero_of_mod_eq h1;rwa [Aw1]at h3
   rw[Abk (by omega)]at h2;omega
  rw[show i+1+(j+1)=(i+1+j)+1 by omega,pre,Aba hne,lq ch c i f a0 hi hc j (by omega)]
theorem Alr{α:Type}(ch c i:Nat)(f:α->Nat->α)(a0:α)(hi:i %ch=c)(hc:c<ch):pre ch c f a0 (i+ch)=f (pre ch c f a0 i) i:=by
 have h:=lq ch c i f a0 hi hc (ch-1) (by omega);rw[show i+1+(ch-1)=i+ch by omega]at h;rw[h,pre,Abb hi]
abbrev CS:=Int32×List Int32×List Int32
def ng(bits:Int)(s:CS)(y:Int32):Int32:=y+gF (sB bits) s.2.1 s.2.2+gs (shB bits) s.1
def N8(bits:Int)(s:CS)(y:Int32):CS:=(ng bits s y,wZ s.2.1 s.2.2 y,(y+gF (sB bits) s.2.1 s.2.2)::s.2.2.take 15)
def cst(bits:Int)(ch:Nat)(t:List Int32)(v:List UInt32)(c:Nat):Nat->CS:=pre ch c (λs i=>N8 bits s (PC (v.getD i 0))) (0,t,List.replicate 16 0)
def OkC(bits:Int)(s:CS):Prop:=OkF (sB bits) s.2.1 s.2.2
theorem iq(bits:Int)(ch:Nat){t:List Int32}(ht:t.length=16)(v:List UInt32)(c:Nat):∀m,OkC bits (cst bits ch t v c m)
 |0=>⟨Awl bits,ht,by simp[cst,pre]⟩
 |m+1=>by
  have ih:=iq bits ch ht v c m;rw[cst,pre];split
  ·exact Ak0 ih _ _
  ·exact ih
def rH(bits:Int)(ch:Nat)(t:List Int32)(v:List UInt32):List Int32:=(List.range v.length).map λi=>ng bits (cst bits ch t v (i %ch) i) (PC (v.getD i 0))
theorem bO(bits:Int)(ch:Nat)(t:List Int32)(v:List UInt32):(rH bits ch t v).length=v.length:=by simp[rH]
theorem Z4(bits:Int)(ch:Nat)(t:List Int32)(v:List UInt32){i:Nat}(h:i<v.length):(rH bits ch t v).getD i 0=ng bits (cst bits ch t v (i %ch) i) (PC (v.getD i 0)):=by
 rw[Hg (by rw[bO];exact h)];simp[rH]
abbrev CL:=Int×Int32×(Int×(List Int32)×(List Int32)×Unit)×Unit
def toC(bits:Int)(s:CS):CL:=(bits,s.1,(sB bits,s.2.1,s.2.2,()),())
def cts(bits:Int)(ch:Nat)(t:List Int32)(v:List UInt32)(i:Nat):List CL:=(List.range 6).map λc=>toC bits (cst bits ch t v c i)
theorem Agi{bits:Int}{ch:Nat}{t:List Int32}{v:List UInt32}{i c:Nat}(h:c<6):Aj (cts bits ch t v i) (c:Int)=some (toC bits (cst bits ch t v c i)):=by
 rw[Ck (by simp[cts];exact h)];simp[cts]
theorem qx(bits:Int)(ch:Nat)(t:List Int32)(v:List UInt32)(c m:Nat):cst bits ch t v c (m+1)=if m %ch=c then N8 bits (cst bits ch t v c m) (PC (v.getD m 0))else cst bits ch t v c m:=rfl
theorem Afy{bits:Int}{ch:Nat}{t:List Int32}{v:List UInt32}{i c:Nat}(h:c<6)(hc:i %ch=c):Ip (cts bits ch t v i) (c:Int) (toC bits (N8 bits (cst bits ch t v c i) (PC (v.getD i 0))))=some (cts bits ch t v (i+1)):=by
 rw[Rj _ (by simp[cts];exact h)];congr 1;apply Avq (by simp[cts]);intro k h1 h2;rw[Bac];simp only[cts,Ay1,Ayp];by_cases hk:c=k
 ·subst hk;rw[Abb rfl,qx,Abb hc]
 ·rw[Aba hk,qx,Aba (by omega)]
section
variable {bits:Int} {ch:Nat} {t:List Int32} {v:List UInt32}
theorem ny(hb:Bu bits)(ht:t.length=16)(h1:1<=ch)(h6:ch<=6)(hv:v.length<=4000):∀(j i q:Nat),i+j=v.length->j<q->
  Hs v (ch:Int) bits q (i:Int) (cts bits ch t v i) ((rH bits ch t v).take i)=Km (ch:Int) bits (rH bits ch t v)
 |0,i,q+1,hi,_=>by
  rw[Hs,Kl,Aba (by rw[Af,Ac];simp;omega),Asm (by rw[bO];omega)]
 |j+1,i,q+1,hi,hq=>by
  have hlen:=bO bits ch t v;have hc:i %ch<6:=Aj5 (Axr _ (by omega)) h6;have hok:=iq bits ch ht v (i %ch) i;have hs:=Afy (bits:=bits) (ch:=ch) (t:=t) (v:=v) (i:=i) hc rfl;have hx:=Z4 bits ch t v (i:=i) (by omega);have hcb:=Ah0 hb hok (cst bits ch t v (i %ch) i).1 (PC (v.getD i 0));have ih:=ny hb ht h1 h6 hv j (i+1) q (by omega) (by omega);rw[Nd (by omega),<-Hg (by omega),hx]at ih;rw[Hs,Kl,Abb (by rw[Af,Ac];simp;omega),qS (by omega),Aa,Bf (by rw[Ak];simp;omega),Aa,PH,Agi hc,Aa,Aa,Amg,Aa];refine Axb (congrArg (λo=>Option.bind o _) hcb) ?_;rw[Aa];simp only;rw[Xd,NJ,Aba (by rw[Ak];simp),PH];refine Axb (congrArg (λo=>Option.bind o _) hs) ?_;rw[Aa,Cg (by simp;omega),Aa,Ag];exact ih
theorem Ajk(hb:Bu bits)(ht:t.length=16)(h1:1<=ch)(h6:ch<=6)(hv:v.length<=4000):Sa (ch:Int) bits t v=Km (ch:Int) bits (rH bits ch t v):=by
 have h:=ny hb ht h1 h6 hv v.length 0 Aq (by omega) (by have:=Al;omega);have e:Aq=(Aq-7)+1+1+1+1+1+1+1:=by have:=Al;omega
 have hs:Ox v (ch:Int) bits t 0 (List.replicate 6 ((0:Int),(0:Int32),((0:Int),(List.replicate 16 (0:Int32)),(List.replicate 16 (0:Int32)),()),()))=Xn v (ch:Int) bits (cts bits ch t v 0):=by
  rw[Ox,e];obtain rfl|rfl|rfl:=hb<;>rfl
 rw[Sa,Zl,hs];exact h
theorem M6(bk:Int->List Int32->Option (List Int32))(hb:Bu bits)(ht:t.length=16)(h1:1<=ch)(h6:ch<=6)(hv:v.length<=4000)(z:List Int32)(c:Nat)(hc:c<ch):∀(j i q:Nat),i %ch=c->v.length-i<=j->i<=5000->j<q->
  Ju bk v (ch:Int) bits t (c:Int) q (i:Int) (ZX (λk=>decide (k %ch<c\/ (k %ch=c/\k<i))) (rH bits ch t v) z) bits (cst bits ch t v c i).1 (sB bits) (cst bits ch t v c i).2.1 (cst bits ch t v c i).2.2=
   bk ((c+1:Nat):Int) (ZX (λk=>decide (k %ch<c+1)) (rH bits ch t v) z)
 |j,i,q+1,hi,hj,hi5,hq=>by
  have hlen:=bO bits ch t v;rw[Ju,AK];by_cases h:i<v.length
  ·have hok:=iq bits ch ht v c i;have hst:=Ajq hb hok (cst bits ch t v c i).1 (PC (v.getD i 0));have hx:=Z4 bits ch t v (i:=i) h;rw[hi]at hx;have ih:=M6 bk hb ht h1 h6 hv z c hc (j-1) (i+ch) q (by rw[Az5];exact hi) (by omega) (by omega) (by omega);have E5:cst bits ch t v c (i+ch)=N8 bits (cst bits ch t v c i) (PC (v.getD i 0)):=Alr ch c i _ _ hi hc;rw[E5]at ih;have hset:=bP (p:=λk=>decide (k %ch<c\/ (k %ch=c/\k<i))) (a:=rH bits ch t v) (b:=z) (k:=i) (by omega);rw[hx]at hset;have Aby:ZX (λj=>decide (j %ch<c\/ (j %ch=c/\j<i))||decide (j=i)) (rH bits ch t v) z=ZX (λk=>decide (k %ch<c\/ (k %ch=c/\k<i+ch))) (rH bits ch t v) z:=by
    apply Sg;intro k _;rw[Akg];simp only[Axl,Ab1];constructor
    ·rintro((h1|h1)|h1)
     ·exact .inl h1
     ·exact .inr ⟨h1.1,by omega⟩
     ·subst h1;exact .inr ⟨hi,by omega⟩
    ·rintro(h1|⟨h1,h2⟩)
     ·exact .inl (.inl h1)
     ·by_cases h3:k<i
      ·exact .inl (.inr ⟨h1,h3⟩)
      ·refine .inr ?_;have h4:(i+(k-i)) %ch=i %ch:=by rw[show i+(k-i)=k by omega,h1,hi]
       have h5:=Nat.sub_mod_eq_zero_of_mod_eq h4;rw[Aw1,Abk (by omega)]at h5;omega
   rw[Aby]at hset;rw[Abb (by rw[Af,Ac];simp;omega),qS h,Aa,Apv,Aa];refine Axb (congrArg (λo=>Option.bind o _) hst) ?_;rw[Aa];simp only;rw[AR,AL,Yn (by omega),Aa];refine Axb (congrArg (λo=>Option.bind o _) hset) ?_;rw[Aa,Zt,AB,Ag];exact ih
  ·rw[Aba (by rw[Af,Ac];simp;omega),Zz,AP,Ag];have Aby:ZX (λk=>decide (k %ch<c\/ (k %ch=c/\k<i))) (rH bits ch t v) z=ZX (λk=>decide (k %ch<c+1)) (rH bits ch t v) z:=by
    apply Sg;intro k hk;rw[Akg];simp only[Ab1];omega
   rw[Aby];rfl
theorem P0(hb:Bu bits)(ht:t.length=16)(h1:1<=ch)(h6:ch<=6)(hv:v.length<=4000)(z:List Int32):∀(j c q:Nat),c+j=ch->j<q->
  Ey v (ch:Int) bits t q (c:Int) (ZX (λk=>decide (k %ch<c)) (rH bits ch t v) z)=Pk (ch:Int) bits (rH bits ch t v)
 |0,c,q+1,hc,_=>by
  rw[Ey,Pm,Aba (by rw[Af];simp;omega),kJ (λk hk=>by have:=Axr k (show 0<ch by omega);simp;omega)]
 |j+1,c,q+1,hc,hq=>by
  have ih:=P0 hb ht h1 h6 hv z j (c+1) q (by omega) (by omega);have hin:=M6 (Ey v (ch:Int) bits t q) hb ht h1 h6 hv z c (by omega) v.length c Aq (Abk (by omega)) (by omega) (by omega) (by have:=Al;omega);have h0:cst bits ch t v c c=(0,t,List.replicate 16 0):=Ags ch c _ _ c (Aj3 _) (by omega);rw[h0]at hin;have Aby:ZX (λk=>decide (k %ch<c\/ (k %ch=c/\k<c))) (rH bits ch t v) z=ZX (λk=>decide (k %ch<c)) (rH bits ch t v) z:=by
   apply Sg;intro k hk;have:=Nat.mod_le k ch;rw[Akg];simp only[Ab1];omega
  rw[Aby]at hin;rw[Ey,Pm,Abb (by rw[Af];simp;omega),Aw4 hb,Aa];simp only;rw[AO];exact Axb hin ih
theorem P1(hb:Bu bits)(ht:t.length=16)(h1:1<=ch)(h6:ch<=6)(hv:v.length<=4000)(hm:v.length %ch=0):Oo (ch:Int) bits t v=some (wE ch (rH bits ch t v)):=by
 have hlen:=bO bits ch t v;have h:=P0 hb ht h1 h6 hv (List.replicate v.length 0) ch 0 Aq (by omega) (by have:=Al;omega);rw[eX (by rw[hlen];simp) (λk _=>by simp)]at h;rw[Oo,CE,Ac,mG,Aa,Bf (by rw[Be];simp),Aa,AZ];refine Axb h ?_;rw[Pk,AM,Aik ch _ h1 h6 (by rw[hlen];exact hm) (by omega),Aa]
end
def hB(bits:Int):Int:=if bits=8 then 128 else if bits=16 then 32768 else 8388608
theorem T5{bits:Int}(h:Bu bits):Qo bits=some (Int32.ofInt (-(hB bits)),Int32.ofInt (hB bits-1),0):=by
 obtain rfl|rfl|rfl:=h<;>decide
theorem XM{bits:Int}(h:Bu bits):Hq bits=some (hB bits):=by
 obtain rfl|rfl|rfl:=h<;>rfl
theorem VI(bits:Int):0<hB bits/\hB bits<=8388608:=by
 unfold hB;split; · omega
 ·split<;>omega
theorem zS{bits:Int}(h:Bu bits)(l:List Int32)(hl:l.length<=4000):∀(j i q:Nat),i+j=l.length->j<q->
  Ph (Int32.ofInt (-(hB bits))) (Int32.ofInt (hB bits-1)) l q (i:Int)=As l (hB bits) q (i:Int)
 |0,i,q+1,hi,_=>by
  rw[Ph,BP,As,Cb,Aba (by rw[Af,Ac];simp;omega),Aba (by rw[Af,Ac];simp;omega)];rfl
 |j+1,i,q+1,hi,hq=>by
  have hh:=VI bits;have ih:=zS h l hl j (i+1) q (by omega) (by omega);have e1:(Int32.ofInt (-(hB bits))).toInt= -(hB bits):=by rw[Azn,Bai (by show -(4294967296/2:Int)<= _;omega) (by show _<(4294967296+1)/2;omega)]
  have e2:(Int32.ofInt (hB bits-1)).toInt=hB bits-1:=by rw[Azn,Bai (by show -(4294967296/2:Int)<= _;omega) (by show _<(4294967296+1)/2;omega)]
  rw[Ph,BP,As,Cb,Abb (by rw[Af,Ac];simp;omega),Abb (by rw[Af,Ac];simp;omega),g32 (by omega),Aa,Aa,Aa,Ei,T9,Bo (by omega) (by omega),Ag,X3,Acu,e1,e2,Af,De];generalize(l.getD i 0).toInt=X;by_cases h1:X< -(hB bits)
  ·rw[Abb (by simp;omega),Abb (by simp;omega)]
  ·rw[Aba (c:=decide (X<0-hB bits)=true) (by simp;omega)];by_cases h2:hB bits<=X
   ·rw[Abb (by simp;omega),Abb (by simp;omega)]
   ·rw[Aba (by simp;omega),Aba (by simp;omega)];exact ih
theorem bC{bits:Int}(h:Bu bits)(l:List Int32)(hl:l.length<=4000):Uq bits l=Ao bits l:=by
 have hh:=VI bits;rw[Uq,RO,T5 h,Aa,Ao,Ct,XM h,Aa];simp only;rw[Aba (by rw[Ak];simp),Aba (by rw[Am,Ac];simp;omega),Aba (by rw[Be];simp;omega),Aba (by rw[Am,Ac];simp;omega)];exact zS h l hl l.length 0 Aq (by omega) (by have:=Al;omega)
theorem Ad7{bits:Int}(h:Bu bits)(l:List Int32)(hl:l.length<=4000):∃e,Ao bits l=some e:=by
 have hh:=VI bits;have key:∀(j i q:Nat),i+j=l.length->j<q->∃e,As l (hB bits) q (i:Int)=some e:=by
  intro j
  induction j with
  |zero=>
   intro i q hi hq;obtain⟨q,rfl⟩:∃k,q=k+1:=⟨q-1,by omega⟩;rw[As,Cb,Aba (by rw[Af,Ac];simp;omega)];exact⟨_,rfl⟩
  |succ j ih=>
   intro i q hi hq;obtain⟨q,rfl⟩:∃k,q=k+1:=⟨q-1,by omega⟩;rw[As,Cb,Abb (by rw[Af,Ac];simp;omega),g32 (by omega),Aa,Aa,Ag];split
   ·exact⟨_,rfl⟩
   ·split
    ·exact⟨_,rfl⟩
    ·exact ih (i+1) q (by omega) (by omega)
 obtain⟨e,he⟩:=key l.length 0 Aq (by omega) (by have:=Al;omega);rw[Ao,Ct,XM h,Aa,Aba (by rw[Be];simp;omega),Aba (by rw[Am,Ac];simp;omega)];exact⟨e,he⟩
theorem V9{bits:Int}{ch:Nat}{t:List Int32}{v:List UInt32}(hb:Bu bits)(ht:t.length=16)(h1:1<=ch)(h6:ch<=6)(hv:v.length<=4000)(hm:v.length %ch=0):
  ∃l e,Oo (ch:Int) bits t v=some l/\Pa (ch:Int) bits l=some (if e≠0 then([],e)else(l,0))/\Sa (ch:Int) bits t v=some (if e≠0 then([],e)else(l,0))/\Ao bits l=some e/\l.length=v.length:=by
 have hlen:=bO bits ch t v;have hul:=aV ch (rH bits ch t v);obtain⟨e,he⟩:=Ad7 hb (wE ch (rH bits ch t v)) (by omega);refine⟨wE ch (rH bits ch t v),e,P1 hb ht h1 h6 hv hm,?_,?_,he,by omega⟩
 ·rw[Pa,he,Aa];by_cases h:e=0
  ·rw[Aba (by rw[Ak];simpa using h),Aba (by simpa using h)]
  ·rw[Abb (by rw[Ak];simpa using h),Abb h]
 ·rw[Ajk hb ht h1 h6 hv,Km,NA,Ap3 ch _ h1 h6 (by rw[hlen];exact hm) (by omega),Aa];simp only;rw[Aba (by rw[Ak];simp),bC hb _ (by omega),he,Aa];by_cases h:e=0
  ·rw[Aba (by rw[Ak];simpa using h),Aba (by simpa using h)]
  ·rw[Abb (by rw[Ak];simpa using h),Abb h]
def gJ(s:Nat):Nat:=(s/2)^^^ (if s %2=1 then 3988292384 else 0)
theorem G0{s:Nat}(h:s<4294967296):gJ s<4294967296:=by
 unfold gJ;exact Awb (n:=32) (by simp;omega) (by split<;>decide)
theorem wm(x y:Nat):(x^^^y)/2=(x/2)^^^ (y/2):=by
 have:=Nat.shiftRight_xor_distrib (a:=x) (b:=y) (i:=1);simpa [Nat.shiftRight_eq_div_pow]using this
theorem Aio(x y:Nat):gJ (x^^^y)=gJ x^^^gJ y:=by
 have h:(x^^^y) %2=(x %2+y %2) %2:=by
  have:=Nat.xor_mod_two_eq_one (a:=x) (b:=y);have h1:(x^^^y) %2<2:=Axr _ (by omega);omega
 simp only[gJ,wm,h];have hx:x %2=0\/x %2=1:=by omega
 have hy:y %2=0\/y %2=1:=by omega
 rcases hx with hx|hx<;>rcases hy with hy|hy<;>simp only[hx,hy]<;>simp
 ·rw[Axy]
 ·rw[Axy,Bal (y/2),Axy,Bal 3988292384 (y/2)]
 ·rw[Axy,Bal 3988292384,Axy,Nat.xor_self];simp
def Wm:Nat->Nat->Nat
 |0,s=>s
 |k+1,s=>Wm k (gJ s)
theorem O2:∀(k x y:Nat),Wm k (x^^^y)=Wm k x^^^Wm k y
 |0,_,_=>rfl
 |k+1,x,y=>by rw[Wm,Aio,O2 k];rfl
theorem M0:∀(k h:Nat),Wm k (2^k*h)=h
 |0,h=>by simp[Wm]
 |k+1,h=>by
  have:gJ (2^(k+1)*h)=2^k*h:=by
   rw[Atb,Aor (2^k) 2,Azp,gJ,Aba (by omega),Nat.mul_div_cancel_left _ (by omega)];simp
  rw[Wm,this,M0 k]
theorem xR:∀(k:Nat) {s:Nat},s<4294967296->Wm k s<4294967296
 |0,_,h=>h
 |k+1,_,h=>xR k (G0 h)
def uW(s c:Nat):Nat:=Wm 8 (s^^^c)
theorem xL{s c:Nat}(h:s<4294967296)(hc:c<256):uW s c<4294967296:=xR 8 (Awb (n:=32) (by simpa using h) (by simp;omega))
theorem uz{s c:Nat}(hc:c<256):uW s c=(s/256)^^^Wm 8 ((s %256)^^^c):=by
 have h:s=(2^8*(s/256))^^^ (s %256):=by
  have h1:s %256<2^8:=by simpa using Axr s (by omega:256>0)
  have:=Awk h1 (s/256);have h2:2^8*(s/256)|||s %256=(2^8*(s/256))^^^ (s %256):=by
   apply Nat.eq_of_testBit_eq;intro i;rw[Nat.testBit_or,Nat.testBit_xor];by_cases hi:i<8
   ·have:(2^8*(s/256)).testBit i=false:=by rw[Nat.testBit_two_pow_mul];simp;omega
    rw[this];simp
   ·have:(s %256).testBit i=false:=Nat.testBit_lt_two_pow (Aj5 h1 (Aef (by omega) (by omega)));rw[this];simp
  omega
 rw[uW]
 conv=>lhs;rw[h]
 rw[Axy,O2,M0]
def Ah1(s:Nat)(l:List UInt8):Nat:=l.foldl (λs c=>uW s c.toNat) s
def Dc(b:List UInt8):UInt32:=4294967295-UInt32.ofNat (Ah1 4294967295 b)
theorem Apo(s:UInt32)(c:Nat)(hc:c<256):EF s (Ad (BB (UInt8.ofNat c) (2:UInt8)):Int)=some (UInt32.ofNat (s.toNat/2^^^ (if(s.toNat^^^c) %2=1 then 3988292384 else 0))):=by
 have h1:(Ad (BB (UInt8.ofNat c) (2:UInt8)):Int)=((c %2:Nat):Int):=by
  rw[OQ,Ark,UInt8.toNat_mod,Aoi];show((c %256 %2:Nat):Int)=_;omega
 have h2:geq (BB s (2:UInt32)) (1:UInt32)=decide (s.toNat %2=1):=by
  rw[T6,oz,Akg];simp only[Ax2,Ab1];rw[<-UInt32.toNat_inj,UInt32.toNat_mod];rfl
 have h3:Bv s (2:UInt32)=UInt32.ofNat (s.toNat/2):=by
  apply UInt32.toNat_inj.1;rw[qp,UInt32.toNat_div,Aj1]
  show s.toNat/2=_;have:=s.toNat_lt;omega
 have h4:Rn (Bv s (2:UInt32)) (3988292384:UInt32)=UInt32.ofNat (s.toNat/2^^^3988292384):=by
  apply UInt32.toNat_inj.1;rw[h3,XF,Baa,Aj1,Aj1];have:=s.toNat_lt;rw[Abk (a:=s.toNat/2) (by omega),Abk]
  ·rfl
  ·exact Awb (n:=32) (by omega) (by decide)
 have hx:(s.toNat^^^c) %2=(s.toNat %2+c %2) %2:=by
  have:=Nat.xor_mod_two_eq_one (a:=s.toNat) (b:=c);have h1:(s.toNat^^^c) %2<2:=Axr _ (by omega);omega
 have hs:s.toNat %2=0\/s.toNat %2=1:=by omega
 have hc2:c %2=0\/c %2=1:=by omega
 rw[EF,IZ,h1,h2,hx];rcases hs with hs|hs<;>rcases hc2 with hc2|hc2<;>simp[hs,hc2,Be,JN,KJ,XF,h3]
theorem uL:∀(j i q:Nat) (s:UInt32) (c:Nat),i+j=8->j<q->c<2^j->Jh q s (UInt8.ofNat c) (i:Int)=some (UInt32.ofNat (Wm j (s.toNat^^^c)))
 |0,i,q+1,s,c,hi,_,hc=>by
  obtain rfl:i=8:=by omega
  obtain rfl:c=0:=by simpa using hc
  rw[Jh,Vi,Aba (by rw[Af];simp),LY,KW,Wm];simp
 |j+1,i,q+1,s,c,hi,hq,hc=>by
  have hc8:c<256:=Aj5 hc (show 2^(j+1)<=2^8 from Aef (by omega) (by omega));rw[Jh,Vi,Abb (by rw[Af];simp;omega),Apo s c hc8,Aa,Ag];have e:Bv (UInt8.ofNat c) (2:UInt8)=UInt8.ofNat (c/2):=by
   apply UInt8.toNat_inj.1;rw[Aq5,UInt8.toNat_div,Aoi,Aoi]
   show c %256/2=_;omega
  rw[e];have h:=uL j (i+1) q (UInt32.ofNat (s.toNat/2^^^ (if(s.toNat^^^c) %2=1 then 3988292384 else 0))) (c/2) (by omega) (by omega) (by rw[Atb]at hc;omega);rw[show((i:Int)+1)=((i+1:Nat):Int) by omega,h,Aj1,Wm];congr 3;have:=s.toNat_lt;rw[Abk,gJ,wm,Axy,Axy,Bal (c/2)];exact Awb (n:=32) (by omega) (by split<;>decide)
theorem Aq1(s:UInt32)(c:UInt8):UM s c=some (UInt32.ofNat (uW s.toNat c.toNat)):=by
 have h:=uL 8 0 Aq s c.toNat (by omega) (by have:=Al;omega) (by simpa using c.toNat_lt);rw[UInt8.ofNat_toNat]at h;exact h
theorem lW(b:List UInt8)(hb:b.length<4611686018427387904):∀(j i q:Nat) (s:UInt32),i+j=b.length->j<q->Hk b q s (i:Int)=some (UInt32.ofNat (Ah1 s.toNat (b.drop i)))
 |0,i,q+1,s,hi,_=>by
  rw[Hk,Qv,Aba (by rw[Af,Ac];simp;omega),show i=b.length by omega,Ayy];simp[FB,DE,Ah1]
 |j+1,i,q+1,s,hi,hq=>by
  have hlt:i<b.length:=by omega
  rw[Hk,Qv,Abb (by rw[Af,Ac];simp;omega),Ck hlt,Aa,Aq1,Aa,Ag];have h:=lW b hb j (i+1) q (UInt32.ofNat (uW s.toNat b[i].toNat)) (by omega) (by omega);rw[show((i:Int)+1)=((i+1:Nat):Int) by omega,h,drop_cons hlt,Aj1,Abk (xL s.toNat_lt b[i].toNat_lt)];rfl
theorem Akq(b:List UInt8)(hb:b.length<4611686018427387904):Sc b=some (Dc b):=by
 have h:=lW b hb b.length 0 Aq 4294967295 (by omega) (by have:=Al;omega);rw[Sc,NB,CU,DW,show((0:Int))=((0:Nat):Int)from rfl,h,Aa,xX];rfl
theorem Arl(c:UInt32):Rn (Bt c (GI.toZ (1:UInt64)).toNat) (Bd (3988292384:UInt32) (Db c (1:UInt32)))=UInt32.ofNat (gJ c.toNat):=by
 apply UInt32.toNat_inj.1;have e:(GI.toZ (1:UInt64)).toNat=1:=rfl;have h1:(Bt c 1).toNat=c.toNat/2:=by rw[JI]
 have h2:(Bd (3988292384:UInt32) (Db c (1:UInt32))).toNat=if c.toNat %2=1 then 3988292384 else 0:=by
  rw[Anm,yW,UInt32.toNat_mul,UInt32.toNat_and]
  show 3988292384*(c.toNat&&&1) %4294967296=_;rw[Nat.and_one_is_mod];have:c.toNat %2=0\/c.toNat %2=1:=by omega
  rcases this with h|h<;>simp[h]
 rw[e,XF,Baa,h1,h2,Aj1,Abk (G0 c.toNat_lt)];rfl
theorem ni(Li:Int->List UInt32->Option (UInt32×Int))(s:UInt32)(b:List UInt8)(x:Int)(t:List UInt32):∀(j i q:Nat) (c:UInt32),i+j=8->j<q->
  Pg Li s b x t q c (i:Int)=CT Li s b x (UInt32.ofNat (Wm j c.toNat)) t
 |0,i,q+1,c,hi,_=>by
  obtain rfl:i=8:=by omega
  rw[Pg,CB,Aba (by rw[Af];simp),Wm,UInt32.ofNat_toNat]
 |j+1,i,q+1,c,hi,hq=>by
  rw[Pg,CB,Abb (by rw[Af];simp;omega),Arl,Ag,show((i:Int)+1)=((i+1:Nat):Int) by omega,ni Li s b x t j (i+1) q _ (by omega) (by omega),Aj1,Abk (G0 c.toNat_lt)];rfl
def tbl(n:Nat):List UInt32:=(List.range n).map λi=>UInt32.ofNat (Wm 8 i)
theorem Agt(s:UInt32)(b:List UInt8):∀(j i q:Nat),i+j=256->j<q->Ln s b q (i:Int) (tbl i++List.replicate j 0)=CZ s b (tbl 256)
 |0,i,q+1,hi,_=>by
  obtain rfl:i=256:=by omega
  rw[Ln,EL,Aba (by rw[Af];simp)];simp
 |j+1,i,q+1,hi,hq=>by
  have hlen:(tbl i++List.replicate (j+1) 0).length=i+(j+1):=by simp[tbl]
  rw[Ln,EL,Abb (by rw[Af];simp;omega),PA];have h:=ni (Ln s b q) s b (i:Int) (tbl i++List.replicate (j+1) 0) 8 0 Aq (Ad (i:Int)) (by omega) (by have:=Al;omega);rw[show((0:Int))=((0:Nat):Int)from rfl,h,CT,QW,Ck (by rw[hlen];omega),Aa,Rj _ (by rw[hlen];omega),Aa,SH,fK,Ag];have e:(Ad (i:Int):UInt32).toNat=i:=by rw[P9,Aj1,Abk (by omega)]
  rw[e,Awh,ZB (by simp[tbl])];have h2:=Agt s b j (i+1) q (by omega) (by omega);have h3:tbl (i+1)=tbl i++[UInt32.ofNat (Wm 8 i)]:=by simp[tbl,List.range_succ]
  rw[h3]at h2;rw[show((i:Int)+1)=((i+1:Nat):Int) by omega,<-h2];simp
theorem Aqa{i:Nat}(h:i<256):Aj (tbl 256) (i:Int)=some (UInt32.ofNat (Wm 8 i)):=by
 rw[Ck (by simpa [tbl]using h)];simp[tbl]
theorem An4(s:UInt32)(c:UInt8):Aj (tbl 256) (GI.toZ (Rn (Ad s:UInt8) c))=some (UInt32.ofNat (Wm 8 ((s.toNat %256)^^^c.toNat))):=by
 have e:GI.toZ (Rn (Ad s:UInt8) c)=(((s.toNat %256)^^^c.toNat:Nat):Int):=by
  rw[Zq,Aew,UInt8.toNat_xor,nM,Aoi]
 rw[e,Aqa];exact Awb (n:=8) (by simp;omega) (by simpa using c.toNat_lt)
theorem Ail(s:UInt32)(c:UInt8):Rn (Bt s (GI.toZ (8:UInt64)).toNat) (UInt32.ofNat (Wm 8 ((s.toNat %256)^^^c.toNat)))=UInt32.ofNat (uW s.toNat c.toNat):=by
 apply UInt32.toNat_inj.1;have hlt:Wm 8 ((s.toNat %256)^^^c.toNat)<4294967296:=xR 8 (Awb (n:=32) (by simp;omega) (by have:=c.toNat_lt;simp;omega));have e:(GI.toZ (8:UInt64)).toNat=8:=rfl;rw[e,XF,Baa,JI,Aj1,Aj1,Abk hlt,Abk (xL s.toNat_lt c.toNat_lt),uz c.toNat_lt]
theorem Aad(b:List UInt8)(hb:b.length<4611686018427387904):∀(j i q:Nat) (s:UInt32),i+j=b.length->j<q->Ps b (tbl 256) q s (i:Int)=some (UInt32.ofNat (Ah1 s.toNat (b.drop i)),0)
 |0,i,q+1,s,hi,_=>by
  rw[Ps,EJ,Aba (by rw[Af,Ac];simp;omega),show i=b.length by omega,Ayy];simp[PY,fX,Ah1]
 |j+1,i,q+1,s,hi,hq=>by
  have hlt:i<b.length:=by omega
  rw[Ps,EJ,Abb (by rw[Af,Ac];simp;omega),Ck hlt,Aa,An4,Aa,Aa,Ail,Ag];have h:=Aad b hb j (i+1) q (UInt32.ofNat (uW s.toNat b[i].toNat)) (by omega) (by omega);rw[show((i:Int)+1)=((i+1:Nat):Int) by omega,h,drop_cons hlt,Aj1,Abk (xL s.toNat_lt b[i].toNat_lt)];rfl
theorem Api(s:UInt32)(b:List UInt8)(hb:b.length<=100000):bU s b=some (UInt32.ofNat (Ah1 s.toNat b),0):=by
 have h:=Agt s b 256 0 Aq (by omega) (by have:=Al;omega);have h2:=Aad b (by omega) b.length 0 Aq s (by omega) (by have:=Al;omega);rw[bU,VQ,Aba (by rw[Am,Ac];simp;omega),PU];refine Axb h ?_;rw[CZ,QB,QD,QM,QY];exact h2
theorem Alg(a:UInt32):C0 a=4294967295-a:=by
 have h:=a.toNat_lt;have e:C0 a=UInt32.ofNat (BitVec.ofInt 32 4294967295^^^BitVec.ofInt 32 (a.toNat:Int)).toNat:=Ej _;apply UInt32.toNat_inj.1;rw[e,Aj1,UInt32.toNat_sub_of_le _ _ (by rw[UInt32.le_iff_toNat_le];show a.toNat<=4294967295;omega)];have h1:BitVec.ofInt 32 (a.toNat:Int)=a.toBitVec:=Z5 a;have h2:(BitVec.ofInt 32 4294967295:BitVec 32)=BitVec.allOnes 32:=by decide
 rw[h1,h2,BitVec.allOnes_xor,BitVec.toNat_not];show(4294967296-1-a.toNat) %4294967296=4294967295-a.toNat;omega
theorem sP(b:List UInt8)(hb:b.length<=100000):Vv b=some (Dc b,0):=by
 rw[Vv,Api _ _ hb,Aa];simp only[Ak,Alg];rfl
theorem Ael:∀{l m:List UInt8},l.length=m.length->Ek l=Ek m->l=m
 |[],[],_,_=>rfl
 |x::l,y::m,h,e=>by
  simp only[Ek]at e;have hx:=x.toNat_lt;have hy:=y.toNat_lt;have h1:x=y:=UInt8.toNat_inj.1 (by omega);rw[h1,Ael (l:=l) (m:=m) (by simpa using h) (by omega)]
theorem Yl:∀(w n:Nat),Ek (Kq n w)=n %256^w
 |0,n=>by simp[Kq,Ek,Nat.mod_one]
 |w+1,n=>by
  rw[Kq,Ek,Yl w (n/256),Aoi,show(256:Nat)^(w+1)=256*256^w by rw[Atb,Aor],Nat.mod_mul]
def Wl(b:List UInt8):Int:=
 if b.length<5 then 24 else if 41254<b.length then 4 else if(Dc (b.take (b.length-4))).toNat≠Ek (b.drop (b.length-4))then 22 else 0
theorem zx(b:List UInt8):DJ b=some (if Wl b≠0 then([],Wl b)else(b.take (b.length-4),0)):=by
 rw[DJ];by_cases h1:b.length<5
 ·have hS:Wl b=24:=by rw[Wl,Abb h1]
  rw[Abb (by rw[Af,Ac];simp;omega),hS];rfl
 rw[Aba (by rw[Af,Ac];simp;omega)];by_cases h2:41254<b.length
 ·have hS:Wl b=4:=by rw[Wl,Aba h1,Abb h2]
  rw[Abb (by rw[Am,Ac];simp;omega),hS];rfl
 have e4:Ah (Ac b) 4=((b.length-4:Nat):Int):=by rw[Ac,Bi];omega
 have hd:(b.drop (b.length-4)).length=4:=by simp;omega
 rw[Aba (by rw[Am,Ac];simp;omega),e4,Je,Aa,show((b.length-4:Nat):Int).toNat=b.length-4 from rfl,sP _ (by simp;omega),Aa];simp only;rw[Aba (by rw[Ak];simp),Jb,Aa,show((b.length-4:Nat):Int).toNat=b.length-4 from rfl,Aaq _ (by omega) (by omega),Aa];have hne:Bk (lX (b.drop (b.length-4))) (Ad (Dc (b.take (b.length-4))):UInt64)=decide ((Dc (b.take (b.length-4))).toNat≠Ek (b.drop (b.length-4))):=by
  have hlt:=(Dc (b.take (b.length-4))).toNat_lt;rw[NZ,Akg];simp only[Bak,ne_eq,<-Azu,Ab1];rw[UT (by omega),Cn,Afg,Abk (by omega)];exact⟨λh e=>h e.symm,λh e=>h e.symm⟩
 simp only;rw[hne,Aa];by_cases h3:(Dc (b.take (b.length-4))).toNat≠Ek (b.drop (b.length-4))
 ·have hS:Wl b=22:=by rw[Wl,Aba h1,Aba h2,Abb h3]
  rw[Abb (by simp[h3]),hS];rfl
 ·have hS:Wl b=0:=by rw[Wl,Aba h1,Aba h2,Aba h3]
  rw[Aba (by rw[Azr h3];decide),hS];rfl
theorem Aiu(b:List UInt8)(hb:b.length<=1000000):Wx b=some (b++Kq (Dc b).toNat 4):=by
 have h:∀k:Nat,(Ad (Bt (Dc b) k):UInt8)=UInt8.ofNat ((Dc b).toNat/2^k):=by
  intro k;rw[nM,JI]
 have h0:(Ad (Dc b):UInt8)=UInt8.ofNat (Dc b).toNat:=nM _;have h1:=h 8;have h2:=h 16;have h3:=h 24;rw[Wx,Akq b (by omega),Aa,Cg (by simp;omega),Aa,Cg (by simp;omega),Aa,h0,show(GI.toZ (8:UInt64)).toNat=8 from rfl,show(GI.toZ (16:UInt64)).toNat=16 from rfl,show(GI.toZ (24:UInt64)).toNat=24 from rfl,h1,h2,h3];simp only[Kq,Ax4,Avf]
theorem yL(b:List UInt8):Oq b=some (Wl b):=by
 rw[Oq];by_cases h1:b.length<5
 ·rw[Abb (by rw[Af,Ac];simp;omega),Wl,Abb h1]
 rw[Aba (by rw[Af,Ac];simp;omega)];by_cases h2:41254<b.length
 ·rw[Abb (by rw[Am,Ac];simp;omega),Wl,Aba h1,Abb h2]
 have e4:Ah (Ac b) 4=((b.length-4:Nat):Int):=by rw[Ac,Bi];omega
 have hd:(b.drop (b.length-4)).length=4:=by simp;omega
 rw[Aba (by rw[Am,Ac];simp;omega),e4,Je,Aa,show((b.length-4:Nat):Int).toNat=b.length-4 from rfl,Aiu _ (by simp;omega),Aa];have hlt:=(Dc (b.take (b.length-4))).toNat_lt;have hiff:(b.take (b.length-4)++Kq (Dc (b.take (b.length-4))).toNat 4 !=b)=decide ((Dc (b.take (b.length-4))).toNat≠Ek (b.drop (b.length-4))):=by
  rw[Akg];simp only[Bak,ne_eq,Ab1];constructor
  ·intro h e;apply h;have:Kq (Dc (b.take (b.length-4))).toNat 4=b.drop (b.length-4):=Ael (by rw[Ba,hd]) (by rw[Yl,Abk (by omega),e]);rw[this,Axf]
  ·intro h e;apply h;have hx:Kq (Dc (b.take (b.length-4))).toNat 4=b.drop (b.length-4):=by
    have e2:b.take (b.length-4)++Kq (Dc (b.take (b.length-4))).toNat 4=b.take (b.length-4)++b.drop (b.length-4):=by rw[e,Axf]
    exact List.append_cancel_left e2
   rw[<-hx,Yl,Abk (by omega)]
 rw[hiff];by_cases h3:(Dc (b.take (b.length-4))).toNat≠Ek (b.drop (b.length-4))
 ·rw[Abb (by simp[h3]),Wl,Aba h1,Aba h2,Abb h3]
 ·rw[Aba (by rw[Azr h3];decide),Wl,Aba h1,Aba h2,Aba h3]
theorem Anp{b:List UInt8}(h:Wl b=0):5<=b.length/\b.length<=41254:=by
 unfold Wl at h;split at h
 ·simp at h
 ·split at h
  ·simp at h
  ·omega
theorem R5{c:Nat}(h1:1<=c)(h6:c<=6):Bv (4000:Int) (c:Int)=((4000/c:Nat):Int):=by
 have:c=1\/c=2\/c=3\/c=4\/c=5\/c=6:=by omega
 rcases this with rfl|rfl|rfl|rfl|rfl|rfl<;>rfl
theorem Ao2(p:List UInt8)(h:p.length<=41250):okB p (8*p.length):=⟨by omega,by omega,λk h1 h2=>by omega⟩
theorem uO{bits:Int}{ch n:Nat}{t:List Int32}(b:List UInt8)(hb:Bu bits)(ht:t.length=16)(h1:1<=ch)(h6:ch<=6)(n1:1<=n)(n2:n<=4000/ch):
  ∃l e,Lj (ch:Int) bits t (n:Int) b=some (l,e)/\Dk (ch:Int) bits t (n:Int) b=some (l,e)/\ (e=0->Ao bits l=some 0/\l.length<=4000/\l.length=n*ch)/\ (e≠0->l=[]):=by
 have hn:n*ch<=4000:=by
  have:=Ado ch n2;have h2:=Ax0 4000 ch;omega
 have hq4:=R5 h1 h6;generalize 4000/ch=mm at*
 have hck:Fm (ch:Int) bits=some 0:=by
  have hr:∃x y,Qo bits=some (x,y,0):=⟨_,_,T5 hb⟩;obtain⟨x,y,hr⟩:=hr;rw[Fm,hr,Aa];simp only;rw[Aba (by simp[Ak,Af,Am];omega)]
 have hh:=VI bits;have Aeg:Dy (ch:Int) bits (n:Int)=some 0:=by
  rw[Dy,Cs,Aba (by simp[Af,Am];omega),XM hb,Aa,Aba (by rw[Be];simp;omega),Aa,Aba (by simp[Ak,Af];omega),Bf (by rw[Ak];simp;omega),Aa,hq4,Aba (by rw[Am];simp;omega)]
 rw[Lj,Dk,Rw,hck,Aeg,Aa,Aa,Aba (by rw[Ak];simp),Aba (by rw[Af];simp;omega),Bf (by rw[Ak];simp;omega),Aa,hq4,Aba (by rw[Am];simp;omega),Aba (by rw[Ak];simp),zx,yL];by_cases hs:Wl b≠0
 ·rw[Abb hs];simp only[Aa];rw[Abb (by rw[Ak];simpa using hs),Abb (by rw[Ak];simpa using hs)];exact⟨[],Wl b,rfl,rfl,λe=>absurd e hs,λ_=>rfl⟩
 have hs0:Wl b=0:=by simpa using hs
 have hlen:=Anp hs0;have e4:Ah (Ac b) 4=((b.length-4:Nat):Int):=by rw[Ac,Bi];omega
 rw[Aba hs,hs0];simp only[Aa];rw[Aba (by rw[Ak];simp),Aba (by rw[Ak];simp),e4,Je,Aa,show((b.length-4:Nat):Int).toNat=b.length-4 from rfl];have hpl:(b.take (b.length-4)).length=b.length-4:=by simp
 generalize b.take (b.length-4)=p at*
 have e8:Bd (8:Int) (Ac p)=((8*p.length:Nat):Int):=by rw[Ac,Hc];omega
 have hp:=Ao2 p (by omega);have hv:=values_eq hp h1 h6 hn;have hr:=Afo (N:=8*p.length) (p:=p) rfl (by omega) h1 h6 hn;have hat:=S1 (ch:=ch) (p:=p) (N:=8*p.length) (n*ch) 0 [] (by omega);rw[Z7,Aba (by rw[Am,Ac];simp;omega),Ec,Cg (by simp;omega),Aa,Aa,Aa,Avf,e8];simp only;rw[Aba (by rw[Ak];simp),hv,hr,Aa,Aa];generalize Wk ch p (8*p.length) (n*ch) 0 []=V at*
 obtain⟨v,at',e⟩:=V;simp only at*
 by_cases he:e≠0
 ·rw[Abb he,Abb he];simp only;rw[Abb (by rw[Ak];simpa using he),Kv,Kz,Abb (by rw[Ak];simpa using he)];exact⟨[],e,rfl,rfl,λh=>absurd h he,λ_=>rfl⟩
 have he0:e=0:=by simpa using he
 have hvl:=hat.2.2 he0;simp only[List.length_nil,Avi]at hvl;rw[Aba he,Aba he];simp only;rw[Aba (by rw[Ak];simp),Bi,show((8*p.length:Nat):Int)-(at':Int)=((8*p.length-at':Nat):Int) by omega,Kv,Kz];by_cases h7:7<8*p.length-at'
 ·have hE:(if 7<8*p.length-at'\/Bl p at' (8*p.length-at')≠0 then(12:Int)else 0)=12:=Abb (.inl h7);rw[Abb (by rw[De];simp;omega),hE,Abb (by decide)];exact⟨[],12,rfl,rfl,λh=>absurd h (by decide),λ_=>rfl⟩
 rw[Aba (by rw[De];simp;omega),tQ hp at' _ (by omega),Aba (by omega),Aa];have hz:Bk (Mn p at' (8*p.length-at')) (0:UInt64)=decide (Bl p at' (8*p.length-at')≠0):=by
  rw[NZ,Akg];simp only[Bak,ne_eq,<-Azu,Ab1];rw[Vm p _ _ (by omega)];rfl
 simp only;rw[hz];by_cases hv0:Bl p at' (8*p.length-at')≠0
 ·have hE:(if 7<8*p.length-at'\/Bl p at' (8*p.length-at')≠0 then(12:Int)else 0)=12:=Abb (.inr hv0);rw[Abb (by simp[hv0]),hE,Abb (by decide)];exact⟨[],12,rfl,rfl,λh=>absurd h (by decide),λ_=>rfl⟩
 have hm:v.length %ch=0:=by rw[hvl];exact Ayd n ch
 obtain⟨l,e,g1,g2,g3,g4,g5⟩:=V9 (v:=v) hb ht h1 h6 (by omega) hm;have hE:(if 7<8*p.length-at'\/Bl p at' (8*p.length-at')≠0 then(12:Int)else 0)=0:=Aba (by omega);rw[Aba (by rw[Azr hv0];decide),hE,Aba (by decide),g1,g3,Aa,Aa,g2];by_cases hl:e≠0
 ·rw[Abb hl];exact⟨[],e,rfl,rfl,λh=>absurd h hl,λ_=>rfl⟩
 ·rw[Aba hl];have hl0:e=0:=by simpa using hl
  exact⟨l,0,rfl,rfl,λ_=>⟨by rw[g4,hl0],by omega,by omega⟩,λe=>absurd rfl e⟩
theorem Akv(a b:Int32):a-(a-b)=b:=by
 apply Int32.toBitVec_inj.1;simp only[Int32.toBitVec_sub];apply Azs;simp only[BitVec.toNat_sub];have:=a.toBitVec.isLt;have:=b.toBitVec.isLt;omega
theorem UH(a b:Int32):a-b+b=a:=by
 apply Int32.toBitVec_inj.1;simp only[Int32.toBitVec_sub,Int32.toBitVec_add];apply Azs;simp only[BitVec.toNat_sub,BitVec.toNat_add];have:=a.toBitVec.isLt;have:=b.toBitVec.isLt;omega
def mxV(f:Nat->Int32)(ch i:Nat):Int32:=if i+1<ch then f (i+1)-f i else if 1<ch then f (ch-1)-Bv (f (ch-1)-f (ch-2)) (2:Int32)else f (ch-1)
theorem Amf{f g:Nat->Int32}{ch:Nat}(h1:1<=ch)(h:∀i,i<ch->f i=mxV g ch i):∀j,j<ch->ku f ch j=g (ch-1-j)
 |0,_=>by
  rw[ku];by_cases h2:1<ch
  ·rw[Abb h2,h (ch-1) (by omega),h (ch-2) (by omega),mxV,mxV,Aba (by omega),Abb h2,Abb (by omega),show ch-2+1=ch-1 by omega,UH,Nat.sub_zero]
  ·rw[Aba h2,h (ch-1) (by omega),mxV,Aba (by omega),Aba h2,Nat.sub_zero]
 |j+1,hj=>by
  rw[ku,Amf h1 h j (by omega),h (ch-2-j) (by omega),mxV,Abb (by omega),show ch-2-j+1=ch-1-j by omega,Akv];congr 1;omega
def mx(ch:Nat)(x:List Int32):List Int32:=(List.range x.length).map λk=>mxV (λi=>x.getD (k-k %ch+i) 0) ch (k %ch)
theorem PR(ch:Nat)(x:List Int32):(mx ch x).length=x.length:=by simp[mx]
theorem Ak9{ch:Nat}{x:List Int32}{k:Nat}(h:k<x.length):(mx ch x).getD k 0=mxV (λi=>x.getD (k-k %ch+i) 0) ch (k %ch):=by
 rw[Hg (by rw[PR];exact h)];simp[mx]
theorem Au0{ch:Nat}{x:List Int32}(h1:1<=ch)(hm:x.length %ch=0):wE ch (mx ch x)=x:=by
 apply Avq (by rw[aV,PR]);intro k hk1 hk2;have hr:=Axr k (show 0<ch by omega);have hle:=Nat.mod_le k ch;have ha:(k-k %ch) %ch=0:=Nat.mod_eq_zero_of_dvd (Nat.dvd_sub_mod k);have hb:=pY ha hm (by omega);have e:=qG (m:=mx ch x) ha hr (by rw[PR];omega);rw[show k-k %ch+k %ch=k by omega]at e;rw[<-Hg hk1,<-Hg hk2,e];rw[Amf (g:=λi=>x.getD (k-k %ch+i) 0) h1 (λi hi=>?_) (ch-1-k %ch) (by omega)]
 ·congr 1;omega
 ·rw[Ak9 (by omega)];have h2:(k-k %ch+i) %ch=i:=by rw[Nat.add_mod,ha,Avi,Nat.mod_mod,Abk hi]
  rw[h2,show k-k %ch+i-i=k-k %ch by omega]
def iO(x:Int32):UInt32:=UInt32.ofNat (if 0<=x.toInt then 2*x.toInt.toNat else 2*(-x.toInt-1).toNat+1)
theorem Al8(x:Int32):PC (iO x)=x:=by
 have h:=Xi x;have e:(iO x).toNat=if 0<=x.toInt then 2*x.toInt.toNat else 2*(-x.toInt-1).toNat+1:=by
  rw[iO,Aj1];split<;>exact Abk (by omega)
 rw[PC,e];by_cases h0:0<=x.toInt
 ·rw[Abb h0,Abb (by omega),show((2*x.toInt.toNat/2:Nat):Int)=x.toInt by omega,Avr]
 ·rw[Aba h0,Aba (by omega),show -(((2*(-x.toInt-1).toNat+1)/2:Nat):Int)-1=x.toInt by omega,Avr]
theorem L7{α:Type}(ch c:Nat)(f g:α->Nat->α)(a0:α):∀m:Nat,(∀i,i<m->∀a,f a i=g a i)->pre ch c f a0 m=pre ch c g a0 m
 |0,_=>rfl
 |m+1,h=>by
  rw[pre,pre,L7 ch c f g a0 m λi hi=>h i (by omega),h m (by omega)]
theorem Afw(bits:Int)(ch:Nat)(t:List Int32)(v w:List UInt32)(c i:Nat)(h:i<=v.length):cst bits ch t (v++w) c i=cst bits ch t v c i:=by
 unfold cst;apply L7;intro j hj a;have:(v++w).getD j 0=v.getD j 0:=by
  rw[List.getD_eq_getElem?_getD,List.getD_eq_getElem?_getD,List.getElem?_append_left (by omega)]
 rw[this]
def vR(bits:Int)(s:CS)(x:Int32):Int32:=x-gs (shB bits) s.1-gF (sB bits) s.2.1 s.2.2
theorem M2(bits:Int)(s:CS)(x:Int32):ng bits s (vR bits s x)=x:=by
 rw[ng,vR,UH,UH]
def evl(bits:Int)(ch:Nat)(t m:List Int32):Nat->List UInt32
 |0=>[]
 |i+1=>evl bits ch t m i++[iO (vR bits (cst bits ch t (evl bits ch t m i) (i %ch) i) (m.getD i 0))]
theorem kO(bits:Int)(ch:Nat)(t m:List Int32):∀i,(evl bits ch t m i).length=i
 |0=>rfl
 |i+1=>by rw[evl,Abw,kO bits ch t m i];rfl
theorem dz(bits:Int)(ch:Nat)(t m:List Int32):∀(j i:Nat),∃w,evl bits ch t m (i+j)=evl bits ch t m i++w
 |0,i=>⟨[],by simp⟩
 |j+1,i=>by
  obtain⟨w,hw⟩:=dz bits ch t m j i;rw[<-Avm,evl,hw];exact⟨_,Ab2 _ _ _⟩
theorem Ao1(bits:Int)(ch:Nat)(t m:List Int32):rH bits ch t (evl bits ch t m m.length)=m:=by
 have hl:=kO bits ch t m m.length;apply Avq (by rw[bO,hl]);intro i h1 h2;rw[<-Hg h1,<-Hg h2,Z4 _ _ _ _ (by omega)];obtain⟨w,hw⟩:=dz bits ch t m (m.length-(i+1)) (i+1);rw[show i+1+(m.length-(i+1))=m.length by omega,evl,Ab2]at hw;have hli:=kO bits ch t m i;rw[hw,Afw _ _ _ _ _ _ _ (by omega)];have hg:(evl bits ch t m i++([iO (vR bits (cst bits ch t (evl bits ch t m i) (i %ch) i) (m.getD i 0))]++w)).getD i 0=iO (vR bits (cst bits ch t (evl bits ch t m i) (i %ch) i) (m.getD i 0)):=by
  rw[List.getD_eq_getElem?_getD,List.getElem?_append_right (by omega),hli,Nat.sub_self];rfl
 rw[hg,Al8,M2]
def tb(l:List Bool)(k:Nat):Nat:=if l.getD k false=true then 1 else 0
theorem Aej(b:Bool)(l:List Bool):tb (b::l) 0=if b=true then 1 else 0:=rfl
theorem Afd(b:Bool)(l:List Bool)(k:Nat):tb (b::l) (k+1)=tb l k:=by simp[tb]
theorem Afk{a b:List Bool}{k:Nat}(h:k<a.length):tb (a++b) k=tb a k:=by
 rw[tb,tb,List.getD_eq_getElem?_getD,List.getD_eq_getElem?_getD,List.getElem?_append_left h]
theorem T0(a b:List Bool)(k:Nat):tb (a++b) (a.length+k)=tb b k:=by
 rw[tb,tb,List.getD_eq_getElem?_getD,List.getD_eq_getElem?_getD,List.getElem?_append_right (by omega),Aw1]
theorem Y2{l:List Bool}{k:Nat}(h:l.length<=k):tb l k=0:=by
 rw[tb,List.getD_eq_getElem?_getD,List.getElem?_eq_none h];rfl
def At(p:List UInt8)(a:Nat)(c:List Bool):Prop:=∀i,i<c.length->Fp p (a+i)=tb c i
theorem At.left{p:List UInt8}{a:Nat}{c d:List Bool}(h:At p a (c++d)):At p a c:=λi hi=>by
 rw[h i (by rw[Abw];omega),Afk hi]
theorem At.right{p:List UInt8}{a:Nat}{c d:List Bool}(h:At p a (c++d)):At p (a+c.length) d:=λi hi=>by
 rw[Avm,h (c.length+i) (by rw[Abw];omega),T0]
theorem At.cons{p:List UInt8}{a:Nat}{b:Bool}{c:List Bool}(h:At p a (b::c)):Fp p a=(if b=true then 1 else 0)/\At p (a+1) c:=by
 have h0:=h 0 (by simp);rw[Axv,Aej]at h0;refine⟨h0,λi hi=>?_⟩;have:=h (i+1) (by simp;omega);rw[Afd]at this;rw[show a+1+i=a+(i+1) by omega,this]
def cM:Nat->Nat->List Bool
 |_,0=>[]
 |v,n+1=>decide (v %2=1)::cM (v/2) n
theorem Pe:∀(v n:Nat),(cM v n).length=n
 |_,0=>rfl
 |v,n+1=>by rw[cM,Aj2,Pe (v/2) n]
theorem HA(p:List UInt8):∀(n a v:Nat),At p a (cM v n)->Bl p a n=v %2^n
 |0,a,v,_=>by rw[Bl,Nat.pow_zero,Nat.mod_one]
 |n+1,a,v,h=>by
  rw[cM]at h;obtain⟨h0,h1⟩:=h.cons;rw[Bl,h0,HA p n (a+1) (v/2) h1,Atb,Aor (2^n) 2,Nat.mod_mul];have:=Nat.mod_two_eq_zero_or_one v;rcases this with e|e<;>simp[e]
theorem yC(p:List UInt8):∀(q m a:Nat) (c:List Bool),At p a (List.replicate q true++c)->q<=m->Ez p a m=q+Ez p (a+q) (m-q)
 |0,m,a,c,h,hm=>by simp
 |q+1,m,a,c,h,hm=>by
  rw[Awh,Ayc]at h;obtain⟨h0,h1⟩:=h.cons;obtain⟨m,rfl⟩:∃k,m=k+1:=⟨m-1,by omega⟩;rw[Ez,Abb (by rw[h0];rfl),yC p q m (a+1) c h1 (by omega),show a+1+q=a+(q+1) by omega,show m+1-(q+1)=m-q by omega];omega
theorem Ao4{p:List UInt8}{a m:Nat}(h:Fp p a=0):Ez p a m=0:=by
 cases m with
 |zero=>rfl
 |succ m=>rw[Ez,Aba (by omega)]
def PZ(l v:Nat):List Bool:=if 48<=v/2^l then List.replicate 48 true++cM v 32 else List.replicate (v/2^l) true++(false::cM (v %2^l) l)
theorem Aix{l v:Nat}(hl:l<=24):1<= (PZ l v).length/\ (PZ l v).length<=80:=by
 rw[PZ];generalize v/2^l=q;split
 ·rw[Abw,Aps,Pe];omega
 ·rw[Abw,Aps,Aj2,Pe];omega
theorem Ag9{p:List UInt8}{N a l v:Nat}(hl:l<=24)(hv:v<2^32)(h:At p a (PZ l v))(hN:a+(PZ l v).length<=N):TF p N a l=(UInt32.ofNat v,((a+(PZ l v).length:Nat):Int),0):=by
 rw[PZ]at h hN⊢;by_cases h48:48<=v/2^l
 ·rw[Abb h48]at h hN⊢;rw[Abw,Aps,Pe]at hN⊢;have hm:min 48 (N-a)=48:=by omega
  have ho:=yC p 48 48 a (cM v 32) h (Aj3 _);rw[Nat.sub_self,Ez,Axv]at ho;have hr:=h.right;rw[Aps]at hr;have hval:=HA p 32 (a+48) v hr;rw[Abk hv]at hval;rw[TF,Aba (by omega),hm,ho,Aba (by omega),Abb rfl,Aba (by omega),hval,Aba (by omega)]
 ·rw[Aba h48]at h hN⊢;rw[Abw,Aps,Aj2,Pe]at hN⊢;generalize hq:v/2^l=q at*
  have hr:=h.right;rw[Aps]at hr;obtain⟨h0,h1⟩:=hr.cons;have hm:q<min 48 (N-a):=by omega
  have ho:=yC p q (min 48 (N-a)) a _ h (by omega);rw[Ao4 (a:=a+q) (m:=min 48 (N-a)-q) (by rw[h0];rfl),Axv]at ho;have hval:=HA p l (a+q+1) (v %2^l) h1;rw[Nat.mod_mod]at hval;have hdm:=Azz v (2^l);rw[hq,Aor]at hdm;rw[TF,Aba (by omega),ho,Abb hm,Aba (by omega),hval,hdm,show a+q+1+l=a+(q+(l+1)) by omega]
def Ok(k l:Nat)(v:UInt32):List Bool:=if v.toNat<2^k then false::cM v.toNat k else true::PZ l (v.toNat-2^k)
theorem XA{k l:Nat}(v:UInt32)(hk:k<=24)(hl:l<=24):1<= (Ok k l v).length/\ (Ok k l v).length<=81:=by
 have:=Aix (v:=v.toNat-2^k) hl;rw[Ok];split
 ·rw[Aj2,Pe];omega
 ·rw[Aj2];omega
theorem Ai6{p:List UInt8}{N a k l:Nat}{v:UInt32}(hk:k<=24)(hl:l<=24)(h:At p a (Ok k l v))(hN:a+(Ok k l v).length<=N):YX p N a k l=(v,((a+(Ok k l v).length:Nat):Int),0):=by
 have Bb8:=v.toNat_lt;have hof:UInt32.ofNat v.toNat=v:=by simp
 rw[Ok]at h hN⊢;by_cases hs:v.toNat<2^k
 ·rw[Abb hs]at h hN⊢;rw[Aj2,Pe]at hN⊢;obtain⟨h0,h1⟩:=h.cons;have hval:=HA p k (a+1) v.toNat h1;rw[Abk hs]at hval;rw[YX,Aba (by omega),Abb (by rw[h0];rfl),Aba (by omega),hval,hof,show a+1+k=a+(k+1) by omega]
 ·rw[Aba hs]at h hN⊢;rw[Aj2]at hN⊢;obtain⟨h0,h1⟩:=h.cons;have hsub:=Nat.sub_le v.toNat (2^k);have hr:=Ag9 hl (by omega:v.toNat-2^k<2^32) h1 (by omega:a+1+_<=N);have ht:(UInt32.ofNat (v.toNat-2^k)).toNat=v.toNat-2^k:=by rw[Aj1];exact Abk (by omega)
  rw[YX,Aba (by omega),Aba (by rw[h0];decide),hr];simp only;rw[Aba (by decide),ht,Aba (by omega),show v.toNat-2^k+2^k=v.toNat by omega,hof,show a+1+(PZ l (v.toNat-2^k)).length=a+((PZ l (v.toNat-2^k)).length+1) by omega]
def bv:List Bool->Nat
 |[]=>0
 |b::r=>(if b=true then 1 else 0)+2*bv r
theorem As8:∀l:List Bool,bv l<2^l.length
 |[]=>by decide
 |b::r=>by
  have:=As8 r;rw[bv,Aj2,Atb];split<;>omega
theorem Ami:∀(l:List Bool) (k:Nat),bv l/2^k %2=tb l k
 |[],k=>by simp[bv,tb]
 |b::r,0=>by
  rw[bv,Aej,Nat.pow_zero,Nat.div_one];split<;>omega
 |b::r,k+1=>by
  have:((if b=true then 1 else 0)+2*bv r)/2=bv r:=by split<;>omega
  rw[bv,Afd,Atb,Aor (2^k) 2,<-Ax4,this,Ami r k]
def Jc(c:List Bool):List UInt8:=(List.range ((c.length+7)/8)).map λj=>UInt8.ofNat (bv ((c.drop (8*j)).take 8))
theorem Vt(c:List Bool):(Jc c).length=(c.length+7)/8:=by simp[Jc]
theorem AD(c:List Bool)(i:Nat):Fp (Jc c) i=tb c i:=by
 rw[Fp];by_cases h:i/8<(c.length+7)/8
 ·have hg:(Jc c).getD (i/8) 0=UInt8.ofNat (bv ((c.drop (8*(i/8))).take 8)):=by
   rw[List.getD_eq_getElem?_getD,List.getElem?_eq_getElem (by rw[Vt];exact h)];simp[Jc]
  have hlt:=As8 ((c.drop (8*(i/8))).take 8);have hl8:((c.drop (8*(i/8))).take 8).length<=8:=by rw[Aiq];omega
  have hp:=Aef (show 0<2 by omega) hl8;have hn:(UInt8.ofNat (bv ((c.drop (8*(i/8))).take 8))).toNat=bv ((c.drop (8*(i/8))).take 8):=by
   rw[Aoi];exact Abk (by omega)
  rw[hg,hn,Ami,tb,tb];have:((c.drop (8*(i/8))).take 8).getD (i %8) false=c.getD i false:=by
   rw[List.getD_eq_getElem?_getD,List.getD_eq_getElem?_getD,List.getElem?_take,Abb (by omega),List.getElem?_drop,show 8*(i/8)+i %8=i by omega]
  rw[this]
 ·have hg:(Jc c).getD (i/8) 0=0:=by
   rw[List.getD_eq_getElem?_getD,List.getElem?_eq_none (by rw[Vt];omega)];rfl
  rw[hg,Y2 (by omega)];simp
def Oc(ch:Nat)(V:List UInt32):Nat->List Bool
 |0=>[]
 |i+1=>Oc ch V i++Ok (now ch (V.take i)).1 (now ch (V.take i)).2.1 (V.getD i 0)
theorem R7(ch:Nat)(v:List UInt32):(now ch v).1<=24/\ (now ch v).2.1<=24:=by
 have:=gQ ch v (v.length %ch) v.length;exact⟨this.1,this.2.1⟩
theorem xg(ch:Nat)(V:List UInt32):∀(j i:Nat),∃w,Oc ch V (i+j)=Oc ch V i++w
 |0,i=>⟨[],by simp⟩
 |j+1,i=>by
  obtain⟨w,hw⟩:=xg ch V j i;rw[<-Avm,Oc,hw];exact⟨_,Ab2 _ _ _⟩
theorem fC(ch:Nat)(V:List UInt32):∀i,(Oc ch V i).length<=81*i
 |0=>by simp[Oc]
 |i+1=>by
  have h:=R7 ch (V.take i);have:=XA (V.getD i 0) h.1 h.2;rw[Oc,Abw];have:=fC ch V i;omega
theorem P7(ch:Nat)(V:List UInt32)(N:Nat)(hN:(Oc ch V V.length).length<=N):∀(j i:Nat),i+j=V.length->Wk ch (Jc (Oc ch V V.length)) N j (Oc ch V i).length (V.take i)=(V,(Oc ch V V.length).length,0)
 |0,i,h=>by
  obtain rfl:i=V.length:=by omega
  rw[Wk,Ax1]
 |j+1,i,h=>by
  obtain⟨w,hw⟩:=xg ch V j (i+1);rw[show i+1+j=V.length by omega]at hw;have hk:=R7 ch (V.take i);have hcl:=XA (V.getD i 0) hk.1 hk.2;have hAt:At (Jc (Oc ch V V.length)) (Oc ch V i).length (Ok (now ch (V.take i)).1 (now ch (V.take i)).2.1 (V.getD i 0)):=by
   intro m hm;rw[AD,hw,Oc,Ab2,T0,Afk hm]
  have hlen:(Oc ch V i).length+(Ok (now ch (V.take i)).1 (now ch (V.take i)).2.1 (V.getD i 0)).length<= (Oc ch V V.length).length:=by
   rw[hw,Oc,Abw,Abw];omega
  have ih:=P7 ch V N hN j (i+1) (by omega);rw[Oc,Abw]at ih;generalize Jc (Oc ch V V.length)=p at*
  generalize(Oc ch V i).length=a at*
  have hw2:(Ok (now ch (V.take i)).1 (now ch (V.take i)).2.1 (V.getD i 0)).length<=rK N a:=by unfold rK;omega
  have hAt2:At (Ng p a (rK N a)) 0 (Ok (now ch (V.take i)).1 (now ch (V.take i)).2.1 (V.getD i 0)):=by
   intro m hm;rw[Avi,oK,Abb (by omega),hAt m hm]
  have hb:=Ai6 hk.1 hk.2 hAt2 (by omega:0+_<=rK N a);have hcode:Jy ch p N a (V.take i)=(V.getD i 0,((0+(Ok (now ch (V.take i)).1 (now ch (V.take i)).2.1 (V.getD i 0)).length:Nat):Int),0):=hb;rw[Wk,hcode];simp only;rw[Aba (by decide),Avi,Ajv];have ht:V.take i++[V.getD i 0]=V.take (i+1):=by
   have hg:V.getD i 0=V[i]:=by rw[List.getD_eq_getElem?_getD,List.getElem?_eq_getElem (by omega)];rfl
   rw[hg,Nd (by omega)]
  rw[ht];exact ih
def P64:Nat:=4823603603198064275
def MR(s:Nat):Nat:=(2*s %18446744073709551616)^^^ (s/9223372036854775808*P64)
theorem YP{s:Nat}(h:s<18446744073709551616):MR s<18446744073709551616:=by
 have h1:s/9223372036854775808=0\/s/9223372036854775808=1:=by omega
 exact Awb (n:=64) (Axr _ (by decide)) (by rcases h1 with e|e<;>rw[e]<;>decide)
theorem Agw(x y:Nat):(x^^^y)/9223372036854775808=(x/9223372036854775808)^^^ (y/9223372036854775808):=by
 have:=Nat.shiftRight_xor_distrib (a:=x) (b:=y) (i:=63);simpa [Nat.shiftRight_eq_div_pow]using this
theorem Aft(x y:Nat):2*(x^^^y) %18446744073709551616=(2*x %18446744073709551616)^^^ (2*y %18446744073709551616):=by
 have h1:=Nat.shiftLeft_xor_distrib (a:=x) (b:=y) (i:=1);have h2:=Nat.xor_mod_two_pow (a:=2*x) (b:=2*y) (n:=64);have e:2*(x^^^y)=(2*x)^^^ (2*y):=by simpa [Nat.shiftLeft_eq,Aor]using h1
 rw[e];exact h2
theorem Aqj{a b:Nat}(ha:a=0\/a=1)(hb:b=0\/b=1)(p:Nat):(a^^^b)*p=(a*p)^^^ (b*p):=by
 rcases ha with rfl|rfl<;>rcases hb with rfl|rfl<;>simp
theorem Ayf(a b c d:Nat):(a^^^b)^^^ (c^^^d)=(a^^^c)^^^ (b^^^d):=by
 rw[Axy,Axy,<-Axy b c d,Bal b c,Axy c b d]
theorem Acy{x y:Nat}(hx:x<18446744073709551616)(hy:y<18446744073709551616):MR (x^^^y)=MR x^^^MR y:=by
 rw[MR,MR,MR,Aft,Agw,Aqj (by omega) (by omega),Ayf]
def Mv:Nat->Nat->Nat
 |0,s=>s
 |k+1,s=>Mv k (MR s)
theorem rT:∀(k:Nat) {s:Nat},s<18446744073709551616->Mv k s<18446744073709551616
 |0,_,h=>h
 |k+1,_,h=>rT k (YP h)
theorem zN:∀(k:Nat) {x y:Nat},x<18446744073709551616->y<18446744073709551616->Mv k (x^^^y)=Mv k x^^^Mv k y
 |0,_,_,_,_=>rfl
 |k+1,x,y,hx,hy=>by rw[Mv,Acy hx hy,zN k (YP hx) (YP hy)];rfl
theorem wX:∀(k h:Nat),2^k*h<18446744073709551616->Mv k h=2^k*h
 |0,h,_=>by simp[Mv]
 |k+1,h,hl=>by
  have hpos:0<2^k:=Ax3 (by omega);rw[Atb,Azp]at hl;have h2:2*h<18446744073709551616:=Axx (Nat.le_mul_of_pos_left _ hpos) hl;have:MR h=2*h:=by rw[MR,Abk h2,show h/9223372036854775808=0 by omega];simp
  rw[Mv,this,wX k _ hl,Atb,Azp]
def iP(s c:Nat):Nat:=Mv 8 (s^^^ (c*72057594037927936))
theorem c56{c:Nat}(hc:c<256):c*72057594037927936<18446744073709551616:=by omega
theorem tA{s c:Nat}(h:s<18446744073709551616)(hc:c<256):iP s c<18446744073709551616:=rT 8 (Awb (n:=64) h (c56 hc))
theorem Ap5(s:Nat):s=(s/72057594037927936*72057594037927936)^^^ (s %72057594037927936):=by
 have h1:s %72057594037927936<2^56:=Axr _ (by decide);have:=Awk h1 (s/72057594037927936);have h2:2^56*(s/72057594037927936)|||s %72057594037927936=(2^56*(s/72057594037927936))^^^ (s %72057594037927936):=by
  apply Nat.eq_of_testBit_eq;intro i;rw[Nat.testBit_or,Nat.testBit_xor];by_cases hi:i<56
  ·have:(2^56*(s/72057594037927936)).testBit i=false:=by rw[Nat.testBit_two_pow_mul];simp;omega
   rw[this];simp
  ·have:(s %72057594037927936).testBit i=false:=Nat.testBit_lt_two_pow (Aj5 h1 (Aef (by omega) (by omega)));rw[this];simp
 rw[Aor (s/72057594037927936)]
 show s=(2^56*(s/72057594037927936))^^^ _;rw[<-h2,<-this];have:=Azz s 72057594037927936
 show s=72057594037927936*_+_;omega
theorem Ahr(a c:Nat):(a^^^c)*72057594037927936=(a*72057594037927936)^^^ (c*72057594037927936):=by
 have h1:=Nat.shiftLeft_xor_distrib (a:=a) (b:=c) (i:=56);simpa [Nat.shiftLeft_eq]using h1
theorem T4{s c:Nat}(h:s<18446744073709551616)(hc:c<256):iP s c=(256*s %18446744073709551616)^^^Mv 8 (((s/72057594037927936)^^^c)*72057594037927936):=by
 have hs:s/72057594037927936<2^8:=by show _<256;omega
 have hx:(s/72057594037927936)^^^c<256:=Awb (n:=8) hs (by simpa using hc);have hl:s %72057594037927936<72057594037927936:=Axr _ (by decide);rw[iP]
 conv=>lhs;rw[Ap5 s]
 rw[Bal (s/72057594037927936*72057594037927936),Axy,<-Ahr,zN 8 (by omega) (c56 hx),wX 8 _ (by show 256*_<_;omega)];congr 1
 show 256*(s %72057594037927936)=_;omega
def yS(s:Nat)(l:List UInt8):Nat:=l.foldl (λs c=>iP s c.toNat) s
theorem I6{n:Nat}(h:n<18446744073709551616):(UInt64.ofNat n).toNat=n:=by rw[Afg];exact Abk h
theorem Ati(s:UInt64)(bit:Nat)(hb:bit=0\/bit=1):EG s (bit:Int)=some (UInt64.ofNat ((2*s.toNat %18446744073709551616)^^^ (((s.toNat/9223372036854775808)^^^bit)*P64))):=by
 have hs:=s.toNat_lt;have ht:s.toNat/9223372036854775808=0\/s.toNat/9223372036854775808=1:=by omega
 have e1:(Bd s (2:UInt64)).toNat=2*s.toNat %18446744073709551616:=by
  rw[KI,UInt64.toNat_mul];show s.toNat*2 %_=_;rw[Aor]
 have hlt:2*s.toNat %18446744073709551616<18446744073709551616:=Axr _ (by decide);have ey:Rn (Bd s (2:UInt64)) (4823603603198064275:UInt64)=UInt64.ofNat ((2*s.toNat %18446744073709551616)^^^P64):=by
  apply UInt64.toNat_inj.1;rw[xH,UInt64.toNat_xor,e1,I6 (Awb (n:=64) hlt (by decide))];rfl
 have en:Bd s (2:UInt64)=UInt64.ofNat (2*s.toNat %18446744073709551616):=by
  apply UInt64.toNat_inj.1;rw[e1,I6 hlt]
 have eg:Ly s (9223372036854775808:UInt64)=decide (s.toNat/9223372036854775808=1):=by
  rw[Ao0,decide_eq_decide]
  show 9223372036854775808<=s.toNat↔_;omega
 have hp:∀b:Bool,Uf s b=some (if b=true then UInt64.ofNat ((2*s.toNat %18446744073709551616)^^^P64)else UInt64.ofNat (2*s.toNat %18446744073709551616)):=by
  intro b;rw[Uf,KY,ey,en];cases b<;>rfl
 rw[EG,KB,hp,hp,eg];rcases hb with rfl|rfl<;>rcases ht with h|h<;>rw[h]<;>simp[Be]
theorem vJ(c:UInt8):∀(j q:Nat) (s:UInt64),j<=8->j<q->Ji c q s ((2^j/2:Nat):Int)=some (UInt64.ofNat (Mv j (s.toNat^^^ (c.toNat %2^j*2^(64-j)))))
 |0,q+1,s,_,_=>by
  rw[Ji,Vq,Aba (by rw[Am];simp),JB,LH];simp[Mv,Nat.mod_one]
 |j+1,q+1,s,hj,hq=>by
  have hc:=c.toNat_lt;have hs:=s.toNat_lt;have hj2:2^j<=2^7:=Aef (by omega) (by omega);have hpos:0<2^j:=Ax3 (by omega);have e1:2^(j+1)/2=2^j:=by rw[Atb];omega
  have e2:Bv ((2^j:Nat):Int) 2=((2^j/2:Nat):Int):=by
   generalize 2^j=K at*
   rw[MG,Aws (by omega),Bo (by omega) (by omega)];omega
  have e3:Ga (Bv (Ad c:Int) ((2^j:Nat):Int)) (2:Int)=((c.toNat/2^j %2:Nat):Int):=by
   have hX:=As9 c.toNat (2^j);rw[OQ,MG,<-Int.ofNat_tdiv];generalize c.toNat/2^j=X at*
   rw[Bo (by omega) (by omega),Ga,Azb (by omega)];omega
  have hbit:c.toNat/2^j %2=0\/c.toNat/2^j %2=1:=by omega
  rw[Ji,Vq,e1,Abb (by rw[Am,Ab1];omega),Bf (by rw[Ak,Bak];omega),Aa,e3,Ati s _ hbit,Aa,e2,vJ c j q _ (by omega) (by omega)];congr 2;rw[Mv];congr 1;have hx:c.toNat %2^(j+1)*2^(64-(j+1))=(c.toNat/2^j %2)*9223372036854775808+c.toNat %2^j*2^(63-j):=by
   have h63:(9223372036854775808:Nat)=2^j*2^(63-j):=by rw[<-Az6,show j+(63-j)=63 by omega]
   rw[Nat.mod_pow_succ,h63,show 64-(j+1)=63-j by omega,Au7,Azw,Azp,Nat.mul_left_comm]
  have hr:c.toNat %2^j<2^j:=Axr _ hpos;have Bca:c.toNat %2^j*2^(63-j)<9223372036854775808:=by
   have h63:(9223372036854775808:Nat)=2^j*2^(63-j):=by rw[<-Az6,show j+(63-j)=63 by omega]
   rw[h63];exact Nat.mul_lt_mul_of_pos_right hr (Ax3 (by omega))
  have h64:c.toNat %2^j*2^(64-j)=2*(c.toNat %2^j*2^(63-j)):=by
   rw[show 64-j=(63-j)+1 by omega,Atb,<-Azp,Aor]
  rw[hx,h64];generalize c.toNat %2^j*2^(63-j)=R at*
  generalize c.toNat/2^j %2=b at*
  have ht:s.toNat/9223372036854775808=0\/s.toNat/9223372036854775808=1:=by omega
  have hp:((s.toNat/9223372036854775808^^^b)*P64)<18446744073709551616:=by
   rcases ht with h|h<;>rcases hbit with h2|h2<;>rw[h,h2]<;>decide
  rw[I6 (Awb (n:=64) (Axr _ (by decide)) hp),MR,Aft,Agw,show(b*9223372036854775808+R)/9223372036854775808=b by omega,show 2*(b*9223372036854775808+R) %18446744073709551616=2*R by omega,Axy,Axy,Bal (2*R)]
theorem Atq(c:UInt8)(s:UInt64):TN s c=some (UInt64.ofNat (iP s.toNat c.toNat)):=by
 have h:=vJ c 8 Aq s (Aj3 _) (by have:=Al;omega);have hc:=c.toNat_lt;rw[Abk (show c.toNat<2^8 by simpa using hc)]at h;exact h
theorem mC(b:List UInt8)(hb:b.length<4611686018427387904):∀(j i q:Nat) (s:UInt64),i+j=b.length->j<q->Hj b q s (i:Int)=some (UInt64.ofNat (yS s.toNat (b.drop i)))
 |0,i,q+1,s,hi,_=>by
  rw[Hj,Re,Aba (by rw[Af,Ac];simp;omega),show i=b.length by omega,Ayy];simp[DT,DV,yS]
 |j+1,i,q+1,s,hi,hq=>by
  have hlt:i<b.length:=by omega
  have hc:=b[i].toNat_lt;rw[Hj,Re,Abb (by rw[Af,Ac];simp;omega),Ck hlt,Aa,Atq,Aa,Ag];have h:=mC b hb j (i+1) q (UInt64.ofNat (iP s.toNat b[i].toNat)) (by omega) (by omega);rw[show((i:Int)+1)=((i+1:Nat):Int) by omega,h,drop_cons hlt,I6 (tA s.toNat_lt (by simpa using hc))];rfl
def Xr(b:List UInt8):UInt64:=UInt64.ofNat (yS 0 b)
theorem Aac(b:List UInt8)(hb:b.length<=100000):Wu 0 b=some (Xr b):=
 mC b (by omega) b.length 0 Aq 0 (by omega) (by have:=Al;omega)
theorem Ac2(c:UInt64):Rn (Cr c (GI.toZ (1:UInt64)).toNat) (Bd (4823603603198064275:UInt64) (Bt c (GI.toZ (63:UInt64)).toNat))=UInt64.ofNat (MR c.toNat):=by
 have hc:=c.toNat_lt;apply UInt64.toNat_inj.1;have h1:(Cr c (GI.toZ (1:UInt64)).toNat).toNat=2*c.toNat %18446744073709551616:=by
  rw[show(GI.toZ (1:UInt64)).toNat=1 from rfl,SW,Aor]
 have h2:(Bd (4823603603198064275:UInt64) (Bt c (GI.toZ (63:UInt64)).toNat)).toNat=c.toNat/9223372036854775808*P64:=by
  rw[show(GI.toZ (63:UInt64)).toNat=63 from rfl,KI,UInt64.toNat_mul,EV]
  show 4823603603198064275*(c.toNat/9223372036854775808) %18446744073709551616=_;have h1:c.toNat/9223372036854775808=0\/c.toNat/9223372036854775808=1:=by omega
  rcases h1 with e|e<;>rw[e]<;>decide
 rw[xH,UInt64.toNat_xor,h1,h2,I6 (YP hc)];rfl
theorem uH(Li:Int->List UInt64->Option (UInt64×Int))(s:UInt64)(b:List UInt8)(x:Int)(t:List UInt64):∀(j i q:Nat) (c:UInt64),i+j=8->j<q->
  Qb Li s b x t q c (i:Int)=CC Li s b x (UInt64.ofNat (Mv j c.toNat)) t
 |0,i,q+1,c,hi,_=>by
  obtain rfl:i=8:=by omega
  rw[Qb,BI,Aba (by rw[Af];simp),Mv,UInt64.ofNat_toNat]
 |j+1,i,q+1,c,hi,hq=>by
  rw[Qb,BI,Abb (by rw[Af];simp;omega),Ac2,Ag,show((i:Int)+1)=((i+1:Nat):Int) by omega,uH Li s b x t j (i+1) q _ (by omega) (by omega),I6 (YP c.toNat_lt)];rfl
def UR(n:Nat):List UInt64:=(List.range n).map λi=>UInt64.ofNat (Mv 8 (i*72057594037927936))
theorem zA(s:UInt64)(b:List UInt8):∀(j i q:Nat),i+j=256->j<q->Ma s b q (i:Int) (UR i++List.replicate j 0)=DM s b (UR 256)
 |0,i,q+1,hi,_=>by
  obtain rfl:i=256:=by omega
  rw[Ma,DB,Aba (by rw[Af];simp)];simp
 |j+1,i,q+1,hi,hq=>by
  have hlen:(UR i++List.replicate (j+1) 0).length=i+(j+1):=by simp[UR]
  rw[Ma,DB,Abb (by rw[Af];simp;omega),SO];have h:=uH (Ma s b q) s b (i:Int) (UR i++List.replicate (j+1) 0) 8 0 Aq (Cr (Ad (i:Int):UInt64) (GI.toZ (56:UInt64)).toNat) (by omega) (by have:=Al;omega);rw[show((0:Int))=((0:Nat):Int)from rfl,h,CC,PQ,Ck (by rw[hlen];omega),Aa,Rj _ (by rw[hlen];omega),Aa,QC,eT,Ag];have e:(Cr (Ad (i:Int):UInt64) (GI.toZ (56:UInt64)).toNat).toNat=i*72057594037927936:=by
   rw[SW,Nf,I6 (by omega)]
   show i*72057594037927936 %18446744073709551616=_;omega
  rw[e,Awh,ZB (by simp[UR])];have h2:=zA s b j (i+1) q (by omega) (by omega);have h3:UR (i+1)=UR i++[UInt64.ofNat (Mv 8 (i*72057594037927936))]:=by simp[UR,List.range_succ]
  rw[h3]at h2;rw[show((i:Int)+1)=((i+1:Nat):Int) by omega,<-h2];simp
theorem Aiv{i:Nat}(h:i<256):Aj (UR 256) (i:Int)=some (UInt64.ofNat (Mv 8 (i*72057594037927936))):=by
 rw[Ck (by simpa [UR]using h)];simp[UR]
theorem Abo(s:UInt64)(c:UInt8):Aj (UR 256) (GI.toZ (Rn (Ad (Bt s (GI.toZ (56:UInt64)).toNat):UInt8) c))=some (UInt64.ofNat (Mv 8 (((s.toNat/72057594037927936)^^^c.toNat)*72057594037927936))):=by
 have hs:=s.toNat_lt;have e:GI.toZ (Rn (Ad (Bt s (GI.toZ (56:UInt64)).toNat):UInt8) c)=(((s.toNat/72057594037927936)^^^c.toNat:Nat):Int):=by
  have e2:((Ad (Bt s (GI.toZ (56:UInt64)).toNat):UInt8)).toNat=s.toNat/72057594037927936:=by
   rw[SB,Aoi,EV]
   show s.toNat/72057594037927936 %256=_;omega
  rw[Zq,Aew,UInt8.toNat_xor,e2]
 rw[e,Aiv];exact Awb (n:=8) (by show _<256;omega) (by simpa using c.toNat_lt)
theorem T7(s:UInt64)(c:UInt8):Rn (Cr s (GI.toZ (8:UInt64)).toNat) (UInt64.ofNat (Mv 8 (((s.toNat/72057594037927936)^^^c.toNat)*72057594037927936)))=UInt64.ofNat (iP s.toNat c.toNat):=by
 have hs:=s.toNat_lt;have hc:c.toNat<256:=by simpa using c.toNat_lt
 apply UInt64.toNat_inj.1;have hlt:Mv 8 (((s.toNat/72057594037927936)^^^c.toNat)*72057594037927936)<18446744073709551616:=rT 8 (c56 (Awb (n:=8) (by show _<256;omega) (by simpa using c.toNat_lt)));have e:(GI.toZ (8:UInt64)).toNat=8:=rfl;rw[e,xH,UInt64.toNat_xor,SW,I6 hlt,I6 (tA hs hc),T4 hs hc,Aor s.toNat]
theorem uJ(b:List UInt8)(s0:UInt64)(hb:b.length<4611686018427387904):∀(j i q:Nat) (s:UInt64),i+j=b.length->j<q->Pp b s0 (UR 256) q s (i:Int)=some (UInt64.ofNat (yS s.toNat (b.drop i)),0)
 |0,i,q+1,s,hi,_=>by
  rw[Pp,CV,Aba (by rw[Af,Ac];simp;omega),show i=b.length by omega,Ayy];simp[RN,PJ,RC,gR,yS]
 |j+1,i,q+1,s,hi,hq=>by
  have hlt:i<b.length:=by omega
  have hc:=b[i].toNat_lt;rw[Pp,CV,Abb (by rw[Af,Ac];simp;omega),Ck hlt,Aa,Abo,Aa,Aa,T7,Ag];have h:=uJ b s0 hb j (i+1) q (UInt64.ofNat (iP s.toNat b[i].toNat)) (by omega) (by omega);rw[show((i:Int)+1)=((i+1:Nat):Int) by omega,h,drop_cons hlt,I6 (tA s.toNat_lt (by simpa using hc))];rfl
theorem Aam(b:List UInt8)(hb:b.length<=100000):XQ b=some (Xr b,0):=by
 have h:=zA 0 b 256 0 Aq (by omega) (by have:=Al;omega);have h2:=uJ b 0 (by omega) b.length 0 Aq 0 (by omega) (by have:=Al;omega);have hn:bF 0 b=some (Xr b,0):=by
  rw[bF,WG,Aba (by rw[Am,Ac];simp;omega),QS];refine Axb h ?_;rw[DM,PD,PW];exact h2
 rw[XQ,hn,Aa]
theorem sA(p:List UInt8)(hp:p.length<=64):DS p=some (Kq (Xr p).toNat 8,0):=by
 rw[DS,sY,Aba (by rw[Am,Ac];simp;omega),Aam p (by omega),Aa,Aa];simp only;have h:=EE (Xr p) 8 (by omega) (by omega) (by simpa using(Xr p).toNat_lt);rw[Aba (by rw[Ak];simp)];exact congrArg (λo=>Option.bind o λx:List UInt8×Int=>some (x.1,x.2)) h
theorem K1(p:List UInt8)(hp:p.length<=64):Jl p=some (Kq (Xr p).toNat 8):=by
 have h:=B4 (Xr p) 8 (by omega);rw[Jl,UG,Aac p (by omega),Aa,Aa];exact congrArg (λo=>Option.bind o λl=>some l) h
def s8(n:Nat):Int32:=Int32.ofInt (if n<128 then(n:Int)else(n:Int)-256)
def UE(d:UInt64)(n:Nat):List Int32:=(List.range n).map λi=>s8 (d.toNat/256^i %256)
theorem XW(d:UInt64)(n:Nat):(UE d n).length=n:=by simp[UE]
theorem E7(d:UInt64)(n:Nat):UE d (n+1)=UE d n++[s8 (d.toNat/256^n %256)]:=by simp[UE,List.range_succ]
theorem bm8(z:Nat):(z:Int).bmod Int8.size=if z %256<128 then((z %256:Nat):Int)else((z %256:Nat):Int)-256:=by
 rw[show Int8.size=256 from rfl,Int.bmod_def];split<;>split<;>omega
theorem Afu(d:UInt64):∀(j i q:Nat),i+j=8->j<q->HP d q (i:Int) (UE d i++List.replicate (16-i) 0)=some (UE d 8++List.replicate 8 0)
 |0,i,q+1,hi,_=>by
  obtain rfl:i=8:=by omega
  rw[HP,cJ,Aba (by rw[Af];simp)];rfl
 |j+1,i,q+1,hi,hq=>by
  have hlen:(UE d i++List.replicate (16-i) 0).length=16:=by simp[XW];omega
  have ih:=Afu d j (i+1) q (by omega) (by omega);have e8:Bd (8:Int) (i:Int)=((8*i:Nat):Int):=by rw[Hc];omega
  have ev:(Ad (Ad (Bt d (GI.toZ (((8*i:Nat):Int))).toNat):Int8):Int32)=s8 (d.toNat/256^i %256):=by
   have e1:(Bt d (GI.toZ (((8*i:Nat):Int))).toNat).toNat=d.toNat/256^i:=by
    rw[show(GI.toZ (((8*i:Nat):Int))).toNat=8*i from rfl,EV,Nat.pow_mul]
   show Int32.ofInt (Int8.ofInt ((Bt d (GI.toZ (((8*i:Nat):Int))).toNat).toNat:Int)).toInt=_;rw[e1,s8,Int8.toInt_ofInt,bm8]
  rw[HP,cJ,Abb (by rw[Af];simp;omega),e8,Bf (by rw[De];simp;omega),Aa,ev,Ck,Aa,Rj _ (by omega),Aa,Ag,show 16-i=(15-i)+1 by omega,Awh,ZB (XW d i)];rw[E7,show 16-(i+1)=15-i by omega,Ab2]at ih;exact ih
theorem Alh(d:UInt64):∀(j i q:Nat) (e:UInt64),i+j=8->j<q->e.toNat=d.toNat/256^i->Ja q e (i:Int) (UE d i++List.replicate (16-i) 0)=some (UE d 8++List.replicate 8 0)
 |0,i,q+1,e,hi,_,he=>by
  obtain rfl:i=8:=by omega
  rw[Ja,Yz,Aba (by rw[Af];simp)];rfl
 |j+1,i,q+1,e,hi,hq,he=>by
  have hlen:(UE d i++List.replicate (16-i) 0).length=16:=by simp[XW];omega
  have hq2:(Bv e (256:UInt64)).toNat=d.toNat/256^(i+1):=by
   rw[qJ,Bab,he,Atb,<-Ax4];rfl
  have ih:=Alh d j (i+1) q (Bv e (256:UInt64)) (by omega) (by omega) hq2;have ev:(Ad (BB e (256:UInt64)):Int32)=Int32.ofInt ((d.toNat/256^i %256:Nat):Int):=by
   show Int32.ofInt ((BB e (256:UInt64)).toNat:Int)=_;rw[qg,UInt64.toNat_mod,he];rfl
  have hz:d.toNat/256^i %256<256:=Axr _ (by omega);have et:(Int32.ofInt ((d.toNat/256^i %256:Nat):Int)).toInt=((d.toNat/256^i %256:Nat):Int):=by
   rw[Azn,Bai (by show -(4294967296/2:Int)<= _;omega) (by show _<(4294967296+1)/2;omega)]
  have hp8:∀x:Int32,x=s8 (d.toNat/256^i %256)->Zg (Ja q) e (i:Int) (UE d i++List.replicate (16-i) 0) x=some (UE d 8++List.replicate 8 0):=by
   intro x hx;rw[Zg,RK,hx,Ck,Aa,Rj _ (by omega),Aa,Ag,show 16-i=(15-i)+1 by omega,Awh,ZB (XW d i)];rw[E7,show 16-(i+1)=15-i by omega,Ab2]at ih;exact ih
  rw[Ja,Yz,Abb (by rw[Af];simp;omega),ev,Acu,et,show(127:Int32).toInt=127 from rfl];by_cases h:d.toNat/256^i %256<128
  ·rw[Aba (by simp only[Ab1];omega)];exact hp8 _ (by rw[s8,Abb h])
  ·rw[Abb (by simp only[Ab1];omega)];refine hp8 _ ?_;rw[s8,Aba h,QP,Int32.ofInt_sub];rfl
def Xb(p:List UInt8):List Int32:=UE (Xr p) 8++List.replicate 8 0
theorem nC(p:List UInt8):(Xb p).length=16:=by simp[Xb,XW]
theorem O8(p:List UInt8)(hp:p.length<=64):HW p=some (Xb p,0):=by
 have h:=Afu (Xr p) 8 0 Aq (by omega) (by have:=Al;omega);have h2:S6 (Xr p)=some (Xb p):=h;rw[HW,Aba (by rw[Am,Ac];simp;omega),Aam p (by omega),Aa];simp only;rw[Aba (by rw[Ak];simp),h2,Aa]
theorem zk(p:List UInt8)(hp:p.length<=64):Jq p=some (Xb p,0):=by
 have h:=Alh (Xr p) 8 0 Aq (Xr p) (by omega) (by have:=Al;omega) (by simp);have h2:cV (Xr p)=some (Xb p):=h;rw[Jq,Aba (by rw[Am,Ac];simp;omega),YE,UF,Aba (by rw[Am,Ac];simp;omega),Aac p (by omega),Aa,Aa,Aa];simp only;rw[h2,Aa]
def u8(z:Int):UInt8:=UInt8.ofNat (z %256).toNat
theorem S3(z:Int):u8 (z %256)=u8 z:=by rw[u8,u8];congr 2;omega
def wB(bits:Int):Nat:=if bits=8 then 1 else if bits=16 then 2 else 3
theorem Ann{bits:Int}(h:Bu bits):Bv bits 8=(wB bits:Int):=by obtain rfl|rfl|rfl:=h<;>rfl
theorem Aky(bits:Int):1<=wB bits/\wB bits<=3:=by
 unfold wB;split; · omega
 ·split<;>omega
def HB(bits:Int)(x:Int):List UInt8:=if bits=8 then [u8 (x+128)]else if bits=16 then [u8 x,u8 (x/256)]else [u8 x,u8 (x/256),u8 (x/65536)]
theorem lg(bits x:Int):(HB bits x).length<=3:=by
 unfold HB;split; · simp
 ·split<;>simp
theorem Amd(x:Int32)(k:Nat)(hk:k<=32):(Ad (Bt x k):UInt8)=u8 (x.toInt.fdiv (2^k)):=by
 have h:=Xi x;have e:Bt x k=Int32.ofInt (x.toInt.fdiv (2^k)):=by
  show Int32.ofInt (x.toInt.fdiv (2^min k 32))=_;rw[Aw8 hk]
 have hb: -2147483648<=x.toInt.fdiv (2^k)/\x.toInt.fdiv (2^k)<2147483648:=by
  have hpos:(0:Int)<2^k:=Int.pow_pos (by omega);rw[As3 _ (by omega)];constructor
  ·refine(Int.le_ediv_iff_mul_le hpos).2 ?_;have:(1:Int)<=2^k:=by omega
   have h2: -2147483648*(2^k:Int)<= -2147483648*1:=Int.mul_le_mul_of_nonpos_left (by omega) this;omega
  ·refine Int.ediv_lt_of_lt_mul hpos ?_;have:(1:Int)<=2^k:=by omega
   have h2:(2147483648:Int)*1<=2147483648*2^k:=Int.mul_le_mul_of_nonneg_left this (by omega);omega
 show UInt8.ofNat ((Bt x k).toInt %256).toNat=_;rw[e,Azn,Bai (by show -(4294967296/2:Int)<= _;omega) (by show _<(4294967296+1)/2;omega)];rfl
section
variable (bk:Int->List UInt8->Option (List UInt8×Int)) (l:List Int32)
theorem vW{bits:Int}(h:Bu bits)(c:Int32)(x:Int)(i q:Nat)(acc:List UInt8)(hi:i<wB bits)(ha:acc.length<=100000):
  Hw bk bits l c x (q+1) (i:Int) acc=Hw bk bits l c x q ((i+1:Nat):Int) (acc++[u8 (c.toInt.fdiv (2^(8*i)))]):=by
 have hw:=Aky bits;have e8:Bd (8:Int) (i:Int)=((8*i:Nat):Int):=by rw[Hc];omega
 rw[Hw,Yi,Ann h,Abb (by rw[Af];simp;omega),e8,Bf (by rw[De];simp;omega),Aa,show(GI.toZ (((8*i:Nat):Int))).toNat=8*i from rfl,Amd _ _ (by omega),Cg (by simp;omega),Aa,Ag];rfl
theorem Acz{bits:Int}(h:Bu bits)(c:Int32)(x:Int)(q:Nat)(acc:List UInt8):Hw bk bits l c x (q+1) ((wB bits:Nat):Int) acc=bk (Ae x 1) acc:=by
 rw[Hw,Yi,Ann h,Aba (by rw[Af];simp),MN,dD]
theorem Ato{bits:Int}(h:Bu bits)(c:Int32)(x:Int)(acc:List UInt8)(ha:acc.length<=90000)(hr: -(hB bits)<=c.toInt/\c.toInt<hB bits):
  Ki bk bits l x acc (if bits=8 then Ae c (128:Int32)else c)=bk (Ae x 1) (acc++HB bits c.toInt):=by
 have e:Aq=(Aq-4)+1+1+1+1:=by have:=Al;omega
 have hc:=Xi c;rw[Ki,LZ,MX,e];have g0:=λ(c:Int32) q acc ha=>vW bk l h c x 0 q acc (by have:=Aky bits;omega) ha;obtain rfl|rfl|rfl:=h
 ·have hh:hB 8=128:=rfl;rw[hh]at hr;have e1:(Ae c (128:Int32)).toInt=c.toInt+128:=by
   show(Int32.ofInt (c.toInt+(128:Int32).toInt)).toInt=_;rw[show(128:Int32).toInt=128 from rfl,Azn,Bai (by show -(4294967296/2:Int)<= _;omega) (by show _<(4294967296+1)/2;omega)]
  have g1:=Acz bk l (bits:=8) (.inl rfl) (Ae c (128:Int32)) x (Aq-4+1+1);rw[Abb rfl,show(0:Int)=((0:Nat):Int)from rfl,g0 _ _ _ (by omega)];refine Axb (g1 _) ?_;rw[e1,HB,Abb rfl]
  show bk _ (acc++[u8 ((c.toInt+128).fdiv 1)])=_;rw[Int.fdiv_one]
 ·have g1:=λq acc ha=>vW bk l (bits:=16) (.inr (.inl rfl)) c x 1 q acc (by decide) ha;have g2:=Acz bk l (bits:=16) (.inr (.inl rfl)) c x (Aq-4+1);rw[Aba (by decide),show(0:Int)=((0:Nat):Int)from rfl,g0 _ _ _ (by omega),g1 _ _ (by simp;omega)];refine Axb (g2 _) ?_;rw[HB,Aba (by decide),Abb rfl,Ab2]
  show bk _ (acc++[u8 (c.toInt.fdiv 1),u8 (c.toInt.fdiv 256)])=_;rw[Int.fdiv_one,As3 _ (by omega)]
 ·have g1:=λq acc ha=>vW bk l (bits:=24) (.inr (.inr rfl)) c x 1 q acc (by decide) ha;have g2:=λq acc ha=>vW bk l (bits:=24) (.inr (.inr rfl)) c x 2 q acc (by decide) ha;have g3:=Acz bk l (bits:=24) (.inr (.inr rfl)) c x (Aq-4);rw[Aba (by decide),show(0:Int)=((0:Nat):Int)from rfl,g0 _ _ _ (by omega),g1 _ _ (by simp;omega),g2 _ _ (by simp;omega)];refine Axb (g3 _) ?_;rw[HB,Aba (by decide),Aba (by decide),Ab2,Ab2]
  show bk _ (acc++[u8 (c.toInt.fdiv 1),u8 (c.toInt.fdiv 256),u8 (c.toInt.fdiv 65536)])=_;rw[Int.fdiv_one,As3 _ (by omega),As3 _ (by omega)]
end
def Ea(bits:Int)(l:List Int32):List UInt8:=l.flatMap λx=>HB bits x.toInt
theorem SR(bits:Int):∀l:List Int32,(Ea bits l).length<=3*l.length
 |[]=>by simp[Ea]
 |x::l=>by
  have h1:=SR bits l;have h2:=lg bits x.toInt;simp only[Ea,List.flatMap_cons,Abw,Aj2]at*
  omega
def inR(bits:Int)(l:List Int32):Prop:=∀x∈l, -(hB bits)<=x.toInt/\x.toInt<hB bits
theorem Ae0{bits:Int}(h:Bu bits)(l:List Int32)(hl:l.length<=4000)(hr:inR bits l):∀(j i q:Nat),i+j=l.length->j<q->Fo bits l q (i:Int) (Ea bits (l.take i))=some (Ea bits l,0)
 |0,i,q+1,hi,_=>by
  rw[Fo,Yo,Aba (by rw[Af,Ac];simp;omega),Asm (by omega)];rfl
 |j+1,i,q+1,hi,hq=>by
  have hlt:i<l.length:=by omega
  have ih:=Ae0 h l hl hr j (i+1) q (by omega) (by omega);have hlen:=SR bits (l.take i);have hx:=hr l[i] (Avs _);have h1:=Ato (Fo bits l q) l h l[i] (i:Int) (Ea bits (l.take i)) (by rw[Aiq]at hlen;omega) hx;rw[Fo,Yo,Abb (by rw[Af,Ac];simp;omega),Ck hlt,Aa];have e:(if(geq bits (8:Int))=true then Ki (Fo bits l q) bits l (i:Int) (Ea bits (l.take i)) (Ae l[i] (128:Int32))else Ki (Fo bits l q) bits l (i:Int) (Ea bits (l.take i)) l[i])=Ki (Fo bits l q) bits l (i:Int) (Ea bits (l.take i)) (if bits=8 then Ae l[i] (128:Int32)else l[i]):=by
   by_cases h8:bits=8
   ·rw[Abb (by rw[Be];simpa using h8),Abb h8]
   ·rw[Aba (by rw[Be];simpa using h8),Aba h8]
  rw[e,h1,Ag];rw[Nd hlt]at ih;have e2:Ea bits (l.take i++[l[i]])=Ea bits (l.take i)++HB bits l[i].toInt:=by unfold Ea;rw[List.flatMap_append,List.flatMap_singleton]
  rw[e2]at ih;exact ih
theorem kR{bits:Int}(h:Bu bits){l:List Int32}(hl:l.length<=4000)(hc:Ao bits l=some 0):inR bits l:=by
 have hh:=VI bits;have key:∀(j i q:Nat),i+j=l.length->j<q->As l (hB bits) q (i:Int)=some 0->∀k,i<=k-> (hk:k<l.length)-> -(hB bits)<=l[k].toInt/\l[k].toInt<hB bits:=by
  intro j
  induction j with
  |zero=>intro i q hi hq _ k h1 h2;omega
  |succ j ih=>
   intro i q hi hq hs k h1 h2;obtain⟨q,rfl⟩:∃k,q=k+1:=⟨q-1,by omega⟩;rw[As,Cb,Abb (by rw[Af,Ac];simp;omega),Ck,Aa,Aa,Ei,T9,Bo (by omega) (by omega),Ag,Af,De]at hs;by_cases g1:l[i].toInt<0-hB bits
   ·rw[Abb (by simpa using g1)]at hs;simp at hs
   ·rw[Aba (by simpa using g1)]at hs;by_cases g2:hB bits<=l[i].toInt
    ·rw[Abb (by simpa using g2)]at hs;simp at hs
    ·rw[Aba (by simpa using g2)]at hs;by_cases hk:k=i
     ·subst hk;omega
     ·exact ih (i+1) q (by omega) (by omega) hs k (by omega) h2
 rw[Ao,Ct,XM h,Aa,Aba (by rw[Be];simp;omega),Aba (by rw[Am,Ac];simp;omega)]at hc;have:=key l.length 0 Aq (by omega) (by have:=Al;omega) hc;intro x hx;obtain⟨k,hk,rfl⟩:=List.getElem_of_mem hx;exact this k (by omega) hk
theorem zV{bits:Int}(h:Bu bits){l:List Int32}(hl:l.length<=4000)(hc:Ao bits l=some 0):AV bits l=some (Ea bits l,0):=by
 have h1:=Ae0 h l hl (kR h hl hc) l.length 0 Aq (by omega) (by have:=Al;omega);rw[AV,RP,bC h l hl,hc,Aa,Aba (by rw[Ak];simp)];exact h1
theorem Aov{bits:Int}(h:Bu bits)(x:Int32)(hr: -(hB bits)<=x.toInt/\x.toInt<hB bits):GQ bits x=some (HB bits x.toInt):=by
 have hx:=Xi x;have gu:∀z:Int,(Ad z:UInt8)=u8 z:=λz=>rfl;have hq:∀n:Int,0<=n->n<=20000000->Bv n (256:Int)=n/256/\Bv n (65536:Int)=n/65536:=by
  intro n h1 h2;constructor<;>(rw[MG,Aws h1,Bo (by omega) (by omega)])
 have hm:∀n:Int,0<=n->Ga n (256:Int)=n %256:=λn h1=>by rw[Ga,Azb h1]
 rw[GQ,NM,Ei];obtain rfl|rfl|rfl:=h
 ·rw[Abb (by rw[Be];rfl),Ag,gu,HB,Abb rfl]
 ·have hh:hB 16=32768:=rfl;rw[hh]at hr;have hp:∀n:Int,0<=n->n<=70000->u8 n=u8 x.toInt->u8 (n/256)=u8 (x.toInt/256)->Ko 16 n=some (HB 16 x.toInt):=by
   intro n h1 h2 h3 h4;rw[Ko,Xg,Aba (by rw[Be];decide),hm n h1,(hq n h1 (by omega)).1,hm _ (by omega),gu,gu,S3,S3,h3,h4,HB,Aba (by decide),Abb rfl]
  rw[Aba (by rw[Be];decide)];by_cases hn:x.toInt<0
  ·rw[Abb (by rw[Af];simpa using hn),XM (.inr (.inl rfl)),Aa,hh,Hc,Ag];refine hp _ (by omega) (by omega) ?_ ?_
   ·rw[u8,u8];congr 2;omega
   ·rw[u8,u8];congr 2;omega
  ·rw[Aba (by rw[Af];simpa using hn)];exact hp _ (by omega) (by omega) rfl rfl
 ·have hh:hB 24=8388608:=rfl;rw[hh]at hr;have hp:∀n:Int,0<=n->n<=16777215->u8 n=u8 x.toInt->u8 (n/256)=u8 (x.toInt/256)->u8 (n/65536)=u8 (x.toInt/65536)->Ko 24 n=some (HB 24 x.toInt):=by
   intro n h1 h2 h3 h4 h5;rw[Ko,Xg,Abb (by rw[Be];rfl),hm n h1,(hq n h1 (by omega)).1,(hq n h1 (by omega)).2,hm _ (by omega),gu,gu,gu,S3,S3,h3,h4,h5,Cg (by simp),Aa,HB,Aba (by decide),Aba (by decide)];rfl
  rw[Aba (by rw[Be];decide)];by_cases hn:x.toInt<0
  ·rw[Abb (by rw[Af];simpa using hn),XM (.inr (.inr rfl)),Aa,hh,Hc,Ag];refine hp _ (by omega) (by omega) ?_ ?_ ?_
   ·rw[u8,u8];congr 2;omega
   ·rw[u8,u8];congr 2;omega
   ·rw[u8,u8];congr 2;omega
  ·rw[Aba (by rw[Af];simpa using hn)];exact hp _ (by omega) (by omega) rfl rfl rfl
theorem Aer{bits:Int}(h:Bu bits)(l:List Int32)(hl:l.length<=4000)(hr:inR bits l):∀(j i q:Nat),i+j=l.length->j<q->Ij bits l q (i:Int) (Ea bits (l.take i))=some (Ea bits l,0)
 |0,i,q+1,hi,_=>by
  rw[Ij,Tk,Aba (by rw[Af,Ac];simp;omega),Asm (by omega)];rfl
 |j+1,i,q+1,hi,hq=>by
  have hlt:i<l.length:=by omega
  have ih:=Aer h l hl hr j (i+1) q (by omega) (by omega);have hlen:=SR bits (l.take i);have hol:=lg bits l[i].toInt;rw[Aiq]at hlen;have e2:Ea bits (l.take i++[l[i]])=Ea bits (l.take i)++HB bits l[i].toInt:=by unfold Ea;rw[List.flatMap_append,List.flatMap_singleton]
  rw[Nd hlt,e2]at ih;rw[Ij,Tk,Abb (by rw[Af,Ac];simp;omega),Ck hlt,Aa,Aov h _ (hr l[i] (Avs _)),Aa,Cg,Aa,Ag];exact ih
theorem Aic{bits:Int}(h:Bu bits){l:List Int32}(hl:l.length<=4000)(hc:Ao bits l=some 0):Qw bits l=some (Ea bits l,0):=by
 have h1:=Aer h l hl (kR h hl hc) l.length 0 Aq (by omega) (by have:=Al;omega);rw[Qw,GF,hc,Aa,Aba (by rw[Ak];simp)];exact h1
def XN:List UInt8->Nat->Int×Int
 |[],n=>((n:Int),0)
 |c::r,n=>if 128<=c.toNat then(0,12)else XN r (128*n+c.toNat)
theorem Agv:∀(l:List UInt8) (n k:Nat),n<128^k->0<= (XN l n).1/\ (XN l n).1<((128^(k+l.length):Nat):Int)
 |[],n,k,h=>by simp[XN];exact_mod_cast h
 |c::r,n,k,h=>by
  rw[XN];split
  ·have:0<128^(k+(c::r).length):=Ax3 (by omega);exact⟨Int.le_refl _,by simp only;exact_mod_cast this⟩
  ·have:=Agv r (128*n+c.toNat) (k+1) (by rw[Atb];omega);rw[Aj2,show k+(r.length+1)=k+1+r.length by omega];exact this
theorem or7(n c:Nat)(hn:n<268435456)(hc:c<128):sW (Cr (n:Int) (GI.toZ (7:UInt64)).toNat) (c:Int)=((128*n+c:Nat):Int):=by
 have e:(GI.toZ (7:UInt64)).toNat=7:=rfl;have h1:Cr (n:Int) 7=((2^7*n:Nat):Int):=by
  have:Cr (n:Int) 7=wrap64 ((n:Int)*2^7):=rfl;rw[this,Bo (by omega) (by omega)];omega
 rw[e,h1];have h2:sW ((2^7*n:Nat):Int) (c:Int)=wrap64 ((BitVec.ofInt 64 ((2^7*n:Nat):Int)|||BitVec.ofInt 64 (c:Int)).toNat:Int):=rfl;rw[h2,BitVec.toNat_or,Av9,Av9];have h3:(((2^7*n:Nat):Int) %((2^64:Nat):Int)).toNat=2^7*n:=by omega
 have h4:((c:Int) %((2^64:Nat):Int)).toNat=c:=by omega
 rw[h3,h4,<-Awk (by simpa using hc),Bo (by omega) (by omega)]
theorem Agj(b:List UInt8)(hb:b.length=4):∀(j i q n:Nat),i+j=4->j<q->n<128^i->Lg b q (n:Int) (i:Int)=some (XN (b.drop i) n)
 |0,i,q+1,n,hi,_,_=>by
  rw[Lg,Vx,Aba (by rw[Af,Ac];simp;omega),show b.drop i=[] by simp;omega];rfl
 |j+1,i,q+1,n,hi,hq,hn=>by
  have hlt:i<b.length:=by omega
  have hn2:n<268435456:=Aj5 hn (show 128^i<=128^4 from Aef (by omega) (by omega));rw[Lg,Vx,Abb (by rw[Af,Ac];simp;omega),Ck hlt,Aa,drop_cons hlt,XN,An0];by_cases hc:128<=b[i].toNat
  ·rw[Abb (by simp;omega),Abb hc]
  ·rw[Aba (by simp;omega),Aba hc,OQ,or7 n _ hn2 (by omega),Ag];exact Agj b hb j (i+1) q _ (by omega) (by omega) (by rw[Atb];omega)
theorem Anw(b:List UInt8)(hb:b.length=4):∀(j i q n:Nat),i+j=4->j<q->n<128^i->Im b q (n:Int) (i:Int)=some (XN (b.drop i) n)
 |0,i,q+1,n,hi,_,_=>by
  rw[Im,Tm,Aba (by rw[Af];simp;omega),show b.drop i=[] by simp;omega];rfl
 |j+1,i,q+1,n,hi,hq,hn=>by
  have hlt:i<b.length:=by omega
  have hn2:n<268435456:=Aj5 hn (show 128^i<=128^4 from Aef (by omega) (by omega));rw[Im,Tm,Abb (by rw[Af];simp;omega),Ck hlt,Aa,drop_cons hlt,XN,Amb];have h128:(128:UInt8).toNat=128:=rfl;by_cases hc:128<=b[i].toNat
  ·rw[Abb (by simpa using hc),Abb hc]
  ·have h3:=b[i].toNat_lt;rw[Aba (by simpa using hc),Aba hc,Aa,OQ,Hc,Ag,Ag];have:=Anw b hb j (i+1) q (128*n+b[i].toNat) (by omega) (by omega) (by rw[Atb];omega);rw[<-this];rfl
theorem Acx(b:List UInt8)(hb:b.length=4):IF b=some (XN b 0):=by
 have h:=Agj b hb 4 0 Aq 0 (by omega) (by have:=Al;omega) (by simp);rw[IF,HT,Aba (by rw[Ak,Ac];simp;omega),GR];exact h
theorem Ajf(b:List UInt8)(hb:b.length=4):Zj b=some (XN b 0):=by
 have h:=Anw b hb 4 0 Aq 0 (by omega) (by have:=Al;omega) (by simp);rw[Zj,GG,Aba (by rw[Ak,Ac];simp;omega),FP];exact h
theorem Aci{b:List UInt8}(hb:b.length=4):0<= (XN b 0).1/\ (XN b 0).1<268435456:=by
 have:=Agv b 0 0 (by simp);rw[hb]at this;simpa using this
theorem aC(s p:List UInt8):Ke s p=some (decide (p.length<=s.length/\s.take p.length=p)):=by
 rw[Ke];by_cases h:p.length<=s.length
 ·rw[Abb (by rw[De,Ac,Ac];simp;omega),show Ac p=(p.length:Int)from rfl,Je,Aa,Gz,Aa,Ajv];congr 1;rw[Akg];simp[h]
 ·rw[Aba (by rw[De,Ac,Ac];simp;omega)];simp[h]
def lS(b:List UInt8)(n:Int):Int×Int:=
 if 4000<n then(0,4)else if(b.length:Int)<n then(0,24)else
 if b.getD 5 0=16/\ (b.take n.toNat).drop (n-10).toNat≠ [51,68,73]++part b 3 7 then(0,12)else(n,0)
def N9(b:List UInt8)(r:Int):Int×Int:=lS b (r+10+(if b.getD 5 0=16 then 10 else 0))
def UA(b:List UInt8):Int×Int:=
 if ¬(3<=b.length/\b.take 3=[73,68,51])then(0,6)else if b.length<10 then(0,24)else
 if(XN (part b 6 4) 0).2≠0\/b.getD 4 0≠0\/ ¬((b.getD 5 0=0/\2<= (b.getD 3 0).toNat/\ (b.getD 3 0).toNat<=4)\/ (b.getD 5 0=16/\b.getD 3 0=4))then(0,12)else
 N9 b (XN (part b 6 4) 0).1
theorem mP{b:List UInt8}{i:Nat}(h:i<b.length):Aj b (i:Int)=some (b.getD i 0):=by
 rw[Ck h];simp[List.getD_eq_getElem?_getD,h]
theorem Nn{b:List UInt8}(a w:Nat)(h:a+w<=b.length:=by omega):Ca b (a:Int) ((a+w:Nat):Int)=some (part b a w):=by
 rw[Qx];rfl
theorem Ap8(b:List UInt8)(r:Int)(h10:10<=b.length)(h0:0<=r)(h1:r<268435456):Uj b r=some (N9 b r):=by
 have g5:Aj b (5:Int)=some (b.getD 5 0):=mP (i:=5) (by omega);have key:∀n:Int,10<=n->n<268435500->Ue b n=some (lS b n):=by
  intro n hn hn2;rw[Ue,KM,lS];by_cases c1:4000<n
  ·rw[Abb (by rw[Am];simpa using c1),Abb c1]
  ·rw[Aba (by rw[Am];simpa using c1),Aba c1];by_cases c2:(b.length:Int)<n
   ·rw[Abb (by rw[Af,Ac];simpa using c2),Abb c2]
   ·have e3:Ca b (3:Int) (10:Int)=some (part b 3 7):=Nn 3 7;rw[Aba (by rw[Af,Ac];simpa using c2),Aba c2,g5,Aa];by_cases c3:b.getD 5 0=16
    ·rw[Abb (by rw[ZZ];simpa using c3),Bi,Qx,Aa,e3,Aa,Cg (by rw[Di];simp),Aa];by_cases c4:(b.take n.toNat).drop (n-10).toNat=[51,68,73]++part b 3 7
     ·rw[Aba (by simpa using c4),Aba (by intro h;exact h.2 c4)]
     ·rw[Abb (by simpa using c4),Abb ⟨c3,c4⟩]
    ·rw[Aba (by rw[ZZ];simpa using c3),Aba (λh=>c3 h.1)]
 rw[Uj,JL,g5,Aa,N9];by_cases c3:b.getD 5 0=16
 ·rw[Abb (by rw[ZZ];simpa using c3),Ag (by rw[Ag]<;>omega) (by rw[Ag]<;>omega),Ag,key _ (by omega) (by omega),Abb c3,show 10+r+10=r+10+10 by omega]
 ·rw[Aba (by rw[ZZ];simpa using c3),Ag,key _ (by omega) (by omega),Aba c3,show 10+r=r+10+0 by omega]
theorem Anc(b:List UInt8)(hb:b.length<4611686018427387904):CF b=some (UA b):=by
 rw[CF,JP,UA];by_cases h3:3<=b.length
 ·rw[Aba (by rw[Af,Ac];simp;omega),Je,Aa];by_cases hp:b.take 3=[73,68,51]
  ·rw[Aba (by simpa using hp),Aba (by simp[h3,hp]),LR,JX];by_cases h10:b.length<10
   ·rw[Abb (by rw[Af,Ac];simp;omega),Abb h10]
   ·have e6:Ca b (6:Int) (10:Int)=some (part b 6 4):=Nn 6 4;have g3:Aj b (3:Int)=some (b.getD 3 0):=mP (i:=3) (by omega);have g4:Aj b (4:Int)=some (b.getD 4 0):=mP (i:=4) (by omega);have g5:Aj b (5:Int)=some (b.getD 5 0):=mP (i:=5) (by omega);obtain⟨v1,v2⟩:=Aci (b:=part b 6 4) (Di);rw[Aba (by rw[Af,Ac];simp;omega),Aba h10,e6,Aa,Ajf _ (Di),Aa];have ht:=Ap8 b (XN (part b 6 4) 0).1 (by omega) v1 v2;generalize XN (part b 6 4) 0=v at*
    obtain⟨v,e⟩:=v;simp only at ht v1 v2⊢;simp only[Aa,g3,g4,g5,ht];generalize b.getD 3 0=x at*
    generalize b.getD 4 0=y at*
    generalize b.getD 5 0=z at*
    simp only[Adh,Aub,An0,Ak];by_cases he:e=0<;>by_cases hy:y=0<;>by_cases hz:z=0<;>by_cases hz2:z=16<;>by_cases hx:x=4<;>by_cases hx2:x.toNat<2<;>by_cases hx4:4<x.toNat<;>simp_all<;>(rw[Aba (by omega),Aba (by omega)])
  ·rw[Abb (by simpa using hp),Abb (by simp[hp])]
 ·rw[Abb (by rw[Af,Ac];simp;omega),Abb (by simp[h3])]
theorem K3(b:List UInt8)(n:Int)(h10:10<=b.length)(hn:10<=n)(hn2:n<268435500):Yj b (b.getD 5 0) n=some (lS b n):=by
 rw[Yj,cT];by_cases c1:4000<n
 ·rw[Abb (by rw[Am];simpa using c1),lS,Abb c1]
 ·rw[Aba (by rw[Am];simpa using c1)];by_cases c2:(b.length:Int)<n
  ·rw[Abb (by rw[Af,Ac];simpa using c2),lS,Aba c1,Abb c2]
  ·have e3:Ca b (3:Int) (10:Int)=some (part b 3 7):=Nn 3 7;rw[Aba (by rw[Af,Ac];simpa using c2)];by_cases c3:b.getD 5 0=16
   ·have hl:((b.take n.toNat).drop (n-10).toNat).length=10:=by simp;omega
    have ht:lS b n=if(b.take n.toNat).drop (n-10).toNat≠ [51,68,73]++part b 3 7 then(0,12)else(n,0):=by rw[lS,Aba c1,Aba c2];simp only[c3,true_and]
    rw[Abb (by rw[ZZ];simpa using c3),Bi,Qx,Aa,ht];generalize(b.take n.toNat).drop (n-10).toNat=f at*
    rw[Je,Aa,Jb,Aa,e3,Aa,Gz,Aa];have hf:f=f.take 3++f.drop 3:=(Axf 3 f).symm;by_cases c4:f=[51,68,73]++part b 3 7
    ·subst c4;simp
    ·by_cases c5:f.take 3=[51,68,73]
     ·have:f.drop 3≠part b 3 7:=λh=>c4 (by rw[hf,c5,h]);simp only[Ayc,Avf]at c4;simp[c4,c5,this]
     ·simp only[Ayc,Avf]at c4;simp[c4,c5]
   ·rw[Aba (by rw[ZZ];simpa using c3),lS,Aba c1,Aba c2,Aba (λh=>c3 h.1)]
theorem Amp(b:List UInt8)(r:Int)(h10:10<=b.length)(h0:0<=r)(h1:r<268435456):Ys b r (b.getD 5 0)=some (N9 b r):=by
 rw[Ys,MO,N9];by_cases c3:b.getD 5 0=16
 ·rw[Abb (by rw[ZZ];simpa using c3),Ag (by rw[Ag]<;>omega) (by rw[Ag]<;>omega),Ag,K3 b _ h10 (by omega) (by omega),Abb c3]
 ·rw[Aba (by rw[ZZ];simpa using c3),Ag,K3 b _ h10 (by omega) (by omega),Aba c3];simp
theorem Ai9(b:List UInt8)(hb:b.length<4611686018427387904):NW b=some (UA b):=by
 rw[NW,Yk,aC,Aa];by_cases hp:3<=b.length/\b.take 3=[73,68,51]
 ·rw[Aba (by simpa using hp)];by_cases h10:b.length<10
  ·rw[Abb (by rw[Af,Ac];simp;omega),UA,Aba (λh=>h hp),Abb h10]
  ·have e6:Ca b (6:Int) (10:Int)=some (part b 6 4):=Nn 6 4;have g3:Aj b (3:Int)=some (b.getD 3 0):=mP (i:=3) (by omega);have g4:Aj b (4:Int)=some (b.getD 4 0):=mP (i:=4) (by omega);have g5:Aj b (5:Int)=some (b.getD 5 0):=mP (i:=5) (by omega);obtain⟨v1,v2⟩:=Aci (b:=part b 6 4) (Di);have ht:=Amp b (XN (part b 6 4) 0).1 (by omega) v1 v2;rw[Aba (by rw[Af,Ac];simp;omega),g3,Aa,g5,Aa,MI,MV,e6,Aa,Acx _ (Di),Aa,UA,Aba (λh=>h hp),Aba h10];generalize XN (part b 6 4) 0=v at*
   obtain⟨v,e⟩:=v;simp only at ht v1 v2⊢;simp only[Aa,g4,MB,MA];generalize b.getD 3 0=x at*
   generalize b.getD 4 0=y at*
   generalize b.getD 5 0=z at*
   simp only[Adh,Au2,ZZ,Amb,Ak];have e2:(2:UInt8).toNat=2:=rfl;have e4:(4:UInt8).toNat=4:=rfl;by_cases he:e=0<;>by_cases hy:y=0<;>by_cases hz:z=0<;>by_cases hz2:z=16<;>by_cases hx:x=4<;>by_cases hx2:2<=x.toNat<;>by_cases hx4:x.toNat<=4<;>simp_all
 ·rw[Abb (by rw[Avo,Axj];exact hp),UA,Abb hp]
theorem Aod{b:List UInt8}{n:Int}(h:UA b=(n,0)):10<=n/\n<=b.length/\n<=4000:=by
 unfold UA at h;split at h; · simp at h
 split at h; · simp at h
 split at h; · simp at h
 rename_i h10 _;obtain⟨v1,v2⟩:=Aci (b:=part b 6 4) (Di);unfold N9 at h;generalize hm:(XN (part b 6 4) 0).1+10+(if b.getD 5 0=16 then 10 else 0)=m at h;unfold lS at h;split at h; · simp at h
 split at h; · simp at h
 split at h; · simp at h
 simp only[Avn,and_true]at h;subst h;refine⟨?_,by omega,by omega⟩;rw[<-hm];split<;>omega
def M9:List UInt8:=[65,80,69,84,65,71,69,88]
def Nc(n m fl:Nat):List UInt8:=M9++Kq 2000 4++Kq (n+32) 4++Kq m 4++Kq fl 4++List.replicate 8 0
theorem US{n:Nat}(h:n<18446744073709551616):(UInt64.ofNat n).toNat=n:=by rw[Afg,Abk h]
theorem kP(n m:Int)(fl:UInt64)(c:UInt64)(i q:Nat)(acc:List UInt8)(hi:i<6)(hc:Aj ([(2000:UInt64),(Ad (Ae n (32:Int)):UInt64),(Ad m:UInt64),fl,(0:UInt64),(0:UInt64)]:List UInt64) (i:Int)=some c)(h:c.toNat<4294967296)(ha:acc.length<=1000000):
  Zr n m fl (q+1) (i:Int) acc=Zr n m fl q ((i+1:Nat):Int) (acc++Kq c.toNat 4):=by
 have hb:=EE c 4 (by omega) (by omega) (by simpa using h);rw[Zr,aG,Abb (by rw[Af,Ac];simp;omega),hc,Aa,Aa,show((4:Int))=((4:Nat):Int)from rfl,hb,Aa];simp only;rw[Cg (by rw[Ba];omega),Aa,Ag];rfl
theorem xP(n m:Nat)(fl:UInt64)(hn:n<=3000)(hm:m<=1000)(hf:fl.toNat<4294967296):jX (n:Int) (m:Int) fl=some (Nc n m fl.toNat):=by
 have e1:(Ad (Ae (n:Int) (32:Int)):UInt64).toNat=n+32:=by rw[Ag,show(n:Int)+32=((n+32:Nat):Int) by omega,Nf,US (by omega)]
 have e2:(Ad (m:Int):UInt64).toNat=m:=by rw[Nf,US (by omega)]
 have hF:Aq=(Aq-7)+1+1+1+1+1+1+1:=by have:=Al;omega
 rw[jX,nV,mZ,hF];rw[show((0:Int))=((0:Nat):Int)from rfl,kP n m fl 2000 0 _ _ (by omega) rfl (by decide) (by simp),kP n m fl _ 1 _ _ (by omega) rfl (by rw[e1];omega) (by simp[Ba]),kP n m fl _ 2 _ _ (by omega) rfl (by rw[e2];omega) (by simp[Ba]),
  kP n m fl fl 3 _ _ (by omega) rfl hf (by simp[Ba]),kP n m fl 0 4 _ _ (by omega) rfl (by decide) (by simp[Ba]),kP n m fl 0 5 _ _ (by omega) rfl (by decide) (by simp[Ba]),e1,e2]
 rw[Zr,aG,Aba (by rw[Af,Ac];simp),nF,D1,Nc];have z:Kq (0:UInt64).toNat 4++Kq (0:UInt64).toNat 4=List.replicate 8 0:=by decide
 have z2:Kq (2000:UInt64).toNat 4=Kq 2000 4:=rfl;rw[Ab2 _ (Kq (0:UInt64).toNat 4),z,z2];rfl
theorem rF(n m:Nat)(fl:UInt64)(hn:n<=3000)(hm:m<=1000)(hf:fl.toNat<4294967296):Pw (n:Int) (m:Int) fl=some (Nc n m fl.toNat):=by
 have e1:(Ad (Ae (n:Int) (32:Int)):UInt64).toNat=n+32:=by rw[Ag,show(n:Int)+32=((n+32:Nat):Int) by omega,Nf,US (by omega)]
 have e2:(Ad (m:Int):UInt64).toNat=m:=by rw[Nf,US (by omega)]
 have w:∀c:UInt64,Ds c 4=some (Kq c.toNat 4):=λc=>B4 c 4 (by omega);have z2:Kq (2000:UInt64).toNat 4=Kq 2000 4:=rfl;rw[Pw];simp only[w,e1,e2,Aa];rw[Cg (by simp[Ba]),Aa,Cg (by simp[Ba]),Aa,Cg (by simp[Ba]),Aa,Cg (by simp[Ba]),Aa,mG,Aa,Cg (by simp[Ba]),Aa,z2];rfl
theorem OO{b:List UInt8}{a w k:Nat}(h:a+w<=k):part (b.take k) a w=part b a w:=by rw[part,part,List.take_take,Aw8 h]
def KK(b:List UInt8):Bool:=decide (Ek (part b 12 4)<32\/3032<Ek (part b 12 4)\/1000<Ek (part b 16 4))
theorem Anq(b:List UInt8)(h:20<=b.length):(((Cf (lX (part b 12 4)) (32:UInt64))||(Dv (lX (part b 12 4)) (3032:UInt64)))||(Dv (lX (part b 16 4)) (1000:UInt64)))=KK b:=by
 rw[wI,TZ,TZ,UT (by rw[Di];omega),UT (by rw[Di];omega),KK];show((decide (Ek (part b 12 4)<32)||decide (3032<Ek (part b 12 4)))||decide (1000<Ek (part b 16 4)))=_;simp[Bool.or_assoc]
theorem sJ(b:List UInt8)(h:20<=b.length)(hb:KK b=false):Ah (Ad (lX (part b 12 4)):Int) (32:Int)=((Ek (part b 12 4)-32:Nat):Int)/\ (Ad (lX (part b 16 4)):Int)=((Ek (part b 16 4):Nat):Int)/\Ek (part b 12 4)-32<=3000/\Ek (part b 16 4)<=1000:=by
 simp only[KK,Axj]at hb;refine⟨?_,IV (by rw[Di];omega),by omega,by omega⟩;rw[IV (by rw[Di];omega),Bi];omega
theorem aN(b:List UInt8)(fl:UInt64)(h:20<=b.length)(hl:b.length<4611686018427387904)(hf:fl.toNat<4294967296):
  OS b fl=some (if KK b=true then(0,0,false)else(((Ek (part b 12 4)-32:Nat):Int),((Ek (part b 16 4):Nat):Int),b==Nc (Ek (part b 12 4)-32) (Ek (part b 16 4)) fl.toNat)):=by
 have a1:YB b 12 4=some (lX (part b 12 4),0):=L8 b 12 4 (by omega) (by omega) (by omega) hl;have a2:YB b 16 4=some (lX (part b 16 4),0):=L8 b 16 4 (by omega) (by omega) (by omega) hl;rw[OS,a1,Aa];simp only;rw[a2,Aa];simp only;rw[Anq b h];cases hb:KK b with
 |true=>rfl
 |false=>
  obtain⟨i1,i2,i3,i4⟩:=sJ b h hb;rw[i1,i2,xP _ _ _ i3 i4 hf];rfl
theorem mg(b:List UInt8)(h:20<=b.length)(hl:b.length<4611686018427387904):
  Tt b=some (if KK b=true then(0,0,false)else(((Ek (part b 12 4)-32:Nat):Int),((Ek (part b 16 4):Nat):Int),true)):=by
 have a1:Ca b 12 16=some (part b 12 4):=Nn 12 4;have a2:Ca b 16 20=some (part b 16 4):=Nn 16 4;rw[Tt,a1,Aa,Aag _ (by rw[Di];omega),Aa,a2,Aa,Aag _ (by rw[Di];omega),Aa,Anq b h];cases hb:KK b with
 |true=>rfl
 |false=>
  obtain⟨i1,i2,i3,i4⟩:=sJ b h hb;rw[i1,i2];rfl
def Rp(b:List UInt8):Int×Int:=
 if ¬(8<=b.length/\b.take 8=M9)then(0,6)else if b.length<32 then(0,24)else
 if KK b=true\/b.take 32≠Nc (Ek (part b 12 4)-32) (Ek (part b 16 4)) 2684354560 then(0,12)else
 if b.length<Ek (part b 12 4)+32 then(0,24)else
 if(b.take (Ek (part b 12 4)+32)).drop (Ek (part b 12 4))≠Nc (Ek (part b 12 4)-32) (Ek (part b 16 4)) 2147483648 then(0,12)else(((Ek (part b 12 4)+32:Nat):Int),0)
theorem tu(b:List UInt8):KK (b.take 32)=KK b:=by rw[KK,KK,OO (by omega),OO (by omega)]
section
variable {b:List UInt8}
theorem fa1(h:¬(8<=b.length/\b.take 8=M9)):Rp b=(0,6):=by rw[Rp,Abb h]
theorem fa2(h:8<=b.length/\b.take 8=M9)(h2:b.length<32):Rp b=(0,24):=by rw[Rp,Aba (λh'=>h' h),Abb h2]
variable (h:8<=b.length/\b.take 8=M9) (h2:¬b.length<32)
include h h2
theorem fa3(h3:KK b=true):Rp b=(0,12):=by rw[Rp,Aba (λh'=>h' h),Aba h2,Abb (.inl h3)]
theorem fa4(h4:b.take 32≠Nc (Ek (part b 12 4)-32) (Ek (part b 16 4)) 2684354560):Rp b=(0,12):=by rw[Rp,Aba (λh'=>h' h),Aba h2,Abb (.inr h4)]
variable (h3:KK b=false) (h4:b.take 32=Nc (Ek (part b 12 4)-32) (Ek (part b 16 4)) 2684354560)
include h3 h4
theorem fa5(h5:b.length<Ek (part b 12 4)+32):Rp b=(0,24):=by
 rw[Rp,Aba (λh'=>h' h),Aba h2,Aba (λh'=>h'.elim (λe=>by rw[h3]at e;cases e) λe=>e h4),Abb h5]
theorem fa6(h5:¬b.length<Ek (part b 12 4)+32)(h6:(b.take (Ek (part b 12 4)+32)).drop (Ek (part b 12 4))≠Nc (Ek (part b 12 4)-32) (Ek (part b 16 4)) 2147483648):Rp b=(0,12):=by
 rw[Rp,Aba (λh'=>h' h),Aba h2,Aba (λh'=>h'.elim (λe=>by rw[h3]at e;cases e) λe=>e h4),Aba h5,Abb h6]
theorem fa7(h5:¬b.length<Ek (part b 12 4)+32)(h6:(b.take (Ek (part b 12 4)+32)).drop (Ek (part b 12 4))=Nc (Ek (part b 12 4)-32) (Ek (part b 16 4)) 2147483648):Rp b=(((Ek (part b 12 4)+32:Nat):Int),0):=by
 rw[Rp,Aba (λh'=>h' h),Aba h2,Aba (λh'=>h'.elim (λe=>by rw[h3]at e;cases e) λe=>e h4),Aba h5,Aba (λh'=>h' h6)]
end
theorem Acq(b:List UInt8)(hl:b.length<4611686018427387904):kB b=some (Rp b):=by
 rw[kB,aC,Aa];by_cases hp:8<=b.length/\b.take 8=M9
 ·rw[Aba (by simpa [M9]using hp)];by_cases h32:b.length<32
  ·rw[Abb (by rw[Af,Ac];simp;omega),fa2 hp h32]
  ·have t:=aN (b.take 32) 2684354560 (by simp;omega) (by simp;omega) (by decide);rw[tu,OO (by omega),OO (by omega)]at t;rw[Aba (by rw[Af,Ac];simp;omega),Je,Aa,show(32:Int).toNat=32 from rfl,t,Aa];cases hb:KK b with
   |true=>rw[fa3 hp h32 hb];simp
   |false=>
    obtain⟨i1,i2,i3,i4⟩:=sJ b (by omega) hb;have i5:32<=Ek (part b 12 4):=by simp only[KK,Axj]at hb;omega
    simp only[Asv,Ayl,false_or];by_cases c1:b.take 32=Nc (Ek (part b 12 4)-32) (Ek (part b 16 4)) 2684354560
    ·have c1':b.take 32=Nc (Ek (part b 12 4)-32) (Ek (part b 16 4)) (2684354560:UInt64).toNat:=c1;rw[Aba (by simpa using c1'),Ag];have e1:((Ek (part b 12 4)-32:Nat):Int)+64=((Ek (part b 12 4)+32:Nat):Int):=by omega
     rw[e1];by_cases c2:b.length<Ek (part b 12 4)+32
     ·rw[Abb (by rw[Af,Ac];simp;omega),fa5 hp h32 hb c1 c2]
     ·rw[Aba (by rw[Af,Ac];simp;omega),Bi,Qx,Aa,xP _ _ _ i3 i4 (by decide),Aa,Gz,Aa];rw[show(((Ek (part b 12 4)+32:Nat):Int)).toNat=Ek (part b 12 4)+32 by omega,show(((Ek (part b 12 4)+32:Nat):Int)-32).toNat=Ek (part b 12 4) by omega];by_cases c3:(b.take (Ek (part b 12 4)+32)).drop (Ek (part b 12 4))=Nc (Ek (part b 12 4)-32) (Ek (part b 16 4)) 2147483648
      ·have c3':(b.take (Ek (part b 12 4)+32)).drop (Ek (part b 12 4))=Nc (Ek (part b 12 4)-32) (Ek (part b 16 4)) (2147483648:UInt64).toNat:=c3;rw[Aba (by simpa using c3'),fa7 hp h32 hb c1 c2 c3]
      ·have c3':¬(b.take (Ek (part b 12 4)+32)).drop (Ek (part b 12 4))=Nc (Ek (part b 12 4)-32) (Ek (part b 16 4)) (2147483648:UInt64).toNat:=c3;rw[Abb (by simpa using c3'),fa6 hp h32 hb c1 c2 c3]
    ·have c1':¬b.take 32=Nc (Ek (part b 12 4)-32) (Ek (part b 16 4)) (2684354560:UInt64).toNat:=c1;rw[Abb (by simpa using c1'),fa4 hp h32 c1]
 ·rw[Abb (by rw[Avo,Axj];exact hp),fa1 hp]
theorem Ah6(b:List UInt8)(hl:b.length<4611686018427387904):Zf b=some (Rp b):=by
 rw[Zf,FK];by_cases h8:8<=b.length
 ·rw[Aba (by rw[Af,Ac];simp;omega),Je,Aa,show(8:Int).toNat=8 from rfl];by_cases ha:b.take 8=M9
  ·have hp:=And.intro h8 ha;rw[Aba (by simpa [M9]using ha),FZ,FR];by_cases h32:b.length<32
   ·rw[Abb (by rw[Af,Ac];simp;omega),fa2 hp h32]
   ·have t:=mg (b.take 32) (by simp;omega) (by simp;omega);rw[tu,OO (by omega),OO (by omega)]at t;rw[Aba (by rw[Af,Ac];simp;omega),Je,Aa,show(32:Int).toNat=32 from rfl,t,Aa];cases hb:KK b with
    |true=>rw[fa3 hp h32 hb];simp
    |false=>
     obtain⟨i1,i2,i3,i4⟩:=sJ b (by omega) hb;have i5:32<=Ek (part b 12 4):=by simp only[KK,Axj]at hb;omega
     simp only[Asv,Ayl,false_or,Aa,Az1];rw[Tw,rF _ _ _ i3 i4 (by decide),Aa,Aa];by_cases c1:b.take 32=Nc (Ek (part b 12 4)-32) (Ek (part b 16 4)) 2684354560
     ·have c1':b.take 32=Nc (Ek (part b 12 4)-32) (Ek (part b 16 4)) (2684354560:UInt64).toNat:=c1;rw[Aba (by simpa using c1'),GP,GA,Ag];have e1:64+((Ek (part b 12 4)-32:Nat):Int)=((Ek (part b 12 4)+32:Nat):Int):=by omega
      rw[e1];by_cases c2:b.length<Ek (part b 12 4)+32
      ·rw[Abb (by rw[Af,Ac];simp;omega),fa5 hp h32 hb c1 c2]
      ·rw[Aba (by rw[Af,Ac];simp;omega),Bi,Qx,Aa,Jw,Abb rfl,rF _ _ _ i3 i4 (by decide),Aa,Aa];rw[show(((Ek (part b 12 4)+32:Nat):Int)).toNat=Ek (part b 12 4)+32 by omega,show(((Ek (part b 12 4)+32:Nat):Int)-32).toNat=Ek (part b 12 4) by omega];by_cases c3:(b.take (Ek (part b 12 4)+32)).drop (Ek (part b 12 4))=Nc (Ek (part b 12 4)-32) (Ek (part b 16 4)) 2147483648
       ·have c3':(b.take (Ek (part b 12 4)+32)).drop (Ek (part b 12 4))=Nc (Ek (part b 12 4)-32) (Ek (part b 16 4)) (2147483648:UInt64).toNat:=c3;rw[Aba (by simpa using c3'),fa7 hp h32 hb c1 c2 c3]
       ·have c3':¬(b.take (Ek (part b 12 4)+32)).drop (Ek (part b 12 4))=Nc (Ek (part b 12 4)-32) (Ek (part b 16 4)) (2147483648:UInt64).toNat:=c3;rw[Abb (by simpa using c3'),fa6 hp h32 hb c1 c2 c3]
     ·have c1':¬b.take 32=Nc (Ek (part b 12 4)-32) (Ek (part b 16 4)) (2684354560:UInt64).toNat:=c1;rw[Abb (by simpa using c1'),fa4 hp h32 c1]
  ·rw[Abb (by simpa [M9]using ha),fa1 (λh=>ha h.2)]
 ·rw[Abb (by rw[Af,Ac];simp;omega),fa1 (λh=>h8 h.1)]
theorem Aji{b:List UInt8}{n:Int}(h:Rp b=(n,0)):64<=n/\n<=b.length:=by
 unfold Rp at h;split at h; · simp at h
 split at h; · simp at h
 split at h; · simp at h
 rename_i hb;split at h; · simp at h
 split at h; · simp at h
 simp only[Avn,and_true]at h;have hb':¬KK b=true:=λe=>hb (.inl e);simp only[KK,Ab1]at hb';omega
def El(b:List UInt8):Int×Int:=if(UA b).2≠6 then UA b else Rp b
theorem size_eq(b:List UInt8)(hl:b.length<4611686018427387904):Uo b=some (El b):=by
 rw[Uo,Ai9 b hl,Aa,Acq b hl];by_cases h:(UA b).2=6
 ·simp[El,h,Ak]
 ·simp[El,h,Ak]
theorem D5{b:List UInt8}{n:Int}(h:El b=(n,0)):10<=n/\n<=b.length:=by
 unfold El at h;split at h
 ·have:=Aod h;omega
 ·have:=Aji h;omega
def Da(b:List UInt8):Nat->Nat->List Int×Int
 |0,_=>([],6)
 |j+1,p=>if(El (b.drop p)).2=6 then([],0)else if(El (b.drop p)).2≠0 then([],(El (b.drop p)).2)else
  if 4000<(p:Int)+(El (b.drop p)).1 then([],4)else
  if(Da b j (p+(El (b.drop p)).1.toNat)).2=0 then((El (b.drop p)).1::(Da b j (p+(El (b.drop p)).1.toNat)).1,0)else([],(Da b j (p+(El (b.drop p)).1.toNat)).2)
theorem tK(b:List UInt8):∀(j p:Nat),p<=b.length->p<=4000-> (Da b j p).2=0-> (∀x∈(Da b j p).1,10<=x)/\ (p:Int)+(Da b j p).1.sum<=b.length/\ (p:Int)+(Da b j p).1.sum<=4000
 |0,p,_,_,h=>by simp[Da]at h
 |j+1,p,hp,hq,h=>by
  rw[Da]at h⊢;split at h
  ·rename_i h6;rw[Abb h6];simp;omega
  ·rename_i h6;split at h
   ·rename_i h0;exact absurd h h0
   ·rename_i h0;rw[Aba h6,Aba h0];have hz:El (b.drop p)=((El (b.drop p)).1,0):=by rw[Prod.ext_iff];exact⟨rfl,Classical.not_not.1 h0⟩
    have hs:=D5 hz;rw[Aue]at hs;split at h
    ·simp at h
    ·rename_i h4;rw[Aba h4];split at h
     ·rename_i h00;rw[Abb h00];obtain⟨i1,i2,i3⟩:=tK b j _ (by omega) (by omega) h00;refine⟨λx hx=>?_,?_,?_⟩
      ·rcases List.mem_cons.1 hx with rfl|hx
       ·exact hs.1
       ·exact i1 x hx
      ·simp only[Av4];omega
      ·simp only[Av4];omega
     ·rename_i h00;exact absurd h h00
def Acm(b:List UInt8)(j p:Nat):Int×Int:=if(Da b j p).2=0 then((p:Int)+(Da b j p).1.sum,0)else(0,(Da b j p).2)
theorem C3(b:List UInt8)(hl:b.length<4611686018427387904):∀(j p q:Nat),p<=b.length->p<=4000->b.length-p<j->j<=q->Sm b q (p:Int)=some (Acm b j p)
 |0,p,q,_,_,h,_=>by omega
 |j+1,p,q,hp,hp4,hj,hq=>by
  obtain⟨q,rfl⟩:∃k,q=k+1:=⟨q-1,by omega⟩;rw[Sm,Jb,Aa,Ajv,size_eq _ (by simp;omega),Aa,Be,Be,Ak,Acm];by_cases h6:(El (b.drop p)).2=6
  ·rw[Abb (by simpa using h6)];have:Da b (j+1) p=([],0):=by rw[Da,Abb h6]
   rw[this];simp
  ·rw[Aba (by simpa using h6)];by_cases h0:(El (b.drop p)).2=0
   ·have hz:El (b.drop p)=((El (b.drop p)).1,0):=by rw[Prod.ext_iff];exact⟨rfl,h0⟩
    have hs:=D5 hz;rw[Aue]at hs;rw[Ag,Am];by_cases h4:4000<(p:Int)+(El (b.drop p)).1
    ·rw[Abb (by simp[h0];omega)];have:Da b (j+1) p=([],4):=by rw[Da,Aba h6,Aba (λh=>h h0),Abb h4]
     rw[this];simp
    ·rw[Aba (by simp[h0];omega),Aba (by simpa using h0)];have ih:=C3 b hl j (p+(El (b.drop p)).1.toNat) q (by omega) (by omega) (by omega) (by omega);rw[show(p:Int)+(El (b.drop p)).1=((p+(El (b.drop p)).1.toNat:Nat):Int) by omega,ih,Acm];have:Da b (j+1) p=if(Da b j (p+(El (b.drop p)).1.toNat)).2=0 then((El (b.drop p)).1::(Da b j (p+(El (b.drop p)).1.toNat)).1,0)else([],(Da b j (p+(El (b.drop p)).1.toNat)).2):=by
      rw[Da,Aba h6,Aba (λh=>h h0),Aba h4]
     rw[this];by_cases hr:(Da b j (p+(El (b.drop p)).1.toNat)).2=0
     ·simp only[hr,Bam,Av4];congr 2;omega
     ·simp only[hr,Ayl]
   ·rw[Aba (by simp[h0]),Abb (by simpa using h0)];have:Da b (j+1) p=([],(El (b.drop p)).2):=by rw[Da,Aba h6,Abb h0]
    rw[this];simp[h0]
def Ak4(b:List UInt8)(j p:Nat)(xs:List Int):List Int×Int:=if(Da b j p).2=0 then(xs++(Da b j p).1,0)else([],(Da b j p).2)
theorem Ala(bk:Int->List Int->Option (List Int×Int))(b:List UInt8)(p:Nat)(hp:p<=b.length)(xs:List Int)(hx:xs.length<=4000)(hl:b.length<4611686018427387904):Tp (Ml bk b) b (p:Int) xs=Ml bk b (p:Int) xs (El (b.drop p)).1 (El (b.drop p)).2:=by
 have hf:=Ah6 (b.drop p) (by simp;omega);rw[Tp,Jb,Aa,Ajv,Anc _ (by simp;omega),Aa];by_cases h:(UA (b.drop p)).2=6
 ·simp[El,h,Be,hf]
 ·simp[El,h,Be]
theorem O6(b:List UInt8)(hl:b.length<4611686018427387904):∀(j p q:Nat) (xs:List Int),p<=b.length->p<=4000->b.length-p<j->j<=q->xs.length<=p->Mf b q (p:Int) xs=some (Ak4 b j p xs)
 |0,p,q,_,_,_,h,_,_=>by omega
 |j+1,p,q,xs,hp,hp4,hj,hq,hx=>by
  obtain⟨q,rfl⟩:∃k,q=k+1:=⟨q-1,by omega⟩;rw[Mf,Ala _ b p hp xs (by omega) hl,Ml,FY,Be,Ak,Ak4];by_cases h6:(El (b.drop p)).2=6
  ·rw[Abb (by simpa using h6)];have:Da b (j+1) p=([],0):=by rw[Da,Abb h6]
   rw[this];simp
  ·rw[Aba (by simpa using h6)];by_cases h0:(El (b.drop p)).2=0
   ·have hz:El (b.drop p)=((El (b.drop p)).1,0):=by rw[Prod.ext_iff];exact⟨rfl,h0⟩
    have hs:=D5 hz;rw[Aue]at hs;rw[Aba (by simpa using h0),Ag,Am];by_cases h4:4000<(p:Int)+(El (b.drop p)).1
    ·rw[Abb (by simp;omega)];have:Da b (j+1) p=([],4):=by rw[Da,Aba h6,Aba (λh=>h h0),Abb h4]
     rw[this];simp
    ·rw[Aba (by simp;omega),Cg (by simp;omega),Aa];have ih:=O6 b hl j (p+(El (b.drop p)).1.toNat) q (xs++[(El (b.drop p)).1]) (by omega) (by omega) (by omega) (by omega) (by simp;omega);rw[show(p:Int)+(El (b.drop p)).1=((p+(El (b.drop p)).1.toNat:Nat):Int) by omega,ih,Ak4];have:Da b (j+1) p=if(Da b j (p+(El (b.drop p)).1.toNat)).2=0 then((El (b.drop p)).1::(Da b j (p+(El (b.drop p)).1.toNat)).1,0)else([],(Da b j (p+(El (b.drop p)).1.toNat)).2):=by
      rw[Da,Aba h6,Aba (λh=>h h0),Aba h4]
     rw[this];by_cases hr:(Da b j (p+(El (b.drop p)).1.toNat)).2=0
     ·simp only[hr,Bam];simp
     ·simp only[hr,Ayl]
   ·rw[Abb (by simpa using h0)];have:Da b (j+1) p=([],(El (b.drop p)).2):=by rw[Da,Aba h6,Abb h0]
    rw[this];simp[h0]
theorem wD:∀{l:List Int},(∀x∈l,10<=x)->0<=l.sum/\ (l.length:Int)<=l.sum
 |[],_=>by simp
 |x::l,h=>by
  have h1:=h x Aun;have h2:=wD (l:=l) λy hy=>h y (Aj6 _ hy);simp only[Av4,Aj2];omega
theorem xD(r:Int)(l:List Int)(hl:l.length<=4000)(hx:∀x∈l,10<=x):∀(j i q:Nat) (n:Int),i+j=l.length->j<q->0<=n->n+(l.drop i).sum<=4000->Ig r l q n (i:Int)=some (n+(l.drop i).sum,r)
 |0,i,q+1,n,hi,_,_,_=>by
  rw[Ig,Sr,Aba (by rw[Af,Ac];simp;omega),show i=l.length by omega,Ayy];simp[GO,FJ]
 |j+1,i,q+1,n,hi,hq,hn,hs=>by
  have hlt:i<l.length:=by omega
  rw[drop_cons hlt,Av4]at hs⊢;have h1:=hx l[i] (Avs hlt);have h2:=wD (l:=l.drop (i+1)) λy hy=>hx y (List.mem_of_mem_drop hy);rw[Ig,Sr,Abb (by rw[Af,Ac];simp;omega),Ck hlt,Aa,Aa,Ag,Ag];have ih:=xD r l hl hx j (i+1) q (n+l[i]) (by omega) (by omega) (by omega) (by omega);rw[show((i:Int)+1)=((i+1:Nat):Int) by omega,ih];congr 2;omega
def Ed(b:List UInt8):Int×Int:=Acm b (b.length+1) 0
theorem BL(b:List UInt8)(hl:b.length<4611686018427387904):Va b=some (Ed b):=by
 have:=C3 b hl (b.length+1) 0 Aq (by omega) (by omega) (by omega) (by have:=Al;omega);exact this
theorem ZY(b:List UInt8)(hl:b.length<4611686018427387904):Mc b=some (Ed b):=by
 have h:=O6 b hl (b.length+1) 0 Aq [] (by omega) (by omega) (by omega) (by have:=Al;omega) (by simp);have h':PO b=some (Ak4 b (b.length+1) 0 []):=h;rw[Mc,FW,h',Aa,Ed,Acm,Ak4];have ho:=tK b (b.length+1) 0 (by omega) (by omega);by_cases h0:(Da b (b.length+1) 0).2=0
 ·obtain⟨i1,i2,i3⟩:=ho h0;have hp:=wD i1;simp only[h0,Bam,Avf];have:=xD 0 (Da b (b.length+1) 0).1 (by omega) i1 (Da b (b.length+1) 0).1.length 0 Aq 0 (by omega) (by have:=Al;omega) (by omega) (by simpa using i3);simpa [Tc]using this
 ·simp only[h0,Ayl];have:=xD (Da b (b.length+1) 0).2 [] (by simp) (by simp) 0 0 Aq 0 (by simp) (by have:=Al;omega) (by omega) (by simp);simpa [Tc]using this
theorem rN{b:List UInt8}(h:(Ed b).2=0):0<= (Ed b).1/\ (Ed b).1<=b.length/\ (Ed b).1<=4000:=by
 unfold Ed Acm at h⊢;split at h
 ·rename_i h0;rw[Abb h0];obtain⟨i1,i2,i3⟩:=tK b (b.length+1) 0 (by omega) (by omega) h0;have hp:=wD i1;exact⟨by simp;omega,i2,i3⟩
 ·rename_i h0;exact absurd h h0
def Ay(r:Nat):Nat:=max 1 (256*r/245)
theorem Qi(r:Nat):1<=Ay r:=Nat.le_max_left _ _
theorem zP{r:Nat}(h:r<=1048576):Ay r<=1100000:=by unfold Ay;omega
theorem C8{r:Nat}(h:r<=1048576):lB (1:Int) (Bv (Bd (256:Int) (r:Int)) (245:Int))=(Ay r:Int):=by
 rw[Hc,MG,Aws (by omega),Bo (by omega) (by omega),Z2,Ay];omega
def Au(g n:Nat):List Int:=List.replicate ((n-1)/g) (g:Int)++[((n-(n-1)/g*g:Nat):Int)]
theorem AF(g n:Nat):(Au g n).length=(n-1)/g+1:=by simp[Au]
theorem mL{g n:Nat}(h:n<=g)(h1:1<=n):Au g n=[(n:Int)]:=by
 rw[Au,Axp (by omega)];simp
theorem vM{g n:Nat}(hg:1<=g)(h:g<n):Au g n=(g:Int)::Au g (n-g):=by
 have e:(n-1)/g=(n-g-1)/g+1:=by rw[<-Nat.add_div_right _ (by omega)];congr 1;omega
 rw[Au,Au,e,Awh,Ayc];congr 4;have:=Ax0 (n-g-1) g;rw[Au7,Nat.one_mul];omega
theorem oJ{g n:Nat}(hg:1<=g)(h1:1<=n):(n+g-1)/g=(n-1)/g+1:=by
 rw[<-Nat.add_div_right _ (by omega)];congr 1;omega
theorem K0{r:Nat}(h1:1<=r)(h:r<=1048576):Qr (r:Int)=some ((Ay r:Int),0):=by
 rw[Qr,Aba (by simp[Af,Am];omega),C8 h]
theorem Al9{r:Nat}(h:r<=1048576):Ty (r:Int)=some (Ay r:Int):=by rw[Ty,C8 h]
theorem aA{r n:Nat}(h1:1<=r)(h:r<=1048576)(n1:1<=n)(n2:n<=4000):He (r:Int) (n:Int)=some (if 1000<(n-1)/Ay r+1 then(0,4)else((((n-1)/Ay r+1:Nat):Int),0)):=by
 have hp:=Qi r;have hl:=zP h;have e:Bv (Ah (Ae (n:Int) (Ay r:Int)) (1:Int)) (Ay r:Int)=(((n-1)/Ay r+1:Nat):Int):=by
  have:(n+Ay r-1)/Ay r<=n+Ay r-1:=As9 _ _;rw[Ag,Bi,MG,Aws (by omega),show(n:Int)+(Ay r:Int)-1=((n+Ay r-1:Nat):Int) by omega,<-Int.natCast_ediv,oJ hp n1];rw[oJ hp n1]at this;generalize(n-1)/Ay r=k at*
  exact Bo (by omega) (by omega)
 rw[He,K0 h1 h,Aa];simp only;rw[Aba (by rw[Ak];simp),Aba (by simp[Af,Am];omega),Bf (by rw[Ak];simp;omega),Aa,e];by_cases hk:1000<(n-1)/Ay r+1
 ·rw[Abb (by rw[Am];simp;omega),Abb hk]
 ·rw[Aba (by rw[Am];simp;omega),Aba hk]
theorem D3{r:Nat}(h:r<=1048576):∀(j n q:Nat) (acc:List Int),n<=4000->n<=j->j<q->acc.length+n<=10000->En (r:Int) q (n:Int) acc=some (acc++(if n=0 then []else Au (Ay r) n))
 |0,n,q+1,acc,hn,hj,hq,ha=>by
  obtain rfl:n=0:=by omega
  rw[En,Ik,Aba (by rw[Am];simp)];simp[Mm,Mi]
 |j+1,n,q+1,acc,hn,hj,hq,ha=>by
  have hp:=Qi r;have hl:=zP h;by_cases h0:n=0
  ·subst h0;rw[En,Ik,Aba (by rw[Am];simp)];simp[Mm,Mi]
  ·rw[En,Ik,Abb (by rw[Am];simp;omega),Al9 h,Aa,Cg (by simp;omega),Aa,Aa,Bi,GU];by_cases hs:n<=Ay r
   ·rw[show min (n:Int) (Ay r:Int)=(n:Int) by omega,Aba h0,mL hs (by omega)];have hz:∃k,q=k+1:=⟨q-1,by omega⟩;obtain⟨q,rfl⟩:=hz;rw[En,Ik,Aba (by rw[Am];simp;omega)];simp[Mm,Mi]
   ·rw[show min (n:Int) (Ay r:Int)=(Ay r:Int) by omega,show(n:Int)-(Ay r:Int)=((n-Ay r:Nat):Int) by omega,D3 h j (n-Ay r) q _ (by omega) (by omega) (by omega) (by simp;omega),Aba (by omega),Aba h0,vM hp (show Ay r<n by omega)];simp
theorem pU{r n:Nat}(h:r<=1048576)(n1:1<=n)(n2:n<=4000):Dx (r:Int) (n:Int)=some (Au (Ay r) n):=by
 have:=D3 h n n Aq [] n2 (Aj3 _) (by have:=Al;omega) (by simp;omega);rw[Dx,FV,FH,this,Aba (by omega)];rfl
theorem mul_one(m:Nat)(h:m<=100000):IY (1:UInt64) (UInt64.ofNat m)=some (0,UInt64.ofNat m):=by
 have y1:(UInt64.ofNat m).toNat=m:=US (by omega);have s1:Bt (1:UInt64) (GI.toZ (32:UInt64)).toNat=0:=by decide
 have s2:Bt (UInt64.ofNat m) (GI.toZ (32:UInt64)).toNat=0:=by
  apply UInt64.toNat_inj.1;rw[EV,y1];exact Axp (Axx h (by decide))
 have s0:Bt (0:UInt64) (GI.toZ (32:UInt64)).toNat=0:=by decide
 have a1:Db (1:UInt64) (4294967295:UInt64)=1:=by decide
 have a0:Db (0:UInt64) (4294967295:UInt64)=0:=by decide
 have a2:Db (UInt64.ofNat m) (4294967295:UInt64)=UInt64.ofNat m:=by
  apply UInt64.toNat_inj.1;rw[B2,UInt64.toNat_and,y1]
  show m&&& (2^32-1)=m;rw[Awr,Abk (by omega)]
 have m1:∀x:UInt64,Bd 1 x=x:=λx=>by rw[KI,UInt64.one_mul]
 have m0:∀x:UInt64,Bd 0 x=0:=λx=>by rw[KI,UInt64.zero_mul]
 have p0:∀x:UInt64,Ae 0 x=x:=λx=>by rw[KO,UInt64.zero_add]
 have p1:∀x:UInt64,Ae x 0=x:=λx=>by rw[KO,UInt64.add_zero]
 rw[IY,MP];simp only[s1,s2,a1,a2,m1,m0,p0,p1,s0,a0,Aa]
theorem uG(v:Int)(m:Nat)(hm:m<=100000):∀(j n q:Nat),1<=n->n<=m->m-n<=j->j<q->Eh q (n:Int) (List.replicate n v++List.replicate (m-n) 0)=some (List.replicate m v)
 |j,n,q+1,hn,hnm,hj,hq=>by
  have hlen:Ac (List.replicate n v++List.replicate (m-n) 0)=(m:Int):=by simp[Ac];omega
  rw[Eh,Gh,hlen];by_cases h:n<m
  ·obtain⟨j,rfl⟩:∃k,j=k+1:=⟨j-1,by omega⟩;rw[Abb (by rw[Af];simp;omega)];have v1:cW (m:Int) (n:Int) (m:Int)=some ():=by rw[cW,Bf];simp;omega
   have v2:cW (m:Int) (0:Int) (n:Int)=some ():=by rw[cW,Bf];simp;omega
   have e1:TI (List.replicate n v++List.replicate (m-n) 0) (0:Int) ((n:Int)-0)=List.replicate n v:=by
    simp[TI]
   rw[v1,Aa,v2,Aa,e1];have e2:RV ((m:Int)-(n:Int)) (List.replicate n v).length=((min n (m-n):Nat):Int):=by
    rw[RV,Aps];split<;>omega
   have e3:Ta (List.replicate n v++List.replicate (m-n) 0) (n:Int) ((m:Int)-(n:Int)) (List.replicate n v)=List.replicate (n+min n (m-n)) v++List.replicate (m-(n+min n (m-n))) 0:=by
    have t1:((m:Int)-(n:Int)).toNat=m-n:=by omega
    have t2:(List.replicate n v++List.replicate (m-n) (0:Int)).take n=List.replicate n v:=by simp
    rw[Ta,t1,Ajv,t2,List.take_replicate,Aps,<-Ab2,List.replicate_append_replicate,List.drop_append,Aps,Nat.min_comm (m-n) n];simp only[List.drop_replicate];rw[show n-(n+min n (m-n))=0 by omega,List.replicate_zero,Avf,show m-n-(n+min n (m-n)-n)=m-(n+min n (m-n)) by omega]
   rw[e2,e3,Ag,show(n:Int)+((min n (m-n):Nat):Int)=((n+min n (m-n):Nat):Int) by omega];exact uG v m hm j (n+min n (m-n)) q (by omega) (by omega) (by omega) (by omega)
  ·rw[Aba (by rw[Af];simp;omega)];obtain rfl:n=m:=by omega
   simp[Hz,Ms]
theorem Ajl(v:Int)(m:Nat)(hm:m<=100000):Mk [v] (m:Int)=some (List.replicate m v):=by
 have y1:(UInt64.ofNat m).toNat=m:=US (by omega);have c1:(Ad (Ac [v]):UInt64)=1:=by rfl
 have c2:(Ad (m:Int):UInt64)=UInt64.ofNat m:=Nf m;have c3:(Ad (UInt64.ofNat m):Int)=(m:Int):=by rw[tN (by omega),y1]
 rw[Mk,Od,Aba (by rw[Af];simp),Oh,Nw,c1,c2,mul_one m hm,Aa];simp only;rw[Aba (by rw[TZ,TZ,y1];simp;show m<=9223372036854775807;omega),Nz,Og,c3,mG,Aa,Bf (by rw[Be];simp),Aa,Oe,Ajv];by_cases h0:m=0
 ·subst h0;have hF:Aq=(Aq-1)+1:=by have:=Al;omega
  rw[hF,Eh,Gh];simp[Ac,G6,RV,Af,Hz,Ms]
 ·have:=uG v m hm m 1 Aq (by omega) (by omega) (by omega) (by have:=Al;omega);have e1:RV (Ac (List.replicate m (0:Int))) [v].length=((1:Nat):Int):=by simp[RV,Ac];omega
  have e2:G6 (List.replicate m (0:Int)) [v]=List.replicate 1 v++List.replicate (m-1) 0:=by
   obtain⟨k,rfl⟩:∃k,m=k+1:=⟨m-1,by omega⟩;simp[G6]
  rw[e1,e2,this]
theorem Ai4(l m:List Int)(h:l.length+m.length<=1000000):Mg [l,m]=some (l++m):=by
 have hF:Aq=(Aq-3)+1+1+1:=by have:=Al;omega
 rw[Mg,Oa,Ny];have g0:Aj [l,m] (0:Int)=some l:=rfl;have g1:Aj [l,m] (1:Int)=some m:=rfl;have l2:Ac [l,m]=2:=rfl;have h3:Ib [l,m] []=some (l++m):=by
  rw[Ib,Mt,Mx,hF,Du,Fw,l2,Abb (by decide),g0,Aa,Cg (by simp;omega),Aa,Avf,show Ae (0:Int) 1=1 by decide,
   Du,Fw,l2,Abb (by decide),g1,Aa,Cg,Aa,show Ae (1:Int) 1=2 by decide,Du,Fw,l2,Aba (by decide)]
  rfl
 rw[hF,Eg,Gf,l2,Abb (by decide),g0,Aa,Ag (by unfold Ac;omega) (by unfold Ac;omega),Aba (by rw[Af,Ac];simp),show Ae (0:Int) 1=1 by decide,
  Eg,Gf,l2,Abb (by decide),g1,Aa,Ag (by unfold Ac;omega) (by unfold Ac;omega),Aba (by rw[Af,Ac,Ac];simp;omega),show Ae (1:Int) 1=2 by decide,
  Eg,Gf,l2,Aba (by decide),Mp,Na,Aba (by rw[Af,Ac,Ac];simp;omega),Mw,Mu]
 have z:Ah (0:Int) 0=0:=by decide
 have n0:(0:Int)+Ac l+Ac m=((l.length+m.length:Nat):Int):=by simp[Ac]
 rw[z,n0,Bi,Int.sub_zero];by_cases hp:0<l.length+m.length
 ·rw[Abb (by rw[Am];simp;omega),show cW (0:Int) 0 0=some ()from rfl,Aa,mG,Aa,Cg (by simp;omega),Aa];rw[show cW (Ac ([]++List.replicate ((l.length+m.length:Nat):Int).toNat (0:Int))) 0 0=some () by rw[cW,Bf];simp[Ac];omega,Aa];simp only[TI,Int.sub_self,Int.toNat_zero,Ax9];exact h3
 ·rw[Aba (by rw[Am];simp;omega)];exact h3
theorem Abg{r n:Nat}(h1:1<=r)(h:r<=1048576)(n1:1<=n)(n2:n<=4000)(hk:(n-1)/Ay r+1<=1000):Ul (r:Int) (n:Int)=some (Au (Ay r) n,0):=by
 have hp:=Qi r;have hl:=zP h;have hd:=Ax0 (n-1) (Ay r);rw[Ul,aA h1 h n1 n2,Aba (by omega),Aa];simp only;rw[Aba (by rw[Ak];simp),K0 h1 h,Aa];simp only;rw[Au];generalize(n-1)/Ay r=k at*
 have e1:Ah ((k+1:Nat):Int) 1=(k:Int):=by rw[Bi];omega
 have e2:(k:Int)*(Ay r:Int)=((k*Ay r:Nat):Int):=by simp
 rw[e1,Ajl _ _ (by omega),Aa,Hc (by rw[e2];omega) (by rw[e2];omega),e2,Bi,QZ,Ai4 _ _ (by simp;omega),Aa,Aa,show(n:Int)-((k*Ay r:Nat):Int)=((n-k*Ay r:Nat):Int) by omega]
def Fb(f c w r n:Nat):Bool:=decide ((f=1\/f=2)/\ (1<=c/\c<=6)/\ (w=8\/w=16\/w=24)/\ (1<=r/\r<=1048576)/\1<=n)
def CX(c r n:Nat):Bool:=decide (n<=4000/c/\ (n-1)/Ay r+1<=1000)
theorem fD(f c w r n:Nat):Xq (f:Int) (c:Int) (w:Int) (r:Int) (n:Int)=some (Fb f c w r n):=by
 have e2:Wa (f:Int) (c:Int) (w:Int) (r:Int) (n:Int)=some (decide ((f=1\/f=2)/\ (1<=c/\c<=6)/\ (1<=r/\r<=1048576)/\1<=n)):=by
  rw[Wa,XL];congr 1;rw[Akg];simp only[Be,Am,D4,Abx,Axl,Ax2,Ab1];omega
 have g:∀k:Nat,geq (w:Int) (k:Int)=decide (w=k):=λk=>by rw[Be,Akg];simp;omega
 have g8:geq (w:Int) (8:Int)=decide (w=8):=g 8;have g16:geq (w:Int) (16:Int)=decide (w=16):=g 16;have g24:geq (w:Int) (24:Int)=decide (w=24):=g 24;rw[Xq,GY,e2,g8,g16,g24,Fb];by_cases h8:w=8
 ·subst h8;simp
 ·by_cases h16:w=16
  ·subst h16;simp
  ·by_cases h24:w=24
   ·subst h24;simp
   ·simp[h8,h16,h24]
theorem Adw(f c w r n:Nat):Xh (f:Int) (c:Int) (w:Int) (r:Int) (n:Int)=some (Fb f c w r n):=by
 rw[Xh,Fb];simp only[Be,De,D4,Abx,Axl,Ax2,Ab1,Bad];split
 ·rename_i h;congr 1;rw[Akg];simp only[Abx,Axl,Ax2,Ab1];omega
 ·rename_i h;congr 1;symm;rw[Axj];omega
theorem Ast{c:Nat}(h:1<=c):Bv (4000:Int) (c:Int)=((4000/c:Nat):Int):=by
 have:4000/c<=4000:=As9 _ _;rw[MG,Aws (by omega),show(4000:Int)=((4000:Nat):Int)from rfl,<-Int.natCast_ediv];generalize 4000/c=k at*
 exact Bo (by omega) (by omega)
theorem sI{f c w r n:Nat}(h:Fb f c w r n=true):LD (f:Int) (c:Int) (w:Int) (r:Int) (n:Int)=some (CX c r n):=by
 simp only[Fb,Ab1]at h;have hd:4000/c<=4000:=As9 _ _;rw[LD,Bf (by rw[Ak];simp;omega),Aa,Ast (by omega),CX];generalize 4000/c=m at*
 by_cases h1:n<=m
 ·rw[Aba (by rw[Am];simp;omega),aA (by omega) (by omega) (by omega) (by omega),Aa];generalize(n-1)/Ay r+1=k;by_cases h2:1000<k
  ·rw[Abb h2];simp[Be,D4];omega
  ·rw[Aba h2];simp[Be,D4,h1];omega
 ·rw[Abb (by rw[Am];simp;omega)];simp[h1]
theorem An6{f c w r n:Nat}(h:Fb f c w r n=true):EO (f:Int) (c:Int) (w:Int) (r:Int) (n:Int)=some (!CX c r n):=by
 simp only[Fb,Ab1]at h;have hd:4000/c<=4000:=As9 _ _;rw[EO,Bf (by rw[Ak];simp;omega),Aa,Ast (by omega),CX];generalize 4000/c=m at*
 by_cases h1:n<=m
 ·rw[Aba (by rw[Am];simp;omega),pU (by omega) (by omega) (by omega),Aa,Ac,AF];generalize(n-1)/Ay r+1=k;congr 1;rw[Am,Akg];simp only[Ab1,Avo,Axj];omega
 ·rw[Abb (by rw[Am];simp;omega)];simp[h1]
def Nq:List UInt8:=[84,84,65,49]
def f0(b:List UInt8):Nat:=Ek (part b 4 2)
def f1(b:List UInt8):Nat:=Ek (part b 6 2)
def f2(b:List UInt8):Nat:=Ek (part b 8 2)
def f3(b:List UInt8):Nat:=Ek (part b 10 4)
def f4(b:List UInt8):Nat:=Ek (part b 14 4)
abbrev H6:=Int×Int×Int×Int×Int×Int
def Le(b:List UInt8):H6:=
 if b.take (min 4 b.length)≠Nq.take (min 4 b.length)then(0,0,0,0,0,12)else if b.length<22 then(0,0,0,0,0,24)else
 if(Dc (b.take 18)).toNat≠Ek (part b 18 4)then(0,0,0,0,0,22)else
 if Fb (f0 b) (f1 b) (f2 b) (f3 b) (f4 b)=false then(0,0,0,0,0,12)else
 if CX (f1 b) (f3 b) (f4 b)=false then(0,0,0,0,0,4)else((f0 b:Int),(f1 b:Int),(f2 b:Int),(f3 b:Int),(f4 b:Int),0)
section
variable {b:List UInt8}
theorem rs1(h:b.take (min 4 b.length)≠Nq.take (min 4 b.length)):Le b=(0,0,0,0,0,12):=by rw[Le,Abb h]
variable (h:b.take (min 4 b.length)=Nq.take (min 4 b.length))
include h
theorem rs2(h2:b.length<22):Le b=(0,0,0,0,0,24):=by rw[Le,Aba (λe=>e h),Abb h2]
variable (h2:¬b.length<22)
include h2
theorem rs3(h3:(Dc (b.take 18)).toNat≠Ek (part b 18 4)):Le b=(0,0,0,0,0,22):=by rw[Le,Aba (λe=>e h),Aba h2,Abb h3]
variable (h3:(Dc (b.take 18)).toNat=Ek (part b 18 4))
include h3
theorem rs4(h4:Fb (f0 b) (f1 b) (f2 b) (f3 b) (f4 b)=false):Le b=(0,0,0,0,0,12):=by rw[Le,Aba (λe=>e h),Aba h2,Aba (λe=>e h3),Abb h4]
variable (h4:Fb (f0 b) (f1 b) (f2 b) (f3 b) (f4 b)=true)
include h4
theorem rs5(h5:CX (f1 b) (f3 b) (f4 b)=false):Le b=(0,0,0,0,0,4):=by rw[Le,Aba (λe=>e h),Aba h2,Aba (λe=>e h3),Aba (by rw[h4];simp),Abb h5]
theorem rs6(h5:CX (f1 b) (f3 b) (f4 b)=true):Le b=((f0 b:Int),(f1 b:Int),(f2 b:Int),(f3 b:Int),(f4 b:Int),0):=by rw[Le,Aba (λe=>e h),Aba h2,Aba (λe=>e h3),Aba (by rw[h4];simp),Aba (by rw[h5];simp)]
end
theorem Akn(b:List UInt8)(h2:¬b.length<22):Bk (Ad (Dc (b.take 18)):UInt64) (lX (part b 18 4))=decide ((Dc (b.take 18)).toNat≠Ek (part b 18 4)):=by
 rw[NZ,Cn,Akg];simp only[Bak,ne_eq,Ab1];rw[<-Azu,US (by have:=(Dc (b.take 18)).toNat_lt;omega),UT (by rw[Di];omega)]
theorem eU(b:List UInt8)(a w:Nat)(i q:Nat)(l:List Int)(hi:i<5)(hl:l.length=5)(hw:Aj ([2,2,2,4,4]:List Int) (i:Int)=some (w:Int))(h1:1<=w)(h4:w<=4)(ha:a+w<=b.length)(hb:b.length<4611686018427387904):
  Lm b (q+1) (a:Int) (i:Int) l=Lm b q ((a+w:Nat):Int) ((i+1:Nat):Int) (l.set i (Ek (part b a w):Int)):=by
 rw[Lm,BU,Abb (by rw[Af];simp;omega),hw,Aa,L8 b a w h1 (by omega) ha hb,Aa];simp only;rw[Ck,Aa,Rj _ (by omega),Aa,IV (by rw[Di ha];omega),Ag,Ag];rfl
theorem Al2(b:List UInt8)(h22:¬b.length<22)(hb:b.length<4611686018427387904):CR b 4 0 (List.replicate 5 0)=BS [(f0 b:Int),(f1 b:Int),(f2 b:Int),(f3 b:Int),(f4 b:Int)]:=by
 have hF:Aq=(Aq-6)+1+1+1+1+1+1:=by have:=Al;omega
 rw[CR,hF,show(4:Int)=((4:Nat):Int)from rfl,show(0:Int)=((0:Nat):Int)from rfl];rw[eU b 4 2 0 _ _ (by omega) (by simp) rfl (by omega) (by omega) (by omega) hb,eU b 6 2 1 _ _ (by omega) (by simp) rfl (by omega) (by omega) (by omega) hb,eU b 8 2 2 _ _ (by omega) (by simp) rfl (by omega) (by omega) (by omega) hb,
  eU b 10 4 3 _ _ (by omega) (by simp) rfl (by omega) (by omega) (by omega) hb,eU b 14 4 4 _ _ (by omega) (by simp) rfl (by omega) (by omega) (by omega) hb,Lm,BU,Aba (by rw[Af];simp)]
 rfl
theorem Ayk(b:List UInt8):Ts [84,84,65,49] (b.take (min 4 b.length))=some (decide (b.take (min 4 b.length)=Nq.take (min 4 b.length))):=by
 have hl:(b.take (min 4 b.length)).length=min 4 b.length:=by rw[Aiq];omega
 rw[Ts,Iu,Abb (by rw[De,Ac,Ac,hl];simp;omega),Ac,hl,Je (by omega) (by simp;omega),Aa,Aa,Ajv];congr 1;rw[Akg];rw[Ab1,Ax2];exact eq_comm
theorem Awq(b:List UInt8):Dt (4:Int) (Ac b)=((min 4 b.length:Nat):Int):=by rw[GU,Ac];omega
theorem kF(b:List UInt8)(hb:b.length<4611686018427387904):JU b=some (Le b):=by
 rw[JU,RX,Awq,Je,Aa,Ajv,Ayk,Aa];by_cases h:b.take (min 4 b.length)=Nq.take (min 4 b.length)
 ·rw[Aba (by simpa using h)];by_cases h2:b.length<22
  ·rw[Abb (by rw[Af,Ac];simp;omega),rs2 h h2]
  ·have a1:YB b 18 4=some (lX (part b 18 4),0):=L8 b 18 4 (by omega) (by omega) (by omega) hb;rw[Aba (by rw[Af,Ac];simp;omega),a1,Aa];simp only;rw[Je,Aa,show(18:Int).toNat=18 from rfl,sP _ (by simp;omega),Aa];simp only;rw[Akn b h2];by_cases h3:(Dc (b.take 18)).toNat=Ek (part b 18 4)
   ·rw[Aba (by simpa using h3),Al2 b h2 hb,BS,iZ];rw[show Aj [(f0 b:Int),(f1 b:Int),(f2 b:Int),(f3 b:Int),(f4 b:Int)] 0=some (f0 b:Int)from rfl,show Aj [(f0 b:Int),(f1 b:Int),(f2 b:Int),(f3 b:Int),(f4 b:Int)] 1=some (f1 b:Int)from rfl,show Aj [(f0 b:Int),(f1 b:Int),(f2 b:Int),(f3 b:Int),(f4 b:Int)] 2=some (f2 b:Int)from rfl,
     show Aj [(f0 b:Int),(f1 b:Int),(f2 b:Int),(f3 b:Int),(f4 b:Int)] 3=some (f3 b:Int)from rfl,show Aj [(f0 b:Int),(f1 b:Int),(f2 b:Int),(f3 b:Int),(f4 b:Int)] 4=some (f4 b:Int)from rfl]
    simp only[Aa,fD];cases h4:Fb (f0 b) (f1 b) (f2 b) (f3 b) (f4 b)with
    |false=>rw[rs4 h h2 h3 h4];rfl
    |true=>
     rw[sI h4,Aba (by simp),Aa];cases h5:CX (f1 b) (f3 b) (f4 b)with
     |false=>rw[rs5 h h2 h3 h4 h5];rfl
     |true=>rw[rs6 h h2 h3 h4 h5];rfl
   ·rw[Abb (by simpa using h3),rs3 h h2 h3]
 ·rw[Abb (by simpa using h),rs1 h]
theorem xO(b:List UInt8)(hb:b.length<4611686018427387904):Nr b=some (Le b):=by
 rw[Nr,JS,Awq,Je,Aa,Ajv,Je (by omega) (by simp;omega),Aa,Ajv];by_cases h:b.take (min 4 b.length)=Nq.take (min 4 b.length)
 ·rw[Aba (by rw[h];simp[Nq]),KV,JW];by_cases h2:b.length<22
  ·rw[Abb (by rw[Af,Ac];simp;omega),rs2 h h2]
  ·have a1:Ca b 18 22=some (part b 18 4):=Nn 18 4;have c1:Ca b 4 6=some (part b 4 2):=Nn 4 2;have c2:Ca b 6 8=some (part b 6 2):=Nn 6 2;have c3:Ca b 8 10=some (part b 8 2):=Nn 8 2;have c4:Ca b 10 14=some (part b 10 4):=Nn 10 4;have c5:Ca b 14 18=some (part b 14 4):=Nn 14 4;have hs:Bk (lX (part b 18 4)) (Ad (Dc (b.take 18)):UInt64)=decide ((Dc (b.take 18)).toNat≠Ek (part b 18 4)):=by
    rw[<-Akn b h2,NZ,NZ,Akg];simp only[Bak,ne_eq];exact not_congr eq_comm
   have lp:∀a w,a+w<=b.length->Cz (part b a w)=some (lX (part b a w)):=λa w h=>Aag _ (by rw[Di h];omega);rw[Aba (by rw[Af,Ac];simp;omega),a1,Aa,Je,Aa,show(18:Int).toNat=18 from rfl,lp _ _ (by omega),Aa,Akq _ (by simp;omega),Aa,hs];by_cases h3:(Dc (b.take 18)).toNat=Ek (part b 18 4)
   ·rw[Aba (by simpa using h3),KZ,KF,c1,Aa,c2,Aa,c3,Aa,c4,Aa,c5,Aa,lp _ _ (by omega),Aa,lp _ _ (by omega),Aa,lp _ _ (by omega),Aa,lp _ _ (by omega),Aa,lp _ _ (by omega),Aa,
     KR,KE,IV (by rw[Di];omega),IV (by rw[Di];omega),IV (by rw[Di];omega),IV (by rw[Di];omega),IV (by rw[Di];omega)]
    rw[show Ek (part b 4 2)=f0 b from rfl,show Ek (part b 6 2)=f1 b from rfl,show Ek (part b 8 2)=f2 b from rfl,show Ek (part b 10 4)=f3 b from rfl,show Ek (part b 14 4)=f4 b from rfl,Adw,Aa];cases h4:Fb (f0 b) (f1 b) (f2 b) (f3 b) (f4 b)with
    |false=>rw[rs4 h h2 h3 h4];rfl
    |true=>
     rw[An6 h4,Aba (by simp),Aa];cases h5:CX (f1 b) (f3 b) (f4 b)with
     |false=>rw[rs5 h h2 h3 h4 h5];rfl
     |true=>rw[rs6 h h2 h3 h4 h5];rfl
   ·rw[Abb (by simpa using h3),rs3 h h2 h3]
 ·rw[Abb (by simpa [Nq]using h),rs1 h]
theorem Aah{b:List UInt8}(h:(Le b).2.2.2.2.2=0):Le b=((f0 b:Int),(f1 b:Int),(f2 b:Int),(f3 b:Int),(f4 b:Int),0)/\22<=b.length/\Fb (f0 b) (f1 b) (f2 b) (f3 b) (f4 b)=true/\CX (f1 b) (f3 b) (f4 b)=true:=by
 unfold Le at h⊢;split at h; · simp at h
 rename_i c1;rw[Aba c1];split at h; · simp at h
 rename_i c2;rw[Aba c2];split at h; · simp at h
 rename_i c3;rw[Aba c3];split at h; · simp at h
 rename_i c4;rw[Aba c4];split at h; · simp at h
 rename_i c5;rw[Aba c5];exact⟨rfl,by omega,by simpa using c4,by simpa using c5⟩
theorem uV{f c w r n:Nat}(h:Fb f c w r n=true)(h2:CX c r n=true):Xv (f:Int) (c:Int) (w:Int) (r:Int) (n:Int)=some (Au (Ay r) n,0):=by
 have hc:Qp (f:Int) (c:Int) (w:Int) (r:Int) (n:Int)=some 0:=by
  rw[Qp,fD,Aa,h,Aba (by simp),sI h,Aa,h2];rfl
 have hd:4000/c<=4000:=As9 _ _;simp only[Fb,Ab1]at h;simp only[CX,Ab1]at h2;rw[Xv,hc,Aa,Aba (by rw[Ak];simp),Abg (by omega) (by omega) (by omega) (by omega) h2.2];rfl
def okL:List Int->Int->Bool
 |[],_=>true
 |x::l,left=>decide (5<=x/\x<=left)&&okL l (left-x)
theorem Ali:∀l:List Int,(∀x∈l,5<=x)->0<=l.sum
 |[],_=>by simp
 |x::l,h=>by
  have h1:=h x Aun;have h2:=Ali l λy hy=>h y (Aj6 _ hy);rw[Av4];omega
theorem kE:∀(l:List Int) (left:Int),0<=left-> (okL l left=true↔(∀x∈l,5<=x)/\l.sum<=left)
 |[],left,h=>by simp[okL];exact h
 |x::l,left,h=>by
  rw[okL,Abx,Ab1,Av4];by_cases hx:5<=x/\x<=left
  ·rw[kE l (left-x) (by omega)];constructor
   ·rintro⟨_,h1,h2⟩;exact⟨λy hy=>(List.mem_cons.1 hy).elim (λe=>e▸hx.1) (h1 y),by omega⟩
   ·rintro⟨h1,h2⟩;exact⟨hx,λy hy=>h1 y (Aj6 _ hy),by omega⟩
  ·constructor
   ·rintro⟨h1,_⟩;exact absurd h1 hx
   ·rintro⟨h1,h2⟩;have h3:=h1 x Aun;have:0<=l.sum:=Ali l λy hy=>h1 y (Aj6 _ hy);omega
theorem E6(l:List Int)(hl:l.length<=1000):∀(j i q:Nat) (left:Int),i+j=l.length->j<q->0<=left->left<=100000->Pu l q left (i:Int)=some (if okL (l.drop i) left=true then 0 else 8)
 |0,i,q+1,left,hi,_,_,_=>by
  rw[Pu,EX,Aba (by rw[Af,Ac];simp;omega),show i=l.length by omega,Ayy];rfl
 |j+1,i,q+1,left,hi,hq,h0,h1=>by
  have hlt:i<l.length:=by omega
  rw[Pu,EX,Abb (by rw[Af,Ac];simp;omega),Ck hlt,Aa,drop_cons hlt];by_cases h:5<=l[i]/\l[i]<=left
  ·rw[Aba (by simp[Af,Am];omega),Bi,Ag];have ih:=E6 l hl j (i+1) q (left-l[i]) (by omega) (by omega) (by omega) (by omega);rw[show((i:Int)+1)=((i+1:Nat):Int) by omega,ih];simp[okL,h]
  ·rw[Abb (by simp[Af,Am];omega)];have:okL (l[i]::l.drop (i+1)) left=false:=by rw[okL,Azr h];rfl
   rw[this];rfl
def KS(l:List Int):Bool:=decide (1<=l.length/\l.length<=1000)&&okL l 100000
theorem jq(l:List Int)(hl:l.length<=1000):Qm l=some (if KS l=true then 0 else 8):=by
 rw[Qm,EC,KS];by_cases h:1<=l.length
 ·rw[Aba (by rw[Be,Am,Ac];simp;constructor;(intro e;subst e;simp at h);omega),RJ];have:=E6 l hl l.length 0 Aq 100000 (by omega) (by have:=Al;omega) (by omega) (by omega);rw[List.drop_zero]at this;rw[decide_eq_true (show 1<=l.length/\l.length<=1000 from⟨h,hl⟩),Az0];exact this
 ·have:l=[]:=by
   cases l with
   |nil=>rfl
   |cons _ _=>simp at h
  subst this;rfl
theorem O4(l:List Int)(hl:l.length<=1000):∀(j i q:Nat) (s:Int),i+j=l.length->j<q->0<=s->s<=100000*(i:Int)->Io l q s (i:Int)=some (if(∀x∈l.drop i,5<=x/\x<=100000)/\s+(l.drop i).sum<=100000 then 0 else 8)
 |0,i,q+1,s,hi,_,_,_=>by
  rw[Io,Tn,Aba (by rw[Af,Ac];simp;omega),show i=l.length by omega,Ayy,EA,EN];by_cases h:s<=100000
  ·rw[Aba (by rw[Am];simp;omega),Abb (by simp;omega)]
  ·rw[Abb (by rw[Am];simp;omega),Aba (by simp;omega)]
 |j+1,i,q+1,s,hi,hq,h0,h1=>by
  have hlt:i<l.length:=by omega
  rw[Io,Tn,Abb (by rw[Af,Ac];simp;omega),Ck hlt,Aa,drop_cons hlt];by_cases h5:l[i]<5
  ·rw[Abb (by rw[Af];simpa using h5),Aba (λh=>by have:=(h.1 l[i] Aun).1;omega)]
  ·rw[Aba (by rw[Af];simpa using h5),Aa];by_cases h6:100000<l[i]
   ·rw[Abb (by rw[Am];simpa using h6),Aba (λh=>by have:=(h.1 l[i] Aun).2;omega)]
   ·rw[Aba (by rw[Am];simpa using h6),GB,FX,Ck hlt,Aa,Ag,Ag];have ih:=O4 l hl j (i+1) q (s+l[i]) (by omega) (by omega) (by omega) (by omega);rw[show((i:Int)+1)=((i+1:Nat):Int) by omega,ih];have e:((∀x∈l.drop (i+1),5<=x/\x<=100000)/\s+l[i]+(l.drop (i+1)).sum<=100000)↔((∀x∈l[i]::l.drop (i+1),5<=x/\x<=100000)/\s+(l[i]::l.drop (i+1)).sum<=100000):=by
     rw[Av4,List.forall_mem_cons,Az7];constructor
     ·rintro⟨a,b⟩;exact⟨⟨by omega,a⟩,b⟩
     ·rintro⟨⟨_,a⟩,b⟩;exact⟨a,b⟩
    simp only[e]
theorem R9:∀{l:List Int},(∀x∈l,5<=x)->∀x∈l,x<=l.sum
 |[],_,x,hx=>by simp at hx
 |y::l,h,x,hx=>by
  have h1:=h y Aun;have h2:=Ali l λz hz=>h z (Aj6 _ hz);rw[Av4];rcases List.mem_cons.1 hx with rfl|hx
  ·omega
  ·have:=R9 (l:=l) (λz hz=>h z (Aj6 _ hz)) x hx;omega
theorem Aa9(l:List Int)(hl:l.length<=1000):Ir l=some (if KS l=true then 0 else 8):=by
 rw[Ir,Sy,KS];by_cases h:1<=l.length
 ·have:=O4 l hl l.length 0 Aq 0 (by omega) (by have:=Al;omega) (by omega) (by omega);rw[Aba (by rw[Af,Am,Ac];simp;omega),GJ];refine Axb this ?_;rw[List.drop_zero,decide_eq_true (show 1<=l.length/\l.length<=1000 from⟨h,hl⟩),Az0];have e:((∀x∈l,5<=x/\x<=100000)/\0+l.sum<=100000)↔okL l 100000=true:=by
   rw[kE l 100000 (by omega),Int.zero_add];constructor
   ·rintro⟨a,b⟩;exact⟨λx hx=>(a x hx).1,b⟩
   ·rintro⟨a,b⟩;exact⟨λx hx=>⟨a x hx,Int.le_trans (R9 a x hx) b⟩,b⟩
  simp only[e]
 ·have:l=[]:=by
   cases l with
   |nil=>rfl
   |cons _ _=>simp at h
  subst this;rfl
theorem eK(l:List Int):Qm l=some (if KS l=true then 0 else 8):=by
 by_cases hl:l.length<=1000
 ·exact jq l hl
 ·rw[Qm,EC,Abb (by rw[Am,Ac];simp;omega),KS,Azr (by omega)];rfl
theorem I8(l:List Int):Ir l=some (if KS l=true then 0 else 8):=by
 by_cases hl:l.length<=1000
 ·exact Aa9 l hl
 ·rw[Ir,Sy,Abb (by rw[Am,Ac];simp;omega),KS,Azr (by omega)];rfl
theorem Ads(l:List Int)(hl:l.length<=1000)(hx:∀x∈l,0<=x/\x<4294967296):Qm l=some (if KS l=true then 0 else 8):=eK l
theorem Ahw(l:List Int)(hl:l.length<=1000)(hx:∀x∈l,0<=x/\x<4294967296):Ir l=some (if KS l=true then 0 else 8):=I8 l
def TA(b:List UInt8)(n:Nat):List Int:=(List.range n).map λi=>(Ek (part b (4*i) 4):Int)
theorem DO(b:List UInt8)(n:Nat):(TA b n).length=n:=by simp[TA]
theorem M3(b:List UInt8)(n:Nat):TA b (n+1)=TA b n++[(Ek (part b (4*n) 4):Int)]:=by simp[TA,List.range_succ]
theorem Aeo(b:List UInt8)(n:Nat)(h:4*n<=b.length):∀x∈TA b n,0<=x/\x<4294967296:=by
 intro x hx;simp only[TA,List.mem_map,List.mem_range]at hx;obtain⟨i,hi,rfl⟩:=hx;have:=Af5 (l:=part b (4*i) 4) (by rw[Di];omega);omega
def Jt(b:List UInt8)(n:Nat):List Int×Int:=
 if ¬(1<=n/\n<=1000)then([],2)else if b.length<4*n+4 then([],24)else if(Dc (b.take (4*n))).toNat≠Ek (part b (4*n) 4)then([],22)else
 if KS (TA b n)=true then(TA b n,0)else([],12)
theorem Afx{b:List UInt8}{n:Nat}(h:1<=n/\n<=1000)(h2:¬b.length<4*n+4):Bk (Ad (Dc (b.take (4*n))):UInt64) (lX (part b (4*n) 4))=decide ((Dc (b.take (4*n))).toNat≠Ek (part b (4*n) 4)):=by
 rw[NZ,Cn,Akg];simp only[Bak,ne_eq,Ab1];rw[<-Azu,US (by have:=(Dc (b.take (4*n))).toNat_lt;omega),UT (by rw[Di];omega)]
section
variable {b:List UInt8} {n:Nat}
theorem ss1(h:¬(1<=n/\n<=1000)):Jt b n=([],2):=by rw[Jt,Abb h]
variable (h:1<=n/\n<=1000)
include h
theorem ss2(h2:b.length<4*n+4):Jt b n=([],24):=by rw[Jt,Aba (λe=>e h),Abb h2]
variable (h2:¬b.length<4*n+4)
include h2
theorem ss3(h3:(Dc (b.take (4*n))).toNat≠Ek (part b (4*n) 4)):Jt b n=([],22):=by rw[Jt,Aba (λe=>e h),Aba h2,Abb h3]
theorem ss4(h3:(Dc (b.take (4*n))).toNat=Ek (part b (4*n) 4)):Jt b n=if KS (TA b n)=true then(TA b n,0)else([],12):=by rw[Jt,Aba (λe=>e h),Aba h2,Aba (λe=>e h3)]
end
theorem O0(b:List UInt8)(l8:List Int)(n:Nat)(hn:n<=1000)(h8:l8.length=n)(hb:4*n+4<=b.length)(hb2:b.length<4611686018427387904):∀(j i q:Nat),i+j=n->j<q->Sj b l8 q (i:Int) (TA b i++List.replicate j 0)=IB (TA b n)
 |0,i,q+1,hi,_=>by
  obtain rfl:i=n:=by omega
  rw[Sj,IE,Aba (by rw[Af,Ac];simp;omega)];simp
 |j+1,i,q+1,hi,hq=>by
  have hlen:(TA b i++List.replicate (j+1) 0).length=i+(j+1):=by simp[DO]
  have ha:=L8 b (4*i) 4 (by omega) (by omega) (by omega) hb2;rw[Sj,IE,Abb (by rw[Af,Ac];simp;omega),Hc,show(4:Int)*(i:Int)=((4*i:Nat):Int) by omega,show(4:Int)=((4:Nat):Int)from rfl,ha,Aa];simp only;rw[Ck (by rw[hlen];omega),Aa,Rj _ (by rw[hlen];omega),Aa,IV (by rw[Di];omega),Ag,Awh,ZB (DO _ _)];have ih:=O0 b l8 n hn h8 hb hb2 j (i+1) q (by omega) (by omega);rw[M3]at ih;rw[show((i:Int)+1)=((i+1:Nat):Int) by omega,<-ih];simp
theorem Q9(b:List UInt8)(n:Nat)(hb:b.length<=100100):RB b (n:Int)=some (Jt b n):=by
 rw[RB,WQ];by_cases h:1<=n/\n<=1000
 ·rw[Aba (by simp[Af,Am];omega),Hc,Ag];by_cases h2:b.length<4*n+4
  ·rw[Abb (by rw[Af,Ac];simp;omega),ss2 h h2]
  ·have ha:YB b (4*(n:Int)) 4=some (lX (part b (4*n) 4),0):=by
    rw[show(4:Int)*(n:Int)=((4*n:Nat):Int) by omega];exact L8 b (4*n) 4 (by omega) (by omega) (by omega) (by omega)
   rw[Aba (by rw[Af,Ac];simp;omega),ha,Aa];simp only;rw[Je,Aa,show(4*(n:Int)).toNat=4*n by omega,sP _ (by simp;omega),Aa];simp only;rw[Afx h h2];by_cases h3:(Dc (b.take (4*n))).toNat=Ek (part b (4*n) 4)
   ·have hlp:=O0 b (List.replicate n 0) n (by omega) (by simp) (by omega) (by omega) n 0 Aq (by omega) (by have:=Al;omega);rw[Aba (by simpa using h3),mG,Aa,Bf (by rw[Be];simp),Aa,VS,Ajv];refine Axb (hlp) ?_;rw[IB,mM,Ads _ (by rw[DO];omega) (Aeo b n (by omega)),Aa,ss4 h h2 h3];cases KS (TA b n)<;>rfl
   ·rw[Abb (by simpa using h3),ss3 h h2 h3]
 ·rw[Abb (by simp[Af,Am];omega),ss1 h]
theorem mB(b:List UInt8)(n:Nat)(hn:n<=1000)(hb:4*n+4<=b.length)(hb2:b.length<4611686018427387904):∀(j i q:Nat),i+j=n->j<q->Jg b (n:Int) q (i:Int) (TA b i)=Uu (TA b n)
 |0,i,q+1,hi,_=>by
  obtain rfl:i=n:=by omega
  rw[Jg,Un,Aba (by rw[Af];simp)]
 |j+1,i,q+1,hi,hq=>by
  have hc:Ca b ((4:Int)*(i:Int)) ((4:Int)*(i:Int)+4)=some (part b (4*i) 4):=by
   rw[show(4:Int)*(i:Int)=((4*i:Nat):Int) by omega];exact Nn (4*i) 4
  rw[Jg,Un,Abb (by rw[Af];simp;omega),Hc,Ag,hc,Aa,Aag _ (by rw[Di];omega),Aa,Cg (by rw[DO];simp;omega),Aa,
   IV (by rw[Di];omega),Ag,<-M3]
  exact mB b n hn hb hb2 j (i+1) q (by omega) (by omega)
theorem Aa8(b:List UInt8)(n:Nat)(hb:b.length<=100100):Nt b (n:Int)=some (Jt b n):=by
 rw[Nt,JF];by_cases h:1<=n/\n<=1000
 ·rw[Aba (by simp[Af,Am];omega),Hc,Ag];by_cases h2:b.length<4*n+4
  ·rw[Abb (by rw[Af,Ac];simp;omega),ss2 h h2]
  ·have hc:Ca b ((4:Int)*(n:Int)) ((4:Int)*(n:Int)+4)=some (part b (4*n) 4):=by
    rw[show(4:Int)*(n:Int)=((4*n:Nat):Int) by omega];exact Nn (4*n) 4
   have hs:Bk (lX (part b (4*n) 4)) (Ad (Dc (b.take (4*n))):UInt64)=decide ((Dc (b.take (4*n))).toNat≠Ek (part b (4*n) 4)):=by
    rw[<-Afx h h2,NZ,NZ,Akg];simp only[Bak,ne_eq];exact not_congr eq_comm
   rw[Aba (by rw[Af,Ac];simp;omega),hc,Aa,Je,Aa,show(4*(n:Int)).toNat=4*n by omega,Aag _ (by rw[Di];omega),Aa,Akq _ (by simp;omega),Aa,hs];by_cases h3:(Dc (b.take (4*n))).toNat=Ek (part b (4*n) 4)
   ·have hlp:=mB b n (by omega) (by omega) (by omega) n 0 Aq (by omega) (by have:=Al;omega);rw[Aba (by simpa using h3),JV,JE,LC];refine Axb hlp ?_;rw[Uu,KN,Ahw _ (by rw[DO];omega) (Aeo b n (by omega)),Aa,ss4 h h2 h3];cases KS (TA b n)<;>rfl
   ·rw[Abb (by simpa using h3),ss3 h h2 h3]
 ·rw[Abb (by simp[Af,Am];omega),ss1 h]
theorem yG{b:List UInt8}{n:Nat}(h:(Jt b n).2=0):Jt b n=(TA b n,0)/\1<=n/\n<=1000/\4*n+4<=b.length/\ (∀x∈TA b n,5<=x)/\ (TA b n).sum<=100000:=by
 unfold Jt at h⊢;split at h; · simp at h
 rename_i c1;rw[Aba c1];split at h; · simp at h
 rename_i c2;rw[Aba c2];split at h; · simp at h
 rename_i c3;rw[Aba c3];split at h
 ·rename_i c4;rw[Abb c4];have c4':=c4;rw[KS,Abx,kE _ _ (by omega)]at c4';exact⟨rfl,by omega,by omega,by omega,c4'.2.1,c4'.2.2⟩
 ·simp at h
def VT(b:List UInt8):List UInt8:=b.drop (Ed b).1.toNat
abbrev Op8:=Int×Int×Int×Int×Int×Int×(List Int)×Int
def TG(e:Int):Op8:=(0,0,0,0,0,0,[],e)
theorem Anv(A K:Nat)(h:A<=200000)(hk:K<=1000):Ae (Ae (A:Int) (Bd 4 (K:Int))) 4=((A+4*K+4:Nat):Int):=by
 rw[Hc,Ag (a:=(A:Int)) (by omega) (by omega),Ag];omega
theorem sL{f c w r n:Nat}(h1:Fb f c w r n=true)(h2:CX c r n=true)(b:List UInt8)(hb:b.length<=100100)(A:Nat)(hA:A<=b.length):
  Px b (f:Int) (c:Int) (w:Int) (r:Int) (n:Int) (A:Int)=
   some (if(Jt (b.drop A) (Au (Ay r) n).length).2≠0 then TG (Jt (b.drop A) (Au (Ay r) n).length).2 else((f:Int),(c:Int),(w:Int),(r:Int),(n:Int),((A+4*(Au (Ay r) n).length+4:Nat):Int),(Jt (b.drop A) (Au (Ay r) n).length).1,0)):=by
 rw[Px,gI,uV h1 h2,Aa];simp only;rw[Aba (by rw[Ak];simp),Jb,Aa,Ac,show(A:Int).toNat=A from rfl,Q9 _ _ (by simp;omega),Aa];by_cases h:(Jt (b.drop A) (Au (Ay r) n).length).2≠0
 ·rw[Abb h,Abb (by rw[Ak];simpa using h)];rfl
 ·have h0:(Jt (b.drop A) (Au (Ay r) n).length).2=0:=by simpa using h
  obtain⟨g1,g2,g3,g4,g5,g6⟩:=yG h0;have gl:(Jt (b.drop A) (Au (Ay r) n).length).1.length=(Au (Ay r) n).length:=by rw[g1];exact DO _ _
  rw[Aba h,Aba (by rw[Ak];simpa using h),Ac,gl,Anv _ _ (by omega) (by omega)]
theorem Akw{f c w r n:Nat}(h1:Fb f c w r n=true)(h2:CX c r n=true)(b:List UInt8)(hb:b.length<=100100)(A:Nat)(hA:A<=b.length):
  Ku b (f:Int) (c:Int) (w:Int) (r:Int) (n:Int) (A:Int)=
   some (if(Jt (b.drop A) (Au (Ay r) n).length).2≠0 then TG (Jt (b.drop A) (Au (Ay r) n).length).2 else((f:Int),(c:Int),(w:Int),(r:Int),(n:Int),((A+4*(Au (Ay r) n).length+4:Nat):Int),(Jt (b.drop A) (Au (Ay r) n).length).1,0)):=by
 have hs:(1<=r/\r<=1048576)/\1<=n/\1<=c:=by
  simp only[Fb,Ab1]at h1;omega
 have hf:n<=4000:=by
  simp only[CX,Ab1]at h2;have:=As9 4000 c;omega
 rw[Ku,BZ,Jb,Aa,pU hs.1.2 hs.2.1 hf,Aa,Ac,show(A:Int).toNat=A from rfl,Aa8 _ _ (by simp;omega),Aa];simp only;rw[BY,CM];by_cases h:(Jt (b.drop A) (Au (Ay r) n).length).2≠0
 ·rw[Abb h,Abb (by rw[Ak];simpa using h)];rfl
 ·have h0:(Jt (b.drop A) (Au (Ay r) n).length).2=0:=by simpa using h
  obtain⟨g1,g2,g3,g4,g5,g6⟩:=yG h0;have gl:(Jt (b.drop A) (Au (Ay r) n).length).1.length=(Au (Ay r) n).length:=by rw[g1];exact DO _ _
  rw[Aba h,Aba (by rw[Ak];simpa using h),Ac,gl,Anv _ _ (by omega) (by omega)]
structure Opn (b p:List UInt8) (f c w r n A:Nat) (l:List Int):Prop where
 prog:Cp b p=some ((f:Int),(c:Int),(w:Int),(r:Int),(n:Int),(A:Int),l,0)
 ref:Dm b p=some ((f:Int),(c:Int),(w:Int),(r:Int),(n:Int),(A:Int),l,0)
 pass:p.length<=64
 file:b.length<=100000
 shape:Fb f c w r n=true
 fit:CX c r n=true
 len:l.length=(Au (Ay r) n).length
 some1:1<=l.length/\l.length<=1000
 five:∀x∈l,5<=x
 sum:l.sum<=100000
 at':A<=b.length
 tag:(Ed b).2=0
 head:Le (VT b)=((f:Int),(c:Int),(w:Int),(r:Int),(n:Int),0)
 tab:Jt (b.drop ((Ed b).1.toNat+22+(if f=2 then 8 else 0))) l.length=(l,0)
 pos:A=(Ed b).1.toNat+22+(if f=2 then 8 else 0)+4*l.length+4
theorem wN(b p:List UInt8)(hb:b.length<=100100)(hp:p.length<=64):
  (∃e:Int,e≠0/\Cp b p=some (TG e)/\Dm b p=some (TG e))\/ (∃f c w r n A l,Opn b p f c w r n A l):=by
 by_cases h1:100000<b.length
 ·refine .inl ⟨4,by omega,?_,?_⟩
  ·rw[Cp,Po,Aba (by rw[Am,Ac];simp;omega),Abb (by rw[Am,Ac];simp;omega)];rfl
  ·rw[Dm,Qs,Abb (by rw[Am,Ac];simp;omega)];rfl
 have hP:Cp b p=Cp b p:=rfl;have hR:Dm b p=Dm b p:=rfl
 conv at hP=>rhs;rw[Cp,Po,Aba (by rw[Am,Ac];simp;omega),Aba (by rw[Am,Ac];simp;omega),BL b (by omega),Aa]
 conv at hR=>rhs;rw[Dm,Qs,Aba (by rw[Am,Ac];simp;omega),ZY b (by omega),Aa]
 by_cases h2:(Ed b).2=0
 ·obtain⟨p0,p1,p2⟩:=rN h2;have hc:=Jb (l:=b) p0 p1;simp only[h2]at hP hR;rw[Aba (by rw[Ak];simp),hc,Aa,show b.drop (Ed b).1.toNat=VT b from rfl,kF _ (by simp[VT];omega),Aa]at hP;rw[Aba (by rw[Ak];simp),hc,Aa,show b.drop (Ed b).1.toNat=VT b from rfl,xO _ (by simp[VT];omega),Aa]at hR;by_cases h3:(Le (VT b)).2.2.2.2.2=0
  ·obtain⟨g1,g2,g3,g4⟩:=Aah h3;have hlen:(VT b).length=b.length-(Ed b).1.toNat:=by simp[VT]
   generalize hF:(Ed b).1.toNat=F at*
   have hF':(Ed b).1=(F:Int):=by omega
   rw[g1,hF']at hP hR;simp only at hP hR;generalize f0 (VT b)=f at*
   generalize f1 (VT b)=c at*
   generalize f2 (VT b)=w at*
   generalize f3 (VT b)=r at*
   generalize f4 (VT b)=n at*
   have t22:Ae (F:Int) 22=((F+22:Nat):Int):=by rw[Ag];omega
   have t30:Ae ((F+22:Nat):Int) 8=((F+30:Nat):Int):=by rw[Ag];omega
   have Azi:f=1\/f=2:=by simp only[Fb,Ab1]at g3;omega
   rw[Aba (by rw[Ak];simp),t22,t30]at hP hR;have hend:∀A:Nat,A<=b.length->A=F+22+(if f=2 then 8 else 0)->Cp b p=Px b (f:Int) (c:Int) (w:Int) (r:Int) (n:Int) (A:Int)->Dm b p=Ku b (f:Int) (c:Int) (w:Int) (r:Int) (n:Int) (A:Int)->
     (∃e:Int,e≠0/\Cp b p=some (TG e)/\Dm b p=some (TG e))\/ (∃f c w r n A l,Opn b p f c w r n A l):=by
    intro A hA hA2 e1 e2;rw[sL g3 g4 b hb A hA]at e1;rw[Akw g3 g4 b hb A hA]at e2;by_cases h:(Jt (b.drop A) (Au (Ay r) n).length).2≠0
    ·rw[Abb h]at e1 e2;exact .inl ⟨_,h,e1,e2⟩
    ·have h0:(Jt (b.drop A) (Au (Ay r) n).length).2=0:=by simpa using h
     obtain⟨k1,k2,k3,k4,k5,k6⟩:=yG h0;have gl:(Jt (b.drop A) (Au (Ay r) n).length).1.length=(Au (Ay r) n).length:=by rw[k1];exact DO _ _
     rw[Aba h]at e1 e2;rw[Aue]at k4;refine .inr ⟨f,c,w,r,n,_,_,⟨e1,e2,hp,by omega,g3,g4,gl,by omega,by rw[k1];exact k5,by rw[k1];exact k6,by omega,h2,g1,by rw[gl,hF,<-hA2];exact Prod.ext rfl h0,by rw[gl,hF,<-hA2]⟩⟩
   by_cases YW:((p==([]:List UInt8)) !=(geq (f:Int) (1:Int)))=true
   ·rw[Abb YW]at hP hR;exact .inl ⟨26,by omega,hP,hR⟩
   ·rw[Aba YW]at hP hR;have hpf:(p=[]↔f=1):=by
     rw[Be]at YW;have h5:(p==([]:List UInt8))=((f:Int)==1):=by simpa using YW
     have h6:(p==([]:List UInt8))=true↔((f:Int)==1)=true:=by rw[h5]
     rw[Ax2,Ax2]at h6;rw[h6];omega
    by_cases h5:f=2
    ·have Asg:p≠ []:=λe=>by have:=hpf.1 e;omega
     have h64:(p !=([]:List UInt8))=true:=by simpa using Asg
     rw[Abb h64]at hP;rw[Abb (by rw[Be,h5];rfl),Bi (by rw[Ac];omega) (by rw[Ac];omega)]at hR;by_cases h6:b.length<F+30
     ·rw[Abb (by rw[Af,Ac];simp;omega)]at hP hR;exact .inl ⟨24,by omega,hP,hR⟩
     ·have hseg:((b.take (F+30)).drop (F+22)).length=8:=by simp;omega
      rw[Aba (by rw[Af,Ac];simp;omega),Qx,Aa]at hP hR;rw[We,sA p hp,Aa]at hP;rw[K1 p hp,Aa]at hR;simp only at hP;rw[Aba (by rw[Ak,Ak,Ac,Ac,Ba,show((F+30:Nat):Int).toNat=F+30 from rfl,show((F+22:Nat):Int).toNat=F+22 from rfl,hseg];simp),Gz,Aa,Aa]at hP;simp only at hP;rw[Aba (by rw[Ak];simp)]at hP;generalize(b.take ((F+30:Nat):Int).toNat).drop ((F+22:Nat):Int).toNat=seg at*
      by_cases h7:seg=Kq (Xr p).toNat 8
      ·rw[Aba (by simp[h7])]at hP;rw[Aba (by simp[h7])]at hR;exact hend (F+30) (by omega) (by rw[Abb h5]) hP hR
      ·rw[Abb (by simpa using h7)]at hP;rw[Abb (by simpa using h7)]at hR;exact .inl ⟨26,by omega,hP,hR⟩
    ·have hpe:p=[]:=hpf.2 (by omega);rw[Aba (by rw[hpe];simp)]at hP;rw[Aba (by rw[Be];simp;omega)]at hR;exact hend (F+22) (by omega) (by rw[Aba h5]) hP hR
  ·generalize Le (VT b)=v at*
   obtain⟨v1,v2,v3,v4,v5,v6⟩:=v;simp only at h3 hP hR;rw[Abb (by rw[Ak];simpa using h3)]at hP hR;exact .inl ⟨v6,h3,hP,hR⟩
 ·generalize Ed b=v at*
  obtain⟨v,e⟩:=v;simp only at h2 hP hR;rw[Abb (by rw[Ak];simpa using h2)]at hP hR;exact .inl ⟨e,h2,hP,hR⟩
theorem Ajc(l:List Int)(i:Nat):(l.take i).sum+(l.drop i).sum=l.sum:=by
 conv=>rhs;rw[<-Axf i l,List.sum_append]
theorem Kc{l:List Int}(h5:∀x∈l,5<=x)(i:Nat):0<= (l.take i).sum/\ (l.take i).sum<=l.sum:=by
 have h1:=Ali (l.take i) λx hx=>h5 x (List.mem_of_mem_take hx);have h2:=Ali (l.drop i) λx hx=>h5 x (List.mem_of_mem_drop hx);have:=Ajc l i;omega
theorem Xz{l:List Int}{i:Nat}(h:i<l.length):(l.take (i+1)).sum=(l.take i).sum+l[i]:=by
 rw[Nd h,List.sum_append];simp
section
variable {l:List Int} (hl:l.length<=1000) (h5:∀x∈l,5<=x) (hs:l.sum<=100000)
include hl h5 hs
theorem zY(f c w r n A:Int)(hA:0<=A)(hA2:A<=200000)(k:Nat)(hk:k<=l.length):∀(j i q:Nat),i+j=k->j<q->Il (k:Int) f c w r n A l q (A+(l.take i).sum) (i:Int)=some (A+(l.take k).sum)
 |0,i,q+1,hi,_=>by
  rw[Il,Tf,Aba (by rw[Af];simp;omega),show i=k by omega];rfl
 |j+1,i,q+1,hi,hq=>by
  have hlt:i<l.length:=by omega
  have ih:=zY f c w r n A hA hA2 k hk j (i+1) q (by omega) (by omega);have b1:=Kc h5 i;have b2:=Kc h5 (i+1);have e:=Xz hlt;rw[e,<-Az7]at ih;rw[Il,Tf,Abb (by rw[Af];simp;omega),Ck hlt,Aa,Ag,Ag];exact ih
theorem Ahm(f c w r n A:Int)(hA:0<=A)(hA2:A<=200000)(k:Nat)(hk:k<=l.length):OX f c w r n A l (k:Int)=some (A+(l.take k).sum):=by
 have h:=zY hl h5 hs f c w r n A hA hA2 k hk k 0 Aq (by omega) (by have:=Al;omega);rw[Ax9,List.sum_nil,Int.add_zero]at h;exact h
end
theorem Acf{g n:Nat}(hg:1<=g)(hn:1<=n){x:Int}(h:x∈Au g n):∃m:Nat,x=m/\1<=m/\m<=n:=by
 have hmul:=Ax0 (n-1) g;rw[Au,List.mem_append]at h;rcases h with h|h
 ·rw[List.mem_replicate]at h;have h1:1<= (n-1)/g:=Nat.pos_of_ne_zero h.1;have:=Ado g h1;exact⟨g,h.2,hg,by omega⟩
 ·rw[List.mem_singleton]at h;exact⟨_,h,by omega,by omega⟩
theorem fI{f c w r n:Nat}(h:Fb f c w r n=true):(1<=c/\c<=6)/\Bu (w:Int)/\ (1<=r/\r<=1048576)/\1<=n/\ (f=1\/f=2):=by
 simp only[Fb,Ab1]at h;refine⟨h.2.1,?_,h.2.2.2.1,h.2.2.2.2,h.1⟩;rcases h.2.2.1 with rfl|rfl|rfl
 ·exact .inl rfl
 ·exact .inr (.inl rfl)
 ·exact .inr (.inr rfl)
theorem Atl(n m:Nat):Nc n m 0≠Nc n m 2147483648:=by
 intro h;simp[Nc,Kq,M9]at h
def Bz(b:List UInt8):List UInt8:=b.drop (b.length-32)
theorem ug{b:List UInt8}(h:32<=b.length):(Bz b).length=32:=by rw[Bz,Aue];omega
def GH(t:List UInt8):Nat:=Ek (part t 12 4)-32
def zL(t:List UInt8):Nat:=Ek (part t 16 4)
def Us(b:List UInt8):Int×Int:=
 if ¬(32<=b.length/\ (Bz b).take 8=M9)then(0,6)else if KK (Bz b)=true then(0,12)else
 if Bz b=Nc (GH (Bz b)) (zL (Bz b)) 0 then(if b.length<GH (Bz b)+32 then(0,24)else(((GH (Bz b)+32:Nat):Int),0))else
 if Bz b≠Nc (GH (Bz b)) (zL (Bz b)) 2147483648 then(0,12)else
 if b.length<GH (Bz b)+64 then(0,24)else
 if(b.take (b.length-(GH (Bz b)+64)+32)).drop (b.length-(GH (Bz b)+64))≠Nc (GH (Bz b)) (zL (Bz b)) 2684354560 then(0,12)else(((GH (Bz b)+64:Nat):Int),0)
section
variable {b:List UInt8}
theorem ba1(h:¬(32<=b.length/\ (Bz b).take 8=M9)):Us b=(0,6):=by rw[Us,Abb h]
variable (h:32<=b.length/\ (Bz b).take 8=M9)
include h
theorem ba2(h2:KK (Bz b)=true):Us b=(0,12):=by rw[Us,Aba (λh'=>h' h),Abb h2]
variable (h2:KK (Bz b)=false)
include h2
theorem ba3(h3:Bz b=Nc (GH (Bz b)) (zL (Bz b)) 0):Us b=if b.length<GH (Bz b)+32 then(0,24)else(((GH (Bz b)+32:Nat):Int),0):=by
 rw[Us,Aba (λh'=>h' h),Aba (by rw[h2];simp),Abb h3]
variable (h3:Bz b≠Nc (GH (Bz b)) (zL (Bz b)) 0)
include h3
theorem ba4(h4:Bz b≠Nc (GH (Bz b)) (zL (Bz b)) 2147483648):Us b=(0,12):=by
 rw[Us,Aba (λh'=>h' h),Aba (by rw[h2];simp),Aba h3,Abb h4]
variable (h4:Bz b=Nc (GH (Bz b)) (zL (Bz b)) 2147483648)
include h4
theorem ba5(h5:b.length<GH (Bz b)+64):Us b=(0,24):=by
 rw[Us,Aba (λh'=>h' h),Aba (by rw[h2];simp),Aba h3,Aba (λe=>e h4),Abb h5]
theorem ba6(h5:¬b.length<GH (Bz b)+64):Us b=if(b.take (b.length-(GH (Bz b)+64)+32)).drop (b.length-(GH (Bz b)+64))≠Nc (GH (Bz b)) (zL (Bz b)) 2684354560 then(0,12)else(((GH (Bz b)+64:Nat):Int),0):=by
 rw[Us,Aba (λh'=>h' h),Aba (by rw[h2];simp),Aba h3,Aba (λe=>e h4),Aba h5]
end
theorem tq{b:List UInt8}{n:Int}(h:Us b=(n,0)):32<=n/\n<=b.length:=by
 unfold Us at h;split at h; · simp at h
 rename_i h32;split at h; · simp at h
 split at h
 ·split at h; · simp at h
  simp only[Avn,and_true]at h;omega
 split at h; · simp at h
 split at h; · simp at h
 split at h; · simp at h
 simp only[Avn,and_true]at h;omega
theorem Ah4{b:List UInt8}(h:(Us b).2≠0):(Us b).1=0:=by
 revert h
 unfold Us;split; · simp
 split; · simp
 split
 ·split<;>simp
 split; · simp
 split; · simp
 split<;>simp
theorem Amz{b:List UInt8}(h:32<=b.length)(hl:b.length<4611686018427387904):Ah (Ac b) 32=((b.length-32:Nat):Int)/\Ca b ((b.length-32:Nat):Int) (Ac b)=some (Bz b):=by
 refine⟨by rw[Ac,Bi];omega,?_⟩;rw[Jb];rfl
theorem Aju(b:List UInt8)(hl:b.length<4611686018427387904):pA b=some (Us b):=by
 rw[pA,gV];by_cases h32:32<=b.length
 ·obtain⟨e1,e2⟩:=Amz h32 hl;have hl3:=ug h32;rw[Aba (by rw[e1,Af];simp),e1,e2,Aa,aC,Aa];by_cases hp:(Bz b).take 8=M9
  ·have h:=And.intro h32 hp;rw[Aba (by simpa [M9,hl3]using hp),eJ,vE,e1,e2,Aa,aN _ 0 (by omega) (by omega) (by decide),Aa];cases hb:KK (Bz b)with
   |true=>
    rw[ba2 h hb];simp only[Bam,Asv,Ayl];rw[Aa,aN _ 2147483648 (by omega) (by omega) (by decide),Aa,hb];rfl
   |false=>
    obtain⟨i1,i2,i3,i4⟩:=sJ (Bz b) (by omega) hb;have eI:Ek (part (Bz b) 12 4)-32=GH (Bz b):=rfl;have eM:Ek (part (Bz b) 16 4)=zL (Bz b):=rfl;simp only[Asv,Ayl];rw[eI]at i3;rw[eM]at i4;rw[eI,eM];by_cases c1:Bz b=Nc (GH (Bz b)) (zL (Bz b)) 0
    ·have c1':Bz b=Nc (GH (Bz b)) (zL (Bz b)) (0:UInt64).toNat:=c1;rw[Abb (by simpa using c1'),ba3 h hb c1];by_cases c2:b.length<GH (Bz b)+32
     ·rw[Abb (by rw[Af];simp;omega),Abb c2]
     ·rw[Aba (by rw[Af];simp;omega),Aba c2,Ag];rfl
    ·have c1':¬Bz b=Nc (GH (Bz b)) (zL (Bz b)) (0:UInt64).toNat:=c1;rw[Aba (by simpa using c1'),Aa,aN _ 2147483648 (by omega) (by omega) (by decide),Aa,hb];simp only[Asv,Ayl];rw[eI,eM];by_cases c2:Bz b=Nc (GH (Bz b)) (zL (Bz b)) 2147483648
     ·have c2':Bz b=Nc (GH (Bz b)) (zL (Bz b)) (2147483648:UInt64).toNat:=c2;rw[Aba (by simpa using c2'),Ag];by_cases c3:b.length<GH (Bz b)+64
      ·rw[Abb (by rw[Af,Ac];simp;omega),ba5 h hb c1 c2 c3]
      ·rw[Aba (by rw[Af,Ac];simp;omega),Ac,Bi,Ag,Qx,Aa,xP _ _ _ i3 i4 (by decide),Aa,Gz,Aa,ba6 h hb c1 c2 c3];rw[show((b.length:Int)-(((GH (Bz b):Nat):Int)+64)).toNat=b.length-(GH (Bz b)+64) by omega,show((b.length:Int)-(((GH (Bz b):Nat):Int)+64)+32).toNat=b.length-(GH (Bz b)+64)+32 by omega];have e7:(2684354560:UInt64).toNat=2684354560:=rfl;rw[e7];by_cases c4:(b.take (b.length-(GH (Bz b)+64)+32)).drop (b.length-(GH (Bz b)+64))=Nc (GH (Bz b)) (zL (Bz b)) 2684354560
       ·rw[Aba (by simpa using c4),Aba (λe=>e c4)];rfl
       ·rw[Abb (by simpa using c4),Abb c4]
     ·have c2':¬Bz b=Nc (GH (Bz b)) (zL (Bz b)) (2147483648:UInt64).toNat:=c2;rw[Abb (by simpa using c2'),ba4 h hb c1 c2]
  ·rw[Abb (by rw[Avo,Axj];intro h;exact hp h.2),ba1 (λh=>hp h.2)]
 ·rw[Abb (by rw[Ac,Bi,Af];simp;omega),ba1 (λh=>h32 h.1)]
theorem Aq6{b:List UInt8}(h:32<=b.length):(b.take (b.length-32+8)).drop (b.length-32)=(Bz b).take 8:=by
 rw[Bz,List.take_drop]
theorem An3(b:List UInt8)(hl:b.length<4611686018427387904):CJ b=some (Us b):=by
 rw[CJ,JA];by_cases h32:32<=b.length
 ·obtain⟨e1,e2⟩:=Amz h32 hl;have hl3:=ug h32;rw[Aba (by rw[Af,Ac];simp;omega),e1,Ag,Qx,Aa,show((b.length-32:Nat):Int).toNat=b.length-32 from rfl,show(((b.length-32:Nat):Int)+8).toNat=b.length-32+8 by omega,Aq6 h32];by_cases hp:(Bz b).take 8=M9
  ·have h:=And.intro h32 hp;rw[Aba (by simpa [M9]using hp),LA,KX,e1,e2,Aa,mg _ (by omega) (by omega),Aa];cases hb:KK (Bz b)with
   |true=>rw[ba2 h hb];rfl
   |false=>
    obtain⟨i1,i2,i3,i4⟩:=sJ (Bz b) (by omega) hb;have eI:Ek (part (Bz b) 12 4)-32=GH (Bz b):=rfl;have eM:Ek (part (Bz b) 16 4)=zL (Bz b):=rfl;simp only[Asv,Ayl,Az1];rw[eI]at i3;rw[eM]at i4;rw[eI,eM,Jw,Abb rfl,rF _ _ _ i3 i4 (by decide),Aa,Aa];have e7:(2147483648:UInt64).toNat=2147483648:=rfl;have e8:(2684354560:UInt64).toNat=2684354560:=rfl;rw[e7];by_cases c2:Bz b=Nc (GH (Bz b)) (zL (Bz b)) 2147483648
    ·have c1:Bz b≠Nc (GH (Bz b)) (zL (Bz b)) 0:=λe=>Atl (GH (Bz b)) (zL (Bz b)) (e.symm.trans c2);rw[Aba (by simpa using c2),Uv,Ui,Abb (by simpa using c2),Vj,Vo,Ag (a:=32) (by omega) (by omega),Ag];by_cases c3:b.length<GH (Bz b)+64
     ·rw[Abb (by rw[Af,Ac];simp;omega),ba5 h hb c1 c2 c3]
     ·rw[Aba (by rw[Af,Ac];simp;omega),Abb (by simpa using c2),Ac,Bi,Ag,Qx,Aa,Tw,rF _ _ _ i3 i4 (by decide),Aa,Aa,ba6 h hb c1 c2 c3,e8];rw[show((b.length:Int)-(32+((GH (Bz b):Nat):Int)+32)).toNat=b.length-(GH (Bz b)+64) by omega,show((b.length:Int)-(32+((GH (Bz b):Nat):Int)+32)+32).toNat=b.length-(GH (Bz b)+64)+32 by omega];by_cases c4:(b.take (b.length-(GH (Bz b)+64)+32)).drop (b.length-(GH (Bz b)+64))=Nc (GH (Bz b)) (zL (Bz b)) 2684354560
      ·rw[Aba (by simpa using c4),Aba (λe=>e c4),show(32+((GH (Bz b):Nat):Int)+32)=((GH (Bz b)+64:Nat):Int) by omega]
      ·rw[Abb (by simpa using c4),Abb c4]
    ·rw[Abb (by simpa using c2),Jw,Aba (by simp),rF _ _ _ i3 i4 (by decide),Aa,Aa];have e9:(0:UInt64).toNat=0:=rfl;rw[e9];by_cases c1:Bz b=Nc (GH (Bz b)) (zL (Bz b)) 0
     ·rw[Aba (by simpa using c1),Uv,Ui,Aba (by simpa using c2),Vj,Vo,Ag,ba3 h hb c1,Aba (c:=(Bz b==Nc (GH (Bz b)) (zL (Bz b)) 2147483648)=true) (by simpa using c2)];by_cases c3:b.length<GH (Bz b)+32
      ·rw[Abb (by rw[Af,Ac];simp;omega),Abb c3]
      ·rw[Aba (by rw[Af,Ac];simp;omega),Aba c3,show(32+((GH (Bz b):Nat):Int))=((GH (Bz b)+32:Nat):Int) by omega]
     ·rw[Abb (by simpa using c1),ba4 h hb c1 c2]
  ·rw[Abb (by simpa [M9]using hp),ba1 (λh=>hp h.2)]
 ·rw[Abb (by rw[Af,Ac];simp;omega),ba1 (λh=>h32 h.1)]
def Aiy:Nat->List UInt8->Nat->Int×Int
 |0,_,_=>(0,38)
 |j+1,b,a=>if b=[]then((a:Int),0)else if(Us b).2≠0 then(0,38)else Aiy j (b.take (b.length-(Us b).1.toNat)) (a+1)
theorem zq:∀(j q a:Nat) (b:List UInt8),b.length<j->j<=q->b.length<=4000->a+b.length<=4000->Rz q (a:Int) b=some (Aiy j b a)
 |0,_,_,_,h,_,_,_=>by omega
 |j+1,q+1,a,b,h,hq,h4,ha=>by
  rw[Rz,MU,Aiy];by_cases hb:b=[]
  ·subst hb;rw[Aba (by decide),Abb rfl];rfl
  ·have hpos:0<b.length:=List.length_pos_iff.2 hb;rw[Abb (by rw[Am,Ac];simp;omega),Aba hb,Aju b (by omega),Aa];have hbad:=Ah4 (b:=b);have hok:=λn=>tq (b:=b) (n:=n);generalize Us b=v at*
   obtain⟨n,e⟩:=v;simp only at hbad⊢;rw[HJ,HV];by_cases he:e≠0
   ·rw[Abb he,hbad he,Abb (by decide)]
   ·obtain⟨k1,k2⟩:=hok n (by rw[show e=0 by simpa using he]);rw[Aba he,Aba (by rw[Be];simp;omega),Ac,Bi,Je,Aa,HX,YQ,Ag];rw[show((b.length:Int)-n).toNat=b.length-n.toNat by omega];have ih:=zq j q (a+1) (b.take (b.length-n.toNat)) (by rw[Aiq];omega) (by omega) (by rw[Aiq];omega) (by rw[Aiq];omega);rw[<-ih];rfl
theorem Afe:∀(j q a:Nat) (b:List UInt8),b.length<j->j<=q->b.length<=4000->a+b.length<=4000->Lc q b (a:Int)=some (Aiy j b a)
 |0,_,_,_,h,_,_,_=>by omega
 |j+1,q+1,a,b,h,hq,h4,ha=>by
  rw[Lc,FD,Aiy];by_cases hb:b=[]
  ·subst hb;rw[Aba (by decide),Abb rfl];rfl
  ·have hpos:0<b.length:=List.length_pos_iff.2 hb;rw[Abb (by rw[Am,Ac];simp;omega),Aba hb,An3 b (by omega),Aa];have hok:=λn=>tq (b:=b) (n:=n);generalize Us b=v at*
   obtain⟨n,e⟩:=v;simp only;by_cases he:e≠0
   ·rw[Abb he,Abb (by rw[Ak];simpa using he)]
   ·obtain⟨k1,k2⟩:=hok n (by rw[show e=0 by simpa using he]);rw[Aba he,Aba (by rw[Ak];simpa using he),Ac,Bi,Je,Aa,Ag];rw[show((b.length:Int)-n).toNat=b.length-n.toNat by omega];have ih:=Afe j q (a+1) (b.take (b.length-n.toNat)) (by rw[Aiq];omega) (by omega) (by rw[Aiq];omega) (by rw[Aiq];omega);rw[<-ih];rfl
def IU(b:List UInt8):Int×Int:=if 4000<b.length then(0,38)else Aiy (b.length+1) b 0
theorem uj(b:List UInt8)(hl:b.length<4611686018427387904):OA b=some (IU b):=by
 rw[OA,MQ,IU];by_cases h:4000<b.length
 ·rw[Abb (by rw[Am,Ac];simp;omega),Abb h]
 ·rw[Aba (by rw[Am,Ac];simp;omega),Aba h];exact zq _ Aq 0 b (by omega) (by have:=Al;omega) (by omega) (by omega)
theorem Ad3(b:List UInt8)(hl:b.length<4611686018427387904):Ww b=some (IU b):=by
 rw[Ww,BQ,IU];by_cases h:4000<b.length
 ·rw[Abb (by rw[Am,Ac];simp;omega),Abb h]
 ·rw[Aba (by rw[Am,Ac];simp;omega),Aba h];exact Afe _ Aq 0 b (by omega) (by have:=Al;omega) (by omega) (by omega)
theorem tH{a b:Nat}(h:a<9223372036854775808:=by omega):Bv (a:Int) (b:Int)=((a/b:Nat):Int):=by
 have:a/b<=a:=As9 _ _;rw[MG,Aws (by omega),<-Int.natCast_ediv];generalize a/b=k at*
 exact Bo (by omega) (by omega)
theorem rP{bits:Int}(h:Bu bits)(x:Int):(HB bits x).length=wB bits:=by
 obtain rfl|rfl|rfl:=h<;>rfl
theorem eW{bits:Int}(h:Bu bits):∀l:List Int32,(Ea bits l).length=l.length*wB bits
 |[]=>by simp[Ea]
 |x::l=>by
  have h1:=eW h l;have h2:=rP h x.toInt;simp only[Ea,List.flatMap_cons,Abw,Aj2,Azy]at*
  omega
def Aat(b:List UInt8)(A:Nat)(l:List Int)(k:Nat):List UInt8:=(b.take ((A:Int)+(l.take (k+1)).sum).toNat).drop ((A:Int)+(l.take k).sum).toNat
structure Gts (b p:List UInt8) (f c w r n A:Nat) (l:List Int) (k m:Nat) (x:List Int32) (s:List UInt8) (e:Int):Prop where
 mom:Aj (Au (Ay r) n) (k:Int)=some (m:Int)
 pos:1<=m/\m*c<=4000
 got:Pz b p (f:Int) (c:Int) (w:Int) (r:Int) (n:Int) (A:Int) l (k:Int)=some (s,e)
 none':e≠0->s=[]/\x=[]
 some':e=0->s=Ea (w:Int) x/\x.length=m*c/\Ao (w:Int) x=some 0/\AV (w:Int) x=some (s,0)/\ (A:Int)+(l.take (k+1)).sum<=b.length
 way:((b.length:Int)<(A:Int)+(l.take (k+1)).sum/\e=24)\/ ((A:Int)+(l.take (k+1)).sum<=b.length/\Lj (c:Int) (w:Int) (Xb p) (m:Int) (Aat b A l k)=some (x,e)/\Dk (c:Int) (w:Int) (Xb p) (m:Int) (Aat b A l k)=some (x,e))
theorem rL{b p:List UInt8}{f c w r n A:Nat}{l:List Int}(o:Opn b p f c w r n A l)(k:Nat)(hk:k<l.length):∃m x s e,Gts b p f c w r n A l k m x s e:=by
 obtain⟨hc,hw,hr,hn,_⟩:=fI o.shape;have hfit:n<=4000/c:=by have:=o.fit;simp only[CX,Ab1]at this;exact this.1
 have hn4:n<=4000:=by have:=As9 4000 c;omega
 have hA:=o.at';have Abz:=o.file;have hlen:=o.len;have b1:=Kc o.five k;have b2:=Kc o.five (k+1);have e:=Xz hk;have h5:=o.five l[k] (Avs _);have hsum:=o.sum;have hs1:=o.some1;have hkf:k<(Au (Ay r) n).length:=by omega
 obtain⟨m,hm,m1,m2⟩:=Acf (Qi r) hn (Avs hkf);have Ash:Aj (Au (Ay r) n) (k:Int)=some (m:Int):=by rw[Ck hkf,hm]
 have hpos:1<=m/\m*c<=4000:=by
  refine⟨m1,?_⟩;have:=Ado c (Baf m2 hfit);have:=Ax0 4000 c;omega
 have hR:Pz b p (f:Int) (c:Int) (w:Int) (r:Int) (n:Int) (A:Int) l (k:Int)=Pz b p (f:Int) (c:Int) (w:Int) (r:Int) (n:Int) (A:Int) l (k:Int):=rfl
 conv at hR=>rhs;rw[Pz,NI,Ahm hs1.2 o.five o.sum _ _ _ _ _ (A:Int) (by omega) (by omega) k (by omega),Aa,Ck hk,Aa,Bi (by rw[Ac];omega) (by rw[Ac];omega)]
 by_cases hto:(b.length:Int)<(A:Int)+(l.take (k+1)).sum
 ·rw[Abb (by rw[Af,Ac,Ab1];omega)]at hR;exact⟨m,[],[],24,Ash,hpos,hR,λ_=>⟨rfl,rfl⟩,λh=>by simp at h, .inl ⟨hto,rfl⟩⟩
 ·rw[Aba (by rw[Af,Ac,Ab1];omega),zk p o.pass,pU hr.2 hn hn4]at hR;simp only[Aa]at hR;rw[Ag (a:=(A:Int)+(l.take k).sum) (b:=l[k]) (by omega) (by omega),Az7,<-e,Ash]at hR;simp only[Aa]at hR;rw[Qx,Aa]at hR;obtain⟨x,er,g1,g2,g3,g4⟩:=uO (ch:=c) (n:=m) (t:=Xb p) (Aat b A l k) hw (nC p) hc.1 hc.2 m1 (by omega);rw[show(b.take ((A:Int)+(l.take (k+1)).sum).toNat).drop ((A:Int)+(l.take k).sum).toNat=Aat b A l k from rfl,g2,Aa]at hR;simp only at hR;rw[NK,NO]at hR;by_cases her:er=0
  ·obtain⟨g5,g6,g7⟩:=g3 her;rw[Aba (by rw[Ak];simpa using her),Aic hw g6 g5,Aa]at hR;subst her;exact⟨m,x,_,0,Ash,hpos,hR,λh=>absurd rfl h,λ_=>⟨rfl,g7,g5,zV hw g6 g5,by omega⟩, .inr ⟨by omega,g1,g2⟩⟩
  ·rw[Abb (by rw[Ak];simpa using her)]at hR;exact⟨m,x,_,er,Ash,hpos,hR,λh=>⟨rfl,g4 h⟩,λh=>absurd h her, .inr ⟨by omega,g1,g2⟩⟩
theorem Gts.lens{b p:List UInt8}{f c w r n A:Nat}{l:List Int}{k m:Nat}{x:List Int32}{s:List UInt8}{e:Int}(hw:Bu (w:Int))(g:Gts b p f c w r n A l k m x s e):s.length<=12000/\x.length<=4000/\ (e=0->s.length=m*c*wB (w:Int)):=by
 by_cases he:e=0
 ·obtain⟨h1,h2,_⟩:=g.some' he;have h3:=SR (w:Int) x;have h4:=eW hw x;have h5:=g.pos;rw[<-h1]at h3 h4;refine⟨by omega,by omega,λ_=>by rw[h4,h2]⟩
 ·obtain⟨h1,h2⟩:=g.none' he;exact⟨by simp[h1],by simp[h2],λh=>absurd h he⟩
def B0(G:Nat->List UInt8×Int)(be:Int):Nat->Nat->List UInt8->List UInt8×Int
 |0,_,acc=>if be≠0 then([],38)else(acc,0)
 |j+1,k,acc=>if(G k).2≠0 then([],(G k).2)else B0 G be j (k+1) (acc++(G k).1)
def lD(b p:List UInt8)(f c w r n A:Nat)(l:List Int)(k:Nat):List UInt8×Int:=(Pz b p (f:Int) (c:Int) (w:Int) (r:Int) (n:Int) (A:Int) l (k:Int)).getD ([],0)
theorem Gts.eq{b p:List UInt8}{f c w r n A:Nat}{l:List Int}{k m:Nat}{x:List Int32}{s:List UInt8}{e:Int}(g:Gts b p f c w r n A l k m x s e):lD b p f c w r n A l k=(s,e):=by rw[lD,g.got];rfl
def J2(b:List UInt8)(A:Nat)(l:List Int):Int:=(IU (b.drop ((A:Int)+l.sum).toNat)).2
def lE(b:List UInt8)(k:Nat):Nat:=(b.getD k 0).toNat
def sx(n:Nat)(b:List UInt8)(a:Nat):Int:=
 if n=1 then(lE b a:Int)-128 else
 if n=2 then(if lE b a+256*lE b (a+1)<32768 then(lE b a+256*lE b (a+1):Nat)else((lE b a+256*lE b (a+1):Nat):Int)-65536)else
 (if lE b a+256*lE b (a+1)+65536*lE b (a+2)<8388608 then(lE b a+256*lE b (a+1)+65536*lE b (a+2):Nat)else((lE b a+256*lE b (a+1)+65536*lE b (a+2):Nat):Int)-16777216)
def sxs(n m:Nat)(b:List UInt8):List Int32:=(List.range m).map λx=>Int32.ofInt (sx n b (x*n))
theorem Aqr(n m:Nat)(b:List UInt8):(sxs n m b).length=m:=by simp[sxs]
theorem sx2(b:List UInt8)(a:Nat):sx 2 b a=if lE b a+256*lE b (a+1)<32768 then((lE b a+256*lE b (a+1):Nat):Int)else((lE b a+256*lE b (a+1):Nat):Int)-65536:=rfl
theorem sx3(b:List UInt8)(a:Nat):sx 3 b a=if lE b a+256*lE b (a+1)+65536*lE b (a+2)<8388608 then((lE b a+256*lE b (a+1)+65536*lE b (a+2):Nat):Int)else((lE b a+256*lE b (a+1)+65536*lE b (a+2):Nat):Int)-16777216:=rfl
variable (b:List UInt8)
end Go.Pl
namespace Go.Pl
open Go Go.Lv
end Go.Pl
namespace Go.Pl
open Go Go.Lv
def smF(w:Nat)(y:List UInt8×Int):List Int32:=if y.2≠0 then []else sxs (wB (w:Int)) (y.1.length/wB (w:Int)) y.1
theorem sS(z:Int):(u8 z).toNat=(z %256).toNat:=by
 have:(z %256).toNat<256:=by omega
 rw[u8,Aoi,Abk (by omega)]
theorem xB{bits:Int}(h:Bu bits):∀(l:List Int32) (i j:Nat),i<l.length->j<wB bits-> (Ea bits l).getD (i*wB bits+j) 0=(HB bits (l.getD i 0).toInt).getD j 0
 |[],i,j,hi,_=>by simp at hi
 |x::l,0,j,_,hj=>by
  have h1:=rP h x.toInt;have e:Ea bits (x::l)=HB bits x.toInt++Ea bits l:=by simp[Ea]
  rw[e,Nat.zero_mul,Avi,List.getD_eq_getElem?_getD,List.getD_eq_getElem?_getD,List.getElem?_append_left (by omega)];rfl
 |x::l,i+1,j,hi,hj=>by
  have h1:=rP h x.toInt;have e:Ea bits (x::l)=HB bits x.toInt++Ea bits l:=by simp[Ea]
  have ih:=xB h l i j (by simpa using hi) hj;have e2:(i+1)*wB bits+j=(HB bits x.toInt).length+(i*wB bits+j):=by rw[Au7,Nat.one_mul,h1];omega
  rw[e,e2,List.getD_eq_getElem?_getD,List.getElem?_append_right (by omega),Aw1,<-List.getD_eq_getElem?_getD,ih];rfl
theorem Ar4{bits:Int}(h:Bu bits)(l:List Int32)(hr:inR bits l)(i:Nat)(hi:i<l.length):Int32.ofInt (sx (wB bits) (Ea bits l) (i*wB bits))=l.getD i 0:=by
 have hm:l.getD i 0∈l:=by rw[List.getD_eq_getElem?_getD,List.getElem?_eq_getElem hi];exact Avs hi
 have hv:=hr _ hm;have g:∀j,j<wB bits->lE (Ea bits l) (i*wB bits+j)=((HB bits (l.getD i 0).toInt).getD j 0).toNat:=λj hj=>by rw[lE,xB h l i j hi hj]
 generalize l.getD i 0=x at*
 have key:sx (wB bits) (Ea bits l) (i*wB bits)=x.toInt:=by
  generalize hA:i*wB bits=a at*
  obtain rfl|rfl|rfl:=h
  ·have g0:=g 0 (by decide);have e1:(HB 8 x.toInt).getD 0 0=u8 (x.toInt+128):=rfl;rw[Axv,e1,sS]at g0;simp only[hB]at hv;simp at hv;have e2:wB 8=1:=rfl;rw[e2,sx,Abb rfl,g0];omega
  ·have g0:=g 0 (by decide);have g1:=g 1 (by decide);have e0:(HB 16 x.toInt).getD 0 0=u8 x.toInt:=rfl;have e1:(HB 16 x.toInt).getD 1 0=u8 (x.toInt/256):=rfl;rw[Axv,e0,sS]at g0;rw[e1,sS]at g1;simp only[hB]at hv;simp at hv;have e2:wB 16=2:=rfl;rw[e2,sx2,g0,g1];split<;>omega
  ·have g0:=g 0 (by decide);have g1:=g 1 (by decide);have g2:=g 2 (by decide);have e0:(HB 24 x.toInt).getD 0 0=u8 x.toInt:=rfl;have e1:(HB 24 x.toInt).getD 1 0=u8 (x.toInt/256):=rfl;have e3:(HB 24 x.toInt).getD 2 0=u8 (x.toInt/65536):=rfl;rw[Axv,e0,sS]at g0;rw[e1,sS]at g1;rw[e3,sS]at g2;simp only[hB]at hv;simp at hv;have e2:wB 24=3:=rfl;rw[e2,sx3,g0,g1,g2];split<;>omega
 rw[key];simp
theorem Ano{bits:Int}(h:Bu bits)(l:List Int32)(hr:inR bits l):sxs (wB bits) l.length (Ea bits l)=l:=by
 refine Avq (Aqr _ _ _) λi h1 h2=>?_;have:=Ar4 h l hr i h2;simp only[sxs,Ay1,Ayp];rw[this,List.getD_eq_getElem?_getD,List.getElem?_eq_getElem h2];rfl
theorem Gts.rH{b p:List UInt8}{f c w r n A:Nat}{l:List Int}{k m:Nat}{x:List Int32}{s:List UInt8}{e:Int}(hw:Bu (w:Int))(g:Gts b p f c w r n A l k m x s e):smF w (s,e)=x:=by
 have hwb:=Aky (w:Int);by_cases he:e=0
 ·obtain⟨h1,h2,h3,_⟩:=g.some' he;have h4:=g.pos;have h5:=eW hw x;rw[smF,Aba (by simpa using he)];simp only;rw[h1,h5,Nat.mul_div_cancel _ (by omega)];exact Ano hw x (kR hw (by omega) h3)
 ·rw[smF,Abb he,(g.none' he).2]
abbrev C5:=Int×Int×Int×List Int32×Int
def I5(e:Int):C5:=(0,0,0,[],e)
theorem ru{seg p:List UInt8}(hs:seg.length=8)(hp:p.length<=64):We seg p=some (seg==Kq (Xr p).toNat 8,0):=by
 rw[We,sA p hp,Aa];simp only;rw[Aba (by rw[Ak,Ak,Ac,Ac,Ba,hs];simp),Gz,Aa]
theorem Ao6(b p:List UInt8)(m c w h o q n g y ab:Int)(k v:List Int){e:Int}(he:e≠0):Lr b p m c w h o q n g k e y ab v=some (I5 e):=by
 rw[Lr,DL,Abb (by rw[Ak];simpa using he)];rfl
theorem wC(b p:List UInt8)(m c w h o q n g y ab:Int)(k:List Int){e:Int}(he:e≠0):Pr b p m c w h o q n g y ab k e=some (I5 e):=by
 rw[Pr,DR,Abb (by rw[Ak];simpa using he)];rfl
theorem Am5(b p:List UInt8)(m c w h o q n g y ab:Int)(k:List Int):Pr b p m c w h o q n g y ab k 0=Uz b p m c w h o q n g y ab k:=by
 rw[Pr,DR,Aba (by rw[Ak];simp)]
def mQ(X:Nat->List Int32)(E:Nat->Int)(be:Int):Nat->Nat->List Int32->List Int32×Int
 |0,_,acc=>if be≠0 then([],38)else(acc,0)
 |j+1,k,acc=>if E k≠0 then([],E k)else mQ X E be j (k+1) (acc++X k)
def cP(c w r:Nat)(y:List Int32×Int):C5:=if y.2≠0 then I5 y.2 else((c:Int),(w:Int),(r:Int),y.1,0)
def Agu(b p:List UInt8)(f c w r n A:Nat)(l:List Int):C5:=
 cP c w r (mQ (λk=>smF w (lD b p f c w r n A l k)) (λk=>(lD b p f c w r n A l k).2) (J2 b A l) l.length 0 [])
section
variable {b p:List UInt8} {f c w r n A:Nat} {l:List Int} (o:Opn b p f c w r n A l)
include o
theorem kK(a1 a2 a3 a4:Int):∀(j k q:Nat) (acc:List Int32),k+j=l.length->j<q-> (k=l.length-> (A:Int)+l.sum<=b.length)->acc.length<=4000*k->
  Pq b l (f:Int) (c:Int) (w:Int) (r:Int) (n:Int) a1 a2 a3 (A:Int) a4 (Xb p) (Au (Ay r) n) q ((A:Int)+(l.take k).sum) (k:Int) acc=
   some (cP c w r (mQ (λk=>smF w (lD b p f c w r n A l k)) (λk=>(lD b p f c w r n A l k).2) (J2 b A l) j k acc))
 |0,k,q+1,acc,hk,_,hfit,_=>by
  have hA:=o.at';have Abz:=o.file;have hs1:=o.some1;have hsum:=o.sum;have b1:=Kc o.five l.length;have hf:=hfit (by omega);obtain rfl:k=l.length:=by omega
  rw[Ax1]at b1⊢;rw[Pq,DZ,Aba (by rw[Af,Ac];simp),QQ,eO,Jb,Aa,uj _ (by rw[Aue];omega),Aa,mQ,J2];generalize IU (b.drop ((A:Int)+l.sum).toNat)=v;obtain⟨v1,v2⟩:=v;simp only;by_cases hv:v2≠0
  ·rw[Abb hv,Abb (by rw[Ak];simpa using hv),cP,Abb (by simp)];rfl
  ·rw[Aba hv,Aba (by rw[Ak];simpa using hv),cP,Aba (by simp)]
 |j+1,k,q+1,acc,hk,hq,hfit,hacc=>by
  have hA:=o.at';have Abz:=o.file;have hs1:=o.some1;have hsum:=o.sum;have b1:=Kc o.five k;have b2:=Kc o.five (k+1);have hkl:k<l.length:=by omega
  have e2:=Xz hkl;have h5:=o.five l[k] (Avs _);obtain⟨m,x,s,e,g⟩:=rL o k hkl;obtain⟨hc,hw,hr,hn,_⟩:=fI o.shape;have hl:=g.lens hw;rw[Pq,DZ,Abb (by rw[Af,Ac];simp;omega),Ck hkl,Aa,Aa,Ag (a:=(A:Int)+(l.take k).sum) (by omega) (by omega),Az7,<-e2,Ac,mQ,g.eq];simp only;rcases g.way with⟨h1,h2⟩|⟨h1,h2,_⟩
  ·rw[Abb (by rw[Af,Ab1];omega),Abb (by rw[h2];simp),h2,cP,Abb (by simp)];rfl
  ·rw[Aba (by rw[Af,Ab1];omega),g.mom];simp only[Aa];rw[Qx,Aa,show(b.take ((A:Int)+(l.take (k+1)).sum).toNat).drop ((A:Int)+(l.take k).sum).toNat=Aat b A l k from rfl,h2,Aa];simp only;rw[QN,gD];by_cases he:e≠0
   ·rw[Abb (by rw[Ak];simpa using he),Abb he,cP,Abb he];rfl
   ·have he0:e=0:=by simpa using he
    have Ab0:=(g.some' he0).2.2.2.2;rw[Aba (by rw[Ak];simpa using he),Aba he,g.rH hw,Cg,Aa,Ag (a:=(A:Int)+(l.take k).sum) (by omega) (by omega),Az7,<-e2,Ag];exact kK a1 a2 a3 a4 j (k+1) q (acc++x) (by omega) (by omega) (λh=>by rw[h,Ax1]at Ab0;exact Ab0) (by rw[Abw];omega)
theorem mF:∀(j k q:Nat) (acc:List Int32),k+j=l.length->j<q-> (k=l.length-> (A:Int)+l.sum<=b.length)->acc.length<=4000*k->
  Jk b (f:Int) (c:Int) (w:Int) (r:Int) (n:Int) l (Au (Ay r) n) (Xb p) q ((A:Int)+(l.take k).sum) (k:Int) acc=
   some (cP c w r (mQ (λk=>smF w (lD b p f c w r n A l k)) (λk=>(lD b p f c w r n A l k).2) (J2 b A l) j k acc))
 |0,k,q+1,acc,hk,_,hfit,_=>by
  have hA:=o.at';have Abz:=o.file;have hs1:=o.some1;have hsum:=o.sum;have b1:=Kc o.five l.length;have hf:=hfit (by omega);obtain rfl:k=l.length:=by omega
  rw[Ax1]at b1⊢;rw[Jk,Vn,Aba (by rw[Af,Ac];simp),GM,FL,Jb,Aa,Ad3 _ (by rw[Aue];omega),Aa,mQ,J2];generalize IU (b.drop ((A:Int)+l.sum).toNat)=v;obtain⟨v1,v2⟩:=v;simp only;by_cases hv:v2≠0
  ·rw[Abb hv,Abb (by rw[Ak];simpa using hv),cP,Abb (by simp)];rfl
  ·rw[Aba hv,Aba (by rw[Ak];simpa using hv),cP,Aba (by simp)]
 |j+1,k,q+1,acc,hk,hq,hfit,hacc=>by
  have hA:=o.at';have Abz:=o.file;have hs1:=o.some1;have hsum:=o.sum;have b1:=Kc o.five k;have b2:=Kc o.five (k+1);have hkl:k<l.length:=by omega
  have e2:=Xz hkl;have h5:=o.five l[k] (Avs _);obtain⟨m,x,s,e,g⟩:=rL o k hkl;obtain⟨hc,hw,hr,hn,_⟩:=fI o.shape;have hl:=g.lens hw;rw[Jk,Vn,Abb (by rw[Af,Ac];simp;omega),Ck hkl,Aa,Aa,Ac,Bi,mQ,g.eq];simp only;rcases g.way with⟨h1,h2⟩|⟨h1,_,h2⟩
  ·rw[Abb (by rw[Af,Ab1];omega),Abb (by rw[h2];simp),h2,cP,Abb (by simp)];rfl
  ·rw[Aba (by rw[Af,Ab1];omega),g.mom];simp only[Aa];rw[Ag (a:=(A:Int)+(l.take k).sum) (by omega) (by omega),Az7,<-e2,Qx,Aa,show(b.take ((A:Int)+(l.take (k+1)).sum).toNat).drop ((A:Int)+(l.take k).sum).toNat=Aat b A l k from rfl,h2,Aa];simp only;rw[GN,FO];by_cases he:e≠0
   ·rw[Abb (by rw[Ak];simpa using he),Abb he,cP,Abb he];rfl
   ·have he0:e=0:=by simpa using he
    have Ab0:=(g.some' he0).2.2.2.2;rw[Aba (by rw[Ak];simpa using he),Aba he,g.rH hw,Cg,Aa,Ck hkl,Aa,Aa,Ag (a:=(A:Int)+(l.take k).sum) (by omega) (by omega),Az7,<-e2,Ag];exact mF j (k+1) q (acc++x) (by omega) (by omega) (λh=>by rw[h,Ax1]at Ab0;exact Ab0) (by rw[Abw];omega)
end
theorem K7(l:List Int)(b p:List UInt8)(m c w h o q n g:Int)(k:List Int)(hl:l.length<=1000)(h5:∀x∈l,5<=x)(A:Int)(hA:0<=A)(hb:A+l.sum<=1000000):∀(j i z:Nat),i+j=l.length->j<z->Pf l b p m c w h o q n g k z (i:Int) (A+(l.take i).sum)=CQ b p l m c w h o q n g (A+l.sum) k
 |0,i,z+1,hi,_=>by
  rw[Pf,CY,Aba (by rw[Af,Ac];simp;omega),show i=l.length by omega,Ax1]
 |j+1,i,z+1,hi,hz=>by
  have hlt:i<l.length:=by omega
  have b1:=Kc h5 i;have b2:=Kc h5 (i+1);have e:=Xz hlt;have ih:=K7 l b p m c w h o q n g k hl h5 A hA hb j (i+1) z (by omega) (by omega);rw[e,<-Az7]at ih;rw[Pf,CY,Abb (by rw[Af,Ac];simp;omega),Ck hlt,Aa,Aa,Ag,Ag];exact ih
theorem Ab8(b p:List UInt8)(hb:b.length<=100100)(hp:p.length<=64):
  (∃e:Int,e≠0/\Cp b p=some (TG e)/\Gp b p=some (I5 e)/\Hi b p=some (I5 e))\/
  (∃f c w r n T:Nat,∃q d:Int,T<=b.length/\b.length<=100000/\Fb f c w r n=true/\CX c r n=true/\
   Cp b p=Px b (f:Int) (c:Int) (w:Int) (r:Int) (n:Int) (T:Int)/\
   Gp b p=Uz b p (f:Int) (c:Int) (w:Int) (r:Int) (n:Int) q d (T:Int) 0 0 (Au (Ay r) n)/\
   Hi b p=(Zc b (T:Int) (f:Int) (c:Int) (w:Int) (r:Int) (n:Int)).bind λ(h,ae)=>if Bk ae 0=true then some (I5 ae)else(Dx (r:Int) (n:Int)).bind λp2=>(Jq p).bind λ(u,ap)=>JQ b (f:Int) (c:Int) (w:Int) (r:Int) (n:Int) h p2 u (Ae (T:Int) (Ae (Bd 4 (Ac h)) 4)) 0 []):=by
 have hO:Cp b p=Cp b p:=rfl;have hV:Gp b p=Gp b p:=rfl;have hR:Hi b p=Hi b p:=rfl
 conv at hO=>rhs;rw[Cp,Po,Aba (by rw[Am,Ac];simp;omega)]
 conv at hV=>rhs;rw[Gp,VE,Aba (by rw[Am,Ac];simp;omega),eQ]
 conv at hR=>rhs;rw[Hi,JR,Aba (by rw[Am,Ac];simp;omega),RE]
 by_cases h1:100000<b.length
 ·rw[Abb (by rw[Am,Ac];simp;omega)]at hO hV hR;refine .inl ⟨4,by omega,hO,?_,?_⟩
  ·rw[hV,Aa];rfl
  ·rw[hR,Aa];rfl
 rw[Aba (by rw[Am,Ac];simp;omega)]at hO hV hR;rw[BL b (by omega),Aa]at hO hV;rw[ZY b (by omega),Aa]at hR;by_cases h2:(Ed b).2=0
 ·obtain⟨p0,p1,p2⟩:=rN h2;have hc:=Jb (l:=b) p0 p1;simp only[h2]at hO hV hR;rw[Aba (by rw[Ak];simp),hc,Aa,show b.drop (Ed b).1.toNat=VT b from rfl]at hO hV hR;rw[kF _ (by simp[VT];omega),Aa]at hO hV;rw[xO _ (by simp[VT];omega),Aa]at hR;by_cases h3:(Le (VT b)).2.2.2.2.2=0
  ·obtain⟨g1,g2,g3,g4⟩:=Aah h3;have hlen:(VT b).length=b.length-(Ed b).1.toNat:=by simp[VT]
   generalize hF:(Ed b).1.toNat=F at*
   have hF':(Ed b).1=(F:Int):=by omega
   rw[g1,hF']at hO hV hR;simp only at hO hV hR;generalize f0 (VT b)=f at*
   generalize f1 (VT b)=c at*
   generalize f2 (VT b)=w at*
   generalize f3 (VT b)=r at*
   generalize f4 (VT b)=n at*
   have t22:Ae (F:Int) 22=((F+22:Nat):Int):=by rw[Ag];omega
   have t30:Ae ((F+22:Nat):Int) 8=((F+30:Nat):Int):=by rw[Ag];omega
   have Azi:f=1\/f=2:=by simp only[Fb,Ab1]at g3;omega
   rw[Aba (by rw[Ak];simp),t22,t30]at hO;rw[Aba (by rw[Ak];simp),uV g3 g4,Aa,t22,t30]at hV;rw[Aa]at hR;simp only at hV hR;rw[Aba (by rw[Ak];simp),t22,NL,t30]at hR;by_cases YW:((p==([]:List UInt8)) !=(geq (f:Int) (1:Int)))=true
   ·rw[Abb YW]at hO hR;refine .inl ⟨26,by omega,hO,?_,?_⟩
    ·rw[hV];by_cases h5:f=2
     ·rw[Abb (by rw[Be,h5];rfl),Aa];simp only;rw[Aba (by rw[Ak];simp),Abb YW,wC _ _ _ _ _ _ _ _ _ _ _ _ _ (by omega)]
     ·rw[Aba (by rw[Be];simp;omega),Aa];simp only;rw[Aba (by rw[Ak];simp),Abb YW,wC _ _ _ _ _ _ _ _ _ _ _ _ _ (by omega)]
    ·rw[hR,Aa];rfl
   ·rw[Aba YW]at hO hR;have hpf:(p=[]↔f=1):=by
     rw[Be]at YW;have h5:(p==([]:List UInt8))=((f:Int)==1):=by simpa using YW
     have h6:(p==([]:List UInt8))=true↔((f:Int)==1)=true:=by rw[h5]
     rw[Ax2,Ax2]at h6;rw[h6];omega
    by_cases h5:f=2
    ·have Asg:p≠ []:=λe=>by have:=hpf.1 e;omega
     rw[Abb (by rw[Be,h5];rfl),Aa]at hV;simp only at hV;rw[Aba (by rw[Ak];simp),Aba YW,Aba (by rw[Be];simp;omega)]at hV;rw[Abb (by simpa using Asg)]at hO;rw[Aba (by simpa using Asg)]at hR;by_cases h6:b.length<F+30
     ·rw[Abb (by rw[Af,Ac];simp;omega)]at hO hV hR;refine .inl ⟨24,by omega,hO,?_,?_⟩
      ·rw[hV,wC _ _ _ _ _ _ _ _ _ _ _ _ _ (by omega)]
      ·rw[hR,Aa];rfl
     ·have hseg:((b.take (F+30)).drop (F+22)).length=8:=by simp;omega
      rw[Aba (by rw[Af,Ac];simp;omega),Qx,Aa,show((F+30:Nat):Int).toNat=F+30 from rfl,show((F+22:Nat):Int).toNat=F+22 from rfl]at hO hV hR;rw[ru hseg hp,Aa]at hO hV;rw[K1 p hp,Aa]at hR;simp only at hO hV;rw[Aba (by rw[Ak];simp)]at hO;generalize(b.take (F+30)).drop (F+22)=seg at*
      by_cases h7:seg=Kq (Xr p).toNat 8
      ·rw[Aba (by simp[h7])]at hO hV;rw[Aba (by simp[h7]),Aa]at hR;simp only at hR;rw[Aba (by rw[Ak];simp)]at hR;rw[Am5]at hV;exact .inr ⟨f,c,w,r,n,F+30,(F:Int),((F+22:Nat):Int),by omega,by omega,g3,g4,hO,hV,hR⟩
      ·rw[Abb (by simpa using h7)]at hO hV;rw[Abb (by simpa using h7)]at hR;refine .inl ⟨26,by omega,hO,?_,?_⟩
       ·rw[hV,wC _ _ _ _ _ _ _ _ _ _ _ _ _ (by omega)]
       ·rw[hR,Aa];rfl
    ·have hpe:p=[]:=hpf.2 (by omega);rw[Aba (by rw[Be];simp;omega),Aa]at hV;simp only at hV;rw[Aba (by rw[Ak];simp),Aba YW,Abb (by rw[Be];simp;omega),Am5]at hV;rw[Aba (by rw[hpe];simp)]at hO;rw[Abb (by rw[hpe];rfl),Aa]at hR;simp only at hR;rw[Aba (by rw[Ak];simp)]at hR;exact .inr ⟨f,c,w,r,n,F+22,(F:Int),((F+22:Nat):Int),by omega,by omega,g3,g4,hO,hV,hR⟩
  ·generalize Le (VT b)=v at*
   obtain⟨v1,v2,v3,v4,v5,v6⟩:=v;simp only at h3 hO hV hR;rw[Abb (by rw[Ak];simpa using h3)]at hO hV;refine .inl ⟨v6,h3,hO,?_,?_⟩
   ·rw[hV,Aa];simp only;rw[Abb (by rw[Ak];simpa using h3)];rfl
   ·rw[hR,Aa];simp only;rw[Abb (by rw[Ak];simpa using h3)];rfl
 ·generalize Ed b=v at*
  obtain⟨v,e⟩:=v;simp only at h2 hO hV hR;rw[Abb (by rw[Ak];simpa using h2)]at hO hV hR;refine .inl ⟨e,h2,hO,?_,?_⟩
  ·rw[hV,Aa];simp only;rw[Abb (by rw[Ak];simpa using h2)];rfl
  ·rw[hR,Aa];simp only;rw[Abb (by rw[Ak];simpa using h2)];rfl
theorem Aet(b p:List UInt8)(hb:b.length<=100100)(hp:p.length<=64):
  (∃e:Int,e≠0/\Cp b p=some (TG e)/\Dm b p=some (TG e)/\Gp b p=some (I5 e)/\Hi b p=some (I5 e))\/
  (∃f c w r n A l,Opn b p f c w r n A l/\Gp b p=some (Agu b p f c w r n A l)/\Hi b p=some (Agu b p f c w r n A l)):=by
 have Atg:∀{e e2:Int},TG e=TG e2->e=e2:=λh=>by simpa [TG]using h
 rcases Ab8 b p hb hp with⟨e,he,h1,h2,h3⟩|⟨f,c,w,r,n,T,q,d,hT,Abz,g3,g4,hO,hV,hR⟩
 ·rcases wN b p hb hp with⟨e',he',k1,k2⟩|⟨f,c,w,r,n,A,l,o⟩
  ·rw[h1]at k1;have:=Atg (Aus k1);subst this;exact .inl ⟨e,he,h1,k2,h2,h3⟩
  ·have:=o.prog;rw[h1]at this;have:=Aus this;simp only[TG,Avn]at this;exact absurd this.2.2.2.2.2.2.2 he
 ·obtain⟨hc,hw,hr,hn,_⟩:=fI g3;have hfit:n<=4000/c:=by simp only[CX,Ab1]at g4;exact g4.1
  have hn4:n<=4000:=by have:=As9 4000 c;omega
  rw[sL g3 g4 b hb T hT]at hO;have hcut:=Jb (l:=b) (a:=(T:Int)) (by omega) (by omega);rw[Ajv]at hcut;have hdl:(b.drop T).length<=100100:=by simp;omega
  rw[Uz,RH,Aba (by rw[Af,Ac];simp;omega),hcut,Aa,Ac,Q9 _ _ hdl,Aa]at hV;rw[Zc,hcut,Aa,pU hr.2 hn hn4,Aa,Ac,Aa8 _ _ hdl,Aa,Aa]at hR;by_cases h:(Jt (b.drop T) (Au (Ay r) n).length).2≠0
  ·rw[Abb h]at hO;generalize Jt (b.drop T) (Au (Ay r) n).length=v at*
   obtain⟨v1,v2⟩:=v;simp only at h hO hV hR;rcases wN b p hb hp with⟨e',he',k1,k2⟩|⟨f,c,w,r,n,A,l,o⟩
   ·rw[hO]at k1;have:=Atg (Aus k1);subst this;refine .inl ⟨_,h,hO,k2,?_,?_⟩
    ·rw[hV,BC,BT,Abb (by rw[Ak];simpa using h),Ao6 _ _ _ _ _ _ _ _ _ _ _ _ _ _ h]
    ·rw[hR,Abb (by rw[Ak];simpa using h)]
   ·have:=o.prog;rw[hO]at this;have:=Aus this;simp only[TG,Avn]at this;exact absurd this.2.2.2.2.2.2.2 h
  ·have h0:(Jt (b.drop T) (Au (Ay r) n).length).2=0:=by simpa using h
   rw[Aba h]at hO;generalize hsv:Jt (b.drop T) (Au (Ay r) n).length=v at*
   obtain⟨v1,v2⟩:=v;simp only at h0 hO hV hR;subst h0;rcases wN b p hb hp with⟨e',he',k1,k2⟩|⟨f',c',w',r',n',A,l,o⟩
   ·rw[hO]at k1;have:=Aus k1;simp only[TG,Avn]at this;exact absurd this.2.2.2.2.2.2.2.symm he'
   ·have hp2:=o.prog;rw[hO]at hp2;have hp3:=Aus hp2;simp only[Avn]at hp3;obtain⟨i1,i2,i3,i4,i5,i6,i7,_⟩:=hp3;obtain rfl:f=f':=by omega
    obtain rfl:c=c':=by omega
    obtain rfl:w=w':=by omega
    obtain rfl:r=r':=by omega
    obtain rfl:n=n':=by omega
    subst i7;have hlen:=o.len;have hs1:=o.some1;have hsum:=o.sum;have hA:=o.at';have hAT:(A:Int)=(T:Int)+4*(v1.length:Int)+4:=by omega
    have a1:Bd 4 (v1.length:Int)=4*(v1.length:Int):=Hc;have eV:Ae (Ae (T:Int) (Bd 4 (Ac v1))) 4=(A:Int):=by
     rw[Ac,a1,Ag (a:=(T:Int)) (by omega) (by omega),Ag];omega
    have eR:Ae (T:Int) (Ae (Bd 4 (Ac v1)) 4)=(A:Int):=by
     rw[Ac,a1,Ag (a:=4*(v1.length:Int)) (by omega) (by omega),Ag];omega
    have hlv:=kK o q d (T:Int) ((A:Int)+v1.sum) v1.length 0 Aq [] (by omega) (by have:=Al;omega) (by omega) (by simp);have hlr:=mF o v1.length 0 Aq [] (by omega) (by have:=Al;omega) (by omega) (by simp);rw[Ax9,List.sum_nil,Int.add_zero]at hlv hlr;refine .inr ⟨f,c,w,r,n,A,v1,o,?_,?_⟩
    ·have hs:=K7 v1 b p (f:Int) (c:Int) (w:Int) (r:Int) (n:Int) q d (T:Int) (Au (Ay r) n) hs1.2 o.five (A:Int) (by omega) (by omega) v1.length 0 Aq (by omega) (by have:=Al;omega);rw[Ax9,List.sum_nil,Int.add_zero]at hs;rw[hV,BC,BT,Aba (by rw[Ak];simp),OY,eV];refine Axb hs ?_;rw[CQ,PM,eV,Lr,DL,Aba (by rw[Ak];simp),O8 p o.pass,Aa];exact hlv
    ·rw[hR,Aba (by rw[Ak];simp),Aa,zk p o.pass,Aa,eR];exact hlr
def Ax7(b:List UInt8):List Int:=Au (Ay (f3 (VT b))) (f4 (VT b))
theorem Amr{ch:Nat}{bits:Int}(hb:Bu bits)(h1:1<=ch)(h6:ch<=6):Fm (ch:Int) bits=some 0:=by
 have hr:∃x y,Qo bits=some (x,y,0):=⟨_,_,T5 hb⟩;obtain⟨x,y,hr⟩:=hr;rw[Fm,hr,Aa];simp only;rw[Aba (by simp[Ak,Af,Am];omega)]
abbrev P6':=Int×Int×Int×List Int32×List Int×Int
def Amk(e:Int):P6':=(0,0,0,[],[],e)
theorem Aes(g:Nat):∀K:Nat,(List.replicate K (g:Int)).sum=((K*g:Nat):Int)
 |0=>by simp
 |K+1=>by
  rw[Awh,Av4,Aes g K,Azy];omega
theorem vo{g n:Nat}(hn:1<=n):(Au g n).sum=(n:Int):=by
 have h:=Ax0 (n-1) g;rw[Au,List.sum_append,Aes];simp only[Av4,List.sum_nil];omega
def Anu(c w:Nat)(fr:List Int)(k:Nat):Int:=(((fr.take k).sum.toNat*(c*wB (w:Int)):Nat):Int)
theorem Ac7(C W:Nat)(fr:List Int):Anu C W fr 0=0:=by rw[Anu,Ax9,List.sum_nil];simp
theorem tG{bits:Int}(h:Bu bits){l:List Int32}(hl:l.length<=4000)(hr:inR bits l):Ao bits l=some 0:=by
 have hh:=VI bits;have key:∀(j i q:Nat),i+j=l.length->j<q->As l (hB bits) q (i:Int)=some 0:=by
  intro j
  induction j with
  |zero=>
   intro i q hi hq;obtain⟨q,rfl⟩:∃k,q=k+1:=⟨q-1,by omega⟩;rw[As,Cb,Aba (by rw[Af,Ac];simp;omega)];rfl
  |succ j ih=>
   intro i q hi hq;obtain⟨q,rfl⟩:∃k,q=k+1:=⟨q-1,by omega⟩;have hx:=hr l[i] (Avs (by omega));rw[As,Cb,Abb (by rw[Af,Ac];simp;omega),Ck,Aa,Aa,Ei,T9,Bo (by omega) (by omega),Ag,Af,De,Aba (by simp;omega),Aba (by simp;omega)];exact ih (i+1) q (by omega) (by omega)
 rw[Ao,Ct,XM h,Aa,Aba (by rw[Be];simp;omega),Aba (by rw[Am,Ac];simp;omega)];exact key l.length 0 Aq (by omega) (by have:=Al;omega)
def U6{α:Type}(G:Nat->List α):Nat->Nat->List α
 |0,_=>[]
 |j+1,k=>G k++U6 G j (k+1)
theorem sw(w:Nat)(G:Nat->List UInt8×Int)(be:Int):∀(j k:Nat) (acc:List UInt8) (Avl:List Int32),(B0 G be j k acc).2=(mQ (λk=>smF w (G k)) (λk=>(G k).2) be j k Avl).2
 |0,k,acc,Avl=>by
  rw[B0,mQ];split<;>rfl
 |j+1,k,acc,Avl=>by
  rw[B0,mQ];split
  ·rfl
  ·exact sw w G be j (k+1) _ _
theorem Aax(X:Nat->List Int32)(E:Nat->Int)(be:Int):∀(j k:Nat) (acc:List Int32),(mQ X E be j k acc).2=0->be=0/\ (∀i,k<=i->i<k+j->E i=0)/\ (mQ X E be j k acc).1=acc++U6 X j k
 |0,k,acc,h=>by
  rw[mQ]at h⊢;by_cases hb:be≠0
  ·rw[Abb hb]at h;cases h
  ·rw[Aba hb];exact⟨by simpa using hb,λi h1 h2=>by omega,by simp[U6]⟩
 |j+1,k,acc,h=>by
  rw[mQ]at h⊢;by_cases hb:E k≠0
  ·rw[Abb hb]at h;exact absurd h hb
  ·rw[Aba hb]at h⊢;obtain⟨h1,h2,h3⟩:=Aax X E be j (k+1) _ h;refine⟨h1,λi i1 i2=>?_,?_⟩
   ·by_cases hi:i=k
    ·subst hi;simpa using hb
    ·exact h2 i (by omega) (by omega)
   ·rw[h3,U6,Ab2]
theorem M7(G:Nat->List UInt8×Int):∀(j k:Nat) (acc:List UInt8),(∀i,k<=i->i<k+j-> (G i).2=0)->B0 G 0 j k acc=(acc++U6 (λi=>(G i).1) j k,0)
 |0,k,acc,h=>by
  rw[B0,Aba (by simp),U6];simp
 |j+1,k,acc,h=>by
  rw[B0,Aba (by rw[h k (by omega) (by omega)];simp),M7 G j (k+1) _ λi h1 h2=>h i (by omega) (by omega),U6,Ab2]
end Go.Pl
