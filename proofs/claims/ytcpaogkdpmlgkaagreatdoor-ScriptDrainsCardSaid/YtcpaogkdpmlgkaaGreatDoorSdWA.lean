/- A part of a proof (see the text that ends in Proof). No conditions. -/
import Derived.Test.YtcpaogkdpmlgkaaGreatDoorSdPA
import Derived.KernelRfl
set_option linter.unusedVariables false
set_option linter.unusedSimpArgs false
namespace Go.Lv
variable{a b:Int}{l:List UInt8}{n:Nat}{α:Type}
theorem Ak(h: -9223372036854775808<=a+b:=by omega)(h':a+b<=9223372036854775807:=by omega):Ae a b=a+b:=by rw[Aqh,Cz h h']
theorem Cr(h: -9223372036854775808<=a-b:=by omega)(h':a-b<=9223372036854775807:=by omega):Al a b=a-b:=by rw[Aqt,Cz h h']
theorem Jj(h: -9223372036854775808<=a*b:=by omega)(h':a*b<=9223372036854775807:=by omega):Ce a b=a*b:=by rw[Aho,Cz h h']
theorem PF(c:UInt8):(Ad c:Int)=(c.toNat:Int):=by rw[Ai8,Cz]<;>have:=c.toNat_lt<;>omega
theorem Aav(c:UInt32):(Ad c:Int)=(c.toNat:Int):=by rw[Afz,Cz]<;>have:=c.toNat_lt<;>omega
theorem mD(c:UInt8):(Ad c:UInt64)=UInt64.ofNat c.toNat:=by simp only[Ad,BF,Ia]
theorem Jg(c:UInt32):(Ad c:UInt64)=UInt64.ofNat c.toNat:=by simp only[Ad,Xh,Ia]
theorem aK(c:UInt64):(Ad c:UInt8)=UInt8.ofNat c.toNat:=by simp only[Ad,Jn,Nh]
theorem mK(c:UInt32):(Ad c:UInt8)=UInt8.ofNat c.toNat:=by simp only[Ad,Xh,Nh]
theorem Xq(n:Nat):(Ad (n:Int):UInt64)=UInt64.ofNat n:=by simp only[Ad];exact Ia n
theorem Q0(n:Nat):(Ad (n:Int):UInt32)=UInt32.ofNat n:=by simp only[Ad];exact Ez n
theorem Air(n:Nat):(Ad (n:Int):UInt8)=UInt8.ofNat n:=by simp only[Ad];exact Nh n
theorem tK{c:UInt64}(h:c.toNat<9223372036854775808):(Ad c:Int)=(c.toNat:Int):=by rw[Afv,Cz]<;>omega
theorem Ad8:K3=17179869184:=Aw2
theorem Ar:36893488147419103231<Aq:=Aw2
theorem Cm{l:List α}(h:n<l.length:=by omega):Ah l (n:Int)=some l[n]:=by simp[Ah,h]
theorem Yj{l:List α}(x:α)(h:n<l.length):Mi l (n:Int) x=some (l.set n x):=by simp[Mi,h]
theorem ME{l:List α}(h:0<=a:=by omega)(h1:a<=b:=by omega)(h2:b<=l.length:=by omega):Bl l a b=some ((l.take b.toNat).drop a.toNat):=by rw[Bl,Aao ⟨h,h1,h2⟩]
theorem Dm{l:List α}(h:0<=a:=by omega)(h1:a<=l.length:=by omega):Bl l a (Ac l)=some (l.drop a.toNat):=by
 unfold Ac;rw[ME h h1 (Int.le_refl _),Aly,Awl]
theorem Di{l:List α}(h:0<=b:=by omega)(h1:b<=l.length:=by omega):Bl l 0 b=some (l.take b.toNat):=by rw[ME (Int.le_refl _) h h1];rfl
theorem Cu{l m:List α}(h:l.length+m.length<=17179869184:=by omega):Cj l m=some (l++m):=by rw[Cj,Ad8,Aao h]
theorem D4{n:Int}{z:α}(h:0<=n:=by omega)(h':n<=17179869184:=by omega):mkI n z=some (List.replicate n.toNat z):=by rw[mkI,Ad8,Aao ⟨h,h'⟩]
theorem Dv{b:Bool}(h:b=true):Jd b=some ():=by rw[h];rfl
theorem Aa{β:Type}(a:α)(f:α->Option β):Option.bind (some a) f=f a:=rfl
theorem drop_cons{l:List α}(h:n<l.length):l.drop n=l[n]::l.drop (n+1):=List.drop_eq_getElem_cons h
theorem PD{l:List α}(h:n<l.length):l.take (n+1)=l.take n++[l[n]]:=by rw[List.take_add_one,List.getElem?_eq_getElem h];rfl
def Eu:List UInt8->Nat
 |[]=>0
 |x::r=>x.toNat+256*Eu r
theorem X5:∀l:List UInt8,Eu l<256^l.length
 |[]=>by simp[Eu]
 |x::r=>by
  have h:=X5 r;have:=x.toNat_lt;simp only[Eu,Ar0,Ard];omega
theorem yP:∀l m:List UInt8,Eu (l++m)=Eu l+256^l.length*Eu m
 |[],m=>by simp[Eu]
 |x::r,m=>by
  simp only[Eu,Av2,yP r m,Ar0,Ard,Nat.mul_add];rw[Apt (256^r.length) 256,Aui];omega
def kP(l:List UInt8):UInt64:=UInt64.ofNat (Eu l)
theorem Al1(h:l.length<=8):Eu l<18446744073709551616:=by
 have h1:=X5 l;have h2:256^l.length<=256^8:=Aec F0 h;exact Apd h1 (by simpa using h2)
theorem Aei(h:l.length<=4):Eu l<4294967296:=by
 have h1:=X5 l;have h2:256^l.length<=256^4:=Aec F0 h;exact Apd h1 (by simpa using h2)
theorem UW(h:l.length<=8):(kP l).toNat=Eu l:=by
 rw[kP,Ahl,Ab6 (Al1 h)]
theorem JI(h:l.length<=4):(Ad (kP l):Int)=(Eu l:Int):=by
 have:=Aei h;rw[tK]<;>rw[UW F0];omega
def GJ(n:Nat):Nat->List UInt8
 |0=>[]
 |w+1=>UInt8.ofNat n::GJ (n/256) w
theorem Pk:∀(w n:Nat),(GJ n w).length=w
 |0,_=>rfl
 |w+1,n=>by simp[GJ,Pk w]
theorem ou:∀(w n:Nat),GJ n (w+1)=GJ n w++[UInt8.ofNat (n/256^w)]
 |0,n=>by simp[GJ]
 |w+1,n=>by
  rw[GJ,ou w (n/256),GJ];simp[Avy,Ard,Apt]
def Kr(p:List UInt8)(i:Nat):Nat:=(p.getD (i/8) 0).toNat/2^(i %8) %2
theorem Zf(p:List UInt8)(i:Nat):Kr p i<2:=Avp _ F0
def Cy(p:List UInt8):Nat->Nat->Nat
 |_,0=>0
 |a,n+1=>Kr p a+2*Cy p (a+1) n
theorem Se(p:List UInt8):∀(n a:Nat),Cy p a n<2^n
 |0,_=>by simp[Cy]
 |n+1,a=>by
  have:=Se p n (a+1);have:=Zf p a;rw[Cy,Ard];omega
theorem QY(p:List UInt8):∀(m n a:Nat),Cy p a (m+n)=Cy p a m+2^m*Cy p (a+m) n
 |0,n,a=>by simp[Cy]
 |m+1,n,a=>by
  rw[show m+1+n=(m+n)+1 by omega,Cy,Cy,QY p m n (a+1),show a+1+m=a+(m+1) by omega,Ard,Nat.mul_add,Apt (2^m) 2,Aui];omega
theorem qp(p:List UInt8)(a:Nat):Cy p a 1=Kr p a:=by simp[Cy]
theorem M6(p:List UInt8)(a n:Nat):Cy p a (n+1)=Cy p a n+2^n*Kr p (a+n):=by rw[QY p n 1 a,qp]
theorem tB(p:List UInt8)(a:Nat):∀t:Nat,a %8+t<=8->Cy p a t=(p.getD (a/8) 0).toNat/2^(a %8) %2^t
 |0,_=>by simp[Cy,Nat.mod_one]
 |t+1,h=>by
  have h1:(a+t)/8=a/8:=F0
  have h2:(a+t) %8=a %8+t:=F0
  rw[M6,tB p a t F0,Kr,h1,h2,Nat.mod_pow_succ,Awh,Avy]
theorem M4{p:List UInt8}:∀(n a:Nat),(∀k,k<n->Kr p (a+k)=0)->Cy p a n=0
 |0,_,_=>rfl
 |n+1,a,h=>by
  have h0:=h 0 F0;rw[Cy,M4 n (a+1) λk hk=>by have:=h (k+1) F0;rwa [show a+1+k=a+(k+1) by omega]];rw[Av6]at h0;omega
def okB(p:List UInt8)(n:Nat):Prop:=n<=330000/\p.length=(n+7)/8/\∀k,n<=k->k<8*p.length->Kr p k=0
def HT(p:List UInt8)(a n:Nat):List UInt8:=(List.range ((n+7)/8)).map λj=>UInt8.ofNat (Cy p (a+8*j) (min 8 (n-8*j)))
theorem Pd(p:List UInt8)(a n:Nat):(HT p a n).length=(n+7)/8:=by simp[HT]
theorem ny(p:List UInt8):∀(n a k:Nat),k<n->Cy p a n/2^k %2=Kr p (a+k)
 |n+1,a,0,_=>by have:=Zf p a;rw[Cy];simp;omega
 |n+1,a,k+1,h=>by
  have hb:=Zf p a;have e:(Kr p a+2*Cy p (a+1) n)/2=Cy p (a+1) n:=F0
  rw[Cy,Ard,Apt (2^k) 2,<-Avy,e,ny p n (a+1) k F0,show a+1+k=a+(k+1) by omega]
theorem Af0(p:List UInt8)(n a k:Nat)(h:n<=k):Cy p a n/2^k %2=0:=by
 have:=Se p n a;rw[Aug (Apd this (Aec F0 h))]
theorem Ah6(p:List UInt8)(a n k:Nat):Kr (HT p a n) k=if k<n then Kr p (a+k)else 0:=by
 rw[Kr];by_cases hj:k/8<(n+7)/8
 ·have e:(HT p a n).getD (k/8) 0=UInt8.ofNat (Cy p (a+8*(k/8)) (min 8 (n-8*(k/8)))):=by
   rw[List.getD_eq_getElem?_getD,List.getElem?_eq_getElem (by rw[Pd];exact hj)];simp[HT]
  have hlt:Cy p (a+8*(k/8)) (min 8 (n-8*(k/8)))<256:=by
   have:=Se p (min 8 (n-8*(k/8))) (a+8*(k/8));have h2:2^(min 8 (n-8*(k/8)))<=2^8:=Aec F0 F0;omega
  have hu:(UInt8.ofNat (Cy p (a+8*(k/8)) (min 8 (n-8*(k/8))))).toNat=Cy p (a+8*(k/8)) (min 8 (n-8*(k/8))):=by
   rw[Ao7];exact Ab6 hlt
  rw[e,hu];by_cases hk:k<n
  ·rw[Aao hk,ny p _ _ _ F0,show a+8*(k/8)+k %8=a+k by omega]
  ·rw[Aam hk,Af0 p _ _ _ F0]
 ·have e:(HT p a n).getD (k/8) 0=0:=by
   rw[List.getD_eq_getElem?_getD,List.getElem?_eq_none (by rw[Pd];omega)];rfl
  rw[e,Aam F0];simp
theorem Ade(p:List UInt8)(a n:Nat)(h:n<=330000):okB (HT p a n) n:=⟨h,Pd p a n,λk hk _=>by rw[Ah6,Aam F0]⟩
end Go.Lv
namespace Go.Pl
open Go Go.Lv
variable{p:Prop}
theorem F2(h:p:=by rw[Af,Ac];simp;omega):p:=h
theorem Aw4(h:p:=by rw[Af];simp;omega):p:=h
theorem Axa(h:p:=by rw[El];simp;omega):p:=h
theorem Axc(h:p:=by rw[Ba];simp;omega):p:=h
theorem Axd(h:p:=by simp[Af,As];omega):p:=h
theorem Axk(h:p:=by unfold Ac;omega):p:=h
theorem Aw5(h:p:=by have:=Ar;omega):p:=h
theorem Axg(h:p:=by rw[El];simp):p:=h
theorem Axv(h:p:=by rw[Ba];simp):p:=h
theorem Axp(h:p:=by rw[Ba];rfl):p:=h
end Go.Pl
namespace Go.Pl
open Go Go.Lv
variable{i:Nat}{p:Prop}
theorem Aid(b:LB)(hb:b.length<4611686018427387904):∀(j q:Nat),j<=b.length->j<q->Nt b q (kP (b.drop j)) ((j:Int)-1)=some (kP b)
 |0,q+1,_,_=>by
  rw[Nt,BE,Aam Axg];simp[RG,PX]
 |j+1,q+1,hj,hq=>by
  rw[Nt,BE,Aao Axg,show((j+1:Nat):Int)-1=(j:Int) by omega,Cm,Aa,Cr];have h:Ae (Ce (256:UInt64) (kP (b.drop (j+1)))) (Ad b[j]:UInt64)=kP (b.drop j):=by
   rw[KS,KM,mD,drop_cons (n:=j) F0,kP,kP,Eu,UInt64.ofNat_add,UInt64.ofNat_mul];exact UInt64.add_comm _ _
  rw[h];exact Aid b hb j q F0 F0
theorem wo(b:LB)(hb:b.length<4611686018427387904):Dw b=some (kP b):=by
 have h:=Aid b hb b.length Aq (Aox _) Aw5;rw[Dw,QR,QT];have e:Al (Ac b) 1=(b.length:Int)-1:=Cr Axk Axk;rw[e,<-h,Ava];rfl
theorem Aj1{n c:UInt64}(hn:n.toNat<2^i)(hc:c.toNat*2^i<18446744073709551616):uW n (Eh c i)=UInt64.ofNat (n.toNat+c.toNat*2^i):=by
 rw[Aor];apply UInt64.toNat_inj.1;rw[UInt64.toNat_or,YO,Ab6 hc,Apt,Nat.or_comm,<-Atc hn,Ahl,Ab6,Aww,Apt];have h:=Atc hn c.toNat;have h2:2^i*c.toNat+n.toNat<2^64:=by
  rw[h];exact Nat.or_lt_two_pow (by rw[Apt];simpa using hc) n.toNat_lt
 rw[Aww];first|exact h2|(rw[Apt];exact h2)
theorem Q4(b:LB)(hb:b.length<=8):∀(j i q:Nat),i+j=b.length->j<q->BO b q (kP (b.take i)) (i:Int)=some (kP b,0)
 |0,i,q+1,hi,_=>by
  rw[BO,TR,Aam F2,show i=b.length by omega,Awl];rfl
 |j+1,i,q+1,hi,hq=>by
  have hlt:i<b.length:=F0
  rw[BO,TR,Aao F2,Cm hlt,Aa,Jj,Dv Axa,Aa,Ak];have h:uW (kP (b.take i)) (Eh (Ad b[i]:UInt64) (GI.toZ ((8:Int)*(i:Int))).toNat)=kP (b.take (i+1)):=by
   have e:(GI.toZ ((8:Int)*(i:Int))).toNat=8*i:=by show((8:Int)*(i:Int)).toNat=_;omega
   have e2:(2:Nat)^(8*i)=256^i:=by rw[Nat.pow_mul]
   have h1:=X5 (b.take i);rw[Ajz,Asn F0]at h1;have h3:=b[i].toNat_lt;have hle:(256:Nat)^(i+1)<=256^8:=Aec F0 F0;rw[Ard]at hle;have h4:(Ad b[i]:UInt64).toNat=b[i].toNat:=by rw[mD,Ahl];omega
   have h5:b[i].toNat*256^i<18446744073709551616:=by
    have:b[i].toNat*256^i<256*256^i:=Nat.mul_lt_mul_of_pos_right (by simpa using h3) (Avr F0);simp at hle;omega
   rw[e,Aj1 (by rw[UW Aw3,e2];exact h1) (by rw[h4,e2];exact h5),UW Aw3,h4,e2,PD hlt];rw[kP,yP];simp only[Eu,Ajz,Asn (Nat.le_of_lt hlt),Nat.mul_zero,Av6];rw[Apt]
  rw[h];exact Q4 b hb j (i+1) q F0 F0
theorem yg(b:LB)(h1:1<=b.length)(h2:b.length<=8):eT b=some (kP b,0):=by
 have h:=Q4 b h2 b.length 0 Aq F0 Aw5;rw[eT,hH,Aam (by simp[Af,As,Ac];omega),vA];exact h
def part(b:LB)(at' w:Nat):LB:=(b.take (at'+w)).drop at'
theorem Ec{b:LB}{a w:Nat}(h:a+w<=b.length:=by omega):(part b a w).length=w:=by simp[part];omega
theorem L8(b:LB)(a w:Nat)(h1:1<=w)(h2:w<=8)(h3:a+w<=b.length)(hb:b.length<4611686018427387904):XQ b (a:Int) (w:Int)=some (kP (part b a w),0):=by
 rw[XQ,Aam Axd,Aam (by rw[As,Cr Axk Axk,Ac];simp;omega),Ak,ME,Aa];rw[show((a:Int)+(w:Int)).toNat=a+w by omega,show(a:Int).toNat=a by omega];rw[yg _ (by rw[show((b.take (a+w)).drop a).length=_ from Ec h3];exact h1) (by rw[show((b.take (a+w)).drop a).length=_ from Ec h3];exact h2),Aa];rfl
theorem uB(w:Nat)(hw:w<=1000):∀(j i q:Nat) (n:UInt64) (acc:LB),i+j=w->j<q->acc.length+j<=1000000->Hx (w:Int) q n (i:Int) acc=some (acc++GJ n.toNat j)
 |0,i,q+1,n,acc,hi,_,_=>by
  rw[Hx,Ri,Aam Aw4];simp[BL,CA,GJ]
 |j+1,i,q+1,n,acc,hi,hq,ha=>by
  rw[Hx,Ri,Aao Aw4];have e:(Ad (CT n (256:UInt64)):UInt8)=UInt8.ofNat n.toNat:=by
   rw[aK,ko];apply UInt8.toNat_inj.1;rw[Ao7,Ao7,UInt64.toNat_mod]
   show n.toNat %256 %256=_;omega
  have e2:(Cq n (256:UInt64)).toNat=n.toNat/256:=by rw[qA,Awk];rfl
  rw[Cu Aw3,Aa,Ak,e];have h:=uB w hw j (i+1) q (Cq n 256) (acc++[UInt8.ofNat n.toNat]) F0 F0 Aw3;rw[e2]at h;rw[show((i:Int)+1)=((i+1:Nat):Int) by omega,h,GJ];simp
theorem B0(n:UInt64)(w:Nat)(hw:w<=1000):Em n (w:Int)=some (GJ n.toNat w):=by
 rw[Em,CH,BY];have h:=uB w hw w 0 Aq n [] F0 Aw5 Aw3;simpa using h
theorem iE{α:Type}{l m:List α}{x y:α}(h:l.length=i):(l++x::m).set i y=l++y::m:=by subst h;simp
theorem K8(n:UInt64)(l4:LB)(w:Nat)(hl:l4.length=w)(hw:w<=8):∀(j i q:Nat),i+j=w->j<q->CJ n l4 q (i:Int) (GJ n.toNat i++List.replicate j 0)=some (GJ n.toNat w,0)
 |0,i,q+1,hi,_=>by
  rw[CJ,TL,Aam F2];obtain rfl:i=w:=F0
  simp[dX,uX]
 |j+1,i,q+1,hi,hq=>by
  have hlen:(GJ n.toNat i++List.replicate (j+1) 0).length=i+(j+1):=by simp[Pk]
  rw[CJ,TL,Aao F2,Jj,Dv Axa,Aa,Cm (by rw[hlen];omega),Aa,Yj _ (by rw[hlen];omega),Aa,Ak];have e:(Ad (Ct n (GI.toZ ((8:Int)*(i:Int))).toNat):UInt8)=UInt8.ofNat (n.toNat/256^i):=by
   have e:(GI.toZ ((8:Int)*(i:Int))).toNat=8*i:=by show((8:Int)*(i:Int)).toNat=_;omega
   rw[e,aK,LO,Nat.pow_mul]
  rw[e,Auf,iE (Pk _ _)];have h:=K8 n l4 w hl hw j (i+1) q F0 F0;rw[ou]at h;simpa using h
theorem Aoy(n:UInt64)(w:Nat)(h1:1<=w)(h2:w<=8)(h:n.toNat<256^w):wT n (w:Int)=some true:=by
 rw[wT];by_cases h8:w=8
 ·subst h8;rw[Aao Axp]
 ·rw[Aam Axc,Jj,Dv Axa,Aa];have e:(GI.toZ ((8:Int)*(w:Int))).toNat=8*w:=by show((8:Int)*(w:Int)).toNat=_;omega
  rw[e,wI];have:Ct n (8*w)=0:=by
   apply UInt64.toNat_inj.1;rw[LO,Nat.pow_mul];exact Aug h
  rw[this];rfl
theorem C9(n:UInt64)(w:Nat)(h1:1<=w)(h2:w<=8)(h:n.toNat<256^w):Yy n (w:Int)=some (GJ n.toNat w,0):=by
 rw[Yy,fM,Aam Axd,Aoy n w h1 h2 h,Aa,Aam Aw7,D4,Aa,Dv Axv,Aa,uY];have h:=K8 n (List.replicate (w:Int).toNat 0) w Aw7 h2 w 0 Aq F0 Aw5;simpa [GJ]using h
theorem Aw9(h:p:=by rw[As];simp;omega):p:=h
theorem Aw8(h:p:=by rw[Am];simp):p:=h
end Go.Pl
namespace Go.Pl
open Go Go.Lv
variable{p:LB}
theorem sj(n:Nat)(h:n<4611686018427387904):Ex (n:Int) (7:Int)=((n %8:Nat):Int):=by
 have e:Ex (n:Int) (7:Int)=wrap64 ((BitVec.ofInt 64 (n:Int)&&&BitVec.ofInt 64 7).toNat:Int):=rfl;rw[e,BitVec.toNat_and,Aut,Aut];have h1:((n:Int) %((2^64:Nat):Int)).toNat=n:=F0
 have h2:((7:Int) %((2^64:Nat):Int)).toNat=2^3-1:=Aw2
 rw[h1,h2,Av0,Cz F0 F0]
theorem Asf(n:Nat):W7 (n:Int) (GI.toZ (3:UInt64)).toNat=((n/8:Nat):Int):=by
 have e:W7 (n:Int) (GI.toZ (3:UInt64)).toNat=(n:Int).fdiv 8:=rfl;rw[e,Aq3 _ F0];omega
theorem Ato{t:Nat}(h:t<=8):Al (Eh (1:UInt8) t) (1:UInt8)=UInt8.ofNat (2^t-1):=by
 have:t=0\/t=1\/t=2\/t=3\/t=4\/t=5\/t=6\/t=7\/t=8:=F0
 rcases this with rfl|rfl|rfl|rfl|rfl|rfl|rfl|rfl|rfl<;>decide
theorem bitsOf(c:UInt8)(off t:Nat)(h:t<=8):(Ex (Ct c off) (Al (Eh (1:UInt8) t) (1:UInt8))).toNat=c.toNat/2^off %2^t:=by
 have hp:2^t<=2^8:=Aec F0 h;rw[Ato h,Amd,UInt8.toNat_and,Aet,Ao7,Ab6 (by have:=Avr (n:=t) (show 0<2 by omega);omega),Av0]
theorem B4{k:Nat}(h:k<p.length):Ah p (k:Int)=some (p.getD k 0):=by
 rw[Cm h];simp[List.getD_eq_getElem?_getD,h]
def Vt(p:LB)(a n:Nat):UInt64:=UInt64.ofNat (Cy p a n)
theorem FW(p:LB)(a n:Nat)(h:n<=64):(Vt p a n).toNat=Cy p a n:=by
 have h1:=Se p n a;have h2:2^n<=2^64:=Aec F0 h;rw[Vt,Ahl,Ab6 F0]
theorem qw(p:LB)(N:Int)(a n:Nat)(hn:n<=64)(ha:a+n<=8*p.length)(hp:p.length<=1000000):∀(j h q:Nat),h+j=n->j<q->KI (a:Int) (n:Int) p N q (Vt p a h) (h:Int)=some (Vt p a n)
 |j,h,q+1,hj,hq=>by
  rw[KI,fR];by_cases hlt:h<n
  ·have e1:Ae (a:Int) (h:Int)=((a+h:Nat):Int):=by rw[Ak];omega
   have e2:Ee (Al (n:Int) (h:Int)) (Al (8:Int) (((a+h) %8:Nat):Int))=((min (n-h) (8-(a+h) %8):Nat):Int):=by
    rw[MC,Cr,Cr];omega
   have hm:(a+h)/8<p.length:=F0
   rw[Aao Aw4,e1,Asf,B4 hm,Aa,sj _ F0,Dv Axa,Aa,e2,Dv Axg,Aa,Dv Axg,Aa];generalize hT:min (n-h) (8-(a+h) %8)=T;have hT8:T<=8:=F0
   have hT1:1<=T:=F0
   have hb:(a+h) %8+T<=8:=F0
   have hv:=tB p (a+h) T hb;have z1:(GI.toZ (((a+h) %8:Nat):Int)).toNat=(a+h) %8:=rfl;have z2:(GI.toZ ((T:Nat):Int)).toNat=T:=rfl;have z3:(GI.toZ ((h:Nat):Int)).toNat=h:=rfl;rw[z1,z2,z3];have hx:(Ad (Ex (Ct (p.getD ((a+h)/8) 0) ((a+h) %8)) (Al (Eh (1:UInt8) T) (1:UInt8))):UInt64).toNat=Cy p (a+h) T:=by
    rw[mD,Ahl,bitsOf _ _ _ hT8,<-hv];have:=Se p T (a+h);have h2:2^T<=2^8:=Aec F0 hT8;omega
   have hlt2:=Se p (h+T) a;rw[QY]at hlt2;have h64:2^(h+T)<=2^64:=Aec F0 F0;have hor:uW (Vt p a h) (Eh (Ad (Ex (Ct (p.getD ((a+h)/8) 0) ((a+h) %8)) (Al (Eh (1:UInt8) T) (1:UInt8))):UInt64) h)=Vt p a (h+T):=by
    rw[Aj1 (by rw[FW p a h F0];exact Se p h a) (by rw[hx,Apt];omega),hx,FW p a h F0,Vt,QY,Apt (2^h)]
   rw[hor,Ak,show(h:Int)+((T:Nat):Int)=((h+T:Nat):Int) by omega];exact qw p N a n hn ha hp (j-T) (h+T) q F0 F0
  ·rw[Aam Aw4,show h=n by omega];rfl
theorem get_eq(p:LB)(N:Int)(a n:Nat)(hn:n<=64)(ha:a+n<=8*p.length)(hp:p.length<=1000000):pY p N (a:Int) (n:Int)=some (Vt p a n):=by
 have:=qw p N a n hn ha hp n 0 Aq F0 Aw5;exact this
theorem PH{n:Nat}(h:okB p n):Km p (n:Int)=some 0:=by
 obtain⟨h1,h2,h3⟩:=h;have e7:Ae (n:Int) 7=((n+7:Nat):Int):=by rw[Ak];omega
 rw[Km,e7,Asf,Aam (by simp[Af,As,Am,Ac,h2];omega),sj _ F0];by_cases hz:n %8=0
 ·rw[Aam Aw9]
 ·have el:Al (Ac p) 1=((p.length-1:Nat):Int):=by rw[Ac,Cr];omega
  rw[Aao Aw9,el,B4 F0,Aa,Dv Axa,Aa];have z:(GI.toZ ((n %8:Nat):Int)).toNat=n %8:=rfl;have hs:Ct (p.getD (p.length-1) 0) (n %8)=0:=by
   apply UInt8.toNat_inj.1;rw[Aet];have hv:=tB p n (8-n %8) F0;have h0:Cy p n (8-n %8)=0:=M4 _ _ λk hk=>h3 _ F0 F0;rw[h0,show n/8=p.length-1 by omega]at hv;have hlt:(p.getD (p.length-1) 0).toNat/2^(n %8)<2^(8-n %8):=by
    have:=(p.getD (p.length-1) 0).toNat_lt;rw[Nat.div_lt_iff_lt_mul (Avr F0),<-Awh,show 8-n %8+n %8=8 by omega];simpa using this
   rw[Ab6 hlt]at hv;exact hv.symm
  rw[z,hs,Aam (by rw[Abx];simp)]
theorem tN{N:Nat}(h:okB p N)(a n:Nat)(hn:n<=64):EX p (N:Int) (a:Int) (n:Int)=some (if N<a+n then(0,24)else(Vt p a n,0)):=by
 obtain⟨h1,h2,h3⟩:=h;rw[EX,PH ⟨h1,h2,h3⟩,Aa,Aam Aw8,Aam Axd,Cr];by_cases hl:N<a+n
 ·rw[Aao Aw9,Aao hl]
 ·rw[Aam Aw9,get_eq p N a n hn F0 F0,Aa,Aam hl]
theorem Auj(c:Nat)(h:c<4611686018427387904):Cq (c:Int) (2:Int)=((c/2:Nat):Int):=by
 rw[MG,Atz F0,Cz F0 F0];omega
theorem Asg(c:Nat)(h:c<4611686018427387904):Cq (c:Int) (8:Int)=((c/8:Nat):Int):=by
 rw[MG,Atz F0,Cz F0 F0];omega
theorem Ah1(c:Nat):Ho (c:Int) (8:Int)=((c %8:Nat):Int):=by rw[Ho,Avw F0];omega
theorem Au3(c:Nat):Ho (c:Int) (2:Int)=((c %2:Nat):Int):=by rw[Ho,Avw F0];omega
theorem Adx(i c:Nat)(hc:c<256):∀(j k q:Nat),k+j=i %8->j<q->Nx (i:Int) q ((c/2^k:Nat):Int) (k:Int)=some (((c/2^(i %8) %2:Nat):Int))
 |0,k,q+1,hk,_=>by
  rw[Nx,AP,Ah1,Aam Aw4,SI,RV,Au3,show k=i %8 by omega]
 |j+1,k,q+1,hk,hq=>by
  have hle:c/2^k<=c:=Ar5 _ _;rw[Nx,AP,Ah1,Aao Aw4,Auj _ F0,Ak,Avy,<-Ard];exact Adx i c hc j (k+1) q F0 F0
theorem rI(p:LB)(N:Int)(i:Nat)(h:i/8<p.length)(hi:i<4611686018427387904):Ls p N (i:Int)=some ((Kr p i:Nat):Int):=by
 have hc:=(p.getD (i/8) 0).toNat_lt;have:=Adx i (p.getD (i/8) 0).toNat (by simpa using hc) (i %8) 0 Aq F0 Aw5;rw[Ls,RZ,Asg _ hi,B4 h,Aa,PF,RX];simpa [Kr]using this
theorem zN(p:LB)(N:Int)(a n:Nat)(ha:a+n<=8*p.length)(hp:p.length<=1000000):∀(j q:Nat),j<=n->j<q->Jr (a:Int) p N q (Vt p (a+j) (n-j)) ((j:Int)-1)=some (Vt p a n)
 |0,q+1,_,_=>by
  rw[Jr,Uh,Aam Axg];rfl
 |j+1,q+1,hj,hq=>by
  have hb:=Zf p (a+j);rw[Jr,Uh,show((j+1:Nat):Int)-1=(j:Int) by omega,Aao Axg,Ak (a:=(a:Int)) F0 F0,show(a:Int)+(j:Int)=((a+j:Nat):Int) by omega,rI p N (a+j) F0 F0,Aa,Cr];have e:Ae (Ce (2:UInt64) (Vt p (a+(j+1)) (n-(j+1)))) (Ad ((Kr p (a+j):Nat):Int):UInt64)=Vt p (a+j) (n-j):=by
   rw[KS,KM,Xq,Vt,Vt,show n-j=(n-(j+1))+1 by omega,Cy,show a+j+1=a+(j+1) by omega,UInt64.ofNat_add,UInt64.ofNat_mul];exact UInt64.add_comm _ _
  rw[e];exact zN p N a n ha hp j q F0 F0
theorem lL(p:LB)(N:Int)(a n:Nat)(ha:a+n<=8*p.length)(hp:p.length<=1000000):Sp p N (a:Int) (n:Int)=some (Vt p a n):=by
 have:=zN p N a n ha hp n Aq (Aox _) Aw5;have hz:Vt p (a+n) (n-n)=0:=by rw[Nat.sub_self];rfl
 rw[hz]at this;rw[Sp,HD,GU,Cr];exact this
theorem Aeu(bit:Int)(N:Nat)(l:LB):∀(j k q:Nat),k+j=N %8->j<q->Mh bit (N:Int) l q ((2^k:Nat):Int) (k:Int)=Ya bit ((2^(N %8):Nat):Int) (N:Int) l
 |0,k,q+1,hk,_=>by
  rw[Mh,Yw,Ah1,Aam Aw4,show k=N %8 by omega]
 |j+1,k,q+1,hk,hq=>by
  have hp:2^k<=2^8:=Aec F0 F0;have e:Ce ((2^k:Nat):Int) 2=((2^(k+1):Nat):Int):=by
   rw[Ard];generalize 2^k=K at*
   rw[Jj];omega
  rw[Mh,Yw,Ah1,Aao Aw4,e,Ak];exact Aeu bit N l j (k+1) q F0 F0
theorem B9(p:LB)(a n j:Nat)(h:j<(n+7)/8):(HT p a n)[j]'(by rw[Pd];exact h)=UInt8.ofNat (Cy p (a+8*j) (min 8 (n-8*j))):=by simp[HT]
theorem Aai(p:LB)(a t:Nat)(h:t<=8):Cy p a t<256:=by
 have h1:=Se p t a;have h2:2^t<=2^8:=Aec F0 h;omega
def room(p:LB)(a n:Nat):LB:=if n %8=0 then HT p a n++[0]else HT p a n
theorem Zb(p:LB)(a n:Nat):(room p a n).length=n/8+1:=by
 rw[room];split<;>simp[Pd]<;>omega
theorem zx(p:LB)(a n j:Nat)(h:j<n/8+1):(room p a n)[j]'(by rw[Zb];exact h)=UInt8.ofNat (Cy p (a+8*j) (min 8 (n-8*j))):=by
 have h0:(room p a n)[j]? =some (UInt8.ofNat (Cy p (a+8*j) (min 8 (n-8*j)))):=by
  rw[room];split
  ·by_cases hj:j<(n+7)/8
   ·rw[List.getElem?_append_left (by rw[Pd];exact hj),List.getElem?_eq_getElem (by rw[Pd];exact hj),B9 p a n j hj]
   ·rw[List.getElem?_append_right (by rw[Pd];omega),Pd,show j-(n+7)/8=0 by omega,show n-8*j=0 by omega];rfl
  ·rw[List.getElem?_eq_getElem (by rw[Pd];omega),B9 p a n j F0]
 rw[List.getElem?_eq_getElem (by rw[Zb];exact h)]at h0;exact Option.some.inj h0
theorem zf(p:LB)(a n T:Nat)(h1:1<=T)(h:n %8+T<=8):(room p a n).set (n/8) (UInt8.ofNat (Cy p (a+8*(n/8)) (n %8+T)))=HT p a (n+T):=by
 apply Auc (by rw[Au2,Zb,Pd];omega);intro j g1 g2;rw[Au2,Zb]at g1;rw[Awm,B9 p a (n+T) j (by rw[Pd]at g2;exact g2)];split
 ·rename_i e;subst e;rw[show min 8 (n+T-8*(n/8))=n %8+T by omega]
 ·rw[zx p a n j g1,show min 8 (n-8*j)=8 by omega,show min 8 (n+T-8*j)=8 by omega]
theorem N8(p:LB)(a n:Nat):(room p a n)[n/8]'(by rw[Zb];omega)=UInt8.ofNat (Cy p (a+8*(n/8)) (n %8)):=by
 rw[zx p a n _ F0,show min 8 (n-8*(n/8))=n %8 by omega]
theorem Ahu(p:LB)(a n:Nat)(hn:n<=400000):Xe (HT p a n) (n:Int) ((Kr p (a+n):Nat):Int)=some (HT p a (n+1),((n+1:Nat):Int)):=by
 have hb:=Zf p (a+n);have hp:2^(n %8)<=2^7:=Aec F0 F0;have hroom:Xe (HT p a n) (n:Int) ((Kr p (a+n):Nat):Int)=Yd ((Kr p (a+n):Nat):Int) (n:Int) (room p a n):=by
  rw[Xe,NS,Ah1,room];by_cases h0:n %8=0
  ·rw[Aao (by rw[Ba,h0];rfl),Cu (by rw[Pd];simp;omega),Aa,Aao h0]
  ·rw[Aam Axc,Aam h0]
 have hl:=Aeu ((Kr p (a+n):Nat):Int) n (room p a n) (n %8) 0 Aq F0 Aw5;rw[hroom,Yd,NZ,NO];refine Ave hl ?_;have hg:Ah (room p a n) ((n/8:Nat):Int)=some (UInt8.ofNat (Cy p (a+8*(n/8)) (n %8))):=by
  rw[Cm (by rw[Zb];omega),N8]
 have hlt:=Aai p (a+8*(n/8)) (n %8+1) F0;have hsn:=M6 p (a+8*(n/8)) (n %8);rw[show a+8*(n/8)+n %8=a+n by omega]at hsn;have hm:Ce ((Kr p (a+n):Nat):Int) ((2^(n %8):Nat):Int)=((2^(n %8)*Kr p (a+n):Nat):Int):=by
  have hle:2^(n %8)*Kr p (a+n)<=2^7*1:=At8 hp F0;rw[Aho,<-Atb,Cz F0 (by rw[Apt];omega),Apt]
 have hx:Ae (UInt8.ofNat (Cy p (a+8*(n/8)) (n %8))) (Ad (((2^(n %8)*Kr p (a+n):Nat):Int)):UInt8)=UInt8.ofNat (Cy p (a+8*(n/8)) (n %8+1)):=by
  rw[Aol,Air,hsn,UInt8.ofNat_add]
 rw[Ya,NQ,Asg _ F0,hg,Aa,Aa,Aa,hm,hx,Yj _ (by rw[Zb];omega),Aa,zf p a n 1 F0 F0,Ak];rfl
theorem qC(p:LB)(N:Int)(a n:Nat)(ha:a+n<=8*p.length)(hp:p.length<=1000000)(hn:n<=300000):∀(j m q:Nat),m+j=n->j<q->Hz ((a+n:Nat):Int) p N q ((a+m:Nat):Int) (m:Int) (HT p a m)=some (HT p a n,(n:Int))
 |0,m,q+1,hm,_=>by
  rw[Hz,Rh,Aam Aw4,show m=n by omega];rfl
 |j+1,m,q+1,hm,hq=>by
  rw[Hz,Rh,Aao Aw4,rI p N (a+m) F0 F0,Aa,Ahu p a m F0,Aa];simp only;rw[Ak];exact qC p N a n ha hp hn j (m+1) q F0 F0
theorem iy(p:LB)(N:Int)(a n:Nat)(ha:a+n<=8*p.length)(hp:p.length<=1000000)(hn:n<=300000):KL p N (a:Int) ((a+n:Nat):Int)=some (HT p a n,(n:Int)):=by
 have:=qC p N a n ha hp hn n 0 Aq F0 Aw5;exact this
theorem Axt{p:Prop}(h:p:=by rw[As];simp):p:=h
end Go.Pl
namespace Go.Pl
open Go Go.Lv
variable{t:Nat}{p:Prop}
theorem Ap4(h:t<=8):Al (Eh (1:UInt64) t) (1:UInt64)=UInt64.ofNat (2^t-1):=by
 have:t=0\/t=1\/t=2\/t=3\/t=4\/t=5\/t=6\/t=7\/t=8:=F0
 rcases this with rfl|rfl|rfl|rfl|rfl|rfl|rfl|rfl|rfl<;>decide
theorem Auy(v:UInt64)(h:t<=8):(Ex v (Al (Eh (1:UInt64) t) (1:UInt64))).toNat=v.toNat %2^t:=by
 have hp:2^t<=2^8:=Aec F0 h;rw[Ap4 h,A9,UInt64.toNat_and,Ahl,Ab6 (by have:=Avr (n:=t) (show 0<2 by omega);omega),Av0]
theorem or8{v w i:Nat}(hv:v<2^i)(hw:w*2^i<256)(hi:i<8):uW (UInt8.ofNat v) (Eh (UInt8.ofNat w) i)=UInt8.ofNat (v+w*2^i):=by
 have hp:2^i<=2^8:=Aec F0 F0;have hpos:0<2^i:=Avr F0;have hw2:w<256:=Aud (Nat.le_mul_of_pos_right w hpos) hw;rw[Aqb];apply UInt8.toNat_inj.1;have e1:(UInt8.ofNat v).toNat=v:=by rw[Ao7,Ab6 F0]
 have e2:(UInt8.ofNat w).toNat=w:=by rw[Ao7,Ab6 F0]
 rw[UInt8.toNat_or,Ani,e1,e2,Ab6 hw,Apt w,Nat.or_comm,<-Atc hv,Ao7,Aww v];rw[Apt]at hw;have hb:2^i*w+v<256:=by
  rw[Atc hv];exact Nat.or_lt_two_pow (n:=8) hw F0
 rw[Ab6 hb]
theorem Ajl(p:LB)(a n T:Nat)(h:T<=n)(hn:n<=64):Ct (Vt p a n) T=Vt p (a+T) (n-T):=by
 apply UInt64.toNat_inj.1;rw[LO,FW p a n hn,FW p (a+T) (n-T) F0];have:=Se p T a
 conv=>lhs;rw[show n=T+(n-T) by omega,QY,Nat.add_mul_div_left _ _ (Avr F0),Aug this,Avt]
theorem Akr(p:LB)(a n T:Nat)(h:T<=n)(hn:n<=64):(Vt p a n).toNat %2^T=Cy p a T:=by
 have:=Se p T a;rw[FW p a n hn]
 conv=>lhs;rw[show n=T+(n-T) by omega,QY,Nat.add_mul_mod_self_left,Ab6 this]
theorem zY(bk:Int->Int->LB->Option (LB×Int×Int))(to':Int)(p:LB)(N fr:Int)(r6:UInt64)(a:Nat):∀(j m q:Nat),m+j<=300000->j<=64->j<q->
  Pj bk to' p N fr r6 q (Vt p (a+m) j) (j:Int) (m:Int) (HT p a m)=OJ bk to' p N fr ((m+j:Nat):Int) (HT p a (m+j))
 |0,m,q+1,_,_,_=>by
  rw[Pj,OP,Aam Axt];rfl
 |j+1,m,q+1,hm,hj,hq=>by
  have hroom:Pj bk to' p N fr r6 (q+1) (Vt p (a+m) (j+1)) ((j+1:Nat):Int) (m:Int) (HT p a m)=OQ (Pj bk to' p N fr r6 q) to' fr p N r6 (Vt p (a+m) (j+1)) ((j+1:Nat):Int) (m:Int) (room p a m):=by
   rw[Pj,OP,Aao Axt,sj m F0,room];by_cases h0:m %8=0
   ·rw[Aao (by rw[Ba,h0];rfl),Cu (by rw[Pd];simp;omega),Aa,Aao h0]
   ·rw[Aam Axc,Aam h0]
  have hl:Al (Ac (room p a m)) 1=((m/8:Nat):Int):=by
   rw[Ac,Zb,Cr];omega
  have e2:Ee ((j+1:Nat):Int) (Al (8:Int) ((m %8:Nat):Int))=((min (j+1) (8-m %8):Nat):Int):=by
   rw[MC,Cr];omega
  rw[hroom,OQ,qR,sj m F0,e2,hl];generalize hT:min (j+1) (8-m %8)=T;have hT1:1<=T:=F0
  have hT8:m %8+T<=8:=F0
  have hg:Ah (room p a m) ((m/8:Nat):Int)=some (UInt8.ofNat (Cy p (a+8*(m/8)) (m %8))):=by
   rw[Cm (by rw[Zb];omega),N8]
  have z1:(GI.toZ ((m %8:Nat):Int)).toNat=m %8:=rfl;have z2:(GI.toZ ((T:Nat):Int)).toNat=T:=rfl;have hlt:=Aai p (a+8*(m/8)) (m %8+T) F0;have hadd:=QY p (m %8) T (a+8*(m/8));rw[show a+8*(m/8)+m %8=a+m by omega]at hadd;have hbyte:(Ad (Ex (Vt p (a+m) (j+1)) (Al (Eh (1:UInt64) T) (1:UInt64))):UInt8)=UInt8.ofNat (Cy p (a+m) T):=by
   rw[aK,Auy _ F0,Akr p (a+m) (j+1) T F0 hj]
  have hnew:uW (UInt8.ofNat (Cy p (a+8*(m/8)) (m %8))) (Eh (UInt8.ofNat (Cy p (a+m) T)) (m %8))=UInt8.ofNat (Cy p (a+8*(m/8)) (m %8+T)):=by
   rw[or8 (Se _ _ _) (by rw[Apt];omega) F0,hadd,Apt (2^(m %8))]
  rw[hg,z1,z2,hbyte];simp only[Aa];rw[Dv Axg,Aa,Dv Axa,Aa,hnew,Yj _ (by rw[Zb];omega),Aa,zf p a m T hT1 hT8,pL,oX,sj m F0,e2,hT,Dv Axg,Aa,z2,Ajl p (a+m) (j+1) T F0 hj,Cr,Ak];have ih:=zY bk to' p N fr r6 a (j+1-T) (m+T) q F0 F0 F0;rw[show m+T+(j+1-T)=m+(j+1) by omega]at ih;rw[<-ih,show a+m+T=a+(m+T) by omega,show((j+1:Nat):Int)-((T:Nat):Int)=((j+1-T:Nat):Int) by omega,show(m:Int)+((T:Nat):Int)=((m+T:Nat):Int) by omega]
theorem qj(p:LB)(N:Int)(a n:Nat)(ha:a+n<=8*p.length)(hp:p.length<=1000000)(hn:n<=300000):∀(j m f q:Nat),(f=m\/n<=f/\m=n)->m+j=n->f<=n+64->j<q->Xb ((a+n:Nat):Int) p N q ((a+f:Nat):Int) (m:Int) (HT p a m)=some (HT p a n,(n:Int),0)
 |j,m,f,q+1,hf,hm,hf2,hq=>by
  rw[Xb,aI];by_cases hlt:f<n
  ·obtain rfl:f=m:=F0
   have e1:Ee (64:Int) (Al ((a+n:Nat):Int) ((a+f:Nat):Int))=((min 64 (n-f):Nat):Int):=by
    rw[MC,Cr];omega
   rw[Aao Aw4,e1,get_eq p N (a+f) _ F0 F0 hp,Aa,aN];have h1:=zY (Xb ((a+n:Nat):Int) p N q) ((a+n:Nat):Int) p N ((a+f:Nat):Int) (Vt p (a+f) (min 64 (n-f))) a (min 64 (n-f)) f Aq F0 F0 Aw5;refine Ave h1 ?_;rw[OJ,oV,Ak,show((a+f:Nat):Int)+64=((a+(f+64):Nat):Int) by omega];exact qj p N a n ha hp hn (j-min 64 (n-f)) (f+min 64 (n-f)) (f+64) q F0 F0 F0 F0
  ·rw[Aam Aw4,ZG,qB,show m=n by omega]
theorem Aqg{p:LB}{N:Nat}(h:okB p N)(a n:Nat)(ha:a+n<=N)(hn:n<=300000):fO p (N:Int) (a:Int) ((a+n:Nat):Int)=some (HT p a n,(n:Int),0):=by
 obtain⟨h1,h2,h3⟩:=h;have:=qj p N a n F0 F0 hn n 0 0 Aq F0 F0 F0 Aw5;rw[fO,fV,PH ⟨h1,h2,h3⟩,Aa,Aam Aw8,Aam Axd,nF];exact this
theorem Axo(h:p:=by simp[Af];omega):p:=h
theorem Axe(h:p:=by rw[Af];simp):p:=h
end Go.Pl
namespace Go.Pl
open Go Go.Lv
variable{p:LB}{n N a k l:Nat}{t s:UInt64}
def He(p:LB):Nat->Nat->Nat
 |_,0=>0
 |a,m+1=>if Kr p a=1 then 1+He p (a+1) m else 0
theorem TK(p:LB):∀(m a:Nat),He p a m<=m
 |0,_=>Aox _
 |m+1,a=>by rw[He];split<;>have:=TK p m (a+1)<;>omega
theorem sw(p:LB):∀(m a:Nat),∃s,Cy p a m+1=2^(He p a m+1)*s+2^He p a m/\ (He p a m=m->s=0)
 |0,a=>⟨0,by simp[Cy,He],λ_=>rfl⟩
 |m+1,a=>by
  have hb:=Zf p a;obtain⟨s,h1,h2⟩:=sw p m (a+1);by_cases h:Kr p a=1
  ·refine⟨s,?_,λe=>h2 ?_⟩
   ·rw[He,Aao h,Cy,h,show 1+He p (a+1) m+1=(He p (a+1) m+1)+1 by omega,show 1+He p (a+1) m=He p (a+1) m+1 by omega,Ard,Ard (n:=2) (m:=He p (a+1) m)];rw[Ard]at h1;generalize Cy p (a+1) m=V at*
    generalize 2^He p (a+1) m=W at*
    have e1:W*2*2*s=2*(W*2*s):=by rw[Nat.mul_right_comm (W*2) 2 s,Apt]
    omega
   ·rw[He,Aao h]at e;omega
  ·refine⟨Cy p (a+1) m,?_,λe=>?_⟩
   ·rw[He,Aam h,Cy];simp;omega
   ·rw[He,Aam h]at e;omega
theorem Aoi{t s:Nat}(h:2^(t+1)*s+2^t<=2^n)(ht:t<n)(x:Nat)(hx:x=2^n-(2^(t+1)*s+2^t)):x&&& (2^(t+1)*s+2^t)=2^t:=by
 have hpos:0<2^t:=Avr F0;have hlt:2^t<2^(t+1):=by rw[Ard];omega
 have e:x=2^n-((2^(t+1)*s+(2^t-1))+1):=by rw[hx];congr 1;omega
 apply Nat.eq_of_testBit_eq;intro i;rw[Nat.testBit_and,e,Nat.testBit_two_pow_sub_succ F0,Nat.testBit_two_pow_mul_add _ F0,Nat.testBit_two_pow_mul_add _ hlt];by_cases hi:i<t+1
 ·rw[Aao hi,Aao hi,Nat.testBit_two_pow_sub_one,Nat.testBit_two_pow];by_cases hit:t=i
  ·subst hit;simp;exact ht
  ·have:¬i=t:=λe=>hit e.symm;simp[hit]
 ·rw[Aam hi,Aam hi,Nat.testBit_two_pow];have:¬t=i:=F0
  simp[this]
theorem Akm(a:UInt64):(B7 a).toNat=18446744073709551615-a.toNat:=by
 have h:=a.toNat_lt;have e:B7 a=UInt64.ofNat (BitVec.ofInt 64 18446744073709551615^^^BitVec.ofInt 64 (a.toNat:Int)).toNat:=Ia _;have h1:BitVec.ofInt 64 (a.toNat:Int)=a.toBitVec:=W9 a;have h2:(BitVec.ofInt 64 18446744073709551615:BitVec 64)=BitVec.allOnes 64:=Aw2
 rw[e,Ahl,h1,h2,BitVec.allOnes_xor,BitVec.toNat_not];show(18446744073709551616-1-a.toNat) %18446744073709551616=18446744073709551615-a.toNat;omega
theorem Ajh(a:UInt64):(nW a).toNat=(18446744073709551616-a.toNat) %18446744073709551616:=by
 have h:=a.toNat_lt;have e:nW a=UInt64.ofNat ((0-(a.toNat:Int)) %18446744073709551616).toNat:=T9 _;rw[e,Ahl];show((0-(a.toNat:Int)) %18446744073709551616).toNat %18446744073709551616=_;omega
def Atd:LB:=[0,1,56,2,57,49,28,3,61,58,42,50,38,29,17,4,62,47,59,36,45,43,51,22,53,39,33,30,24,18,12,5,63,55,48,27,60,41,37,16,46,35,44,21,52,32,23,11,54,26,40,15,34,20,31,10,25,14,19,9,13,8,7,6]
theorem Afe:∀t:Fin 64,Ah Atd (GI.toZ (Ct (Ce (UInt64.ofNat (2^t.val)) (285870213051353865:UInt64)) (GI.toZ (58:UInt64)).toNat))=some (UInt8.ofNat t.val):=by decide +kernel
theorem Asx(x:UInt64)(t s:Nat)(ht:t<64)(h:x.toNat+(2^(t+1)*s+2^t)=18446744073709551616):Gq x=some (t:Int):=by
 have hpos:0<2^t:=Avr F0;have hx:x.toNat=2^64-(2^(t+1)*s+2^t):=by show x.toNat=18446744073709551616-_;omega
 have hle:2^t<=2^63:=Aec F0 F0;have hne:x≠0:=by
  intro e;rw[e]at h;have h':2^t*(2*s+1)=2^64:=by
   rw[Nat.mul_add,Nat.mul_one,<-Aui,<-Ard]
   show _=18446744073709551616;simpa using h
  have h2:2^64=2^t*2^(64-t):=by rw[<-Awh];congr 1;omega
  rw[h2]at h';have h3:=Nat.eq_of_mul_eq_mul_left hpos h';rw[show 64-t=(63-t)+1 by omega,Ard]at h3;omega
 have hx0:x.toNat≠0:=λe=>hne (UInt64.toNat_inj.1 e);have hl:Ex x (nW x)=UInt64.ofNat (2^t):=by
  apply UInt64.toNat_inj.1;rw[A9,UInt64.toNat_and,Ajh,show(18446744073709551616-x.toNat) %18446744073709551616=2^(t+1)*s+2^t by omega,Aoi (n:=64) (by show _<=18446744073709551616;omega) ht _ hx,Ahl,Ab6];exact Aud hle Aw2
 have hb:=Afe ⟨t,ht⟩;rw[Gq,Aam (by rw[wI];simpa using hne),hl];refine Ave (congrArg (λo=>Option.bind o λc=>some (Ad c:Int)) hb) ?_;rw[Aa,PF,Ao7,Ab6 (by show t<256;omega)]
theorem Aos(p:LB)(a m:Nat)(hm:m<=48):Gq (B7 (Vt p a m))=some ((He p a m:Nat):Int):=by
 obtain⟨s,h1,h2⟩:=sw p m a;have hle:=TK p m a;have hlt:=Se p m a;have h48:2^m<=2^48:=Aec F0 hm;have hn:(B7 (Vt p a m)).toNat=18446744073709551615-Cy p a m:=by rw[Akm,FW p a m F0]
 have h3:(281474976710656:Nat)=2^48:=rfl;refine Asx _ (He p a m) s F0 ?_;rw[hn];omega
def jy(p:LB)(N a:Nat):Int×Int×Int:=
 if He p a (min 48 (N-a))<min 48 (N-a)then((He p a (min 48 (N-a)):Nat),((a+He p a (min 48 (N-a))+1:Nat):Int),0)else
 if He p a (min 48 (N-a))=48 then(48,((a+48:Nat):Int),0)else(0,0,24)
theorem Akb(h:okB p N)(a:Nat)(ha:a<N):IK p (N:Int) (a:Int)=some (jy p N a):=by
 have hN:=h.1;have e1:Ee (48:Int) (Al (N:Int) (a:Int))=((min 48 (N-a):Nat):Int):=by rw[MC,Cr];omega
 have hle:=TK p (min 48 (N-a)) a;rw[IK,Zl,PH h,Aa,Aam Aw8,Aam Axe,Aam Axa,e1,tN h a _ F0,Aam F0,Aa];simp only;rw[VF,lA,Aam Aw8,Aos p a _ F0,Aa,lC,kQ,e1,jy];by_cases h1:He p a (min 48 (N-a))<min 48 (N-a)
 ·rw[Aao Aw4,Aao h1,Ak (a:=(a:Int)) F0 F0,show Ae (0:Int) 1=1 by decide,Ak];congr 3;omega
 ·rw[Aam Aw4,Aam h1,kX,kK];by_cases h2:He p a (min 48 (N-a))=48
  ·rw[Aao (by rw[Ba,h2];rfl),Aao h2,h2,Ak (a:=(a:Int)) F0 F0,Ak];congr 3;omega
  ·rw[Aam Axc,Aam h2];rfl
theorem P2(p:LB):∀(m a:Nat),He p a m<m->Kr p (a+He p a m)≠1
 |0,_,h=>by simp[He]at h
 |m+1,a,h=>by
  by_cases hb:Kr p a=1
  ·rw[He,Aao hb]at h⊢;have:=P2 p m (a+1) F0;rwa [show a+(1+He p (a+1) m)=a+1+He p (a+1) m by omega]
  ·rw[He,Aam hb];exact hb
theorem N2(p:LB):∀(m a k:Nat),k<He p a m->Kr p (a+k)=1
 |0,a,k,h=>by simp[He]at h
 |m+1,a,k,h=>by
  by_cases hb:Kr p a=1
  ·rw[He,Aao hb]at h;cases k with
   |zero=>exact hb
   |succ k=>
    have:=N2 p m (a+1) k F0;rwa [show a+(k+1)=a+1+k by omega]
  ·rw[He,Aam hb]at h;omega
def unR(p:LB)(N a:Nat):Int×Int:=if(jy p N a).2.2=0 then((jy p N a).1,(jy p N a).2.1)else(-1,0)
theorem D1{p:LB}{N:Nat}(h:okB p N)(a:Nat)(ha:a<N):∀(j k q:Nat),k+j=He p a (min 48 (N-a))->j<q->Lz (a:Int) p (N:Int) q (k:Int)=some (unR p N a)
 |0,k,q+1,hk,_=>by
  obtain⟨hN,hl,hz⟩:=h;have hle:=TK p (min 48 (N-a)) a;have hk':k=He p a (min 48 (N-a)):=F0
  have e1:Ae (a:Int) (k:Int)=((a+k:Nat):Int):=by rw[Ak];omega
  have hend:Yv (a:Int) (k:Int) p (N:Int)=some (unR p N a):=by
   rw[Yv,OB,e1];by_cases h48:k=48
   ·have hu:jy p N a=(48,((a+48:Nat):Int),0):=by rw[jy,<-hk',Aam F0,Aao h48]
    rw[Aao (by rw[Ba,h48];rfl),unR,hu,h48];rfl
   ·rw[Aam Axc];by_cases hN2:N<=a+k
    ·have hu:jy p N a=(0,0,24):=by rw[jy,<-hk',Aam F0,Aam h48]
     rw[Aao Axa,unR,hu];rfl
    ·have hu:jy p N a=(((k:Nat):Int),((a+k+1:Nat):Int),0):=by rw[jy,<-hk',Aao F0]
     rw[Aam Axa,unR,hu,Ak];rfl
  rw[Lz,Yr,e1];by_cases hc:a+k<N/\k<48
  ·have hb:=Zf p (a+k);have hs:=P2 p (min 48 (N-a)) a F0;rw[<-hk']at hs;rw[Aao Axo,rI p _ (a+k) F0 F0,Aa,Aam Axc,hend]
  ·rw[Aam Axo,hend]
 |j+1,k,q+1,hk,hq=>by
  obtain⟨hN,hl,hz⟩:=h;have hle:=TK p (min 48 (N-a)) a;have hb:=N2 p (min 48 (N-a)) a k F0;have e1:Ae (a:Int) (k:Int)=((a+k:Nat):Int):=by rw[Ak];omega
  rw[Lz,Yr,e1,Aao Axo,rI p _ (a+k) F0 F0,Aa,hb,Aao Aw2,Ak];exact D1 ⟨hN,hl,hz⟩ a ha j (k+1) q F0 F0
theorem Ain(h:okB p N)(a:Nat)(ha:a<N):WM p (N:Int) (a:Int)=some (unR p N a):=by
 have hle:=TK p (min 48 (N-a)) a;have:=D1 h a ha (He p a (min 48 (N-a))) 0 Aq F0 Aw5;exact this
theorem Ai4(h:He p a (min 48 (N-a))<min 48 (N-a)):jy p N a=(((He p a (min 48 (N-a)):Nat):Int),((a+He p a (min 48 (N-a))+1:Nat):Int),0):=by rw[jy,Aao h]
theorem Akc(h:¬He p a (min 48 (N-a))<min 48 (N-a))(h2:He p a (min 48 (N-a))=48):jy p N a=(48,((a+48:Nat):Int),0):=by rw[jy,Aam h,Aao h2]
theorem Ah9(h:¬He p a (min 48 (N-a))<min 48 (N-a))(h2:¬He p a (min 48 (N-a))=48):jy p N a=(0,0,24):=by rw[jy,Aam h,Aam h2]
theorem Afq(h:okB p N)(a:Nat)(ha:N<=a):IK p (N:Int) (a:Int)=some (0,0,24):=by
 rw[IK,Zl,PH h,Aa,Aam Aw8,Aam Axe,Aao Axa]
def SU(p:LB)(N a k:Nat):UInt32×Int×Int:=
 if N<=a then(0,0,24)else
 if He p a (min 48 (N-a))<min 48 (N-a)then
  (if N<a+He p a (min 48 (N-a))+1+k then(0,0,24)else(UInt32.ofNat (He p a (min 48 (N-a))*2^k+Cy p (a+He p a (min 48 (N-a))+1) k),((a+He p a (min 48 (N-a))+1+k:Nat):Int),0))
 else if He p a (min 48 (N-a))=48 then
  (if N<a+48+32 then(0,0,24)else if Cy p (a+48) 32/2^k<48 then(0,0,12)else(UInt32.ofNat (Cy p (a+48) 32),((a+48+32:Nat):Int),0))
 else(0,0,24)
theorem oQ(h:n<=32):(Ad (Vt p a n):UInt32)=UInt32.ofNat (Cy p a n):=by
 have e:(Ad (Vt p a n):UInt32)=UInt32.ofNat (Vt p a n).toNat:=by simp only[Ad,Jn,Ez]
 rw[e,FW p a n F0]
theorem ZK(h:n<4294967296):(UInt32.ofNat n).toNat=n:=by rw[Alx];exact Ab6 h
theorem rz(p:LB)(a:Nat)(h:n<=32):Cy p a n<4294967296:=by
 have h1:=Se p n a;have h2:2^n<=2^32:=Aec F0 h;omega
theorem Arc{q v:Nat}(hq:q<48)(hv:v<2^k)(hk:k<=24):uW (Eh (Ad (q:Int):UInt32) k) (UInt32.ofNat v)=UInt32.ofNat (q*2^k+v):=by
 have hp:2^k<=2^24:=Aec F0 hk;have h1:q*2^k<=47*2^24:=At8 F0 hp;rw[Anh];apply UInt32.toNat_inj.1;rw[UInt32.toNat_or,wX,Q0,ZK F0,ZK (n:=v) F0,Ab6 F0,Apt q,<-Atc hv,ZK (by rw[Apt];omega)]
theorem Anc(h:okB p N)(a k:Nat)(hk:k<=24):iS p (N:Int) (a:Int) (k:Int)=some (SU p N a k):=by
 have hN:=h.1;rw[iS,pJ,PH h,Aa,Aam Aw8,Aam Axd];by_cases ha:N<=a
 ·rw[Afq h a ha,Aa,SU,Aao ha];rfl
 have hle:=TK p (min 48 (N-a)) a;rw[Akb h a F0,Aa];by_cases h1:He p a (min 48 (N-a))<min 48 (N-a)
 ·have hS:SU p N a k=if N<a+He p a (min 48 (N-a))+1+k then(0,0,24)else(UInt32.ofNat (He p a (min 48 (N-a))*2^k+Cy p (a+He p a (min 48 (N-a))+1) k),((a+He p a (min 48 (N-a))+1+k:Nat):Int),0):=by rw[SU,Aam ha,Aao h1]
  rw[Ai4 h1,hS];generalize He p a (min 48 (N-a))=q at*
  simp only;rw[Aam Aw8,Aam Axc,aQ,ZX,tN h _ k F0,Aa];by_cases h2:N<a+q+1+k
  ·rw[Aao h2,Aao h2];rfl
  ·rw[Aam h2,Aam h2];simp only;have z:(GI.toZ (k:Int)).toNat=k:=rfl;rw[Aam Aw8,Aao Aw4,Dv Axg,Aa,z,oQ F0,Arc F0 (Se _ _ _) hk,Ak];rfl
 ·by_cases h2:He p a (min 48 (N-a))=48
  ·have hS:SU p N a k=if N<a+48+32 then(0,0,24)else if Cy p (a+48) 32/2^k<48 then(0,0,12)else(UInt32.ofNat (Cy p (a+48) 32),((a+48+32:Nat):Int),0):=by rw[SU,Aam ha,Aam h1,Aao h2]
   have hg:=tN h (a+48) 32 F0;rw[Akc h1 h2,hS];simp only;rw[Aam Aw8,Aao Axp,aQ,ZX];refine Ave (congrArg (λo=>Option.bind o _) hg) ?_;rw[Aa];by_cases h3:N<a+48+32
   ·rw[Aao h3,Aao h3];rfl
   ·rw[Aam h3,Aam h3];simp only;have z:(GI.toZ (k:Int)).toNat=k:=rfl;have hv:=rz p (a+48) (n:=32) F0;rw[Aam Aw8,Aam Axe,OW,Dv Axg,Aa,Aa,z,oQ F0,Amy];have e:(decide ((48:UInt32).toNat<= (Ct (UInt32.ofNat (Cy p (a+48) 32)) k).toNat))=decide (¬Cy p (a+48) 32/2^k<48):=by
     rw[WJ,ZK hv];simp
    rw[e];by_cases h4:Cy p (a+48) 32/2^k<48
    ·rw[Aao (by simp[h4]),Aao h4]
    ·rw[Aam Aw3,Aam h4,Ak];rfl
  ·rw[Ah9 h1 h2,SU,Aam ha,Aam h1,Aam h2];rfl
theorem zV(k:Nat)(hk:k<=63):∀(j i q:Nat),i+j=k->j<q->Jp (k:Int) q (UInt64.ofNat (2^i)) (i:Int)=some (UInt64.ofNat (2^k))
 |0,i,q+1,hi,_=>by
  rw[Jp,Ul,Aam Aw4,show i=k by omega];rfl
 |j+1,i,q+1,hi,hq=>by
  have e:Ce (UInt64.ofNat (2^i)) (2:UInt64)=UInt64.ofNat (2^(i+1)):=by
   rw[KM,Ard,UInt64.ofNat_mul];rfl
  rw[Jp,Ul,Aao Aw4,Ak,e];exact zV k hk j (i+1) q F0 F0
theorem KO(k:Nat)(hk:k<=63):Gd (k:Int)=some (UInt64.ofNat (2^k)):=
 zV k hk k 0 Aq F0 Aw5
theorem TE(hk:k<=63):(UInt64.ofNat (2^k)).toNat=2^k:=by
 have hp:2^k<=2^63:=Aec F0 hk;rw[Ahl,Ab6 F0]
theorem Amt(v:UInt32)(k:Nat)(hk:k<=24):DD v (k:Int)=some ((min 48 (v.toNat/2^k):Nat):Int):=by
 have hpos:0<2^k:=Avr F0;have hv:=v.toNat_lt;rw[DD,KO k F0,Aa,Dv (by rw[ON];simp only[Av7,ne_eq,<-Av5,TE (show k<=63 by omega)];simp),Aa];have e:(Cq (Ad v:UInt64) (UInt64.ofNat (2^k))).toNat=v.toNat/2^k:=by
  rw[qA,Awk,Jg,TE F0,Ahl,Ab6 F0]
 have hle:v.toNat/2^k<=v.toNat:=Ar5 _ _;have e2:Ee (48:UInt64) (Cq (Ad v:UInt64) (UInt64.ofNat (2^k)))=UInt64.ofNat (min 48 (v.toNat/2^k)):=by
  apply UInt64.toNat_inj.1;rw[Ahl,Ab6 F0];show(if _ then _ else _:UInt64).toNat=_;rw[show(GI.toZ (Cq (Ad v:UInt64) (UInt64.ofNat (2^k))))=((v.toNat/2^k:Nat):Int) by rw[Jn,e],show GI.toZ (48:UInt64)=48 from rfl];split
  ·rw[e];omega
  ·show 48=_;omega
 rw[e2,tK (by rw[Ahl,Ab6]<;>omega),Ahl,Ab6 F0]
theorem Aik(h:okB p N)(a k:Nat)(hk:k<=24):II p (N:Int) (a:Int) (k:Int)=some (SU p N a k):=by
 obtain⟨hN,hl,hz⟩:=h;have h:okB p N:=⟨hN,hl,hz⟩;rw[II,NL];by_cases ha:N<=a
 ·rw[Aao Axa,SU,Aao ha]
 have hle:=TK p (min 48 (N-a)) a;rw[Aam Axa,Ain h a F0,Aa,unR];by_cases h1:He p a (min 48 (N-a))<min 48 (N-a)
 ·have hS:SU p N a k=if N<a+He p a (min 48 (N-a))+1+k then(0,0,24)else(UInt32.ofNat (He p a (min 48 (N-a))*2^k+Cy p (a+He p a (min 48 (N-a))+1) k),((a+He p a (min 48 (N-a))+1+k:Nat):Int),0):=by rw[SU,Aam ha,Aao h1]
  rw[Ai4 h1,hS];generalize He p a (min 48 (N-a))=q at*
  rw[Aao rfl];simp only;rw[Aam Axc,Yt,Yh,Cr];by_cases h2:N<a+q+1+k
  ·rw[Aao Axo,Aao h2]
  ·have hp:2^k<=2^24:=Aec F0 hk;have hm:q*2^k<=47*2^24:=At8 F0 hp;have hv:=Se p k (a+q+1);have e:(Ad (Ae (Ce (Ad (q:Int):UInt64) (UInt64.ofNat (2^k))) (Vt p (a+q+1) k)):UInt32)=UInt32.ofNat (q*2^k+Cy p (a+q+1) k):=by
    have e1:Ae (Ce (Ad (q:Int):UInt64) (UInt64.ofNat (2^k))) (Vt p (a+q+1) k)=UInt64.ofNat (q*2^k+Cy p (a+q+1) k):=by
     rw[KS,KM,Xq,Vt,UInt64.ofNat_add,UInt64.ofNat_mul]
    rw[e1];have e2:∀x:UInt64,(Ad x:UInt32)=UInt32.ofNat x.toNat:=λx=>by simp only[Ad,Jn,Ez]
    rw[e2,Ahl,Ab6 F0]
   rw[Aam Axo,Aam h2,lL p _ _ k F0 F0,Aa,Aao Aw4,KO k F0,Aa,e,Ak];rfl
 ·by_cases h2:He p a (min 48 (N-a))=48
  ·have hS:SU p N a k=if N<a+48+32 then(0,0,24)else if Cy p (a+48) 32/2^k<48 then(0,0,12)else(UInt32.ofNat (Cy p (a+48) 32),((a+48+32:Nat):Int),0):=by rw[SU,Aam ha,Aam h1,Aao h2]
   rw[Akc h1 h2,hS,Aao rfl];simp only;rw[Aao Axp,Yt,Yh,Cr];by_cases h3:N<a+48+32
   ·rw[Aao Axo,Aao h3]
   ·have hg:=lL p (N:Int) (a+48) 32 F0 F0;have hv:=rz p (a+48) (n:=32) F0;rw[Aam Axo,Aam h3];refine Ave (congrArg (λo=>Option.bind o _) hg) ?_;rw[Aa,Aam Axe,oQ F0,Amt _ k hk,Aa,ZK hv];by_cases h4:Cy p (a+48) 32/2^k<48
    ·rw[Aao Aw4,Aao h4]
    ·rw[Aam Aw4,Aam h4,Ak];rfl
  ·rw[Ah9 h1 h2,SU,Aam ha,Aam h1,Aam h2];have e:(if((0:Int),(0:Int),(24:Int)).2.2=0 then(((0:Int),(0:Int),(24:Int)).1,((0:Int),(0:Int),(24:Int)).2.1)else((-1:Int),(0:Int)))=(-1,0):=Aw2
   rw[e];rfl
theorem Ap9{v:UInt32}{n:Int}(h:SU p N a k=(v,n,0)):(a:Int)<n/\n<=N:=by
 unfold SU at h;split at h
 ·simp at h
 split at h
 ·split at h
  ·simp at h
  ·simp only[Aea]at h;omega
 ·split at h
  ·split at h
   ·simp at h
   ·split at h
    ·simp at h
    ·simp only[Aea]at h;omega
  ·simp at h
def okD(k l:Nat)(s t:UInt64):Prop:=k<=24/\l<=24/\s.toNat<=68719476735/\t.toNat<=68719476735
theorem su(a b:UInt64)(h:a.toNat<=b.toNat):Ee a b=a:=by
 show(if _ then _ else _)=_;rw[Jn,Jn,Aam F0]
theorem nR(a:UInt64):geq a a=true:=by rw[wI];simp
theorem Apy(h:okD k l s t):RQ (k:Int) (l:Int) s t=some 0:=by
 obtain⟨h1,h2,h3,h4⟩:=h;have e1:Ee (oK (k:Int) 0) 24=(k:Int):=by rw[MC,Ab2];omega
 have e2:Ee (oK (l:Int) 0) 24=(l:Int):=by rw[MC,Ab2];omega
 have e3:Ee s (68719476735:UInt64)=s:=su _ _ (by simpa using h3);have e4:Ee t (68719476735:UInt64)=t:=su _ _ (by simpa using h4);have e5:∀a:Int,geq a a=true:=λa=>by rw[Ba];simp
 rw[RQ,JF,VU,IZ,VB,kF,e1,e2,e3,e4,e5,e5,nR,nR];rfl
def FZ(s n:UInt64):UInt64:=s+n-s/16
def kS(k:Nat)(s:UInt64):Nat:=if 0<k/\s.toNat<2^(k+4)then k-1 else if k<24/\2^(k+5)<s.toNat then k+1 else k
theorem Apg(h:k<=24)(s:UInt64):kS k s<=24:=by
 unfold kS;by_cases h1:0<k/\s.toNat<2^(k+4)
 ·rw[Aao h1];omega
 ·rw[Aam h1];split<;>omega
theorem Adi(h:¬(0<k/\s.toNat<2^(k+4))):(if k<24/\2^(k+5)<s.toNat then((k+1:Nat):Int)else(k:Int))=((kS k s:Nat):Int):=by
 rw[kS,Aam h];split<;>rfl
theorem Adk{n:UInt64}(h:s.toNat<=68719476735)(hn:n.toNat<=4294967295):(FZ s n).toNat<=68719476735:=by
 have h1:=s.toNat_lt;have e:(s+n).toNat=s.toNat+n.toNat:=by rw[UInt64.toNat_add];omega
 have e2:(s/16).toNat=s.toNat/16:=by rw[Awk];rfl
 rw[FZ,UInt64.toNat_sub_of_le _ _ (by rw[UInt64.le_iff_toNat_le,e,e2];omega),e,e2];omega
theorem wZ(s n:UInt64):Ae s (Al n (Ct s (GI.toZ (4:UInt64)).toNat))=FZ s n:=by
 have e:Ct s (GI.toZ (4:UInt64)).toNat=s/16:=by
  apply UInt64.toNat_inj.1;rw[LO,Awk];rfl
 rw[e,KS,E1,FZ,UInt64.sub_eq_add_neg,UInt64.sub_eq_add_neg,UInt64.add_assoc]
theorem Adu(s n:UInt64):Al (Ae s n) (Cq s (16:UInt64))=FZ s n:=by rw[KS,E1,qA,FZ]
theorem Ash(h:k<=24):(Eh (16:UInt64) k).toNat=2^(k+4):=by
 have hp:2^k<=2^24:=Aec F0 h;rw[YO,Awh]
 show 16*2^k %_=2^k*16;rw[Ab6 F0,Apt]
theorem Arj(h:k<=24):(Eh (32:UInt64) k).toNat=2^(k+5):=by
 have hp:2^k<=2^24:=Aec F0 h;rw[YO,Awh]
 show 32*2^k %_=2^k*32;rw[Ab6 F0,Apt]
theorem Ao8(h:0<k)(h2:s.toNat<2^(k+4)):kS k s=k-1:=by rw[kS,Aao ⟨h,h2⟩]
theorem Apm(h:¬(0<k/\s.toNat<2^(k+4)))(h2:k<24)(h3:2^(k+5)<s.toNat):kS k s=k+1:=by rw[kS,Aam h,Aao ⟨h2,h3⟩]
theorem Adr(h:¬(0<k/\s.toNat<2^(k+4)))(h2:¬(k<24/\2^(k+5)<s.toNat)):kS k s=k:=by rw[kS,Aam h,Aam h2]
theorem Apn{α:Type}(k:Nat)(hk:k<=24)(s:UInt64)(f:Int->Option α):
  (if(Du (k:Int) (0:Int))=true then(
   Option.bind (Jd (Ks (k:Int) (0:Int))) λ_=>
   if(Ck s (Eh (16:UInt64) (GI.toZ (k:Int)).toNat))=true then f (Al (k:Int) (1:Int))
   else(if(Ck (k:Int) (24:Int))=true then(
    Option.bind (Jd (Ks (k:Int) (0:Int))) λ_=>
    if(Du s (Eh (32:UInt64) (GI.toZ (k:Int)).toNat))=true then f (Ae (k:Int) (1:Int))else f (k:Int))
    else f (k:Int)))
  else(if(Ck (k:Int) (24:Int))=true then(
    Option.bind (Jd (Ks (k:Int) (0:Int))) λ_=>
    if(Du s (Eh (32:UInt64) (GI.toZ (k:Int)).toNat))=true then f (Ae (k:Int) (1:Int))else f (k:Int))
    else f (k:Int)))=f ((kS k s:Nat):Int):=by
 have z:(GI.toZ (k:Int)).toNat=k:=rfl;rw[z,Dv Axg];simp only[Aa];rw[wO,TQ,Ash hk,Arj hk];by_cases h0:0<k
 ·rw[Aao Aw9];by_cases h1:s.toNat<2^(k+4)
  ·rw[Aao (by simp[h1]),Ao8 h0 h1,Cr];congr 1;omega
  ·rw[Aam Aw3];by_cases h2:k<24
   ·rw[Aao Aw4];by_cases h3:2^(k+5)<s.toNat
    ·rw[Aao (by simp[h3]),Apm (λh=>h1 h.2) h2 h3,Ak];rfl
    ·rw[Aam Aw3,Adr (λh=>h1 h.2) (λh=>h3 h.2)]
   ·rw[Aam Aw4,Adr (λh=>h1 h.2) (λh=>h2 h.1)]
 ·rw[Aam Aw9];by_cases h2:k<24
  ·rw[Aao Aw4];by_cases h3:2^(k+5)<s.toNat
   ·rw[Aao (by simp[h3]),Apm (λh=>h0 h.1) h2 h3,Ak];rfl
   ·rw[Aam Aw3,Adr (λh=>h0 h.1) (λh=>h3 h.2)]
  ·rw[Aam Aw4,Adr (λh=>h0 h.1) (λh=>h2 h.1)]
theorem Aeq(k:Nat)(hk:k<=24)(s n:UInt64):Uy (k:Int) s n=some (((kS k (FZ s n):Nat):Int),FZ s n):=by
 have g1:Ae (k:Int) 4=((k+4:Nat):Int):=by rw[Ak];omega
 have g2:Ae (k:Int) 5=((k+5:Nat):Int):=by rw[Ak];omega
 have hp:Vs (k:Int) s n=some (if k<24/\2^(k+5)<(FZ s n).toNat then((k+1:Nat):Int)else(k:Int),FZ s n):=by
  rw[Vs,LN,g2,KO _ F0,Aa,Adu,TQ,TE F0];by_cases h2:k<24
  ·rw[Aao Aw4];by_cases h3:2^(k+5)<(FZ s n).toNat
   ·rw[Aao (by simp[h3]),Aao ⟨h2,h3⟩,Ak];rfl
   ·rw[Aam Aw3,Aam (λh=>h3 h.2)]
  ·rw[Aam Aw4,Aam (λh=>h2 h.1)]
 rw[Uy,KD,g1,KO _ F0,Aa,Adu,wO,TE F0,hp];by_cases h0:0<k
 ·rw[Aao Aw9];by_cases h1:(FZ s n).toNat<2^(k+4)
  ·rw[Aao (by simp[h1]),Ao8 h0 h1,Cr];congr 2;omega
  ·rw[Aam Aw3,Adi (λh=>h1 h.2)]
 ·rw[Aam Aw9,Adi (λh=>h0 h.1)]
def Z4(v:UInt32):UInt64:=UInt64.ofNat v.toNat
theorem Aiw(v:UInt32):(Z4 v).toNat<=4294967295:=by have:=v.toNat_lt;rw[Z4,Ahl,Ab6 F0];omega
def uR(k:Nat)(v:UInt32):UInt32:=UInt32.ofNat (v.toNat-2^k)
def lK(l:Nat)(t:UInt64)(k:Nat)(v:UInt32):Nat:=if v.toNat<2^k then l else kS l (FZ t (Z4 (uR k v)))
def lT(t:UInt64)(k:Nat)(v:UInt32):UInt64:=if v.toNat<2^k then t else FZ t (Z4 (uR k v))
theorem Ahz(h:okD k l s t)(v:UInt32):okD (kS k (FZ s (Z4 v))) (lK l t k v) (FZ s (Z4 v)) (lT t k v):=by
 obtain⟨h1,h2,h3,h4⟩:=h;refine⟨Apg h1 _,?_,Adk h3 (Aiw v),?_⟩
 ·unfold lK;split; · exact h2
  exact Apg h2 _
 ·unfold lT;split; · exact h4
  exact Adk h4 (Aiw _)
theorem Aqp(k l:Nat)(s t:UInt64)(hk:k<=24)(v:UInt32):IB (k:Int) (l:Int) s t v=some (decide (v.toNat<2^k)):=by
 have:=v.toNat_lt;rw[IB,KO k F0,Aa,wO,TE F0,Jg,Ahl,Ab6 F0]
theorem left_eq(k l:Nat)(s t:UInt64)(hk:k<=24)(v:UInt32)(h:¬v.toNat<2^k):EK (k:Int) (l:Int) s t v=some (uR k v):=by
 have:=v.toNat_lt;have e2:∀x:UInt64,(Ad x:UInt32)=UInt32.ofNat x.toNat:=λx=>by simp only[Ad,Jn,Ez]
 have e3:(UInt64.ofNat v.toNat).toNat=v.toNat:=by rw[Ahl,Ab6 F0]
 rw[EK,KO k F0,Aa,e2,E1,Jg,UInt64.toNat_sub_of_le _ _ (by rw[UInt64.le_iff_toNat_le,TE F0,e3];omega),TE F0,e3,uR]
theorem Agz(h:okD k l s t)(v:UInt32):Xz (k:Int) (l:Int) s t v=some (((kS k (FZ s (Z4 v)):Nat):Int),((lK l t k v:Nat):Int),FZ s (Z4 v),lT t k v):=by
 obtain⟨h1,h2,h3,h4⟩:=h;have hp:∀(r1:Int) (r2:UInt64),Rz v (k:Int) (l:Int) s t r1 r2=some (((kS k (FZ s (Z4 v)):Nat):Int),r1,FZ s (Z4 v),r2):=by
  intro r1 r2;rw[Rz,FB,Jg,Aeq k h1,Aa];rfl
 rw[Xz,DI,Aqp k l s t h1,Aa];by_cases hv:v.toNat<2^k
 ·rw[Aam (by simp[hv]),hp,lK,Aao hv,lT,Aao hv]
 ·rw[Aao Aw3,left_eq k l s t h1 v hv,Aa,Jg,Aeq l h2,Aa];simp only;rw[hp,lK,Aam hv,lT,Aam hv];rfl
theorem Ai1(k l:Nat)(s t:UInt64)(hk:k<=24)(v:UInt32):IP (k:Int) (l:Int) s t v=some (if v.toNat<2^k then(0,v)else(1,uR k v)):=by
 have hp:2^k<=2^24:=Aec F0 hk;have hpos:0<2^k:=Avr F0;have hl:=v.toNat_lt;have z:(GI.toZ (k:Int)).toNat=k:=rfl;have e1:geq (Ct v k) (0:UInt32)=decide (v.toNat<2^k):=by
  rw[T4,Ak7];simp only[Ar7,<-UInt32.toNat_inj,WJ,Acb]
  show _/_=0↔_;rw[Nat.div_eq_zero_iff];omega
 have e2:¬v.toNat<2^k->Al v (Eh (1:UInt32) k)=uR k v:=by
  intro h;have e3:(Eh (1:UInt32) k).toNat=2^k:=by rw[wX];show 1*2^k %_=_;rw[Ab6 F0,Nat.one_mul]
  apply UInt32.toNat_inj.1;rw[ku,UInt32.toNat_sub_of_le _ _ (by rw[UInt32.le_iff_toNat_le,e3];omega),e3,uR,ZK F0]
 rw[IP,Dv Axg,Aa,Aa,z,e1];by_cases h:v.toNat<2^k
 ·rw[Aao (by simp[h]),Aao h]
 ·rw[Aam Aw3,Aam h,e2 h]
abbrev Rd:=UInt32×Int×Int×Int×UInt64×UInt64×Int
theorem xP(h:okD k l s t)(v:UInt32)(r:Int):ZL (k:Int) (l:Int) s t v r=some (v,r,((kS k (FZ s (Z4 v)):Nat):Int),((lK l t k v:Nat):Int),FZ s (Z4 v),lT t k v,0):=by
 obtain⟨h1,h2,h3,h4⟩:=h;have hp:∀(x:Int) (y:UInt64),FU v r (k:Int) s x y=some (v,r,((kS k (FZ s (Z4 v)):Nat):Int),x,FZ s (Z4 v),y,0):=by
  intro x y;rw[FU,qN,Jg,wZ,Apn k h1];rw[nJ,pW,kO,kE,Jg,wZ];rfl
 rw[ZL,ZH,Ai1 k l s t h1,Aa];by_cases hv:v.toNat<2^k
 ·rw[Aao hv];simp only;rw[Aam Axv,hp,lK,Aao hv,lT,Aao hv]
 ·rw[Aam hv];simp only;rw[Aao Axp,Jg,wZ,Apn l h2 _ (λx=>FU v r (k:Int) s x (FZ t (UInt64.ofNat (uR k v).toNat))),hp,lK,Aam hv,lT,Aam hv];rfl
def ZJ(p:LB)(N a k l:Nat):UInt32×Int×Int:=
 if N<=a then(0,0,24)else
 if Kr p a=0 then(if N<a+1+k then(0,0,24)else(UInt32.ofNat (Cy p (a+1) k),((a+1+k:Nat):Int),0))else
 if(SU p N (a+1) l).2.2≠0 then(0,0,(SU p N (a+1) l).2.2)else
 if 4294967295<(SU p N (a+1) l).1.toNat+2^k then(0,0,12)else(UInt32.ofNat ((SU p N (a+1) l).1.toNat+2^k),(SU p N (a+1) l).2.1,0)
theorem Aq1(h:(ZJ p N a k l).2.2=0):(a:Int)<(ZJ p N a k l).2.1/\ (ZJ p N a k l).2.1<=N:=by
 revert h
 unfold ZJ;split
 ·simp
 split
 ·split
  ·simp
  ·simp only;omega
 ·split
  ·intro h;contradiction
  ·rename_i h1;split
   ·simp
   ·intro _;have:=Ap9 (p:=p) (N:=N) (a:=a+1) (k:=l) (v:=(SU p N (a+1) l).1) (n:=(SU p N (a+1) l).2.1) (by
     have e:(SU p N (a+1) l).2.2=0:=by simpa using h1
     rw[<-e])
    simp only;omega
theorem Am9(h:okB p N)(a:Nat)(hd:okD k l s t):IE p (N:Int) (a:Int) (k:Int) (l:Int) s t=
  some (if(ZJ p N a k l).2.2≠0 then(0,0,0,0,0,0,(ZJ p N a k l).2.2)else((ZJ p N a k l).1,(ZJ p N a k l).2.1,((kS k (FZ s (Z4 (ZJ p N a k l).1)):Nat):Int),((lK l t k (ZJ p N a k l).1:Nat):Int),FZ s (Z4 (ZJ p N a k l).1),lT t k (ZJ p N a k l).1,0)):=by
 obtain⟨h1,h2,h3,h4⟩:=hd;have hd:okD k l s t:=⟨h1,h2,h3,h4⟩;have hN:=h.1;have hg:=tN h a 1 F0;have hb:=Zf p a;rw[IE,aY,PH h,Aa,Aam Aw8,Apy hd,Aa,Aam Aw8,qP,ZO];refine Ave (congrArg (λo=>Option.bind o _) hg) ?_;rw[Aa];by_cases ha:N<=a
 ·have hS:ZJ p N a k l=(0,0,24):=by rw[ZJ,Aao ha]
  rw[Aao F0,hS];rfl
 rw[Aam F0];simp only;have e0:geq (Vt p a 1) (0:UInt64)=decide (Kr p a=0):=by
  rw[wI,Ak7];simp only[Ar7,<-Av5,Acb,FW p a 1 F0,qp];rfl
 have e1:Ae (a:Int) 1=((a+1:Nat):Int):=by rw[Ak];omega
 rw[Aam Aw8,e0,e1];by_cases hz:Kr p a=0
 ·rw[Aao (by simp[hz]),tN h (a+1) k F0,Aa];by_cases h5:N<a+1+k
  ·have hS:ZJ p N a k l=(0,0,24):=by rw[ZJ,Aam ha,Aao hz,Aao h5]
   rw[Aao h5,hS];rfl
  ·have hS:ZJ p N a k l=(UInt32.ofNat (Cy p (a+1) k),((a+1+k:Nat):Int),0):=by rw[ZJ,Aam ha,Aao hz,Aam h5]
   rw[Aam h5,hS];simp only;rw[Aam Aw8,xP hd,oQ F0,Ak];rfl
 ·rw[Aam (by simp[hz]),Anc h (a+1) l h2,Aa];have hp:2^k<=2^24:=Aec F0 h1;by_cases h5:(SU p N (a+1) l).2.2≠0
  ·have hS:ZJ p N a k l=(0,0,(SU p N (a+1) l).2.2):=by rw[ZJ,Aam ha,Aam hz,Aao h5]
   rw[hS];generalize SU p N (a+1) l=R at*
   obtain⟨v,n,e⟩:=R;simp only at*
   rw[Aao (by rw[Am];simpa using h5),Aao h5]
  ·have hv:=(SU p N (a+1) l).1.toNat_lt;have z:(GI.toZ (k:Int)).toNat=k:=rfl;have e3:(Eh (1:UInt32) k).toNat=2^k:=by rw[wX];show 1*2^k %_=_;rw[Ab6 F0,Nat.one_mul]
   by_cases h6:4294967295<(SU p N (a+1) l).1.toNat+2^k
   ·have hS:ZJ p N a k l=(0,0,12):=by rw[ZJ,Aam ha,Aam hz,Aam h5,Aao h6]
    rw[hS];generalize SU p N (a+1) l=R at*
    obtain⟨v,n,e⟩:=R;simp only at*
    rw[Aam (by rw[Am];simpa using h5),Dv Axg,Aa,z,Aao (by rw[Adl,wV,UInt32.toNat_add,e3];simp;omega),Aao Aw2]
   ·have hS:ZJ p N a k l=(UInt32.ofNat ((SU p N (a+1) l).1.toNat+2^k),(SU p N (a+1) l).2.1,0):=by rw[ZJ,Aam ha,Aam hz,Aam h5,Aam h6]
    rw[hS];generalize SU p N (a+1) l=R at*
    obtain⟨v,n,e⟩:=R;simp only at*
    have e4:Ae v (Eh (1:UInt32) k)=UInt32.ofNat (v.toNat+2^k):=by
     apply UInt32.toNat_inj.1;rw[wV,UInt32.toNat_add,e3,ZK F0,Ab6 F0]
    rw[Aam (by rw[Am];simpa using h5),Dv Axg,Aa,z,Aam (by rw[Adl,wV,UInt32.toNat_add,e3];simp;omega),e4,xP hd];rfl
theorem Akq(h:okB p N)(a:Nat)(k l:Nat)(s t:UInt64)(h1:k<=24)(h2:l<=24):IF p (N:Int) (a:Int) (k:Int) (l:Int) s t=some (ZJ p N a k l):=by
 have hN:=h.1;have hl:=h.2.1;have hb:=Zf p a;rw[IF];by_cases ha:N<=a
 ·rw[Aao Axa,ZJ,Aao ha]
 rw[Aam Axa,rI p _ a F0 F0,Aa,Cr (a:=(N:Int)) (b:=(a:Int)) F0 F0,Cr];have e1:Ae (a:Int) 1=((a+1:Nat):Int):=by rw[Ak];omega
 rw[e1];by_cases hz:Kr p a=0
 ·rw[Aao (by rw[Ba];simp[hz])];by_cases h5:N<a+1+k
  ·rw[Aao Aw4,ZJ,Aam ha,Aao hz,Aao h5]
  ·rw[Aam Aw4,lL p _ (a+1) k F0 F0,Aa,ZJ,Aam ha,Aao hz,Aam h5,oQ F0,Ak];rfl
 ·rw[Aam Axc,Aik h (a+1) l h2,Aa];have hp:2^k<=2^24:=Aec F0 h1;have hv:=(SU p N (a+1) l).1.toNat_lt;have e2:∀x:UInt64,(Ad x:UInt32)=UInt32.ofNat x.toNat:=λx=>by simp only[Ad,Jn,Ez]
  by_cases h5:(SU p N (a+1) l).2.2≠0
  ·have hS:ZJ p N a k l=(0,0,(SU p N (a+1) l).2.2):=by rw[ZJ,Aam ha,Aam hz,Aao h5]
   rw[hS];generalize SU p N (a+1) l=R at*
   obtain⟨v,n,e⟩:=R;simp only at*
   rw[Aao (by rw[Am];simpa using h5)]
  ·have hsum:∀v:UInt32,(Ae (Ad v:UInt64) (UInt64.ofNat (2^k))).toNat=v.toNat+2^k:=by
    intro v;have:=v.toNat_lt;have:=Avr (n:=k) (show 0<2 by omega);rw[KS,UInt64.toNat_add,Jg,TE F0,Ahl];omega
   by_cases h6:4294967295<(SU p N (a+1) l).1.toNat+2^k
   ·have hS:ZJ p N a k l=(0,0,12):=by rw[ZJ,Aam ha,Aam hz,Aam h5,Aao h6]
    rw[hS];generalize SU p N (a+1) l=R at*
    obtain⟨v,n,e⟩:=R;simp only at*
    rw[Aam (by rw[Am];simpa using h5),KO k F0,Aa,Aao (by rw[TQ,hsum];simpa using h6)]
   ·have hS:ZJ p N a k l=(UInt32.ofNat ((SU p N (a+1) l).1.toNat+2^k),(SU p N (a+1) l).2.1,0):=by rw[ZJ,Aam ha,Aam hz,Aam h5,Aam h6]
    rw[hS];generalize SU p N (a+1) l=R at*
    obtain⟨v,n,e⟩:=R;simp only at*
    rw[Aam (by rw[Am];simpa using h5),KO k F0,Aa,Aam (by rw[TQ,hsum];simpa using h6),e2,hsum]
theorem Axb{p:Prop}(h:p:=by rw[Am];simp;omega):p:=h
theorem Axl{p:Prop}(h:p:=by rw[<-Atb];omega):p:=h
end Go.Pl
namespace Go.Pl
open Go Go.Lv
variable{out v:LU}
abbrev DuN:=Nat×Nat×UInt64×UInt64
def okN(d:DuN):Prop:=okD d.1 d.2.1 d.2.2.1 d.2.2.2
def nxt(d:DuN)(v:UInt32):DuN:=(kS d.1 (FZ d.2.2.1 (Z4 v)),lK d.2.1 d.2.2.2 d.1 v,FZ d.2.2.1 (Z4 v),lT d.2.2.2 d.1 v)
def X7:DuN:=(10,10,16384,16384)
theorem Ai6:okN X7:=⟨Aw2,Aw2,Aw2,Aw2⟩
theorem Aq5{d:DuN}(h:okN d)(v:UInt32):okN (nxt d v):=Ahz h v
abbrev DuL:=Int×Int×UInt64×UInt64×Unit
def toI(d:DuN):DuL:=((d.1:Int),(d.2.1:Int),d.2.2.1,d.2.2.2,())
def fP(ch:Nat)(v:LU)(c:Nat):Nat->DuN
 |0=>X7
 |m+1=>if m %ch=c then nxt (fP ch v c m) (v.getD m 0)else fP ch v c m
theorem sD(ch:Nat)(v:LU)(c:Nat):∀m,okN (fP ch v c m)
 |0=>Ai6
 |m+1=>by rw[fP];split;exact Aq5 (sD ch v c m) _;exact sD ch v c m
theorem Aes(ch:Nat)(v w:LU)(c:Nat):∀m,m<=v.length->fP ch (v++w) c m=fP ch v c m
 |0,_=>rfl
 |m+1,h=>by
  have e:(v++w).getD m 0=v.getD m 0:=by simp[List.getD_eq_getElem?_getD,List.getElem?_append_left (show m<v.length by omega)]
  rw[fP,fP,Aes ch v w c m F0,e]
theorem S9(ch:Nat)(v:LU)(c:Nat):∀m,m<=c->c<ch->fP ch v c m=X7
 |0,_,_=>rfl
 |m+1,h,h2=>by rw[fP,Aam (by rw[Ab6 F0];omega),S9 ch v c m F0 h2]
theorem xw(ch:Nat)(v:LU)(c i:Nat)(hi:i %ch=c)(hc:c<ch):∀j,j<ch->fP ch v c (i+1+j)=fP ch v c (i+1)
 |0,_=>rfl
 |j+1,h=>by
  have hne:(i+1+j) %ch≠c:=by
   intro e;have h1:(i+(1+j)) %ch=i %ch:=by rw[hi,<-e];congr 1;omega
   have h2:(1+j) %ch=0:=by
    have h3:=Nat.sub_mod_eq_zero_of_mod_eq h1;rwa [Awj]at h3
   rw[Ab6 F0]at h2;omega
  rw[show i+1+(j+1)=(i+1+j)+1 by omega,fP,Aam hne,xw ch v c i hi hc j F0]
theorem Ajm(ch:Nat)(v:LU)(c i:Nat)(hi:i %ch=c)(hc:c<ch):fP ch v c (i+ch)=nxt (fP ch v c i) (v.getD i 0):=by
 have h:=xw ch v c i hi hc (ch-1) F0;rw[show i+1+(ch-1)=i+ch by omega]at h;rw[h,fP,Aao hi]
theorem E3{l:LU}{k:Nat}(h:k<l.length):Ah l (k:Int)=some (l.getD k 0):=by
 rw[Cm h];simp[List.getD_eq_getElem?_getD,h]
theorem xO(a b:Nat):Ho (a:Int) (b:Int)=((a %b:Nat):Int):=by rw[Ho,Avw F0];omega
theorem vG(ch:Nat)(v:LU)(hch:1<=ch)(Ar1:ch<=6)(hv:v.length<=4000):∀(j i q:Nat),i %ch=v.length %ch->i<=v.length->v.length-i<=j->j<q->
  Mp (ch:Int) v q (i:Int) ((fP ch v (v.length %ch) i).1:Int) ((fP ch v (v.length %ch) i).2.1:Int) (fP ch v (v.length %ch) i).2.2.1 (fP ch v (v.length %ch) i).2.2.2=
   some (((fP ch v (v.length %ch) v.length).1:Int),((fP ch v (v.length %ch) v.length).2.1:Int),(fP ch v (v.length %ch) v.length).2.2.1,(fP ch v (v.length %ch) v.length).2.2.2)
 |j,i,q+1,hi,hl,hj,hq=>by
  have hc:v.length %ch<ch:=Avp _ F0;rw[Mp,EZ];by_cases h:i<v.length
  ·have h1:=Agz (sD ch v (v.length %ch) i) (v.getD i 0);rw[Aao F2,E3 h,Aa,h1,Aa];have hle:i+ch<=v.length:=by
    have h2:=Nat.div_add_mod i ch;have h3:=Nat.div_add_mod v.length ch;rw[hi]at h2;have h4:ch*(i/ch)<ch*(v.length/ch):=F0
    have h5:=Nat.lt_of_mul_lt_mul_left h4;have h6:ch*(i/ch+1)<=ch*(v.length/ch):=Nat.mul_le_mul_left _ h5;rw[Nat.mul_add]at h6;omega
   have ih:=vG ch v hch Ar1 hv (j-ch) (i+ch) q (by rw[Awt];exact hi) hle F0 F0;rw[Ajm ch v _ i hi hc]at ih;simp only;rw[Ak];exact ih
  ·rw[Aam F2,show i=v.length by omega];rfl
theorem Af7(ch:Nat)(v:LU)(hch:1<=ch)(Ar1:ch<=6)(hv:v.length<=4000):Qh (ch:Int) v=some (((fP ch v (v.length %ch) v.length).1:Int),((fP ch v (v.length %ch) v.length).2.1:Int),(fP ch v (v.length %ch) v.length).2.2.1,(fP ch v (v.length %ch) v.length).2.2.2):=by
 have hc:v.length %ch<ch:=Avp _ F0;have hle:v.length %ch<=v.length:=Nat.mod_le _ _;have h:=vG ch v hch Ar1 hv v.length (v.length %ch) Aq (by rw[Nat.mod_mod]) hle F0 Aw5;rw[S9 ch v _ _ (Aox _) hc]at h;rw[Qh,DW,Nj,Aa];simp only;rw[Dv Axb,Aa,Ac,xO];exact h
def now(ch:Nat)(v:LU):DuN:=fP ch v (v.length %ch) v.length
def xC(N a:Nat):Nat:=min 81 (N-a)
def Mm(ch:Nat)(p:LB)(N a:Nat)(out:LU):UInt32×Int×Int:=ZJ (HT p a (xC N a)) (xC N a) 0 (now ch out).1 (now ch out).2.1
def Xo(ch:Nat)(p:LB)(N:Nat):Nat->Nat->LU->LU×Nat×Int
 |0,a,out=>(out,a,0)
 |j+1,a,out=>if(Mm ch p N a out).2.2≠0 then(out,a,(Mm ch p N a out).2.2)else Xo ch p N j (a+(Mm ch p N a out).2.1.toNat) (out++[(Mm ch p N a out).1])
theorem iN{ch:Nat}{p:LB}{N a:Nat}(h:(Mm ch p N a out).2.2=0):0<(Mm ch p N a out).2.1/\ (Mm ch p N a out).2.1<=xC N a:=by
 have:=Aq1 h;exact⟨this.1,this.2⟩
theorem Q1{ch:Nat}{p:LB}{N a:Nat}(h:(Mm ch p N a out).2.2=0):((a:Int)+(Mm ch p N a out).2.1)=((a+(Mm ch p N a out).2.1.toNat:Nat):Int):=by
 have:=iN h;omega
def sts(ch:Nat)(v:LU):List DuL:=(List.range 6).map λc=>toI (fP ch v c v.length)
theorem Ady{ch:Nat}{c:Nat}(h:c<6):Ah (sts ch v) (c:Int)=some (toI (fP ch v c v.length)):=by
 rw[Cm (by simp[sts];exact h)];simp[sts]
theorem Aon{ch:Nat}{c:Nat}(x:UInt32)(h:c<6)(hc:c=v.length %ch):Mi (sts ch v) (c:Int) (toI (nxt (fP ch v c v.length) x))=some (sts ch (v++[x])):=by
 rw[Yj _ (by simp[sts];exact h)];congr 1;apply Auc (by simp[sts]);intro i h1 h2;rw[Awm];simp only[sts,Awn,Awa];have e:(v++[x]).getD v.length 0=x:=by simp
 rw[Aar,List.length_singleton,fP,e,Aes ch v [x] i v.length (Aox _)];by_cases hi:c=i
 ·subst hi;rw[Aao rfl,Aao hc.symm]
 ·rw[Aam hi,Aam F0]
section
variable {p:LB} {N ch n:Nat}
theorem cu(hp:okB p N)(h1:1<=ch)(h6:ch<=6)(hn:n*ch<=4000):∀(j a q:Nat) (out:LU),out.length+j=n*ch->j<q->a<=N->
  Nc (ch:Int) (n:Int) p (N:Int) q (a:Int) (out.length:Int) (sts ch out) out=
   some (if(Xo ch p N j a out).2.2≠0 then([],0,(Xo ch p N j a out).2.2)else((Xo ch p N j a out).1,((Xo ch p N j a out).2.1:Int),0))
 |j,a,q+1,out,hj,hq,ha=>by
  have hN:=hp.1;have hnn:n<=n*ch:=Nat.le_mul_of_pos_right n F0;have em:Ce (n:Int) (ch:Int)=((n*ch:Nat):Int):=by rw[Jj Axl Axl,Atb]
  rw[Nc,Ta,em];cases j with
  |zero=>
   rw[Aam Aw4];rfl
  |succ j=>
   have hc:out.length %ch<6:=Apd (Avp _ F0) h6;have ew:Ee (Ae (a:Int) 81) (N:Int)=((a+xC N a:Nat):Int):=by rw[MC,Ak];unfold xC;omega
   have hw:a+xC N a<=N:=by unfold xC;omega
   have hw2:xC N a<=81:=by unfold xC;omega
   have hd:=Am9 (Ade p a (xC N a) F0) 0 (sD ch out (out.length %ch) out.length);have Alu:ZJ (HT p a (xC N a)) (xC N a) 0 (fP ch out (out.length %ch) out.length).1 (fP ch out (out.length %ch) out.length).2.1=Mm ch p N a out:=rfl;rw[Aao Aw4,ew,Aqg hp a _ hw F0,Aa];simp only;rw[Aam Aw8,Dv Axb,Aa,xO,Ady hc,Aa,Aa];refine Ave (congrArg (λo=>Option.bind o _) hd) ?_;rw[Aa,Alu,Xo];by_cases he:(Mm ch p N a out).2.2≠0
   ·rw[Aao he,Aao he];simp only;rw[Sf,AH,Aao (by rw[Am];simpa using he),Aao he]
   ·have he0:(Mm ch p N a out).2.2=0:=by simpa using he
    have hok:=iN he0;have hset:=Aon (ch:=ch) (v:=out) (Mm ch p N a out).1 hc rfl;rw[Aam he,Aam he];simp only;rw[Sf,AH,Aam Aw8,Dv Axb,Aa,xO,Ady hc,Aa];refine Ave (congrArg (λo=>Option.bind o _) hset) ?_;rw[Aa,PZ,RP,Cu Aw3,Aa,Ak,Ak,Q1 he0];have ih:=cu hp h1 h6 hn j (a+(Mm ch p N a out).2.1.toNat) q (out++[(Mm ch p N a out).1]) Aw3 F0 F0;rw[Aar,List.length_singleton]at ih;exact ih
theorem Ae6{p:LB}(hN:N=8*p.length)(hN2:N<=330000)(h1:1<=ch)(h6:ch<=6)(hn:n*ch<=4000):∀(j a q:Nat) (out:LU),out.length+j=n*ch->j<q->a<=N->
  Fi (ch:Int) (n:Int) p q (a:Int) (out.length:Int) out=
   if(Xo ch p N j a out).2.2≠0 then some ((Xo ch p N j a out).1,(Xo ch p N j a out).2.2)else Uo ((Xo ch p N j a out).2.1:Int) p (Xo ch p N j a out).1
 |j,a,q+1,out,hj,hq,ha=>by
  have hnn:n<=n*ch:=Nat.le_mul_of_pos_right n F0;have em:Ce (n:Int) (ch:Int)=((n*ch:Nat):Int):=by rw[Jj Axl Axl,Atb]
  have e8:Ce (8:Int) (Ac p)=(N:Int):=by rw[Ac,Jj];omega
  rw[Fi,HL,em];cases j with
  |zero=>
   rw[Aam Aw4];rfl
  |succ j=>
   have ew:Ee (Ae (a:Int) 81) (N:Int)=((a+xC N a:Nat):Int):=by rw[MC,Ak];unfold xC;omega
   have hw:a+xC N a<=N:=by unfold xC;omega
   have hw2:xC N a<=81:=by unfold xC;omega
   have hpre:(Option.bind Nj λ(r_4,r_5,r_6,r_7)=>
     if(Ks (out.length:Int) (ch:Int))=true then(
     Option.bind (Qh (ch:Int) out) λ(r_8,r_9,r_10,r_11)=>
     Jt (Fi (ch:Int) (n:Int) p q) (ch:Int) (n:Int) p (a:Int) (out.length:Int) out r_8 r_9 r_10 r_11)
     else Jt (Fi (ch:Int) (n:Int) p q) (ch:Int) (n:Int) p (a:Int) (out.length:Int) out r_4 r_5 r_6 r_7)=
     Jt (Fi (ch:Int) (n:Int) p q) (ch:Int) (n:Int) p (a:Int) (out.length:Int) out ((now ch out).1:Int) ((now ch out).2.1:Int) (now ch out).2.2.1 (now ch out).2.2.2:=by
    rw[Nj,Aa];by_cases hc:ch<=out.length
    ·simp only;rw[Aao Axa,Af7 ch out h1 h6 F0,Aa];rfl
    ·have e:now ch out=X7:=by rw[now,Ab6 F0,S9 ch out _ _ (Aox _) F0]
     simp only;rw[Aam Axa,e];rfl
   have hd:=Akq (Ade p a (xC N a) F0) 0 (now ch out).1 (now ch out).2.1 (now ch out).2.2.1 (now ch out).2.2.2 (sD ch out _ _).1 (sD ch out _ _).2.1;have Alu:ZJ (HT p a (xC N a)) (xC N a) 0 (now ch out).1 (now ch out).2.1=Mm ch p N a out:=rfl;rw[Aao Aw4,hpre,Jt,HE,e8,ew,iy p (N:Int) a _ F0 F0 F0,Aa];simp only;refine Ave (congrArg (λo=>Option.bind o _) hd) ?_;rw[Aa,Alu,Xo];by_cases he:(Mm ch p N a out).2.2≠0
   ·rw[Aao he,Aao (by rw[Am];simpa using he),Aao he]
   ·have he0:(Mm ch p N a out).2.2=0:=by simpa using he
    have hok:=iN he0;have ih:=Ae6 hN hN2 h1 h6 hn j (a+(Mm ch p N a out).2.1.toNat) q (out++[(Mm ch p N a out).1]) Aw3 F0 F0;have hx:=Q1 he0;rw[Aar,List.length_singleton]at ih;rw[Aam he];generalize Mm ch p N a out=R at*
    obtain⟨v,nx,e⟩:=R;simp only at*
    rw[Aam (by rw[Am];simpa using he),Cu Aw3,Aa,Ak,Ak,hx];exact ih
end
theorem wF{ch:Nat}{p:LB}{N:Nat}:∀(j a:Nat) (out:LU),a<=N-> (Xo ch p N j a out).2.1<=N/\ (Xo ch p N j a out).1.length<=out.length+j/\ ((Xo ch p N j a out).2.2=0-> (Xo ch p N j a out).1.length=out.length+j)
 |0,a,out,h=>⟨h,Aox _,λ_=>rfl⟩
 |j+1,a,out,h=>by
  rw[Xo];split
  ·rename_i he;exact⟨h,Aw7,λe=>absurd e he⟩
  ·rename_i he;have hok:=iN (ch:=ch) (p:=p) (N:=N) (a:=a) (out:=out) (by simpa using he);have hw:a+xC N a<=N:=by unfold xC;omega
   have ih:=wF (ch:=ch) (p:=p) (N:=N) j (a+(Mm ch p N a out).2.1.toNat) (out++[(Mm ch p N a out).1]) F0;rw[Aar,List.length_singleton]at ih;exact⟨ih.1,F0,λe=>by have:=ih.2.2 e;omega⟩
theorem jl(ch n:Int)(b:LB)(N:Int):BC ch n b N 0 (List.replicate 6 ((0:Int),(0:Int),(0:UInt64),(0:UInt64),()))=PN ch n b N (List.replicate 6 ((10:Int),(10:Int),(16384:UInt64),(16384:UInt64),())):=by
 have e:Aq=(Aq-7)+1+1+1+1+1+1+1:=by have:=Ar;omega
 rw[BC,e];rfl
theorem values_eq{p:LB}{N ch n:Nat}(hp:okB p N)(h1:1<=ch)(h6:ch<=6)(hn:n*ch<=4000):EG (ch:Int) (n:Int) p (N:Int)=
  some (if(Xo ch p N (n*ch) 0 []).2.2≠0 then([],0,(Xo ch p N (n*ch) 0 []).2.2)else((Xo ch p N (n*ch) 0 []).1,((Xo ch p N (n*ch) 0 []).2.1:Int),0)):=by
 have h:=cu hp h1 h6 hn (n*ch) 0 Aq [] Aw7 Aw5 F0;rw[EG,EF,jl];exact h
theorem O5(p:LB)(x:LU)(N:Nat)(hN:N=8*p.length)(hN2:N<=330000):∀(j a q:Nat),a+j=N->j<q->Jv p x q (a:Int)=some (x,if Cy p a j=0 then 0 else 12)
 |0,a,q+1,ha,_=>by
  have e8:Ce (8:Int) (Ac p)=(N:Int):=by rw[Ac,Jj];omega
  rw[Jv,Ub,e8,Aam Aw4,Cy,Aao rfl];rfl
 |j+1,a,q+1,ha,hq=>by
  have e8:Ce (8:Int) (Ac p)=(N:Int):=by rw[Ac,Jj];omega
  have hb:=Zf p a;rw[Jv,Ub,e8,Aao Aw4,rI p _ a F0 F0,Aa,Cy];by_cases h:Kr p a=0
  ·rw[Aam (by rw[Am];simp[h]),Ak,h];have ih:=O5 p x N hN hN2 j (a+1) q F0 F0;rw[show((a:Int)+1)=((a+1:Nat):Int) by omega,ih];congr 2;by_cases hv:Cy p (a+1) j=0
   ·rw[Aao hv,Aao F0]
   ·rw[Aam hv,Aam F0]
  ·rw[Aao Axb,Aam F0]
theorem Ad0{p:LB}{N ch n:Nat}(hN:N=8*p.length)(hN2:N<=330000)(h1:1<=ch)(h6:ch<=6)(hn:n*ch<=4000):DF (ch:Int) (n:Int) p=
  some (if(Xo ch p N (n*ch) 0 []).2.2≠0 then((Xo ch p N (n*ch) 0 []).1,(Xo ch p N (n*ch) 0 []).2.2)else
   ((Xo ch p N (n*ch) 0 []).1,if 7<N-(Xo ch p N (n*ch) 0 []).2.1\/Cy p (Xo ch p N (n*ch) 0 []).2.1 (N-(Xo ch p N (n*ch) 0 []).2.1)≠0 then 12 else 0)):=by
 have h:=Ae6 hN hN2 h1 h6 hn (n*ch) 0 Aq [] Aw7 Aw5 F0;have hat:=(wF (ch:=ch) (p:=p) (N:=N) (n*ch) 0 [] F0).1;have e8:Ce (8:Int) (Ac p)=(N:Int):=by rw[Ac,Jj];omega
 rw[DF,KV];refine Ave h ?_;generalize Xo ch p N (n*ch) 0 []=V at*
 obtain⟨v,a,e⟩:=V;simp only at*
 by_cases he:e≠0
 ·rw[Aao he,Aao he]
 ·rw[Aam he,Aam he,Uo,GP,e8,Cr];by_cases h7:7<N-a
  ·rw[Aao Aw9,Aao (.inl h7)]
  ·rw[Aam Aw9,GV,O5 p v N hN hN2 (N-a) a Aq F0 Aw5];by_cases hv:Cy p a (N-a)=0
   ·rw[Aao hv,Aam F0]
   ·rw[Aam hv,Aao (.inr hv)]
theorem Y6(n:Int):(GI.ofZ n:Int32)=Int32.ofInt n:=rfl
theorem UC(a:Int32):GI.toZ a=a.toInt:=rfl
theorem WK(a b:Int32):Ae a b=a+b:=by
 rw[Ae,UC,UC,Y6,Int32.ofInt_add,Asp,Asp]
theorem yS(a b:Int32):Al a b=a-b:=by
 rw[Al,UC,UC,Y6,Int32.ofInt_sub,Asp,Asp]
theorem Ado(a b:Int32):geq a b=(a==b):=by
 rw[geq,UC,UC,Ak7];simp[Int32.toInt_inj]
def fG(p:Nat->Bool)(a b:LX):LX:=(List.range a.length).map λk=>if p k=true then a.getD k 0 else b.getD k 0
section
variable {p q:Nat->Bool} {a b:LX}
theorem aL:(fG p a b).length=a.length:=by simp[fG]
theorem Oa{k:Nat}(h:k<a.length):a.getD k 0=a[k]:=by simp[List.getD_eq_getElem?_getD,h]
theorem BZ{k:Nat}(h:k<(fG p a b).length):(fG p a b)[k]=if p k=true then a.getD k 0 else b.getD k 0:=by simp[fG]
theorem UJ{k:Nat}(h:k<a.length):Ah (fG p a b) (k:Int)=some (if p k=true then a.getD k 0 else b.getD k 0):=by
 rw[Cm (by rw[aL];exact h),BZ]
theorem BW(h:∀k,k<a.length->p k=q k):fG p a b=fG q a b:=by
 apply Awi;intro k hk;rw[h k (List.mem_range.1 hk)]
theorem qD{k:Nat}(h:k<a.length):Mi (fG p a b) (k:Int) (a.getD k 0)=some (fG (λj=>p j||decide (j=k)) a b):=by
 rw[Yj _ (by rw[aL];exact h)];congr 1;apply Auc (by simp[aL]);intro i h1 h2;rw[Awm,BZ,BZ];by_cases hi:k=i
 ·subst hi;simp
 ·have:¬i=k:=λe=>hi e.symm;simp[hi,this]
theorem pR(h:∀k,k<a.length->p k=true):fG p a b=a:=by
 apply Auc (by simp[aL]);intro i h1 h2;rw[BZ,Aao (h i h2),Oa h2]
theorem nQ(hl:b.length=a.length)(h:∀k,k<a.length->p k=false):fG p a b=b:=by
 apply Auc (by simp[aL,hl]);intro i h1 h2;rw[BZ,h i F0];simp[List.getD_eq_getElem?_getD,h2]
end
theorem Axq{p:Prop}(h:p:=by rw[Ba];decide):p:=h
end Go.Pl
namespace Go.Pl
open Go Go.Lv
variable{s bits:Int}{x w:Int32}{t p a b:LX}{i:Nat}
theorem xG(a b:Int32):Ce a b=a*b:=by
 rw[Ce,UC,UC,Y6,Int32.ofInt_mul,Asp,Asp]
theorem FL(a:Int32): -2147483648<=a.toInt/\a.toInt<2147483648:=⟨a.le_toInt,a.toInt_lt⟩
theorem Fv(a:Int32):(Ad a:Int)=a.toInt:=by
 have:=FL a
 show wrap64 a.toInt=_;rw[Cz]<;>omega
theorem PJ(n:Int):(Ad n:Int32)=Int32.ofInt n:=rfl
theorem Agm(x:Int):Int32.ofInt (x %4294967296)=Int32.ofInt x:=by
 apply Int32.toInt_inj.1;rw[Avz,Avz];exact Int.emod_bmod x 4294967296
theorem wN(x:Int):Dc x=some (Int32.ofInt x):=by
 have e1:(Ad x:UInt64).toNat=(x %18446744073709551616).toNat:=by
  rw[qz,Ahl,Ab6 F0]
 have e2:(Ad (Ad x:UInt64):UInt32).toNat=(x %4294967296).toNat:=by
  have e:(Ad (Ad x:UInt64):UInt32)=UInt32.ofNat (Ad x:UInt64).toNat:=by simp only[Ad,Jn,Ez]
  rw[e,Alx,e1];show(x %18446744073709551616).toNat %4294967296=_;omega
 have e3:(Ad (Ad (Ad x:UInt64):UInt32):Int32)=Int32.ofInt ((Ad (Ad x:UInt64):UInt32).toNat:Int):=rfl;rw[Dc,e3,e2,<-Agm x];congr 2;omega
theorem nY(a b:Int32):Dc (Ae (Ad a:Int) (Ad b:Int))=some (a+b):=by
 have:=FL a;have:=FL b;rw[Fv,Fv,Ak,wN,Int32.ofInt_add,Asp,Asp]
theorem Aka(a b:Int32):Dc (Ce (Ad a:Int) (Ad b:Int))=some (a*b):=by
 have ha:=FL a;have hb:=FL b;have h1: -9223372036854775808<=a.toInt*b.toInt/\a.toInt*b.toInt<=9223372036854775807:=by
  have h2:(a.toInt*b.toInt).natAbs<=2147483648*2147483648:=by
   rw[Int.natAbs_mul];exact At8 F0 F0
  omega
 rw[Fv,Fv,Jj h1.1 h1.2,wN,Int32.ofInt_mul,Asp,Asp]
def OkF(s:Int)(t p:LX):Prop:=(s=9\/s=10)/\t.length=16/\p.length=16
theorem rW(h:OkF s t p):IJ s t p=some 0:=by
 obtain⟨rfl|rfl,_,_⟩:=h<;>rfl
theorem g32{l:LX}{k:Nat}(h:k<l.length):Ah l (k:Int)=some (l.getD k 0):=by
 rw[Cm h];simp[List.getD_eq_getElem?_getD,h]
def fS(t p:LX):Nat->Int32
 |0=>0
 |i+1=>fS t p i+t.getD i 0*p.getD i 0
def half(s:Int):Int32:=if s=9 then 256 else 512
def gF(s:Int)(t p:LX):Int32:=Int32.ofInt ((half s+fS t p 16).toInt.fdiv (if s=9 then 512 else 1024))
theorem N6{s:Int}{t p:LX}(h:OkF s t p):∀(j i q:Nat),i+j=16->j<q->Ts t s p q (half s+fS t p i) (i:Int)=some (gF s t p,0)
 |0,i,q+1,hi,_=>by
  obtain rfl:i=16:=F0
  have hs:=h.1;rw[Ts,JD,Aam Axe,VG,lD,Dv Axa,Aa];obtain rfl|rfl:=hs<;>rfl
 |j+1,i,q+1,hi,hq=>by
  obtain⟨hs,ht,hp⟩:=h;rw[Ts,JD,Aao Aw4,g32 F0,Aa,g32 F0,Aa,Aa,Ak (b:=1) F0 F0,WK,xG,Int32.add_assoc];exact N6 ⟨hs,ht,hp⟩ j (i+1) q F0 F0
theorem Ajx(h:OkF s t p):RE s t p=some (gF s t p,0):=by
 have hs:=h.1;have h1:=N6 h 16 0 Aq F0 Aw5;have e:Eh (1:Int32) (GI.toZ (Al s (1:Int))).toNat=half s+fS t p 0:=by
  obtain rfl|rfl:=hs<;>rfl
 rw[RE,VD,rW h,Aa,Aam Aw8,Dv (by rw[El,Cr];simp;omega),Aa,kT,e];exact h1
theorem E0{s:Int}{t p:LX}(ht:t.length=16)(hp:p.length=16){g:Int32}(hg:fS t p 16=g):∀(j i q:Nat),i+j=16->j<q->Md s t p q (fS t p i).toInt (i:Int)=some g
 |0,i,q+1,hi,_=>by
  obtain rfl:i=16:=F0
  rw[Md,Xy,Aam Axe,NN,OG,PJ,Asp,hg]
 |j+1,i,q+1,hi,hq=>by
  have ih:=E0 (s:=s) ht hp hg j (i+1) q F0 F0;rw[fS]at ih;rw[Md,Xy,Aao Aw4,g32 F0,g32 F0,Aa,Aa,Aa,Aa,Aka,Aa,<-Fv (fS t p i),nY,Aa,Fv,Ak];exact ih
theorem Ai2(h:OkF s t p):WH s t p=some (fS t p 16):=
 E0 h.2.1 h.2.2 rfl 16 0 Aq F0 Aw5
theorem Ag3(x n:Int)(hn:n=512\/n=1024\/n=16\/n=32):(if x.tmod n<0 then x.tdiv n-1 else x.tdiv n)=x.fdiv n:=by
 have hs:n.sign=1:=by obtain rfl|rfl|rfl|rfl:=hn<;>rfl
 rw[Int.tdiv_eq_ediv,Int.tmod_eq_emod,hs,Aq3 _ F0];by_cases h:0<=x\/n∣x
 ·rw[Aao h,Aao h];obtain rfl|rfl|rfl|rfl:=hn<;>(rw[Aam F0];omega)
 ·rw[Aam h,Aam h];obtain rfl|rfl|rfl|rfl:=hn<;>(rw[Aao F0];omega)
theorem E9(x n:Int)(hn:n=512\/n=1024\/n=16\/n=32)(h: -1000000000000<=x)(h':x<=1000000000000): -1000000000000<=x.tdiv n/\x.tdiv n<=1000000000000:=by
 have hs:n.sign=1:=by obtain rfl|rfl|rfl|rfl:=hn<;>rfl
 rw[Int.tdiv_eq_ediv,hs];by_cases h:0<=x\/n∣x
 ·rw[Aao h];obtain rfl|rfl|rfl|rfl:=hn<;>omega
 ·rw[Aam h];obtain rfl|rfl|rfl|rfl:=hn<;>omega
theorem Asz(x n:Int)(hn:n=512\/n=1024\/n=16\/n=32)(h: -1000000000000<=x)(h':x<=1000000000000):Cq x n=x.tdiv n:=by
 have:=E9 x n hn h h';rw[MG,Cz F0 F0]
theorem uq(x n:Int)(hn:n=512\/n=1024\/n=16\/n=32)(h: -1000000000000<=x)(h':x<=1000000000000):
  (if(Ck (Ho x n) (0:Int))=true then some (Ad (Al (Cq x n) (1:Int)):Int32)else some (Ad (Cq x n):Int32))=some (Int32.ofInt (x.fdiv n)):=by
 have hb:=E9 x n hn h h';rw[Af,Ho,Asz x n hn h h',Cr,PJ,PJ,<-Ag3 x n hn];by_cases hx:x.tmod n<0
 ·rw[Aao (by simpa using hx),Aao hx]
 ·rw[Aam (by simpa using hx),Aam hx]
theorem Amn(h:OkF s t p):EB s t p=some (gF s t p):=by
 obtain⟨hs,ht,hp⟩:=h;have h:OkF s t p:=⟨hs,ht,hp⟩;have hx:=FL (fS t p 16+half s);have key:∀n:Int,(n=512\/n=1024)-> (half s).toInt=n/2->gF s t p=Int32.ofInt ((half s+fS t p 16).toInt.fdiv n)->Wu s t p n=some (gF s t p):=by
  intro n hn hh hg;have e2:Cq n (2:Int)=(half s).toInt:=by rw[hh];obtain rfl|rfl:=hn<;>rfl
  rw[Wu,JQ,Ai2 h,Aa,e2,<-Fv (half s),nY,Aa,Dv Axb,Aa,Aa,Fv,uq _ n F0 F0 F0,hg,Int32.add_comm]
 rw[EB,JV];obtain rfl|rfl:=hs
 ·rw[Aao Axp];exact key 512 (.inl rfl) rfl rfl
 ·rw[Aam Axq];exact key 1024 (.inr rfl) rfl rfl
def Z6(i:Nat):Int32:=if i=0 then 4 else if i<4 then 2 else 1
def sg(x:Int32):Int32:=if x.toInt<0 then -1 else if 0<x.toInt then 1 else 0
def K9(t p:LX)(w:Int32):LX:=(List.range 16).map λi=>t.getD i 0+Z6 i*sg (p.getD i 0)*sg w
theorem JH(t p:LX)(w:Int32):(K9 t p w).length=16:=by simp[K9]
theorem V0(t p:LX)(w:Int32)(h:i<16):(K9 t p w).getD i 0=t.getD i 0+Z6 i*sg (p.getD i 0)*sg w:=by
 rw[Oa (by rw[JH];exact h)];simp[K9]
theorem step_eq(i:Nat):WR (i:Int)=some (Z6 i):=by
 rw[WR,Z6];by_cases h:i=0
 ·rw[Aao (by rw[Ba];simp[h]),Aao h]
 ·rw[Aam Axc,Aam h];by_cases h2:i<4
  ·rw[Aao Aw4,Aao h2]
  ·rw[Aam Aw4,Aam h2]
theorem Af3(i:Nat):FT (i:Int)=some (Z6 i):=by
 rw[FT,Z6];by_cases h:i=0
 ·rw[Aao (by rw[Ba];simp[h]),Aao h]
 ·rw[Aam Axc,Aam h];by_cases h2:i<4
  ·rw[Aao (by rw[RN];simp;omega),Aao h2]
  ·rw[Aam (by rw[RN];simp;omega),Aam h2]
theorem V1(a b:Int32):Ck a b=decide (a.toInt<b.toInt):=rfl
theorem Abg(a b:Int32):Du a b=decide (b.toInt<a.toInt):=rfl
theorem sign_eq(x:Int32):Ur x=some (sg x):=by
 rw[Ur,sg,V1,Abg,show(0:Int32).toInt=0 from rfl];by_cases h:x.toInt<0
 ·rw[Aao (by simpa using h),Aao h]
 ·rw[Aam (by simpa using h),Aam h];by_cases h2:0<x.toInt
  ·rw[Aao (by simpa using h2),Aao h2]
  ·rw[Aam (by simpa using h2),Aam h2]
theorem Ad5:sg 0=0:=rfl
theorem toInt_ne(h:x≠0):x.toInt≠0:=λe=>h (Int32.toInt_inj.1 (by rw[e];rfl))
theorem S5(h:x.toInt<0):sg x= -1:=by rw[sg,Aao h]
theorem S6(h:x≠0)(h2:¬x.toInt<0):sg x=1:=by
 have:=toInt_ne h;rw[sg,Aam h2,Aao F0]
theorem iR(i:Nat):Z6 i=4\/Z6 i=2\/Z6 i=1:=by
 unfold Z6;by_cases h:i=0
 ·rw[Aao h];exact .inl rfl
 ·rw[Aam h];split;exact .inr (.inl rfl);exact .inr (.inr rfl)
theorem Agd(hx:x≠0)(hw:w≠0)(h:(x.toInt<0)=(w.toInt<0))(i:Nat):Z6 i*sg x*sg w=Z6 i:=by
 by_cases h1:x.toInt<0
 ·rw[S5 h1,S5 (by rw[<-h];exact h1)];obtain e|e|e:=iR i<;>rw[e]<;>decide
 ·rw[S6 hx h1,S6 hw (by rw[<-h];exact h1)];obtain e|e|e:=iR i<;>rw[e]<;>decide
theorem Aa0(hx:x≠0)(hw:w≠0)(h:¬(x.toInt<0)=(w.toInt<0))(i:Nat)(a:Int32):a+Z6 i*sg x*sg w=a-Z6 i:=by
 have key:Z6 i*sg x*sg w=-Z6 i:=by
  by_cases h1:x.toInt<0
  ·have h2:¬w.toInt<0:=λh2=>h (propext ⟨λ_=>h2,λ_=>h1⟩);rw[S5 h1,S6 hw h2];obtain e|e|e:=iR i<;>rw[e]<;>decide
  ·have h2:w.toInt<0:=Decidable.by_contra λh2=>h (propext ⟨λh3=>absurd h3 h1,λh3=>absurd h3 h2⟩);rw[S6 hx h1,S5 h2];obtain e|e|e:=iR i<;>rw[e]<;>decide
 rw[key,Int32.sub_eq_add_neg]
def pX(i:Nat):Nat->Bool:=λj=>decide (j<i)
theorem G5(h:i<a.length):Mi (fG (pX i) a b) (i:Int) (a.getD i 0)=some (fG (pX (i+1)) a b):=by
 rw[qD h];congr 1;apply BW;intro k _;rw[Ak7];simp only[pX,Ars,Acb];omega
theorem Agv(e:a.getD i 0=b.getD i 0):fG (pX i) a b=fG (pX (i+1)) a b:=by
 apply Awi;intro k _;simp only[pX,Acb];by_cases h1:k<i
 ·rw[Aao h1,Aao F0]
 ·by_cases h2:k=i
  ·subst h2;rw[Aam h1,Aao F0,e]
  ·rw[Aam h1,Aam F0]
theorem yx(h:i<a.length):Ah (fG (pX i) a b) (i:Int)=some (b.getD i 0):=by
 rw[UJ h,Aam (by simp[pX])]
theorem Q9{s:Int}{t p:LX}{w:Int32}(hw:w≠0)(ht:t.length=16)(hp:p.length=16):∀(j i q:Nat),i+j=16->j<q->Tm w p s q (i:Int) (fG (pX i) (K9 t p w) t)=some (s,K9 t p w,p,0)
 |0,i,q+1,hi,_=>by
  obtain rfl:i=16:=F0
  rw[Tm,JE,Aam Axe,pR (λk hk=>by rw[JH]at hk;simpa [pX]using hk)];rfl
 |j+1,i,q+1,hi,hq=>by
  have hl:=JH t p w;have hg:=V0 t p w (i:=i) F0;rw[Tm,JE,Aao Aw4,g32 F0,Aa,Ak (b:=1) F0 F0,yx F0,step_eq];simp only[Aa];rw[WK,yS,Ado,V1,V1,show(0:Int32).toInt=0 from rfl];have ih:=Q9 (s:=s) hw ht hp j (i+1) q F0 F0;by_cases hx:p.getD i 0=0
  ·rw[Aao (by rw[hx];rfl),Agv (by rw[hg,hx,Ad5,Int32.mul_zero,Int32.zero_mul,Int32.add_zero])];exact ih
  ·rw[Aam (by simpa using hx)];by_cases hs:((p.getD i 0).toInt<0)=(w.toInt<0)
   ·rw[Aao (by rw[Ar7];simp only[hs]),show t.getD i 0+Z6 i=(K9 t p w).getD i 0 by rw[hg,Agd hx hw hs],G5 F0,Aa];exact ih
   ·rw[Aam (by rw[Ar7,decide_eq_decide];exact λh=>hs (propext h)),show t.getD i 0-Z6 i=(K9 t p w).getD i 0 by rw[hg,Aa0 hx hw hs],G5 F0,Aa];exact ih
theorem Ahq(p:LX)(ht:t.length=16):K9 t p 0=t:=by
 apply Auc (by rw[JH,ht]);intro i h1 h2;have:=V0 t p 0 (i:=i) F0;rw[Oa h1,Oa h2]at this;rw[this,Ad5,Int32.mul_zero,Int32.add_zero]
theorem Ajr(h:OkF s t p)(w:Int32):bB s t p w=some (s,K9 t p w,p,0):=by
 rw[bB,VN,rW h,Aa,Aam Aw8,Ado];by_cases hw:w=0
 ·rw[Aao (by simpa using hw),hw,Ahq p h.2.1]
 ·have h1:=Q9 (s:=s) hw h.2.1 h.2.2 16 0 Aq F0 Aw5;rw[nQ (by rw[JH,h.2.1]) (λk _=>by simp[pX])]at h1;rw[Aam (by simpa using hw)];exact h1
theorem pA{s:Int}{t p:LX}{w:Int32}(ht:t.length=16)(hp:p.length=16):∀(j i q:Nat),i+j=16->j<q->Ic w s p q (i:Int) (fG (pX i) (K9 t p w) t)=some (s,K9 t p w,p)
 |0,i,q+1,hi,_=>by
  obtain rfl:i=16:=F0
  rw[Ic,Qt,Aam Axe,pR (λk hk=>by rw[JH]at hk;simpa [pX]using hk)];rfl
 |j+1,i,q+1,hi,hq=>by
  have hl:=JH t p w;have hg:=V0 t p w (i:=i) F0;rw[Ic,Qt,Aao Aw4,g32 (l:=p) F0,Ak (b:=1) F0 F0,yx F0,Af3,sign_eq w,Aa,Aa,Aa,Aa,Aa,sign_eq,Aa,Aa,Aa,WK,xG,xG,<-hg,G5 F0,Aa];exact pA ht hp j (i+1) q F0 F0
theorem Aci(h:OkF s t p)(w:Int32):JP s t p w=some (s,K9 t p w,p):=by
 have h1:=pA (s:=s) (w:=w) h.2.1 h.2.2 16 0 Aq F0 Aw5;rw[nQ (by rw[JH,h.2.1]) (λk _=>by simp[pX])]at h1;exact h1
theorem Amw(h:p.length=16):∃a0 a1 a2 a3 a4 a5 a6 a7 a8 a9 b0 b1 b2 b3 b4 b5,p=[a0,a1,a2,a3,a4,a5,a6,a7,a8,a9,b0,b1,b2,b3,b4,b5]:=by
 match p,h with
 |[a0,a1,a2,a3,a4,a5,a6,a7,a8,a9,b0,b1,b2,b3,b4,b5],_=>exact⟨a0,a1,a2,a3,a4,a5,a6,a7,a8,a9,b0,b1,b2,b3,b4,b5,rfl⟩
theorem Amc(h:OkF s t p)(x:Int32):iY s t p x=some (s,t,x::p.take 15,0):=by
 obtain⟨hs,ht,hp⟩:=h;rw[iY,OR,rW ⟨hs,ht,hp⟩,Aa,Aam Aw8,show aB (16:Int) 1 16=some ()from rfl,Aa,show aB (16:Int) 0 16=some ()from rfl,Aa,aF,nV];obtain⟨a0,a1,a2,a3,a4,a5,a6,a7,a8,a9,b0,b1,b2,b3,b4,b5,rfl⟩:=Amw hp;rfl
def U3(p:LX)(i:Nat):LX:=(List.range 16).map λk=>if k<=i then p.getD k 0 else p.getD (k-1) 0
theorem Zy(p:LX)(i:Nat):(U3 p i).length=16:=by simp[U3]
theorem Anj(p:LX)(i k:Nat)(h:k<16):(U3 p i).getD k 0=if k<=i then p.getD k 0 else p.getD (k-1) 0:=by
 rw[Oa (by rw[Zy];exact h)];simp[U3]
theorem Anr(p:LX)(i:Nat)(h:i+1<16):Mi (U3 p (i+1)) ((i+1:Nat):Int) (p.getD i 0)=some (U3 p i):=by
 rw[Yj _ (by rw[Zy];exact h)];congr 1;apply Auc (by simp[Zy]);intro k h1 h2;rw[Zy]at h2;rw[Awm];simp only[U3,Awn,Awa];by_cases hk:i+1=k
 ·subst hk;rw[Aao rfl,Aam F0];rfl
 ·rw[Aam hk];by_cases h3:k<=i
  ·rw[Aao F0,Aao h3]
  ·rw[Aam F0,Aam h3]
theorem vE(s:Int)(t p:LX)(x:Int32)(hp:p.length=16):∀(i q:Nat),i<16->i<q->Ix x s t q (i:Int) (U3 p i)=some (s,t,x::p.take 15)
 |0,q+1,_,_=>by
  have hg:Ah (U3 p 0) (0:Int)=some ((U3 p 0).getD 0 0):=g32 (l:=U3 p 0) (k:=0) (by rw[Zy];omega);have hset:Mi (U3 p 0) (0:Int) x=some ((U3 p 0).set 0 x):=Yj (l:=U3 p 0) (n:=0) x (by rw[Zy];omega);rw[Ix,Sy,Aam Axt,DA,DV,hg,Aa,hset,Aa];congr 3;apply Auc (by simp[Zy,hp]);intro k h1 h2;rw[Au2,Zy]at h1;rw[Awm];cases k with
  |zero=>rw[Aao rfl];rfl
  |succ k=>
   rw[Aam F0];simp only[U3,Awn,Awa,List.getElem_cons_succ,List.getElem_take];rw[Aam F0,Nat.add_sub_cancel,Oa F0]
 |i+1,q+1,hi,hq=>by
  have hg:=g32 (l:=U3 p (i+1)) (k:=i) (by rw[Zy];omega);rw[Anj p (i+1) i F0,Aao F0]at hg;have e1:Al ((i+1:Nat):Int) (1:Int)=(i:Int):=by rw[Cr];omega
  have hg2:=g32 (l:=U3 p (i+1)) (k:=i+1) (by rw[Zy];omega);rw[Ix,Sy,Aao Axt,e1,hg,Aa,Aa,hg2,Aa,Anr p i hi,Aa];exact vE s t p x hp i q F0 F0
theorem Ago(hp:p.length=16)(x:Int32):NI s t p x=some (s,t,x::p.take 15):=by
 have h:=vE s t p x hp 15 Aq F0 Aw5;have e:U3 p 15=p:=by
  apply Auc (by rw[Zy,hp]);intro k h1 h2;rw[Zy]at h1;simp only[U3,Awn,Awa];rw[Aao F0,Oa h2]
 rw[e]at h;exact h
theorem Aia(h:OkF s t p)(w x:Int32):OkF s (K9 t p w) (x::p.take 15):=⟨h.1,JH _ _ _,by simp[h.2.2]⟩
theorem Anz(h:OkF s t p)(y:Int32):gS s t p y=some (y+gF s t p,s,K9 t p y,(y+gF s t p)::p.take 15,0):=by
 rw[gS,Ajx h,Aa];simp only;rw[Aam Aw8,WK,YZ,Ajr h,Aa];simp only;rw[Amc (s:=s) (t:=K9 t p y) (p:=p) ⟨h.1,JH _ _ _,h.2.2⟩,Aa];rfl
theorem Afa(h:OkF s t p)(y:Int32):Vx s t p y=some (y+gF s t p,s,K9 t p y,(y+gF s t p)::p.take 15):=by
 rw[Vx,Amn h,Aa,nY,Aa,Aci h,Aa];simp only;rw[Ago h.2.2,Aa]
def sB(bits:Int):Int:=if bits=16 then 9 else 10
def shB(bits:Int):Int:=if bits=8 then 4 else 5
def Dd(bits:Int):Prop:=bits=8\/bits=16\/bits=24
def gs(sh:Int)(last:Int32):Int32:=Ad (W7 (Al (Eh (Ad last:Int) sh.toNat) (Ad last)) sh.toNat)
theorem As5(bits:Int):sB bits=9\/sB bits=10:=by unfold sB;split<;>simp
theorem Ans(bits:Int):0<=shB bits:=by unfold shB;split<;>omega
theorem Au0(h:Dd bits)(t:LX):pM bits t=some (sB bits,t,List.replicate 16 0,0):=by
 obtain rfl|rfl|rfl:=h<;>rfl
theorem Art(h:Dd bits):fF bits=some (shB bits,0):=by
 obtain rfl|rfl|rfl:=h<;>rfl
theorem Aqc{sh:Int}(h:0<=sh)(last:Int32):SS sh last=some (gs sh last):=by
 rw[SS,Dv (by rw[El];simpa using h),Aa,Aa];rfl
theorem Aqv(h:Dd bits)(last:Int32):We bits last=some (gs (shB bits) last,0):=by
 rw[We,Art h,Aa];simp only;rw[Aam Aw8,Aqc (Ans bits),Aa]
theorem Acf(h:Dd bits)(last:Int32)(t p:LX):Wc bits last (sB bits) t p=some 0:=by
 rw[Wc,Au0 h,Aa];simp only;rw[Aam (by rw[Am,Am];simp)]
theorem Afs(h:Dd bits)(hF:OkF (sB bits) t p)(last y:Int32):
  Lt bits last (sB bits) t p y=some (y+gF (sB bits) t p+gs (shB bits) last,bits,y+gF (sB bits) t p+gs (shB bits) last,sB bits,K9 t p y,(y+gF (sB bits) t p)::p.take 15,0):=by
 rw[Lt,Acf h,Aa,Aam Aw8,Aqv h,Aa];simp only;rw[Anz hF,Aa];simp only;rw[WK]
theorem sY(sh:Int)(hs:sh=4\/sh=5)(last:Int32):Qk sh last=some (gs sh last):=by
 have hl:=FL last;have key:∀n:Int,n=16\/n=32->gs sh last=Int32.ofInt (((n-1)*last.toInt).fdiv n)->Sn last n=some (gs sh last):=by
  intro n hn hg;have e:Ce (Al n (1:Int)) (Ad last:Int)=(n-1)*last.toInt:=by
   obtain rfl|rfl:=hn<;>(rw[Fv,Cr,Jj])
  rw[Sn,DE,Dv Axb,Aa,Aa,e,uq _ n F0 (by obtain rfl|rfl:=hn<;>omega) (by obtain rfl|rfl:=hn<;>omega),hg]
 rw[Qk,FH];obtain rfl|rfl:=hs
 ·rw[Aam Axq];refine key 16 (.inl rfl) ?_;have e:Eh (Ad last:Int) (4:Int).toNat=last.toInt*16:=by
   rw[Fv];show wrap64 (last.toInt*2^4)=_;rw[Cz]<;>omega
  rw[gs,e,Fv,Cr,PJ]
  show Int32.ofInt ((last.toInt*16-last.toInt).fdiv 16)=_;congr 2;omega
 ·rw[Aao Axp];refine key 32 (.inr rfl) ?_;have e:Eh (Ad last:Int) (5:Int).toNat=last.toInt*32:=by
   rw[Fv];show wrap64 (last.toInt*2^5)=_;rw[Cz]<;>omega
  rw[gs,e,Fv,Cr,PJ]
  show Int32.ofInt ((last.toInt*32-last.toInt).fdiv 32)=_;congr 2;omega
theorem Ahd(h:Dd bits)(hF:OkF (sB bits) t p)(last y:Int32):
  Vu bits last (sB bits) t p y=some (y+gF (sB bits) t p+gs (shB bits) last,bits,y+gF (sB bits) t p+gs (shB bits) last,sB bits,K9 t p y,(y+gF (sB bits) t p)::p.take 15):=by
 have hb:Yk bits last (sB bits) t p=some (Ad (gs (shB bits) last):Int):=by
  rw[Yk];obtain rfl|rfl|rfl:=h
  ·rw[Aao Axp,sY 4 (.inl rfl),Aa];rfl
  ·rw[Aam Axq,sY 5 (.inr rfl),Aa];rfl
  ·rw[Aam Axq,sY 5 (.inr rfl),Aa];rfl
 rw[Vu,Afa hF,Aa];simp only;rw[hb,Aa,nY,Aa]
theorem Ats(h:Dd bits)(t:LX):VZ bits t=some (bits,0,sB bits,t,List.replicate 16 0,0):=by
 obtain rfl|rfl|rfl:=h<;>rfl
def bF(n:UInt32):Int32:=if n.toNat %2=0 then Int32.ofInt ((n.toNat/2:Nat):Int)else Int32.ofInt (-((n.toNat/2:Nat):Int)-1)
theorem xq(a b:Int32):(Yq a b).toBitVec=a.toBitVec^^^b.toBitVec:=by
 show(Int32.ofInt ((BitVec.ofInt 32 a.toBitVec.toInt^^^BitVec.ofInt 32 b.toBitVec.toInt).toNat:Int)).toBitVec=_;rw[BitVec.ofInt_toInt,BitVec.ofInt_toInt,Int32.toBitVec_ofInt,BitVec.ofInt_natCast,BitVec.ofNat_toNat,BitVec.setWidth_eq]
theorem Atr(m:Nat)(h:m<2147483648):Yq (Int32.ofInt (m:Int)) (Int32.ofInt (-1))=Int32.ofInt (-(m:Int)-1):=by
 apply Int32.toBitVec_inj.1;have e1:(Int32.ofInt (-1)).toBitVec=BitVec.allOnes 32:=Aw2
 rw[xq,e1,BitVec.xor_allOnes,Int32.toBitVec_ofInt,Int32.toBitVec_ofInt];apply BitVec.eq_of_toNat_eq;rw[BitVec.toNat_not,Aut,Aut];omega
theorem Ajk(n:UInt32):Xn n=some (bF n):=by
 have hn:=n.toNat_lt;have e1:(Ad (Ct n (GI.toZ (1:UInt64)).toNat):Int32)=Int32.ofInt ((n.toNat/2:Nat):Int):=by
  show Int32.ofInt ((Ct n 1).toNat:Int)=_;rw[WJ]
 have e2:(Ad (Ex n (1:UInt32)):Int32)=Int32.ofInt ((n.toNat %2:Nat):Int):=by
  show Int32.ofInt ((Ex n (1:UInt32)).toNat:Int)=_;rw[oo,UInt32.toNat_and]
  show Int32.ofInt ((n.toNat&&&1:Nat):Int)=_;rw[Nat.and_one_is_mod]
 rw[Xn,e1,e2,bF];congr 1;by_cases h:n.toNat %2=0
 ·have e3:nW (Int32.ofInt ((n.toNat %2:Nat):Int))=Int32.ofInt 0:=by rw[h];decide
  rw[Aao h,e3];apply Int32.toBitVec_inj.1;rw[xq,show(Int32.ofInt 0).toBitVec=0#32 from rfl,BitVec.xor_zero]
 ·have e3:nW (Int32.ofInt ((n.toNat %2:Nat):Int))=Int32.ofInt (-1):=by rw[show n.toNat %2=1 by omega];decide
  rw[Aam h,e3,Atr _ F0]
theorem Amu(n:UInt32):DS n=some (bF n):=by
 have hn:=n.toNat_lt;have e1:geq (CT n (2:UInt32)) (0:UInt32)=decide (n.toNat %2=0):=by
  rw[T4,jo,Ak7];simp only[Ar7,<-UInt32.toNat_inj,UInt32.toNat_mod,Acb];rfl
 rw[DS,e1,bF];by_cases h:n.toNat %2=0
 ·rw[Aao (by simpa using h),Aao h,mh];rfl
 ·have e2:(Ad n:Int)=(n.toNat:Int):=Aav n;rw[Aam (by simpa using h),Aam h,e2,Ak,Abf,Cz F0 F0,MG,Int.tdiv_eq_ediv,PJ];congr 2;rw[Aao (.inr F0),Cz F0 F0];omega
theorem Aw6{p:Prop}(h:p:=by rw[As,Ac];simp;omega):p:=h
end Go.Pl
namespace Go.Pl
open Go Go.Lv
theorem og{c:Prop} [Decidable c](h:c):Jd (decide c)=some ():=by rw[Auh h];rfl
def unV(f:Nat->Int32)(ch:Nat):Nat->Int32
 |0=>if 1<ch then f (ch-1)+Cq (f (ch-2)) (2:Int32)else f (ch-1)
 |j+1=>unV f ch j-f (ch-2-j)
def zR(ch:Nat)(m:LX):LX:=(List.range m.length).map λk=>unV (λi=>m.getD (k-k %ch+i) 0) ch (ch-1-k %ch)
theorem iP(ch:Nat)(m:LX):(zR ch m).length=m.length:=by simp[zR]
theorem wP{ch:Nat}{m:LX}{a i:Nat}(ha:a %ch=0)(hi:i<ch)(h:a+i<m.length):(zR ch m).getD (a+i) 0=unV (λi=>m.getD (a+i) 0) ch (ch-1-i):=by
 have hb:(a+i) %ch=i:=by rw[Nat.add_mod,ha,Avt,Nat.mod_mod,Ab6 hi]
 rw[Oa (by rw[iP];exact h)];simp only[zR,Awn,Awa,hb];rw[show a+i-i=a by omega]
section
variable (ch:Nat) (m:LX)
theorem Aiu(h1:1<=ch)(h6:ch<=6)(hm:m.length %ch=0)(hl2:m.length<=4000):XN (ch:Int) m=some 0:=by
 rw[XN,Aam Axd,Aam Aw6,Dv Axb,Aa,Aam];rw[Am,Ho,Ac,<-Int.ofNat_tmod,hm];simp
theorem xD(bk:Int->LX->Option (LX×Int))(at':Nat)(h1:1<=ch)(h6:ch<=6)(hm:at' %ch=0)(hl:at'+ch<=m.length)(hl2:m.length<=4000):∀(i q:Nat),i<=ch-1->i<q->
  Xl bk (ch:Int) (at':Int) q ((i:Int)-1) (fG (λk=>decide (k<at'\/ (at'+i<=k/\k<at'+ch))) (zR ch m) m)=bk ((at'+ch:Nat):Int) (fG (λk=>decide (k<at'+ch)) (zR ch m) m)
 |0,q+1,hi,_=>by
  have e4:Ae (at':Int) (ch:Int)=((at'+ch:Nat):Int):=by rw[Ak];omega
  rw[Xl,OM,Aam Axg,aC,pE,e4];congr 1;apply BW;intro k _;rw[Ak7];simp;omega
 |i+1,q+1,hi,hq=>by
  have hlen:=iP ch m;have e2:Ae (at':Int) (ch:Int)-(at':Int)=(ch:Int):=by rw[Ak];omega
  have e3:Ae (i:Int) 1=((i+1:Nat):Int):=by rw[Ak];omega
  have hv:((zR ch m).getD (at'+(i+1)) 0-m.getD (at'+i) 0)=(zR ch m).getD (at'+i) 0:=by
   rw[wP hm F0 F0,wP hm F0 F0,show ch-1-i=(ch-1-(i+1))+1 by omega,unV,show ch-2-(ch-1-(i+1))=i by omega]
  rw[Xl,OM,show((i+1:Nat):Int)-1=(i:Int) by omega,Aao Axg,e2,e3,og F0,Aa,og F0,Aa,
   show(at':Int)+((i+1:Nat):Int)=((at'+(i+1):Nat):Int) by omega,show(at':Int)+(i:Int)=((at'+i:Nat):Int) by omega,
   UJ F0,Aa,UJ F0,Aa,Aa,Aao Aw3,Aam Aw3,yS,hv,qD F0,Aa,Cr]
  have ih:=xD bk at' h1 h6 hm hl hl2 i q F0 F0;rw[<-ih];congr 1;apply BW;intro k _;rw[Ak7];simp;omega
theorem uw{at' ch n:Nat}(ha:at' %ch=0)(hm:n %ch=0)(h:at'<n):at'+ch<=n:=by
 have d1:=Nat.div_add_mod at' ch;have d2:=Nat.div_add_mod n ch;rw[ha,Av6]at d1;rw[hm,Av6]at d2;have hlt:at'/ch<n/ch:=by
  rcases Awf (at'/ch) (n/ch)with h'|h'
  ·exact h'
  ·have:=Nat.mul_le_mul_left ch h';omega
 have:=Nat.mul_le_mul_left ch (show at'/ch+1<=n/ch from hlt);rw[Nat.mul_add]at this;omega
theorem L9(h1:1<=ch)(h6:ch<=6)(hm:m.length %ch=0)(hl2:m.length<=4000):∀(j at' q:Nat),at' %ch=0->at'<=m.length->m.length-at'<=j->j<q->
  Sk (ch:Int) q (at':Int) (fG (λk=>decide (k<at')) (zR ch m) m)=some (zR ch m,0)
 |j,at',q+1,ha,hle,hj,hq=>by
  have hlen:=iP ch m;have hl:Ac (fG (λk=>decide (k<at')) (zR ch m) m)=(m.length:Int):=by rw[Ac,aL,hlen]
  rw[Sk,ZB,hl];by_cases h:at'<m.length
  ·have hb:=uw ha hm h;obtain⟨j,rfl⟩:∃k,j=k+1:=⟨j-1,F0⟩;have e1:Al (Ae (at':Int) (ch:Int)-(at':Int)) 1=((ch-1:Nat):Int):=by rw[Ak,Cr];omega
   have e2:Ae (at':Int) (ch:Int)-(at':Int)=(ch:Int):=by rw[Ak];omega
   have e4:Ae (at':Int) (ch:Int)=((at'+ch:Nat):Int):=by rw[Ak];omega
   have hi:=xD ch m (Sk (ch:Int) q) at' h1 h6 ha hb hl2 (ch-1) Aq F0 Aw5;have hrest:=L9 h1 h6 hm hl2 j (at'+ch) q (by rw[Awt,ha]) hb F0 F0;have hstart:aJ (Sk (ch:Int) q) (ch:Int) (at':Int) (fG (λk=>decide (k<at'\/ (at'+(ch-1)<=k/\k<at'+ch))) (zR ch m) m)=some (zR ch m,0):=by
    have e6:Al ((ch-1:Nat):Int) 1=((ch-1:Nat):Int)-1:=Cr;rw[aJ,YV,ZF,e1,e6];exact Ave hi hrest
   rw[Aao Aw4,show aB (m.length:Int) (at':Int) (Ae (at':Int) (ch:Int))=some () by rw[e4,aB,og];omega,Aa,e1,e2];have hlast:=wP (m:=m) ha (show ch-1<ch by omega) F0;rw[show ch-1-(ch-1)=0 by omega,unV]at hlast;by_cases hc:1<ch
   ·have e5:Al ((ch-1:Nat):Int) 1=((ch-2:Nat):Int):=by rw[Cr];omega
    rw[Aao hc]at hlast;rw[Aao Aw9,og F0,Aa,e5,og F0,Aa,show(at':Int)+((ch-1:Nat):Int)=((at'+(ch-1):Nat):Int) by omega,show(at':Int)+((ch-2:Nat):Int)=((at'+(ch-2):Nat):Int) by omega,
     UJ F0,Aa,UJ F0,Aa,Aa,Aam Aw7,Aam Aw7,WK,<-hlast,qD F0,Aa]
    rw[<-hstart];congr 1;apply BW;intro k _;rw[Ak7];simp;omega
   ·have hc1:ch=1:=F0
    rw[Aam Aw9,<-hstart];congr 1;rw[Aam hc]at hlast;apply Awi;intro k hk;by_cases hk2:k=at'
    ·subst hk2;rw[Aam Aw7,Aao Aw3];rw[show k+(ch-1)=k by omega]at hlast;exact hlast.symm
    ·by_cases hk3:k<at'
     ·rw[Aao Aw3,Aao Aw3]
     ·rw[Aam Aw3,Aam Aw3]
  ·rw[Aam Aw4,pR (λk hk=>by simp;omega)];rfl
theorem Am1(h1:1<=ch)(h6:ch<=6)(hm:m.length %ch=0)(hl2:m.length<=4000):oR (ch:Int) m=some (zR ch m,0):=by
 have hlen:=iP ch m;have h:=L9 ch m h1 h6 hm hl2 m.length 0 Aq Aw7 F0 F0 Aw5;rw[oR,gX,Aiu ch m h1 h6 hm hl2,Aa,Aam Aw8,Dy,Cu Aw3,Aa,Aa,Aqf,pK];rw[nQ hlen.symm (λk _=>by simp)]at h;exact h
end
def tL(f:Nat->Int32)(ch:Nat):LX:=(List.range ch).map λi=>unV f ch (ch-1-i)
theorem XD(f:Nat->Int32)(ch:Nat):(tL f ch).length=ch:=by simp[tL]
theorem qJ(f:Nat->Int32){ch i:Nat}(h:i<ch):(tL f ch).getD i 0=unV f ch (ch-1-i):=by
 rw[Oa (by rw[XD];exact h)];simp[tL]
theorem Akf(a b:Int32):Dc (Al (Ad a:Int) (Ad b:Int))=some (a-b):=by
 have:=FL a;have:=FL b;rw[Fv,Fv,Cr,wN,Int32.ofInt_sub,Asp,Asp]
theorem Agl(a b:Int32):Dc (Ae (Ad a:Int) (Cq (Ad b:Int) (2:Int)))=some (a+Cq b (2:Int32)):=by
 have:=FL a;have hb:=FL b;have hd: -2147483648<=b.toInt.tdiv 2/\b.toInt.tdiv 2<=2147483648:=by
  rw[Int.tdiv_eq_ediv,show Int.sign 2=1 from rfl];by_cases h:0<=b.toInt\/2∣b.toInt
  ·rw[Aao h];omega
  ·rw[Aam h];omega
 have e:Cq b (2:Int32)=Int32.ofInt (b.toInt.tdiv 2):=rfl;rw[Fv,Fv,MG,Cz F0 F0,Ak,wN,Int32.ofInt_add,Asp,e]
theorem oJ(seg z:LX)(ch:Nat)(h6:ch<=6)(hs:seg.length=ch)(hz:z.length=ch):∀(i q:Nat),i+1<=ch->i<q->
  Hy seg q ((i:Int)-1) (fG (λk=>decide (i<=k)) (tL (λi=>seg.getD i 0) ch) z)=some (tL (λi=>seg.getD i 0) ch)
 |0,q+1,hi,_=>by
  rw[Hy,Re,Aam Axg,pR (λk hk=>by simp)];rfl
 |i+1,q+1,hi,hq=>by
  have hlen:=XD (λi=>seg.getD i 0) ch;have e3:Ae (i:Int) 1=((i+1:Nat):Int):=by rw[Ak];omega
  have hv:(tL (λi=>seg.getD i 0) ch).getD (i+1) 0-seg.getD i 0=(tL (λi=>seg.getD i 0) ch).getD i 0:=by
   rw[qJ _ F0,qJ _ F0,show ch-1-i=(ch-1-(i+1))+1 by omega,unV,show ch-2-(ch-1-(i+1))=i by omega]
  rw[Hy,Re,show((i+1:Nat):Int)-1=(i:Int) by omega,Aao Axg,e3,UJ F0,Aa,g32 F0,Aa,Aa,Aao Aw7,Akf,Aa,UJ F0,Aa,hv,qD F0,Aa,Cr];have ih:=oJ seg z ch h6 hs hz i q F0 F0;rw[<-ih];congr 1;apply BW;intro k _;rw[Ak7];simp;omega
theorem yc{l:LX}{i:Nat}(v:Int32)(h:i<l.length):(l.set i v).getD i 0=v:=by
 rw[Oa (by rw[Au2];exact h)];simp
theorem Aat(seg:LX)(ch:Nat)(h1:1<=ch)(h6:ch<=6)(hs:seg.length=ch):Wq seg=some (tL (λi=>seg.getD i 0) ch):=by
 have hlen:=XD (λi=>seg.getD i 0) ch;have hzl:(List.replicate ch (0:Int32)).length=ch:=by simp
 have e1:Al (Ac seg) 1=((ch-1:Nat):Int):=by rw[Ac,hs,Cr];omega
 have e2:Al (Ac seg) 2=((ch-1:Nat):Int)-1:=by rw[Ac,hs,Cr];omega
 have hlast:=qJ (λi=>seg.getD i 0) (show ch-1<ch by omega);rw[show ch-1-(ch-1)=0 by omega,unV]at hlast;have hend:∀z:LX,z.length=ch->z.getD (ch-1) 0=(tL (λi=>seg.getD i 0) ch).getD (ch-1) 0->Qw seg z=some (tL (λi=>seg.getD i 0) ch):=by
  intro z hz hzl;have h:=oJ seg z ch h6 hs hz (ch-1) Aq F0 Aw5;have e:fG (λk=>decide (ch-1<=k)) (tL (λi=>seg.getD i 0) ch) z=z:=by
   apply Auc (by rw[aL,hlen,hz]);intro k k1 k2;rw[BZ];by_cases hk:ch-1<=k
   ·obtain rfl:k=ch-1:=F0
    rw[Aao Aw7,<-hzl,Oa k2]
   ·rw[Aam (by simpa using hk),Oa k2]
  rw[e]at h;rw[Qw,CO,e2];exact h
 rw[Wq,BP,Ac,hs,D4,Aa,Dv Axv,Aa];rw[Ac,hs]at e1;rw[Ac,hs]at e2;have hz1:(List.replicate (Int.toNat (ch:Int)) (0:Int32)).length=ch:=by simp
 have hs1:=g32 (l:=seg) (k:=ch-1) F0;rw[e1,hs1,Aa,g32 F0,Aa,Yj _ F0,Aa];by_cases hc:1<ch
 ·rw[Aao hc]at hlast;have e3:((ch-1:Nat):Int)-1=((ch-2:Nat):Int):=F0
  have hs2:=g32 (l:=seg) (k:=ch-2) F0;rw[Aao Aw9,Aa,e2,e3,hs2,Aa,Agl,Aa,g32 (by rw[Au2];omega),Aa,Yj _ (by rw[Au2];omega),Aa];refine hend _ Aw7 ?_;rw[hlast,yc _ (by rw[Au2];omega)]
 ·rw[Aam hc]at hlast;rw[Aam Aw9];refine hend _ Aw7 ?_;rw[hlast,yc _ F0]
theorem Anv(ch:Nat)(m:LX)(h1:1<=ch)(h6:ch<=6)(hm:m.length %ch=0)(hl2:m.length<=4000):Sa (ch:Int) m=some 0:=by
 rw[Sa,Aam Axd,Aam Aw6,Dv Axb,Aa,Aam];rw[As,Ho,Ac,<-Int.ofNat_tmod,hm];simp
theorem uC(ch:Nat)(m:LX)(h1:1<=ch)(h6:ch<=6)(hm:m.length %ch=0)(hl2:m.length<=4000):∀(j at' q:Nat),at' %ch=0->at'<=m.length->m.length-at'<=j->j<q->
  Pn (ch:Int) m q (at':Int) ((zR ch m).take at')=some (zR ch m,0)
 |j,at',q+1,ha,hle,hj,hq=>by
  have hlen:=iP ch m;rw[Pn,LR];by_cases h:at'<m.length
  ·have hb:=uw ha hm h;have e4:Ae (at':Int) (ch:Int)=((at'+ch:Nat):Int):=by rw[Ak];omega
   have hrest:=uC ch m h1 h6 hm hl2 (j-1) (at'+ch) q (by rw[Awt,ha]) hb F0 F0;have hseg:((m.take (at'+ch)).drop at').length=ch:=by simp;omega
   have htl:((zR ch m).take at').length=at':=by simp[hlen];omega
   rw[Aao F2,e4,ME,Aa,show((at'+ch:Nat):Int).toNat=at'+ch from rfl,show(at':Int).toNat=at' from rfl,Aat _ ch h1 h6 hseg,Aa,Cu (by rw[htl,XD];omega),Aa];have e:(zR ch m).take at'++tL (λi=>((m.take (at'+ch)).drop at').getD i 0) ch=(zR ch m).take (at'+ch):=by
    apply Auc (by rw[Aar,htl,XD,Ajz,hlen];omega);intro k k1 k2;rw[Ajz,hlen]at k2;rw[List.getElem_append,List.getElem_take];by_cases hk:k<at'
    ·rw[dif_pos (by rw[htl];exact hk),List.getElem_take]
    ·rw[dif_neg (by rw[htl];exact hk)];have hu:=wP (m:=m) ha (show k-at'<ch by omega) F0;rw[show at'+(k-at')=k by omega,Oa F0]at hu;have hx:∀n,n<=ch->unV (λi=>((m.take (at'+ch)).drop at').getD i 0) ch n=unV (λi=>m.getD (at'+i) 0) ch n:=by
      have hf:∀i,i<ch-> ((m.take (at'+ch)).drop at').getD i 0=m.getD (at'+i) 0:=by
       intro i hi;rw[Oa F0,Oa F0];simp
      intro n
      induction n with
      |zero=>
       intro _;rw[unV,unV,hf _ F0];split
       ·rw[hf _ F0]
       ·rfl
      |succ n ih=>intro hn;rw[unV,unV,ih F0,hf _ F0]
     have hy:=qJ (λi=>((m.take (at'+ch)).drop at').getD i 0) (show k-at'<ch by omega);rw[Oa (by rw[XD];omega)]at hy;rw[hu,<-hx _ F0,<-hy];congr 1;rw[htl]
   rw[e];exact hrest
  ·rw[Aam F2,Au1 F0];rfl
theorem Aga(ch:Nat)(m:LX)(h1:1<=ch)(h6:ch<=6)(hm:m.length %ch=0)(hl2:m.length<=4000):DU (ch:Int) m=some (zR ch m,0):=by
 have h:=uC ch m h1 h6 hm hl2 m.length 0 Aq Aw7 F0 F0 Aw5;rw[DU,JT,Anv ch m h1 h6 hm hl2,Aa,Aam Aw8];exact h
def pre{α:Type}(ch c:Nat)(f:α->Nat->α)(a0:α):Nat->α
 |0=>a0
 |m+1=>if m %ch=c then f (pre ch c f a0 m) m else pre ch c f a0 m
theorem Aey{α:Type}(ch c:Nat)(f:α->Nat->α)(a0:α):∀m,m<=c->c<ch->pre ch c f a0 m=a0
 |0,_,_=>rfl
 |m+1,h,h2=>by rw[pre,Aam (by rw[Ab6 F0];omega),Aey ch c f a0 m F0 h2]
theorem Z8{α:Type}(ch c i:Nat)(f:α->Nat->α)(a0:α)(hi:i %ch=c)(hc:c<ch):∀j,j<ch->pre ch c f a0 (i+1+j)=pre ch c f a0 (i+1)
 |0,_=>rfl
 |j+1,h=>by
  have hne:(i+1+j) %ch≠c:=by
   intro e;have h1:(i+(1+j)) %ch=i %ch:=by rw[hi,<-e];congr 1;omega
   have h2:(1+j) %ch=0:=by
    have h3:=Nat.sub_mod_eq_zero_of_mod_eq h1;rwa [Awj]at h3
   rw[Ab6 F0]at h2;omega
  rw[show i+1+(j+1)=(i+1+j)+1 by omega,pre,Aam hne,Z8 ch c i f a0 hi hc j F0]
theorem Ai0{α:Type}(ch c i:Nat)(f:α->Nat->α)(a0:α)(hi:i %ch=c)(hc:c<ch):pre ch c f a0 (i+ch)=f (pre ch c f a0 i) i:=by
 have h:=Z8 ch c i f a0 hi hc (ch-1) F0;rw[show i+1+(ch-1)=i+ch by omega]at h;rw[h,pre,Aao hi]
abbrev CS:=Int32×LX×LX
def Ahw(bits:Int)(s:CS)(y:Int32):Int32:=y+gF (sB bits) s.2.1 s.2.2+gs (shB bits) s.1
def Ad1(bits:Int)(s:CS)(y:Int32):CS:=(Ahw bits s y,K9 s.2.1 s.2.2 y,(y+gF (sB bits) s.2.1 s.2.2)::s.2.2.take 15)
def cst(bits:Int)(ch:Nat)(t:LX)(v:LU)(c:Nat):Nat->CS:=pre ch c (λs i=>Ad1 bits s (bF (v.getD i 0))) (0,t,List.replicate 16 0)
def OkC(bits:Int)(s:CS):Prop:=OkF (sB bits) s.2.1 s.2.2
theorem Acn(bits:Int)(ch:Nat){t:LX}(ht:t.length=16)(v:LU)(c:Nat):∀m,OkC bits (cst bits ch t v c m)
 |0=>⟨As5 bits,ht,by simp[cst,pre]⟩
 |m+1=>by
  have ih:=Acn bits ch ht v c m;rw[cst,pre];split
  ·exact Aia ih _ _
  ·exact ih
def H7(bits:Int)(ch:Nat)(t:LX)(v:LU):LX:=(List.range v.length).map λi=>Ahw bits (cst bits ch t v (i %ch) i) (bF (v.getD i 0))
theorem iV(bits:Int)(ch:Nat)(t:LX)(v:LU):(H7 bits ch t v).length=v.length:=by simp[H7]
theorem Ael(bits:Int)(ch:Nat)(t:LX)(v:LU){i:Nat}(h:i<v.length):(H7 bits ch t v).getD i 0=Ahw bits (cst bits ch t v (i %ch) i) (bF (v.getD i 0)):=by
 rw[Oa (by rw[iV];exact h)];simp[H7]
abbrev CL:=Int×Int32×(Int×LX×LX×Unit)×Unit
def toC(bits:Int)(s:CS):CL:=(bits,s.1,(sB bits,s.2.1,s.2.2,()),())
def cts(bits:Int)(ch:Nat)(t:LX)(v:LU)(i:Nat):List CL:=(List.range 6).map λc=>toC bits (cst bits ch t v c i)
theorem Aok{bits:Int}{ch:Nat}{t:LX}{v:LU}{i c:Nat}(h:c<6):Ah (cts bits ch t v i) (c:Int)=some (toC bits (cst bits ch t v c i)):=by
 rw[Cm (by simp[cts];exact h)];simp[cts]
theorem mo(bits:Int)(ch:Nat)(t:LX)(v:LU)(c m:Nat):cst bits ch t v c (m+1)=if m %ch=c then Ad1 bits (cst bits ch t v c m) (bF (v.getD m 0))else cst bits ch t v c m:=rfl
theorem An7{bits:Int}{ch:Nat}{t:LX}{v:LU}{i c:Nat}(h:c<6)(hc:i %ch=c):Mi (cts bits ch t v i) (c:Int) (toC bits (Ad1 bits (cst bits ch t v c i) (bF (v.getD i 0))))=some (cts bits ch t v (i+1)):=by
 rw[Yj _ (by simp[cts];exact h)];congr 1;apply Auc (by simp[cts]);intro k h1 h2;rw[Awm];simp only[cts,Awn,Awa];by_cases hk:c=k
 ·subst hk;rw[Aao rfl,mo,Aao hc]
 ·rw[Aam hk,mo,Aam F0]
section
variable {bits:Int} {ch:Nat} {t:LX} {v:LU}
theorem jd(hb:Dd bits)(ht:t.length=16)(h1:1<=ch)(h6:ch<=6)(hv:v.length<=4000):∀(j i q:Nat),i+j=v.length->j<q->
  Ja v (ch:Int) bits q (i:Int) (cts bits ch t v i) ((H7 bits ch t v).take i)=Mc (ch:Int) bits (H7 bits ch t v)
 |0,i,q+1,hi,_=>by
  rw[Ja,Mb,Aam F2,Au1 (by rw[iV];omega)]
 |j+1,i,q+1,hi,hq=>by
  have hlen:=iV bits ch t v;have hc:i %ch<6:=Apd (Avp _ F0) h6;have hok:=Acn bits ch ht v (i %ch) i;have hs:=An7 (bits:=bits) (ch:=ch) (t:=t) (v:=v) (i:=i) hc rfl;have hx:=Ael bits ch t v (i:=i) F0;have hcb:=Afs hb hok (cst bits ch t v (i %ch) i).1 (bF (v.getD i 0));have ih:=jd hb ht h1 h6 hv j (i+1) q F0 F0;rw[PD F0,<-Oa F0,hx]at ih;rw[Ja,Mb,Aao F2,E3 F0,Aa,Dv Axb,Aa,xO,Aok hc,Aa,Aa,Ajk,Aa];refine Ave (congrArg (λo=>Option.bind o _) hcb) ?_;rw[Aa];simp only;rw[Yi,NV,Aam Aw8,xO];refine Ave (congrArg (λo=>Option.bind o _) hs) ?_;rw[Aa,Cu Aw3,Aa,Ak];exact ih
theorem Ag7(hb:Dd bits)(ht:t.length=16)(h1:1<=ch)(h6:ch<=6)(hv:v.length<=4000):Ti (ch:Int) bits t v=Mc (ch:Int) bits (H7 bits ch t v):=by
 have h:=jd hb ht h1 h6 hv v.length 0 Aq F0 Aw5;have e:Aq=(Aq-7)+1+1+1+1+1+1+1:=by have:=Ar;omega
 have hs:Yn v (ch:Int) bits t 0 (List.replicate 6 ((0:Int),(0:Int32),((0:Int),(List.replicate 16 (0:Int32)),(List.replicate 16 (0:Int32)),()),()))=OH v (ch:Int) bits (cts bits ch t v 0):=by
  rw[Yn,e];obtain rfl|rfl|rfl:=hb<;>rfl
 rw[Ti,BA,hs];exact h
theorem N1(bk:Int->LX->Option LX)(hb:Dd bits)(ht:t.length=16)(h1:1<=ch)(h6:ch<=6)(hv:v.length<=4000)(z:LX)(c:Nat)(hc:c<ch):∀(j i q:Nat),i %ch=c->v.length-i<=j->i<=5000->j<q->
  Ln bk v (ch:Int) bits t (c:Int) q (i:Int) (fG (λk=>decide (k %ch<c\/ (k %ch=c/\k<i))) (H7 bits ch t v) z) bits (cst bits ch t v c i).1 (sB bits) (cst bits ch t v c i).2.1 (cst bits ch t v c i).2.2=
   bk ((c+1:Nat):Int) (fG (λk=>decide (k %ch<c+1)) (H7 bits ch t v) z)
 |j,i,q+1,hi,hj,hi5,hq=>by
  have hlen:=iV bits ch t v;rw[Ln,CB];by_cases h:i<v.length
  ·have hok:=Acn bits ch ht v c i;have hst:=Ahd hb hok (cst bits ch t v c i).1 (bF (v.getD i 0));have hx:=Ael bits ch t v (i:=i) h;rw[hi]at hx;have ih:=N1 bk hb ht h1 h6 hv z c hc (j-1) (i+ch) q (by rw[Awt];exact hi) F0 F0 F0;have Ape:cst bits ch t v c (i+ch)=Ad1 bits (cst bits ch t v c i) (bF (v.getD i 0)):=Ai0 ch c i _ _ hi hc;rw[Ape]at ih;have hset:=qD (p:=λk=>decide (k %ch<c\/ (k %ch=c/\k<i))) (a:=H7 bits ch t v) (b:=z) (k:=i) F0;rw[hx]at hset;have Aan:fG (λj=>decide (j %ch<c\/ (j %ch=c/\j<i))||decide (j=i)) (H7 bits ch t v) z=fG (λk=>decide (k %ch<c\/ (k %ch=c/\k<i+ch))) (H7 bits ch t v) z:=by
    apply BW;intro k _;rw[Ak7];simp only[Ars,Acb];constructor
    ·rintro((h1|h1)|h1)
     ·exact .inl h1
     ·exact .inr ⟨h1.1,F0⟩
     ·subst h1;exact .inr ⟨hi,F0⟩
    ·rintro(h1|⟨h1,h2⟩)
     ·exact .inl (.inl h1)
     ·by_cases h3:k<i
      ·exact .inl (.inr ⟨h1,h3⟩)
      ·refine .inr ?_;have h4:(i+(k-i)) %ch=i %ch:=by rw[show i+(k-i)=k by omega,h1,hi]
       have h5:=Nat.sub_mod_eq_zero_of_mod_eq h4;rw[Awj,Ab6 F0]at h5;omega
   rw[Aan]at hset;rw[Aao F2,E3 h,Aa,Amu,Aa];refine Ave (congrArg (λo=>Option.bind o _) hst) ?_;rw[Aa];simp only;rw[CI,CC,UJ F0,Aa];refine Ave (congrArg (λo=>Option.bind o _) hset) ?_;rw[Aa,BK,BT,Ak];exact ih
  ·rw[Aam F2,BR,CG,Ak];have Aan:fG (λk=>decide (k %ch<c\/ (k %ch=c/\k<i))) (H7 bits ch t v) z=fG (λk=>decide (k %ch<c+1)) (H7 bits ch t v) z:=by
    apply BW;intro k hk;rw[Ak7];simp only[Acb];omega
   rw[Aan];rfl
theorem P1(hb:Dd bits)(ht:t.length=16)(h1:1<=ch)(h6:ch<=6)(hv:v.length<=4000)(z:LX):∀(j c q:Nat),c+j=ch->j<q->
  Fu v (ch:Int) bits t q (c:Int) (fG (λk=>decide (k %ch<c)) (H7 bits ch t v) z)=Qu (ch:Int) bits (H7 bits ch t v)
 |0,c,q+1,hc,_=>by
  rw[Fu,Qv,Aam Aw4,pR (λk hk=>by have:=Avp k (show 0<ch by omega);simp;omega)]
 |j+1,c,q+1,hc,hq=>by
  have ih:=P1 hb ht h1 h6 hv z j (c+1) q F0 F0;have hin:=N1 (Fu v (ch:Int) bits t q) hb ht h1 h6 hv z c F0 v.length c Aq (Ab6 F0) F0 F0 Aw5;have h0:cst bits ch t v c c=(0,t,List.replicate 16 0):=Aey ch c _ _ c (Aox _) F0;rw[h0]at hin;have Aan:fG (λk=>decide (k %ch<c\/ (k %ch=c/\k<c))) (H7 bits ch t v) z=fG (λk=>decide (k %ch<c)) (H7 bits ch t v) z:=by
   apply BW;intro k hk;have:=Nat.mod_le k ch;rw[Ak7];simp only[Acb];omega
  rw[Aan]at hin;rw[Fu,Qv,Aao Aw4,Ats hb,Aa];simp only;rw[CF];exact Ave hin ih
theorem Agn(hb:Dd bits)(ht:t.length=16)(h1:1<=ch)(h6:ch<=6)(hv:v.length<=4000)(hm:v.length %ch=0):Qi (ch:Int) bits t v=some (zR ch (H7 bits ch t v)):=by
 have hlen:=iV bits ch t v;have h:=P1 hb ht h1 h6 hv (List.replicate v.length 0) ch 0 Aq F0 Aw5;rw[nQ (by rw[hlen];simp) (λk _=>by simp)]at h;rw[Qi,DO,Ac,D4,Aa,Dv Axv,Aa,CP];refine Ave h ?_;rw[Qu,CD,Aga ch _ h1 h6 (by rw[hlen];exact hm) F0,Aa]
end
def hB(bits:Int):Int:=if bits=8 then 128 else if bits=16 then 32768 else 8388608
theorem Ait{bits:Int}(h:Dd bits):CN bits=some (Int32.ofInt (-(hB bits)),Int32.ofInt (hB bits-1),0):=by
 obtain rfl|rfl|rfl:=h<;>decide
theorem uM{bits:Int}(h:Dd bits):Vn bits=some (hB bits):=by
 obtain rfl|rfl|rfl:=h<;>rfl
theorem lS(bits:Int):0<hB bits/\hB bits<=8388608:=by
 unfold hB;split; · omega
 ·split<;>omega
theorem zT{bits:Int}(h:Dd bits)(l:LX)(hl:l.length<=4000):∀(j i q:Nat),i+j=l.length->j<q->
  Qs (Int32.ofInt (-(hB bits))) (Int32.ofInt (hB bits-1)) l q (i:Int)=Bv l (hB bits) q (i:Int)
 |0,i,q+1,hi,_=>by
  rw[Qs,DG,Bv,Ff,Aam F2,Aam F2];rfl
 |j+1,i,q+1,hi,hq=>by
  have hh:=lS bits;have ih:=zT h l hl j (i+1) q F0 F0;have e1:(Int32.ofInt (-(hB bits))).toInt= -(hB bits):=by rw[Avz,Awu (by show -(4294967296/2:Int)<= _;omega) (by show _<(4294967296+1)/2;omega)]
  have e2:(Int32.ofInt (hB bits-1)).toInt=hB bits-1:=by rw[Avz,Awu (by show -(4294967296/2:Int)<= _;omega) (by show _<(4294967296+1)/2;omega)]
  rw[Qs,DG,Bv,Ff,Aao F2,Aao F2,g32 F0,Aa,Aa,Aa,Fv,Abf,Cz F0 F0,Ak,V1,Abg,e1,e2,Af,El];generalize(l.getD i 0).toInt=X;by_cases h1:X< -(hB bits)
  ·rw[Aao Aw3,Aao Aw3]
  ·rw[Aam (c:=decide (X<0-hB bits)=true) Aw3];by_cases h2:hB bits<=X
   ·rw[Aao Aw3,Aao Aw3]
   ·rw[Aam Aw3,Aam Aw3];exact ih
theorem C7{bits:Int}(h:Dd bits)(l:LX)(hl:l.length<=4000):Wd bits l=Bq bits l:=by
 have hh:=lS bits;rw[Wd,RJ,Ait h,Aa,Bq,Ju,uM h,Aa];simp only;rw[Aam Aw8,Aam Aw6,Aam Axc,Aam Aw6];exact zT h l hl l.length 0 Aq F0 Aw5
theorem Acu{bits:Int}(h:Dd bits)(l:LX)(hl:l.length<=4000):∃e,Bq bits l=some e:=by
 have hh:=lS bits;have key:∀(j i q:Nat),i+j=l.length->j<q->∃e,Bv l (hB bits) q (i:Int)=some e:=by
  intro j
  induction j with
  |zero=>
   intro i q hi hq;obtain⟨q,rfl⟩:∃k,q=k+1:=⟨q-1,F0⟩;rw[Bv,Ff,Aam F2];exact⟨_,rfl⟩
  |succ j ih=>
   intro i q hi hq;obtain⟨q,rfl⟩:∃k,q=k+1:=⟨q-1,F0⟩;rw[Bv,Ff,Aao F2,g32 F0,Aa,Aa,Ak];split
   ·exact⟨_,rfl⟩
   ·split
    ·exact⟨_,rfl⟩
    ·exact ih (i+1) q F0 F0
 obtain⟨e,he⟩:=key l.length 0 Aq F0 Aw5;rw[Bq,Ju,uM h,Aa,Aam Axc,Aam Aw6];exact⟨e,he⟩
theorem oZ{bits:Int}{ch:Nat}{t:LX}{v:LU}(hb:Dd bits)(ht:t.length=16)(h1:1<=ch)(h6:ch<=6)(hv:v.length<=4000)(hm:v.length %ch=0):
  ∃l e,Qi (ch:Int) bits t v=some l/\Yp (ch:Int) bits l=some (if e≠0 then([],e)else(l,0))/\Ti (ch:Int) bits t v=some (if e≠0 then([],e)else(l,0))/\Bq bits l=some e/\l.length=v.length:=by
 have hlen:=iV bits ch t v;have hul:=iP ch (H7 bits ch t v);obtain⟨e,he⟩:=Acu hb (zR ch (H7 bits ch t v)) F0;refine⟨zR ch (H7 bits ch t v),e,Agn hb ht h1 h6 hv hm,?_,?_,he,F0⟩
 ·rw[Yp,he,Aa];by_cases h:e=0
  ·rw[Aam (by rw[Am];simpa using h),Aam (by simpa using h)]
  ·rw[Aao (by rw[Am];simpa using h),Aao h]
 ·rw[Ag7 hb ht h1 h6 hv,Mc,NJ,Am1 ch _ h1 h6 (by rw[hlen];exact hm) F0,Aa];simp only;rw[Aam Aw8,C7 hb _ F0,he,Aa];by_cases h:e=0
  ·rw[Aam (by rw[Am];simpa using h),Aam (by simpa using h)]
  ·rw[Aao (by rw[Am];simpa using h),Aao h]
def fA(s:Nat):Nat:=(s/2)^^^ (if s %2=1 then 3988292384 else 0)
theorem D9{s:Nat}(h:s<4294967296):fA s<4294967296:=by
 unfold fA;exact Asu (n:=32) Aw3 (by split<;>decide)
theorem qh(x y:Nat):(x^^^y)/2=(x/2)^^^ (y/2):=by
 have:=Nat.shiftRight_xor_distrib (a:=x) (b:=y) (i:=1);simpa [Nat.shiftRight_eq_div_pow]using this
theorem Age(x y:Nat):fA (x^^^y)=fA x^^^fA y:=by
 have h:(x^^^y) %2=(x %2+y %2) %2:=by
  have:=Nat.xor_mod_two_eq_one (a:=x) (b:=y);have h1:(x^^^y) %2<2:=Avp _ F0;omega
 simp only[fA,qh,h];have hx:x %2=0\/x %2=1:=F0
 have hy:y %2=0\/y %2=1:=F0
 rcases hx with hx|hx<;>rcases hy with hy|hy<;>simp only[hx,hy]<;>simp
 ·rw[Aue]
 ·rw[Aue,Awx (y/2),Aue,Awx 3988292384 (y/2)]
 ·rw[Aue,Awx 3988292384,Aue,Nat.xor_self];simp
def Xw:Nat->Nat->Nat
 |0,s=>s
 |k+1,s=>Xw k (fA s)
theorem O4:∀(k x y:Nat),Xw k (x^^^y)=Xw k x^^^Xw k y
 |0,_,_=>rfl
 |k+1,x,y=>by rw[Xw,Age,O4 k];rfl
theorem M1:∀(k h:Nat),Xw k (2^k*h)=h
 |0,h=>by simp[Xw]
 |k+1,h=>by
  have:fA (2^(k+1)*h)=2^k*h:=by
   rw[Ard,Apt (2^k) 2,Aui,fA,Aam F0,Nat.mul_div_cancel_left _ F0];simp
  rw[Xw,this,M1 k]
theorem xV:∀(k:Nat) {s:Nat},s<4294967296->Xw k s<4294967296
 |0,_,h=>h
 |k+1,_,h=>xV k (D9 h)
def uP(s c:Nat):Nat:=Xw 8 (s^^^c)
theorem xR{s c:Nat}(h:s<4294967296)(hc:c<256):uP s c<4294967296:=xV 8 (Asu (n:=32) (by simpa using h) Aw3)
theorem qd{s c:Nat}(hc:c<256):uP s c=(s/256)^^^Xw 8 ((s %256)^^^c):=by
 have h:s=(2^8*(s/256))^^^ (s %256):=by
  have h1:s %256<2^8:=by simpa using Avp s (by omega:256>0)
  have:=Atc h1 (s/256);have h2:2^8*(s/256)|||s %256=(2^8*(s/256))^^^ (s %256):=by
   apply Nat.eq_of_testBit_eq;intro i;rw[Nat.testBit_or,Nat.testBit_xor];by_cases hi:i<8
   ·have:(2^8*(s/256)).testBit i=false:=by rw[Nat.testBit_two_pow_mul];simp;omega
    rw[this];simp
   ·have:(s %256).testBit i=false:=Nat.testBit_lt_two_pow (Apd h1 (Aec F0 F0));rw[this];simp
  omega
 rw[uP]
 conv=>lhs;rw[h]
 rw[Aue,O4,M1]
def Aft(s:Nat)(l:LB):Nat:=l.foldl (λs c=>uP s c.toNat) s
def Hp(b:LB):UInt32:=4294967295-UInt32.ofNat (Aft 4294967295 b)
theorem Amq(s:UInt32)(c:Nat)(hc:c<256):FD s (Ad (CT (UInt8.ofNat c) (2:UInt8)):Int)=some (UInt32.ofNat (s.toNat/2^^^ (if(s.toNat^^^c) %2=1 then 3988292384 else 0))):=by
 have h1:(Ad (CT (UInt8.ofNat c) (2:UInt8)):Int)=((c %2:Nat):Int):=by
  rw[PF,Aob,UInt8.toNat_mod,Ao7];show((c %256 %2:Nat):Int)=_;omega
 have h2:geq (CT s (2:UInt32)) (1:UInt32)=decide (s.toNat %2=1):=by
  rw[T4,jo,Ak7];simp only[Ar7,Acb];rw[<-UInt32.toNat_inj,UInt32.toNat_mod];rfl
 have h3:Cq s (2:UInt32)=UInt32.ofNat (s.toNat/2):=by
  apply UInt32.toNat_inj.1;rw[mh,UInt32.toNat_div,Alx]
  show s.toNat/2=_;have:=s.toNat_lt;omega
 have h4:Yq (Cq s (2:UInt32)) (3988292384:UInt32)=UInt32.ofNat (s.toNat/2^^^3988292384):=by
  apply UInt32.toNat_inj.1;rw[h3,nM,UInt32.toNat_xor,Alx,Alx];have:=s.toNat_lt;rw[Ab6 (a:=s.toNat/2) F0,Ab6]
  ·rfl
  ·exact Asu (n:=32) F0 Aw2
 have hx:(s.toNat^^^c) %2=(s.toNat %2+c %2) %2:=by
  have:=Nat.xor_mod_two_eq_one (a:=s.toNat) (b:=c);have h1:(s.toNat^^^c) %2<2:=Avp _ F0;omega
 have hs:s.toNat %2=0\/s.toNat %2=1:=F0
 have hc2:c %2=0\/c %2=1:=F0
 rw[FD,JJ,h1,h2,hx];rcases hs with hs|hs<;>rcases hc2 with hc2|hc2<;>simp[hs,hc2,Ba,JU,KN,nM,h3]
theorem uJ:∀(j i q:Nat) (s:UInt32) (c:Nat),i+j=8->j<q->c<2^j->Ky q s (UInt8.ofNat c) (i:Int)=some (UInt32.ofNat (Xw j (s.toNat^^^c)))
 |0,i,q+1,s,c,hi,_,hc=>by
  obtain rfl:i=8:=F0
  obtain rfl:c=0:=by simpa using hc
  rw[Ky,Wr,Aam Axe,LZ,KY,Xw];simp
 |j+1,i,q+1,s,c,hi,hq,hc=>by
  have hc8:c<256:=Apd hc (show 2^(j+1)<=2^8 from Aec F0 F0);rw[Ky,Wr,Aao Aw4,Amq s c hc8,Aa,Ak];have e:Cq (UInt8.ofNat c) (2:UInt8)=UInt8.ofNat (c/2):=by
   apply UInt8.toNat_inj.1;rw[Anw,UInt8.toNat_div,Ao7,Ao7]
   show c %256/2=_;omega
  rw[e];have h:=uJ j (i+1) q (UInt32.ofNat (s.toNat/2^^^ (if(s.toNat^^^c) %2=1 then 3988292384 else 0))) (c/2) F0 F0 (by rw[Ard]at hc;omega);rw[show((i:Int)+1)=((i+1:Nat):Int) by omega,h,Alx,Xw];congr 3;have:=s.toNat_lt;rw[Ab6,fA,qh,Aue,Aue,Awx (c/2)];exact Asu (n:=32) F0 (by split<;>decide)
theorem Ant(s:UInt32)(c:UInt8):UD s c=some (UInt32.ofNat (uP s.toNat c.toNat)):=by
 have h:=uJ 8 0 Aq s c.toNat F0 Aw5 (by simpa using c.toNat_lt);rw[UInt8.ofNat_toNat]at h;exact h
theorem kM(b:LB)(hb:b.length<4611686018427387904):∀(j i q:Nat) (s:UInt32),i+j=b.length->j<q->It b q s (i:Int)=some (UInt32.ofNat (Aft s.toNat (b.drop i)))
 |0,i,q+1,s,hi,_=>by
  rw[It,Rv,Aam F2,show i=b.length by omega,Ava];simp[GB,EE,Aft]
 |j+1,i,q+1,s,hi,hq=>by
  have hlt:i<b.length:=F0
  rw[It,Rv,Aao F2,Cm hlt,Aa,Ant,Aa,Ak];have h:=kM b hb j (i+1) q (UInt32.ofNat (uP s.toNat b[i].toNat)) F0 F0;rw[show((i:Int)+1)=((i+1:Nat):Int) by omega,h,drop_cons hlt,Alx,Ab6 (xR s.toNat_lt b[i].toNat_lt)];rfl
theorem Ah0(b:LB)(hb:b.length<4611686018427387904):Tj b=some (Hp b):=by
 have h:=kM b hb b.length 0 Aq 4294967295 F0 Aw5;rw[Tj,NK,DY,EV,show((0:Int))=((0:Nat):Int)from rfl,h,Aa,ku];rfl
theorem Aod(c:UInt32):Yq (Ct c (GI.toZ (1:UInt64)).toNat) (Ce (3988292384:UInt32) (Ex c (1:UInt32)))=UInt32.ofNat (fA c.toNat):=by
 apply UInt32.toNat_inj.1;have e:(GI.toZ (1:UInt64)).toNat=1:=rfl;have h1:(Ct c 1).toNat=c.toNat/2:=by rw[WJ]
 have h2:(Ce (3988292384:UInt32) (Ex c (1:UInt32))).toNat=if c.toNat %2=1 then 3988292384 else 0:=by
  rw[Aku,oo,UInt32.toNat_mul,UInt32.toNat_and]
  show 3988292384*(c.toNat&&&1) %4294967296=_;rw[Nat.and_one_is_mod];have:c.toNat %2=0\/c.toNat %2=1:=F0
  rcases this with h|h<;>simp[h]
 rw[e,nM,UInt32.toNat_xor,h1,h2,Alx,Ab6 (D9 c.toNat_lt)];rfl
theorem iw(Hn:Int->LU->Option (UInt32×Int))(s:UInt32)(b:LB)(x:Int)(t:LU):∀(j i q:Nat) (c:UInt32),i+j=8->j<q->
  Qp Hn s b x t q c (i:Int)=DX Hn s b x (UInt32.ofNat (Xw j c.toNat)) t
 |0,i,q+1,c,hi,_=>by
  obtain rfl:i=8:=F0
  rw[Qp,DM,Aam Axe,Xw,UInt32.ofNat_toNat]
 |j+1,i,q+1,c,hi,hq=>by
  rw[Qp,DM,Aao Aw4,Aod,Ak,show((i:Int)+1)=((i+1:Nat):Int) by omega,iw Hn s b x t j (i+1) q _ F0 F0,Alx,Ab6 (D9 c.toNat_lt)];rfl
def tbl(n:Nat):LU:=(List.range n).map λi=>UInt32.ofNat (Xw 8 i)
theorem Aez(s:UInt32)(b:LB):∀(j i q:Nat),i+j=256->j<q->Nf s b q (i:Int) (tbl i++List.replicate j 0)=QW s b (tbl 256)
 |0,i,q+1,hi,_=>by
  obtain rfl:i=256:=F0
  rw[Nf,FK,Aam Axe];simp
 |j+1,i,q+1,hi,hq=>by
  have hlen:(tbl i++List.replicate (j+1) 0).length=i+(j+1):=by simp[tbl]
  rw[Nf,FK,Aao Aw4,PT];have h:=iw (Nf s b q) s b (i:Int) (tbl i++List.replicate (j+1) 0) 8 0 Aq (Ad (i:Int)) F0 Aw5;rw[show((0:Int))=((0:Nat):Int)from rfl,h,DX,fI,Cm (by rw[hlen];omega),Aa,Yj _ (by rw[hlen];omega),Aa,gJ,eC,Ak];have e:(Ad (i:Int):UInt32).toNat=i:=by rw[Q0,Alx,Ab6 F0]
  rw[e,Auf,iE (by simp[tbl])];have h2:=Aez s b j (i+1) q F0 F0;have h3:tbl (i+1)=tbl i++[UInt32.ofNat (Xw 8 i)]:=by simp[tbl,List.range_succ]
  rw[h3]at h2;rw[show((i:Int)+1)=((i+1:Nat):Int) by omega,<-h2];simp
theorem Am8{i:Nat}(h:i<256):Ah (tbl 256) (i:Int)=some (UInt32.ofNat (Xw 8 i)):=by
 rw[Cm (by simpa [tbl]using h)];simp[tbl]
theorem Ala(s:UInt32)(c:UInt8):Ah (tbl 256) (GI.toZ (Yq (Ad s:UInt8) c))=some (UInt32.ofNat (Xw 8 ((s.toNat %256)^^^c.toNat))):=by
 have e:GI.toZ (Yq (Ad s:UInt8) c)=(((s.toNat %256)^^^c.toNat:Nat):Int):=by
  rw[BF,Adb,UInt8.toNat_xor,mK,Ao7]
 rw[e,Am8];exact Asu (n:=8) Aw3 (by simpa using c.toNat_lt)
theorem Agb(s:UInt32)(c:UInt8):Yq (Ct s (GI.toZ (8:UInt64)).toNat) (UInt32.ofNat (Xw 8 ((s.toNat %256)^^^c.toNat)))=UInt32.ofNat (uP s.toNat c.toNat):=by
 apply UInt32.toNat_inj.1;have hlt:Xw 8 ((s.toNat %256)^^^c.toNat)<4294967296:=xV 8 (Asu (n:=32) Aw3 (by have:=c.toNat_lt;simp;omega));have e:(GI.toZ (8:UInt64)).toNat=8:=rfl;rw[e,nM,UInt32.toNat_xor,WJ,Alx,Alx,Ab6 hlt,Ab6 (xR s.toNat_lt c.toNat_lt),qd c.toNat_lt]
theorem vk(b:LB)(hb:b.length<4611686018427387904):∀(j i q:Nat) (s:UInt32),i+j=b.length->j<q->Qy b (tbl 256) q s (i:Int)=some (UInt32.ofNat (Aft s.toNat (b.drop i)),0)
 |0,i,q+1,s,hi,_=>by
  rw[Qy,FI,Aam F2,show i=b.length by omega,Ava];simp[QI,eV,Aft]
 |j+1,i,q+1,s,hi,hq=>by
  have hlt:i<b.length:=F0
  rw[Qy,FI,Aao F2,Cm hlt,Aa,Ala,Aa,Aa,Agb,Ak];have h:=vk b hb j (i+1) q (UInt32.ofNat (uP s.toNat b[i].toNat)) F0 F0;rw[show((i:Int)+1)=((i+1:Nat):Int) by omega,h,drop_cons hlt,Alx,Ab6 (xR s.toNat_lt b[i].toNat_lt)];rfl
theorem Amm(s:UInt32)(b:LB)(hb:b.length<=100000):aT s b=some (UInt32.ofNat (Aft s.toNat b),0):=by
 have h:=Aez s b 256 0 Aq F0 Aw5;have h2:=vk b F0 b.length 0 Aq s F0 Aw5;rw[aT,VK,Aam Aw6,eJ];refine Ave h ?_;rw[QW,QM,eW,QS,QZ];exact h2
theorem Aio(a:UInt32):B7 a=4294967295-a:=by
 have h:=a.toNat_lt;have e:B7 a=UInt32.ofNat (BitVec.ofInt 32 4294967295^^^BitVec.ofInt 32 (a.toNat:Int)).toNat:=Ez _;apply UInt32.toNat_inj.1;rw[e,Alx,UInt32.toNat_sub_of_le _ _ (by rw[UInt32.le_iff_toNat_le];show a.toNat<=4294967295;omega)];have h1:BitVec.ofInt 32 (a.toNat:Int)=a.toBitVec:=X3 a;have h2:(BitVec.ofInt 32 4294967295:BitVec 32)=BitVec.allOnes 32:=Aw2
 rw[h1,h2,BitVec.allOnes_xor,BitVec.toNat_not];show(4294967296-1-a.toNat) %4294967296=4294967295-a.toNat;omega
theorem Abm(b:LB)(hb:b.length<=100000):Xd b=some (Hp b,0):=by
 rw[Xd,Amm _ _ hb,Aa];simp only[Am,Aio];rfl
theorem Ac5:∀{l m:LB},l.length=m.length->Eu l=Eu m->l=m
 |[],[],_,_=>rfl
 |x::l,y::m,h,e=>by
  simp only[Eu]at e;have hx:=x.toNat_lt;have hy:=y.toNat_lt;have h1:x=y:=UInt8.toNat_inj.1 F0;rw[h1,Ac5 (l:=l) (m:=m) (by simpa using h) F0]
theorem W5:∀(w n:Nat),Eu (GJ n w)=n %256^w
 |0,n=>by simp[GJ,Eu,Nat.mod_one]
 |w+1,n=>by
  rw[GJ,Eu,W5 w (n/256),Ao7,show(256:Nat)^(w+1)=256*256^w by rw[Ard,Apt],Nat.mod_mul]
def Ux(b:LB):Int:=
 if b.length<5 then 24 else if 41254<b.length then 4 else if(Hp (b.take (b.length-4))).toNat≠Eu (b.drop (b.length-4))then 22 else 0
theorem uj(b:LB):EJ b=some (if Ux b≠0 then([],Ux b)else(b.take (b.length-4),0)):=by
 rw[EJ];by_cases h1:b.length<5
 ·have hS:Ux b=24:=by rw[Ux,Aao h1]
  rw[Aao F2,hS];rfl
 rw[Aam F2];by_cases h2:41254<b.length
 ·have hS:Ux b=4:=by rw[Ux,Aam h1,Aao h2]
  rw[Aao Aw6,hS];rfl
 have e4:Al (Ac b) 4=((b.length-4:Nat):Int):=by rw[Ac,Cr];omega
 have hd:(b.drop (b.length-4)).length=4:=by simp;omega
 rw[Aam Aw6,e4,Di,Aa,show((b.length-4:Nat):Int).toNat=b.length-4 from rfl,Abm _ Aw3,Aa];simp only;rw[Aam Aw8,Dm,Aa,show((b.length-4:Nat):Int).toNat=b.length-4 from rfl,yg _ F0 F0,Aa];have hne:Bi (kP (b.drop (b.length-4))) (Ad (Hp (b.take (b.length-4))):UInt64)=decide ((Hp (b.take (b.length-4))).toNat≠Eu (b.drop (b.length-4))):=by
  have hlt:=(Hp (b.take (b.length-4))).toNat_lt;rw[ON,Ak7];simp only[Av7,ne_eq,<-Av5,Acb];rw[UW F0,Jg,Ahl,Ab6 F0];exact⟨λh e=>h e.symm,λh e=>h e.symm⟩
 simp only;rw[hne,Aa];by_cases h3:(Hp (b.take (b.length-4))).toNat≠Eu (b.drop (b.length-4))
 ·have hS:Ux b=22:=by rw[Ux,Aam h1,Aam h2,Aao h3]
  rw[Aao (by simp[h3]),hS];rfl
 ·have hS:Ux b=0:=by rw[Ux,Aam h1,Aam h2,Aam h3]
  rw[Aam (by rw[At4 h3];decide),hS];rfl
theorem Agj(b:LB)(hb:b.length<=1000000):Yf b=some (b++GJ (Hp b).toNat 4):=by
 have h:∀k:Nat,(Ad (Ct (Hp b) k):UInt8)=UInt8.ofNat ((Hp b).toNat/2^k):=by
  intro k;rw[mK,WJ]
 have h0:(Ad (Hp b):UInt8)=UInt8.ofNat (Hp b).toNat:=mK _;have h1:=h 8;have h2:=h 16;have h3:=h 24;rw[Yf,Ah0 b F0,Aa,Cu Aw3,Aa,Cu Aw3,Aa,h0,show(GI.toZ (8:UInt64)).toNat=8 from rfl,show(GI.toZ (16:UInt64)).toNat=16 from rfl,show(GI.toZ (24:UInt64)).toNat=24 from rfl,h1,h2,h3];simp only[GJ,Avy,Aqf]
theorem yL(b:LB):Qj b=some (Ux b):=by
 rw[Qj];by_cases h1:b.length<5
 ·rw[Aao F2,Ux,Aao h1]
 rw[Aam F2];by_cases h2:41254<b.length
 ·rw[Aao Aw6,Ux,Aam h1,Aao h2]
 have e4:Al (Ac b) 4=((b.length-4:Nat):Int):=by rw[Ac,Cr];omega
 have hd:(b.drop (b.length-4)).length=4:=by simp;omega
 rw[Aam Aw6,e4,Di,Aa,show((b.length-4:Nat):Int).toNat=b.length-4 from rfl,Agj _ Aw3,Aa];have hlt:=(Hp (b.take (b.length-4))).toNat_lt;have hiff:(b.take (b.length-4)++GJ (Hp (b.take (b.length-4))).toNat 4 !=b)=decide ((Hp (b.take (b.length-4))).toNat≠Eu (b.drop (b.length-4))):=by
  rw[Ak7];simp only[Av7,ne_eq,Acb];constructor
  ·intro h e;apply h;have:GJ (Hp (b.take (b.length-4))).toNat 4=b.drop (b.length-4):=Ac5 (by rw[Pk,hd]) (by rw[W5,Ab6 F0,e]);rw[this,Av9]
  ·intro h e;apply h;have hx:GJ (Hp (b.take (b.length-4))).toNat 4=b.drop (b.length-4):=by
    have e2:b.take (b.length-4)++GJ (Hp (b.take (b.length-4))).toNat 4=b.take (b.length-4)++b.drop (b.length-4):=by rw[e,Av9]
    exact List.append_cancel_left e2
   rw[<-hx,W5,Ab6 F0]
 rw[hiff];by_cases h3:(Hp (b.take (b.length-4))).toNat≠Eu (b.drop (b.length-4))
 ·rw[Aao (by simp[h3]),Ux,Aam h1,Aam h2,Aao h3]
 ·rw[Aam (by rw[At4 h3];decide),Ux,Aam h1,Aam h2,Aam h3]
theorem zo{b:LB}(h:Ux b=0):5<=b.length/\b.length<=41254:=by
 unfold Ux at h;split at h
 ·simp at h
 ·split at h
  ·simp at h
  ·omega
theorem Ac2{c:Nat}(h1:1<=c)(h6:c<=6):Cq (4000:Int) (c:Int)=((4000/c:Nat):Int):=by
 have:c=1\/c=2\/c=3\/c=4\/c=5\/c=6:=F0
 rcases this with rfl|rfl|rfl|rfl|rfl|rfl<;>rfl
theorem Al8(p:LB)(h:p.length<=41250):okB p (8*p.length):=⟨F0,F0,λk h1 h2=>by omega⟩
theorem TN{bits:Int}{ch n:Nat}{t:LX}(b:LB)(hb:Dd bits)(ht:t.length=16)(h1:1<=ch)(h6:ch<=6)(n1:1<=n)(n2:n<=4000/ch):
  ∃l e,Qn (ch:Int) bits t (n:Int) b=some (l,e)/\Fa (ch:Int) bits t (n:Int) b=some (l,e)/\ (e=0->Bq bits l=some 0/\l.length<=4000/\l.length=n*ch)/\ (e≠0->l=[]):=by
 have hn:n*ch<=4000:=by
  have:=Ac1 ch n2;have h2:=Avo 4000 ch;omega
 have hq4:=Ac2 h1 h6;generalize 4000/ch=mm at*
 have hck:Tr (ch:Int) bits=some 0:=by
  have hr:∃x y,CN bits=some (x,y,0):=⟨_,_,Ait hb⟩;obtain⟨x,y,hr⟩:=hr;rw[Tr,hr,Aa];simp only;rw[Aam (by simp[Am,Af,As];omega)]
 have hh:=lS bits;have Ac0:Nv (ch:Int) bits (n:Int)=some 0:=by
  rw[Nv,AZ,Aam Axd,uM hb,Aa,Aam Axc,Aa,Aam (by simp[Am,Af];omega),Dv Axb,Aa,hq4,Aam Aw9]
 rw[Qn,Fa,Tf,hck,Ac0,Aa,Aa,Aam Aw8,Aam Aw4,Dv Axb,Aa,hq4,Aam Aw9,Aam Aw8,uj,yL];by_cases hs:Ux b≠0
 ·rw[Aao hs];simp only[Aa];rw[Aao (by rw[Am];simpa using hs),Aao (by rw[Am];simpa using hs)];exact⟨[],Ux b,rfl,rfl,λe=>absurd e hs,λ_=>rfl⟩
 have hs0:Ux b=0:=by simpa using hs
 have hlen:=zo hs0;have e4:Al (Ac b) 4=((b.length-4:Nat):Int):=by rw[Ac,Cr];omega
 rw[Aam hs,hs0];simp only[Aa];rw[Aam Aw8,Aam Aw8,e4,Di,Aa,show((b.length-4:Nat):Int).toNat=b.length-4 from rfl];have hpl:(b.take (b.length-4)).length=b.length-4:=by simp
 generalize b.take (b.length-4)=p at*
 have e8:Ce (8:Int) (Ac p)=((8*p.length:Nat):Int):=by rw[Ac,Jj];omega
 have hp:=Al8 p F0;have hv:=values_eq hp h1 h6 hn;have hr:=Ad0 (N:=8*p.length) (p:=p) rfl F0 h1 h6 hn;have hat:=wF (ch:=ch) (p:=p) (N:=8*p.length) (n*ch) 0 [] F0;rw[X4,Aam Aw6,Cw,Cu Aw3,Aa,Aa,Aa,Aqf,e8];simp only;rw[Aam Aw8,hv,hr,Aa,Aa];generalize Xo ch p (8*p.length) (n*ch) 0 []=V at*
 obtain⟨v,at',e⟩:=V;simp only at*
 by_cases he:e≠0
 ·rw[Aao he,Aao he];simp only;rw[Aao (by rw[Am];simpa using he),Ii,Iw,Aao (by rw[Am];simpa using he)];exact⟨[],e,rfl,rfl,λh=>absurd h he,λ_=>rfl⟩
 have he0:e=0:=by simpa using he
 have hvl:=hat.2.2 he0;simp only[List.length_nil,Avt]at hvl;rw[Aam he,Aam he];simp only;rw[Aam Aw8,Cr,show((8*p.length:Nat):Int)-(at':Int)=((8*p.length-at':Nat):Int) by omega,Ii,Iw];by_cases h7:7<8*p.length-at'
 ·have hE:(if 7<8*p.length-at'\/Cy p at' (8*p.length-at')≠0 then(12:Int)else 0)=12:=Aao (.inl h7);rw[Aao Axa,hE,Aao Aw2];exact⟨[],12,rfl,rfl,λh=>absurd h Aw2,λ_=>rfl⟩
 rw[Aam Axa,tN hp at' _ F0,Aam F0,Aa];have hz:Bi (Vt p at' (8*p.length-at')) (0:UInt64)=decide (Cy p at' (8*p.length-at')≠0):=by
  rw[ON,Ak7];simp only[Av7,ne_eq,<-Av5,Acb];rw[FW p _ _ F0];rfl
 simp only;rw[hz];by_cases hv0:Cy p at' (8*p.length-at')≠0
 ·have hE:(if 7<8*p.length-at'\/Cy p at' (8*p.length-at')≠0 then(12:Int)else 0)=12:=Aao (.inr hv0);rw[Aao (by simp[hv0]),hE,Aao Aw2];exact⟨[],12,rfl,rfl,λh=>absurd h Aw2,λ_=>rfl⟩
 have hm:v.length %ch=0:=by rw[hvl];exact Av4 n ch
 obtain⟨l,e,g1,g2,g3,g4,g5⟩:=oZ (v:=v) hb ht h1 h6 F0 hm;have hE:(if 7<8*p.length-at'\/Cy p at' (8*p.length-at')≠0 then(12:Int)else 0)=0:=Aam F0;rw[Aam (by rw[At4 hv0];decide),hE,Aam Aw2,g1,g3,Aa,Aa,g2];by_cases hl:e≠0
 ·rw[Aao hl];exact⟨[],e,rfl,rfl,λh=>absurd h hl,λ_=>rfl⟩
 ·rw[Aam hl];have hl0:e=0:=by simpa using hl
  exact⟨l,0,rfl,rfl,λ_=>⟨by rw[g4,hl0],F0,F0⟩,λe=>absurd rfl e⟩
def mxV(f:Nat->Int32)(ch i:Nat):Int32:=if i+1<ch then f (i+1)-f i else if 1<ch then f (ch-1)-Cq (f (ch-1)-f (ch-2)) (2:Int32)else f (ch-1)
def mx(ch:Nat)(x:LX):LX:=(List.range x.length).map λk=>mxV (λi=>x.getD (k-k %ch+i) 0) ch (k %ch)
def Ath(x:Int32):UInt32:=UInt32.ofNat (if 0<=x.toInt then 2*x.toInt.toNat else 2*(-x.toInt-1).toNat+1)
def Auo(bits:Int)(s:CS)(x:Int32):Int32:=x-gs (shB bits) s.1-gF (sB bits) s.2.1 s.2.2
def evl(bits:Int)(ch:Nat)(t m:LX):Nat->LU
 |0=>[]
 |i+1=>evl bits ch t m i++[Ath (Auo bits (cst bits ch t (evl bits ch t m i) (i %ch) i) (m.getD i 0))]
def tb(l:List Bool)(k:Nat):Nat:=if l.getD k false=true then 1 else 0
theorem Al7(b:Bool)(l:List Bool):tb (b::l) 0=if b=true then 1 else 0:=rfl
theorem Anb(b:Bool)(l:List Bool)(k:Nat):tb (b::l) (k+1)=tb l k:=by simp[tb]
def At(p:LB)(a:Nat)(c:List Bool):Prop:=∀i,i<c.length->Kr p (a+i)=tb c i
theorem At.cons{p:LB}{a:Nat}{b:Bool}{c:List Bool}(h:At p a (b::c)):Kr p a=(if b=true then 1 else 0)/\At p (a+1) c:=by
 have h0:=h 0 Aw7;rw[Av6,Al7]at h0;refine⟨h0,λi hi=>?_⟩;have:=h (i+1) Aw3;rw[Anb]at this;rw[show a+1+i=a+(i+1) by omega,this]
def Ac7:Nat->Nat->List Bool
 |_,0=>[]
 |v,n+1=>decide (v %2=1)::Ac7 (v/2) n
def Asl(l v:Nat):List Bool:=if 48<=v/2^l then List.replicate 48 true++Ac7 v 32 else List.replicate (v/2^l) true++(false::Ac7 (v %2^l) l)
def Atj(k l:Nat)(v:UInt32):List Bool:=if v.toNat<2^k then false::Ac7 v.toNat k else true::Asl l (v.toNat-2^k)
def bv:List Bool->Nat
 |[]=>0
 |b::r=>(if b=true then 1 else 0)+2*bv r
def Ata(c:List Bool):LB:=(List.range ((c.length+7)/8)).map λj=>UInt8.ofNat (bv ((c.drop (8*j)).take 8))
def Atp(ch:Nat)(V:LU):Nat->List Bool
 |0=>[]
 |i+1=>Atp ch V i++Atj (now ch (V.take i)).1 (now ch (V.take i)).2.1 (V.getD i 0)
def P64:Nat:=4823603603198064275
def MT(s:Nat):Nat:=(2*s %18446744073709551616)^^^ (s/9223372036854775808*P64)
theorem YI{s:Nat}(h:s<18446744073709551616):MT s<18446744073709551616:=by
 have h1:s/9223372036854775808=0\/s/9223372036854775808=1:=F0
 exact Asu (n:=64) (Avp _ Aw2) (by rcases h1 with e|e<;>rw[e]<;>decide)
theorem Ae3(x y:Nat):(x^^^y)/9223372036854775808=(x/9223372036854775808)^^^ (y/9223372036854775808):=by
 have:=Nat.shiftRight_xor_distrib (a:=x) (b:=y) (i:=63);simpa [Nat.shiftRight_eq_div_pow]using this
theorem Ad6(x y:Nat):2*(x^^^y) %18446744073709551616=(2*x %18446744073709551616)^^^ (2*y %18446744073709551616):=by
 have h1:=Nat.shiftLeft_xor_distrib (a:=x) (b:=y) (i:=1);have h2:=Nat.xor_mod_two_pow (a:=2*x) (b:=2*y) (n:=64);have e:2*(x^^^y)=(2*x)^^^ (2*y):=by simpa [Nat.shiftLeft_eq,Apt]using h1
 rw[e];exact h2
theorem Ang{a b:Nat}(ha:a=0\/a=1)(hb:b=0\/b=1)(p:Nat):(a^^^b)*p=(a*p)^^^ (b*p):=by
 rcases ha with rfl|rfl<;>rcases hb with rfl|rfl<;>simp
theorem Aul(a b c d:Nat):(a^^^b)^^^ (c^^^d)=(a^^^c)^^^ (b^^^d):=by
 rw[Aue,Aue,<-Aue b c d,Awx b c,Aue c b d]
theorem Abk{x y:Nat}(hx:x<18446744073709551616)(hy:y<18446744073709551616):MT (x^^^y)=MT x^^^MT y:=by
 rw[MT,MT,MT,Ad6,Ae3,Ang F0 F0,Aul]
def Oo:Nat->Nat->Nat
 |0,s=>s
 |k+1,s=>Oo k (MT s)
theorem rH:∀(k:Nat) {s:Nat},s<18446744073709551616->Oo k s<18446744073709551616
 |0,_,h=>h
 |k+1,_,h=>rH k (YI h)
theorem zM:∀(k:Nat) {x y:Nat},x<18446744073709551616->y<18446744073709551616->Oo k (x^^^y)=Oo k x^^^Oo k y
 |0,_,_,_,_=>rfl
 |k+1,x,y,hx,hy=>by rw[Oo,Abk hx hy,zM k (YI hx) (YI hy)];rfl
theorem xF:∀(k h:Nat),2^k*h<18446744073709551616->Oo k h=2^k*h
 |0,h,_=>by simp[Oo]
 |k+1,h,hl=>by
  have hpos:0<2^k:=Avr F0;rw[Ard,Aui]at hl;have h2:2*h<18446744073709551616:=Aud (Nat.le_mul_of_pos_left _ hpos) hl;have:MT h=2*h:=by rw[MT,Ab6 h2,show h/9223372036854775808=0 by omega];simp
  rw[Oo,this,xF k _ hl,Ard,Aui]
def gI(s c:Nat):Nat:=Oo 8 (s^^^ (c*72057594037927936))
theorem c56{c:Nat}(hc:c<256):c*72057594037927936<18446744073709551616:=F0
theorem sQ{s c:Nat}(h:s<18446744073709551616)(hc:c<256):gI s c<18446744073709551616:=rH 8 (Asu (n:=64) h (c56 hc))
theorem Am3(s:Nat):s=(s/72057594037927936*72057594037927936)^^^ (s %72057594037927936):=by
 have h1:s %72057594037927936<2^56:=Avp _ Aw2;have:=Atc h1 (s/72057594037927936);have h2:2^56*(s/72057594037927936)|||s %72057594037927936=(2^56*(s/72057594037927936))^^^ (s %72057594037927936):=by
  apply Nat.eq_of_testBit_eq;intro i;rw[Nat.testBit_or,Nat.testBit_xor];by_cases hi:i<56
  ·have:(2^56*(s/72057594037927936)).testBit i=false:=by rw[Nat.testBit_two_pow_mul];simp;omega
   rw[this];simp
  ·have:(s %72057594037927936).testBit i=false:=Nat.testBit_lt_two_pow (Apd h1 (Aec F0 F0));rw[this];simp
 rw[Apt (s/72057594037927936)]
 show s=(2^56*(s/72057594037927936))^^^ _;rw[<-h2,<-this];have:=Nat.div_add_mod s 72057594037927936
 show s=72057594037927936*_+_;omega
theorem Afi(a c:Nat):(a^^^c)*72057594037927936=(a*72057594037927936)^^^ (c*72057594037927936):=by
 have h1:=Nat.shiftLeft_xor_distrib (a:=a) (b:=c) (i:=56);simpa [Nat.shiftLeft_eq]using h1
theorem T3{s c:Nat}(h:s<18446744073709551616)(hc:c<256):gI s c=(256*s %18446744073709551616)^^^Oo 8 (((s/72057594037927936)^^^c)*72057594037927936):=by
 have hs:s/72057594037927936<2^8:=by show _<256;omega
 have hx:(s/72057594037927936)^^^c<256:=Asu (n:=8) hs (by simpa using hc);have hl:s %72057594037927936<72057594037927936:=Avp _ Aw2;rw[gI]
 conv=>lhs;rw[Am3 s]
 rw[Awx (s/72057594037927936*72057594037927936),Aue,<-Afi,zM 8 F0 (c56 hx),xF 8 _ (by show 256*_<_;omega)];congr 1
 show 256*(s %72057594037927936)=_;omega
def yU(s:Nat)(l:LB):Nat:=l.foldl (λs c=>gI s c.toNat) s
theorem I3{n:Nat}(h:n<18446744073709551616):(UInt64.ofNat n).toNat=n:=by rw[Ahl];exact Ab6 h
theorem Apx(s:UInt64)(bit:Nat)(hb:bit=0\/bit=1):FE s (bit:Int)=some (UInt64.ofNat ((2*s.toNat %18446744073709551616)^^^ (((s.toNat/9223372036854775808)^^^bit)*P64))):=by
 have hs:=s.toNat_lt;have ht:s.toNat/9223372036854775808=0\/s.toNat/9223372036854775808=1:=F0
 have e1:(Ce s (2:UInt64)).toNat=2*s.toNat %18446744073709551616:=by
  rw[KM,UInt64.toNat_mul];show s.toNat*2 %_=_;rw[Apt]
 have hlt:2*s.toNat %18446744073709551616<18446744073709551616:=Avp _ Aw2;have ey:Yq (Ce s (2:UInt64)) (4823603603198064275:UInt64)=UInt64.ofNat ((2*s.toNat %18446744073709551616)^^^P64):=by
  apply UInt64.toNat_inj.1;rw[xN,UInt64.toNat_xor,e1,I3 (Asu (n:=64) hlt Aw2)];rfl
 have en:Ce s (2:UInt64)=UInt64.ofNat (2*s.toNat %18446744073709551616):=by
  apply UInt64.toNat_inj.1;rw[e1,I3 hlt]
 have eg:Ks s (9223372036854775808:UInt64)=decide (s.toNat/9223372036854775808=1):=by
  rw[Al6,decide_eq_decide]
  show 9223372036854775808<=s.toNat↔_;omega
 have hp:∀b:Bool,Vr s b=some (if b=true then UInt64.ofNat ((2*s.toNat %18446744073709551616)^^^P64)else UInt64.ofNat (2*s.toNat %18446744073709551616)):=by
  intro b;rw[Vr,LA,ey,en];cases b<;>rfl
 rw[FE,KF,hp,hp,eg];rcases hb with rfl|rfl<;>rcases ht with h|h<;>rw[h]<;>simp[Ba]
theorem vH(c:UInt8):∀(j q:Nat) (s:UInt64),j<=8->j<q->Lb c q s ((2^j/2:Nat):Int)=some (UInt64.ofNat (Oo j (s.toNat^^^ (c.toNat %2^j*2^(64-j)))))
 |0,q+1,s,_,_=>by
  rw[Lb,Wx,Aam Axt,JL,LJ];simp[Oo,Nat.mod_one]
 |j+1,q+1,s,hj,hq=>by
  have hc:=c.toNat_lt;have hs:=s.toNat_lt;have hj2:2^j<=2^7:=Aec F0 F0;have hpos:0<2^j:=Avr F0;have e1:2^(j+1)/2=2^j:=by rw[Ard];omega
  have e2:Cq ((2^j:Nat):Int) 2=((2^j/2:Nat):Int):=by
   generalize 2^j=K at*
   rw[MG,Atz F0,Cz F0 F0];omega
  have e3:Ho (Cq (Ad c:Int) ((2^j:Nat):Int)) (2:Int)=((c.toNat/2^j %2:Nat):Int):=by
   have hX:=Ar5 c.toNat (2^j);rw[PF,MG,<-Int.ofNat_tdiv];generalize c.toNat/2^j=X at*
   rw[Cz F0 F0,Ho,Avw F0];omega
  have hbit:c.toNat/2^j %2=0\/c.toNat/2^j %2=1:=F0
  rw[Lb,Wx,e1,Aao (by rw[As,Acb];omega),Dv (by rw[Am,Av7];omega),Aa,e3,Apx s _ hbit,Aa,e2,vH c j q _ F0 F0];congr 2;rw[Oo];congr 1;have hx:c.toNat %2^(j+1)*2^(64-(j+1))=(c.toNat/2^j %2)*9223372036854775808+c.toNat %2^j*2^(63-j):=by
   have h63:(9223372036854775808:Nat)=2^j*2^(63-j):=by rw[<-Awh,show j+(63-j)=63 by omega]
   rw[Nat.mod_pow_succ,h63,show 64-(j+1)=63-j by omega,Aq2,Aww,Aui,Nat.mul_left_comm]
  have hr:c.toNat %2^j<2^j:=Avp _ hpos;have Axi:c.toNat %2^j*2^(63-j)<9223372036854775808:=by
   have h63:(9223372036854775808:Nat)=2^j*2^(63-j):=by rw[<-Awh,show j+(63-j)=63 by omega]
   rw[h63];exact Nat.mul_lt_mul_of_pos_right hr (Avr F0)
  have h64:c.toNat %2^j*2^(64-j)=2*(c.toNat %2^j*2^(63-j)):=by
   rw[show 64-j=(63-j)+1 by omega,Ard,<-Aui,Apt]
  rw[hx,h64];generalize c.toNat %2^j*2^(63-j)=R at*
  generalize c.toNat/2^j %2=b at*
  have ht:s.toNat/9223372036854775808=0\/s.toNat/9223372036854775808=1:=F0
  have hp:((s.toNat/9223372036854775808^^^b)*P64)<18446744073709551616:=by
   rcases ht with h|h<;>rcases hbit with h2|h2<;>rw[h,h2]<;>decide
  rw[I3 (Asu (n:=64) (Avp _ Aw2) hp),MT,Ad6,Ae3,show(b*9223372036854775808+R)/9223372036854775808=b by omega,show 2*(b*9223372036854775808+R) %18446744073709551616=2*R by omega,Aue,Aue,Awx (2*R)]
theorem Ap5(c:UInt8)(s:UInt64):SQ s c=some (UInt64.ofNat (gI s.toNat c.toNat)):=by
 have h:=vH c 8 Aq s (Aox _) Aw5;have hc:=c.toNat_lt;rw[Ab6 (show c.toNat<2^8 by simpa using hc)]at h;exact h
theorem kY(b:LB)(hb:b.length<4611686018427387904):∀(j i q:Nat) (s:UInt64),i+j=b.length->j<q->Is b q s (i:Int)=some (UInt64.ofNat (yU s.toNat (b.drop i)))
 |0,i,q+1,s,hi,_=>by
  rw[Is,Sj,Aam F2,show i=b.length by omega,Ava];simp[ER,EU,yU]
 |j+1,i,q+1,s,hi,hq=>by
  have hlt:i<b.length:=F0
  have hc:=b[i].toNat_lt;rw[Is,Sj,Aao F2,Cm hlt,Aa,Ap5,Aa,Ak];have h:=kY b hb j (i+1) q (UInt64.ofNat (gI s.toNat b[i].toNat)) F0 F0;rw[show((i:Int)+1)=((i+1:Nat):Int) by omega,h,drop_cons hlt,I3 (sQ s.toNat_lt (by simpa using hc))];rfl
def BN(b:LB):UInt64:=UInt64.ofNat (yU 0 b)
theorem vg(b:LB)(hb:b.length<=100000):Yc 0 b=some (BN b):=
 kY b F0 b.length 0 Aq 0 F0 Aw5
theorem Abn(c:UInt64):Yq (Eh c (GI.toZ (1:UInt64)).toNat) (Ce (4823603603198064275:UInt64) (Ct c (GI.toZ (63:UInt64)).toNat))=UInt64.ofNat (MT c.toNat):=by
 have hc:=c.toNat_lt;apply UInt64.toNat_inj.1;have h1:(Eh c (GI.toZ (1:UInt64)).toNat).toNat=2*c.toNat %18446744073709551616:=by
  rw[show(GI.toZ (1:UInt64)).toNat=1 from rfl,YO,Apt]
 have h2:(Ce (4823603603198064275:UInt64) (Ct c (GI.toZ (63:UInt64)).toNat)).toNat=c.toNat/9223372036854775808*P64:=by
  rw[show(GI.toZ (63:UInt64)).toNat=63 from rfl,KM,UInt64.toNat_mul,LO]
  show 4823603603198064275*(c.toNat/9223372036854775808) %18446744073709551616=_;have h1:c.toNat/9223372036854775808=0\/c.toNat/9223372036854775808=1:=F0
  rcases h1 with e|e<;>rw[e]<;>decide
 rw[xN,UInt64.toNat_xor,h1,h2,I3 (YI hc)];rfl
theorem uE(Hn:Int->LQ->Option (UInt64×Int))(s:UInt64)(b:LB)(x:Int)(t:LQ):∀(j i q:Nat) (c:UInt64),i+j=8->j<q->
  Rf Hn s b x t q c (i:Int)=DN Hn s b x (UInt64.ofNat (Oo j c.toNat)) t
 |0,i,q+1,c,hi,_=>by
  obtain rfl:i=8:=F0
  rw[Rf,CZ,Aam Axe,Oo,UInt64.ofNat_toNat]
 |j+1,i,q+1,c,hi,hq=>by
  rw[Rf,CZ,Aao Aw4,Abn,Ak,show((i:Int)+1)=((i+1:Nat):Int) by omega,uE Hn s b x t j (i+1) q _ F0 F0,I3 (YI c.toNat_lt)];rfl
def UR(n:Nat):LQ:=(List.range n).map λi=>UInt64.ofNat (Oo 8 (i*72057594037927936))
theorem yY(s:UInt64)(b:LB):∀(j i q:Nat),i+j=256->j<q->Nu s b q (i:Int) (UR i++List.replicate j 0)=RD s b (UR 256)
 |0,i,q+1,hi,_=>by
  obtain rfl:i=256:=F0
  rw[Nu,EC,Aam Axe];simp
 |j+1,i,q+1,hi,hq=>by
  have hlen:(UR i++List.replicate (j+1) 0).length=i+(j+1):=by simp[UR]
  rw[Nu,EC,Aao Aw4,SC];have h:=uE (Nu s b q) s b (i:Int) (UR i++List.replicate (j+1) 0) 8 0 Aq (Eh (Ad (i:Int):UInt64) (GI.toZ (56:UInt64)).toNat) F0 Aw5;rw[show((0:Int))=((0:Nat):Int)from rfl,h,DN,eD,Cm (by rw[hlen];omega),Aa,Yj _ (by rw[hlen];omega),Aa,eP,dU,Ak];have e:(Eh (Ad (i:Int):UInt64) (GI.toZ (56:UInt64)).toNat).toNat=i*72057594037927936:=by
   rw[YO,Xq,I3 F0]
   show i*72057594037927936 %18446744073709551616=_;omega
  rw[e,Auf,iE (by simp[UR])];have h2:=yY s b j (i+1) q F0 F0;have h3:UR (i+1)=UR i++[UInt64.ofNat (Oo 8 (i*72057594037927936))]:=by simp[UR,List.range_succ]
  rw[h3]at h2;rw[show((i:Int)+1)=((i+1:Nat):Int) by omega,<-h2];simp
theorem Agk{i:Nat}(h:i<256):Ah (UR 256) (i:Int)=some (UInt64.ofNat (Oo 8 (i*72057594037927936))):=by
 rw[Cm (by simpa [UR]using h)];simp[UR]
theorem Aae(s:UInt64)(c:UInt8):Ah (UR 256) (GI.toZ (Yq (Ad (Ct s (GI.toZ (56:UInt64)).toNat):UInt8) c))=some (UInt64.ofNat (Oo 8 (((s.toNat/72057594037927936)^^^c.toNat)*72057594037927936))):=by
 have hs:=s.toNat_lt;have e:GI.toZ (Yq (Ad (Ct s (GI.toZ (56:UInt64)).toNat):UInt8) c)=(((s.toNat/72057594037927936)^^^c.toNat:Nat):Int):=by
  have e2:((Ad (Ct s (GI.toZ (56:UInt64)).toNat):UInt8)).toNat=s.toNat/72057594037927936:=by
   rw[aK,Ao7,LO]
   show s.toNat/72057594037927936 %256=_;omega
  rw[BF,Adb,UInt8.toNat_xor,e2]
 rw[e,Agk];exact Asu (n:=8) (by show _<256;omega) (by simpa using c.toNat_lt)
theorem T5(s:UInt64)(c:UInt8):Yq (Eh s (GI.toZ (8:UInt64)).toNat) (UInt64.ofNat (Oo 8 (((s.toNat/72057594037927936)^^^c.toNat)*72057594037927936)))=UInt64.ofNat (gI s.toNat c.toNat):=by
 have hs:=s.toNat_lt;have hc:c.toNat<256:=by simpa using c.toNat_lt
 apply UInt64.toNat_inj.1;have hlt:Oo 8 (((s.toNat/72057594037927936)^^^c.toNat)*72057594037927936)<18446744073709551616:=rH 8 (c56 (Asu (n:=8) (by show _<256;omega) (by simpa using c.toNat_lt)));have e:(GI.toZ (8:UInt64)).toNat=8:=rfl;rw[e,xN,UInt64.toNat_xor,YO,I3 hlt,I3 (sQ hs hc),T3 hs hc,Apt s.toNat]
theorem uH(b:LB)(s0:UInt64)(hb:b.length<4611686018427387904):∀(j i q:Nat) (s:UInt64),i+j=b.length->j<q->Qx b s0 (UR 256) q s (i:Int)=some (UInt64.ofNat (yU s.toNat (b.drop i)),0)
 |0,i,q+1,s,hi,_=>by
  rw[Qx,DZ,Aam F2,show i=b.length by omega,Ava];simp[RI,eA,fN,fL,yU]
 |j+1,i,q+1,s,hi,hq=>by
  have hlt:i<b.length:=F0
  have hc:=b[i].toNat_lt;rw[Qx,DZ,Aao F2,Cm hlt,Aa,Aae,Aa,Aa,T5,Ak];have h:=uH b s0 hb j (i+1) q (UInt64.ofNat (gI s.toNat b[i].toNat)) F0 F0;rw[show((i:Int)+1)=((i+1:Nat):Int) by omega,h,drop_cons hlt,I3 (sQ s.toNat_lt (by simpa using hc))];rfl
theorem xu(b:LB)(hb:b.length<=100000):WW b=some (BN b,0):=by
 have h:=yY 0 b 256 0 Aq F0 Aw5;have h2:=uH b 0 F0 b.length 0 Aq 0 F0 Aw5;have hn:aM 0 b=some (BN b,0):=by
  rw[aM,VQ,Aam Aw6,fC];refine Ave h ?_;rw[RD,PW,QG];exact h2
 rw[WW,hn,Aa]
theorem Afp(p:LB)(hp:p.length<=64):EP p=some (GJ (BN p).toNat 8,0):=by
 rw[EP,sO,Aam Aw6,xu p F0,Aa,Aa];simp only;have h:=C9 (BN p) 8 F0 F0 (by simpa using(BN p).toNat_lt);rw[Aam Aw8];exact congrArg (λo=>Option.bind o λx:LB×Int=>some (x.1,x.2)) h
theorem K1(p:LB)(hp:p.length<=64):Wn p=some (GJ (BN p).toNat 8):=by
 have h:=B0 (BN p) 8 F0;rw[Wn,TX,vg p F0,Aa,Aa];exact congrArg (λo=>Option.bind o λl=>some l) h
def s8(n:Nat):Int32:=Int32.ofInt (if n<128 then(n:Int)else(n:Int)-256)
def TT(d:UInt64)(n:Nat):LX:=(List.range n).map λi=>s8 (d.toNat/256^i %256)
theorem XH(d:UInt64)(n:Nat):(TT d n).length=n:=by simp[TT]
theorem D7(d:UInt64)(n:Nat):TT d (n+1)=TT d n++[s8 (d.toNat/256^n %256)]:=by simp[TT,List.range_succ]
theorem bm8(z:Nat):(z:Int).bmod Int8.size=if z %256<128 then((z %256:Nat):Int)else((z %256:Nat):Int)-256:=by
 rw[show Int8.size=256 from rfl,Int.bmod_def];split<;>split<;>omega
theorem Ad7(d:UInt64):∀(j i q:Nat),i+j=8->j<q->IM d q (i:Int) (TT d i++List.replicate (16-i) 0)=some (TT d 8++List.replicate 8 0)
 |0,i,q+1,hi,_=>by
  obtain rfl:i=8:=F0
  rw[IM,bA,Aam Axe];rfl
 |j+1,i,q+1,hi,hq=>by
  have hlen:(TT d i++List.replicate (16-i) 0).length=16:=by simp[XH];omega
  have ih:=Ad7 d j (i+1) q F0 F0;have e8:Ce (8:Int) (i:Int)=((8*i:Nat):Int):=by rw[Jj];omega
  have ev:(Ad (Ad (Ct d (GI.toZ (((8*i:Nat):Int))).toNat):Int8):Int32)=s8 (d.toNat/256^i %256):=by
   have e1:(Ct d (GI.toZ (((8*i:Nat):Int))).toNat).toNat=d.toNat/256^i:=by
    rw[show(GI.toZ (((8*i:Nat):Int))).toNat=8*i from rfl,LO,Nat.pow_mul]
   show Int32.ofInt (Int8.ofInt ((Ct d (GI.toZ (((8*i:Nat):Int))).toNat).toNat:Int)).toInt=_;rw[e1,s8,Int8.toInt_ofInt,bm8]
  rw[IM,bA,Aao Aw4,e8,Dv Axa,Aa,ev,Cm,Aa,Yj _ F0,Aa,Ak,show 16-i=(15-i)+1 by omega,Auf,iE (XH d i)];rw[D7,show 16-(i+1)=15-i by omega,Alw]at ih;exact ih
theorem Aip(d:UInt64):∀(j i q:Nat) (e:UInt64),i+j=8->j<q->e.toNat=d.toNat/256^i->Ko q e (i:Int) (TT d i++List.replicate (16-i) 0)=some (TT d 8++List.replicate 8 0)
 |0,i,q+1,e,hi,_,he=>by
  obtain rfl:i=8:=F0
  rw[Ko,AG,Aam Axe];rfl
 |j+1,i,q+1,e,hi,hq,he=>by
  have hlen:(TT d i++List.replicate (16-i) 0).length=16:=by simp[XH];omega
  have hq2:(Cq e (256:UInt64)).toNat=d.toNat/256^(i+1):=by
   rw[qA,Awk,he,Ard,<-Avy];rfl
  have ih:=Aip d j (i+1) q (Cq e (256:UInt64)) F0 F0 hq2;have ev:(Ad (CT e (256:UInt64)):Int32)=Int32.ofInt ((d.toNat/256^i %256:Nat):Int):=by
   show Int32.ofInt ((CT e (256:UInt64)).toNat:Int)=_;rw[ko,UInt64.toNat_mod,he];rfl
  have hz:d.toNat/256^i %256<256:=Avp _ F0;have et:(Int32.ofInt ((d.toNat/256^i %256:Nat):Int)).toInt=((d.toNat/256^i %256:Nat):Int):=by
   rw[Avz,Awu (by show -(4294967296/2:Int)<= _;omega) (by show _<(4294967296+1)/2;omega)]
  have hp8:∀x:Int32,x=s8 (d.toNat/256^i %256)->AO (Ko q) e (i:Int) (TT d i++List.replicate (16-i) 0) x=some (TT d 8++List.replicate 8 0):=by
   intro x hx;rw[AO,RF,hx,Cm,Aa,Yj _ F0,Aa,Ak,show 16-i=(15-i)+1 by omega,Auf,iE (XH d i)];rw[D7,show 16-(i+1)=15-i by omega,Alw]at ih;exact ih
  rw[Ko,AG,Aao Aw4,ev,Abg,et,show(127:Int32).toInt=127 from rfl];by_cases h:d.toNat/256^i %256<128
  ·rw[Aam (by simp only[Acb];omega)];exact hp8 _ (by rw[s8,Aao h])
  ·rw[Aao (by simp only[Acb];omega)];refine hp8 _ ?_;rw[s8,Aam h,yS,Int32.ofInt_sub];rfl
def IL(p:LB):LX:=TT (BN p) 8++List.replicate 8 0
theorem AI(p:LB):(IL p).length=16:=by simp[IL,XH]
theorem P0(p:LB)(hp:p.length<=64):Tt p=some (IL p,0):=by
 have h:=Ad7 (BN p) 8 0 Aq F0 Aw5;have h2:S3 (BN p)=some (IL p):=h;rw[Tt,Aam Aw6,xu p F0,Aa];simp only;rw[Aam Aw8,h2,Aa]
theorem pG(p:LB)(hp:p.length<=64):Uw p=some (IL p,0):=by
 have h:=Aip (BN p) 8 0 Aq (BN p) F0 Aw5 Aw7;have h2:bU (BN p)=some (IL p):=h;rw[Uw,Aam Aw6,XU,TU,Aam Aw6,vg p F0,Aa,Aa,Aa];simp only;rw[h2,Aa]
def u8(z:Int):UInt8:=UInt8.ofNat (z %256).toNat
theorem S0(z:Int):u8 (z %256)=u8 z:=by rw[u8,u8];congr 2;omega
def wB(bits:Int):Nat:=if bits=8 then 1 else if bits=16 then 2 else 3
theorem Akw{bits:Int}(h:Dd bits):Cq bits 8=(wB bits:Int):=by obtain rfl|rfl|rfl:=h<;>rfl
theorem jh(bits:Int):1<=wB bits/\wB bits<=3:=by
 unfold wB;split; · omega
 ·split<;>omega
def jH(bits:Int)(x:Int):LB:=if bits=8 then [u8 (x+128)]else if bits=16 then [u8 x,u8 (x/256)]else [u8 x,u8 (x/256),u8 (x/65536)]
theorem Z7(bits x:Int):(jH bits x).length<=3:=by
 unfold jH;split; · simp
 ·split<;>simp
theorem Aji(x:Int32)(k:Nat)(hk:k<=32):(Ad (Ct x k):UInt8)=u8 (x.toInt.fdiv (2^k)):=by
 have h:=FL x;have e:Ct x k=Int32.ofInt (x.toInt.fdiv (2^k)):=by
  show Int32.ofInt (x.toInt.fdiv (2^min k 32))=_;rw[Asn hk]
 have hb: -2147483648<=x.toInt.fdiv (2^k)/\x.toInt.fdiv (2^k)<2147483648:=by
  have hpos:(0:Int)<2^k:=Int.pow_pos F0;rw[Aq3 _ F0];constructor
  ·refine(Int.le_ediv_iff_mul_le hpos).2 ?_;have:(1:Int)<=2^k:=F0
   have h2: -2147483648*(2^k:Int)<= -2147483648*1:=Int.mul_le_mul_of_nonpos_left F0 this;omega
  ·refine Int.ediv_lt_of_lt_mul hpos ?_;have:(1:Int)<=2^k:=F0
   have h2:(2147483648:Int)*1<=2147483648*2^k:=Int.mul_le_mul_of_nonneg_left this F0;omega
 show UInt8.ofNat ((Ct x k).toInt %256).toNat=_;rw[e,Avz,Awu (by show -(4294967296/2:Int)<= _;omega) (by show _<(4294967296+1)/2;omega)];rfl
section
variable (bk:Int->LB->Option (LB×Int)) (l:LX)
theorem wD{bits:Int}(h:Dd bits)(c:Int32)(x:Int)(i q:Nat)(acc:LB)(hi:i<wB bits)(ha:acc.length<=100000):
  Jh bk bits l c x (q+1) (i:Int) acc=Jh bk bits l c x q ((i+1:Nat):Int) (acc++[u8 (c.toInt.fdiv (2^(8*i)))]):=by
 have hw:=jh bits;have e8:Ce (8:Int) (i:Int)=((8*i:Nat):Int):=by rw[Jj];omega
 rw[Jh,Zt,Akw h,Aao Aw4,e8,Dv Axa,Aa,show(GI.toZ (((8*i:Nat):Int))).toNat=8*i from rfl,Aji _ _ F0,Cu Aw3,Aa,Ak];rfl
theorem Abl{bits:Int}(h:Dd bits)(c:Int32)(x:Int)(q:Nat)(acc:LB):Jh bk bits l c x (q+1) ((wB bits:Nat):Int) acc=bk (Ae x 1) acc:=by
 rw[Jh,Zt,Akw h,Aam Axe,MM,cC]
theorem Ap3{bits:Int}(h:Dd bits)(c:Int32)(x:Int)(acc:LB)(ha:acc.length<=90000)(hr: -(hB bits)<=c.toInt/\c.toInt<hB bits):
  Pb bk bits l x acc (if bits=8 then Ae c (128:Int32)else c)=bk (Ae x 1) (acc++jH bits c.toInt):=by
 have e:Aq=(Aq-4)+1+1+1+1:=by have:=Ar;omega
 have hc:=FL c;rw[Pb,MA,ND,e];have g0:=λ(c:Int32) q acc ha=>wD bk l h c x 0 q acc (by have:=jh bits;omega) ha;obtain rfl|rfl|rfl:=h
 ·have hh:hB 8=128:=rfl;rw[hh]at hr;have e1:(Ae c (128:Int32)).toInt=c.toInt+128:=by
   show(Int32.ofInt (c.toInt+(128:Int32).toInt)).toInt=_;rw[show(128:Int32).toInt=128 from rfl,Avz,Awu (by show -(4294967296/2:Int)<= _;omega) (by show _<(4294967296+1)/2;omega)]
  have g1:=Abl bk l (bits:=8) (.inl rfl) (Ae c (128:Int32)) x (Aq-4+1+1);rw[Aao rfl,show(0:Int)=((0:Nat):Int)from rfl,g0 _ _ _ F0];refine Ave (g1 _) ?_;rw[e1,jH,Aao rfl]
  show bk _ (acc++[u8 ((c.toInt+128).fdiv 1)])=_;rw[Int.fdiv_one]
 ·have g1:=λq acc ha=>wD bk l (bits:=16) (.inr (.inl rfl)) c x 1 q acc Aw2 ha;have g2:=Abl bk l (bits:=16) (.inr (.inl rfl)) c x (Aq-4+1);rw[Aam Aw2,show(0:Int)=((0:Nat):Int)from rfl,g0 _ _ _ F0,g1 _ _ Aw3];refine Ave (g2 _) ?_;rw[jH,Aam Aw2,Aao rfl,Alw]
  show bk _ (acc++[u8 (c.toInt.fdiv 1),u8 (c.toInt.fdiv 256)])=_;rw[Int.fdiv_one,Aq3 _ F0]
 ·have g1:=λq acc ha=>wD bk l (bits:=24) (.inr (.inr rfl)) c x 1 q acc Aw2 ha;have g2:=λq acc ha=>wD bk l (bits:=24) (.inr (.inr rfl)) c x 2 q acc Aw2 ha;have g3:=Abl bk l (bits:=24) (.inr (.inr rfl)) c x (Aq-4);rw[Aam Aw2,show(0:Int)=((0:Nat):Int)from rfl,g0 _ _ _ F0,g1 _ _ Aw3,g2 _ _ Aw3];refine Ave (g3 _) ?_;rw[jH,Aam Aw2,Aam Aw2,Alw,Alw]
  show bk _ (acc++[u8 (c.toInt.fdiv 1),u8 (c.toInt.fdiv 256),u8 (c.toInt.fdiv 65536)])=_;rw[Int.fdiv_one,Aq3 _ F0,Aq3 _ F0]
end
def Nw(bits:Int)(l:LX):LB:=l.flatMap λx=>jH bits x.toInt
theorem IW(bits:Int):∀l:LX,(Nw bits l).length<=3*l.length
 |[]=>by simp[Nw]
 |x::l=>by
  have h1:=IW bits l;have h2:=Z7 bits x.toInt;simp only[Nw,List.flatMap_cons,Aar,Ar0]at*
  omega
def inR(bits:Int)(l:LX):Prop:=∀x∈l, -(hB bits)<=x.toInt/\x.toInt<hB bits
theorem Adc{bits:Int}(h:Dd bits)(l:LX)(hl:l.length<=4000)(hr:inR bits l):∀(j i q:Nat),i+j=l.length->j<q->Gi bits l q (i:Int) (Nw bits (l.take i))=some (Nw bits l,0)
 |0,i,q+1,hi,_=>by
  rw[Gi,Zx,Aam F2,Au1 F0];rfl
 |j+1,i,q+1,hi,hq=>by
  have hlt:i<l.length:=F0
  have ih:=Adc h l hl hr j (i+1) q F0 F0;have hlen:=IW bits (l.take i);have hx:=hr l[i] (Ar3 _);have h1:=Ap3 (Gi bits l q) l h l[i] (i:Int) (Nw bits (l.take i)) (by rw[Ajz]at hlen;omega) hx;rw[Gi,Zx,Aao F2,Cm hlt,Aa];have e:(if(geq bits (8:Int))=true then Pb (Gi bits l q) bits l (i:Int) (Nw bits (l.take i)) (Ae l[i] (128:Int32))else Pb (Gi bits l q) bits l (i:Int) (Nw bits (l.take i)) l[i])=Pb (Gi bits l q) bits l (i:Int) (Nw bits (l.take i)) (if bits=8 then Ae l[i] (128:Int32)else l[i]):=by
   by_cases h8:bits=8
   ·rw[Aao (by rw[Ba];simpa using h8),Aao h8]
   ·rw[Aam (by rw[Ba];simpa using h8),Aam h8]
  rw[e,h1,Ak];rw[PD hlt]at ih;have e2:Nw bits (l.take i++[l[i]])=Nw bits (l.take i)++jH bits l[i].toInt:=by unfold Nw;rw[List.flatMap_append,List.flatMap_singleton]
  rw[e2]at ih;exact ih
theorem Q6{bits:Int}(h:Dd bits){l:LX}(hl:l.length<=4000)(hc:Bq bits l=some 0):inR bits l:=by
 have hh:=lS bits;have key:∀(j i q:Nat),i+j=l.length->j<q->Bv l (hB bits) q (i:Int)=some 0->∀k,i<=k-> (hk:k<l.length)-> -(hB bits)<=l[k].toInt/\l[k].toInt<hB bits:=by
  intro j
  induction j with
  |zero=>intro i q hi hq _ k h1 h2;omega
  |succ j ih=>
   intro i q hi hq hs k h1 h2;obtain⟨q,rfl⟩:∃k,q=k+1:=⟨q-1,F0⟩;rw[Bv,Ff,Aao F2,Cm,Aa,Aa,Fv,Abf,Cz F0 F0,Ak,Af,El]at hs;by_cases g1:l[i].toInt<0-hB bits
   ·rw[Aao (by simpa using g1)]at hs;simp at hs
   ·rw[Aam (by simpa using g1)]at hs;by_cases g2:hB bits<=l[i].toInt
    ·rw[Aao (by simpa using g2)]at hs;simp at hs
    ·rw[Aam (by simpa using g2)]at hs;by_cases hk:k=i
     ·subst hk;omega
     ·exact ih (i+1) q F0 F0 hs k F0 h2
 rw[Bq,Ju,uM h,Aa,Aam Axc,Aam Aw6]at hc;have:=key l.length 0 Aq F0 Aw5 hc;intro x hx;obtain⟨k,hk,rfl⟩:=List.getElem_of_mem hx;exact this k F0 hk
theorem zW{bits:Int}(h:Dd bits){l:LX}(hl:l.length<=4000)(hc:Bq bits l=some 0):Rp bits l=some (Nw bits l,0):=by
 have h1:=Adc h l hl (Q6 h hl hc) l.length 0 Aq F0 Aw5;rw[Rp,RK,C7 h l hl,hc,Aa,Aam Aw8];exact h1
theorem Al0{bits:Int}(h:Dd bits)(x:Int32)(hr: -(hB bits)<=x.toInt/\x.toInt<hB bits):HQ bits x=some (jH bits x.toInt):=by
 have hx:=FL x;have gu:∀z:Int,(Ad z:UInt8)=u8 z:=λz=>rfl;have hq:∀n:Int,0<=n->n<=20000000->Cq n (256:Int)=n/256/\Cq n (65536:Int)=n/65536:=by
  intro n h1 h2;constructor<;>(rw[MG,Atz h1,Cz F0 F0])
 have hm:∀n:Int,0<=n->Ho n (256:Int)=n %256:=λn h1=>by rw[Ho,Avw h1]
 rw[HQ,NY,Fv];obtain rfl|rfl|rfl:=h
 ·rw[Aao Axp,Ak,gu,jH,Aao rfl]
 ·have hh:hB 16=32768:=rfl;rw[hh]at hr;have hp:∀n:Int,0<=n->n<=70000->u8 n=u8 x.toInt->u8 (n/256)=u8 (x.toInt/256)->Me 16 n=some (jH 16 x.toInt):=by
   intro n h1 h2 h3 h4;rw[Me,Ym,Aam Axq,hm n h1,(hq n h1 F0).1,hm _ F0,gu,gu,S0,S0,h3,h4,jH,Aam Aw2,Aao rfl]
  rw[Aam Axq];by_cases hn:x.toInt<0
  ·rw[Aao (by rw[Af];simpa using hn),uM (.inr (.inl rfl)),Aa,hh,Jj,Ak];refine hp _ F0 F0 ?_ ?_
   ·rw[u8,u8];congr 2;omega
   ·rw[u8,u8];congr 2;omega
  ·rw[Aam (by rw[Af];simpa using hn)];exact hp _ F0 F0 rfl rfl
 ·have hh:hB 24=8388608:=rfl;rw[hh]at hr;have hp:∀n:Int,0<=n->n<=16777215->u8 n=u8 x.toInt->u8 (n/256)=u8 (x.toInt/256)->u8 (n/65536)=u8 (x.toInt/65536)->Me 24 n=some (jH 24 x.toInt):=by
   intro n h1 h2 h3 h4 h5;rw[Me,Ym,Aao Axp,hm n h1,(hq n h1 F0).1,(hq n h1 F0).2,hm _ F0,gu,gu,gu,S0,S0,h3,h4,h5,Cu Aw7,Aa,jH,Aam Aw2,Aam Aw2];rfl
  rw[Aam Axq];by_cases hn:x.toInt<0
  ·rw[Aao (by rw[Af];simpa using hn),uM (.inr (.inr rfl)),Aa,hh,Jj,Ak];refine hp _ F0 F0 ?_ ?_ ?_
   ·rw[u8,u8];congr 2;omega
   ·rw[u8,u8];congr 2;omega
   ·rw[u8,u8];congr 2;omega
  ·rw[Aam (by rw[Af];simpa using hn)];exact hp _ F0 F0 rfl rfl rfl
theorem Ac9{bits:Int}(h:Dd bits)(l:LX)(hl:l.length<=4000)(hr:inR bits l):∀(j i q:Nat),i+j=l.length->j<q->Jw bits l q (i:Int) (Nw bits (l.take i))=some (Nw bits l,0)
 |0,i,q+1,hi,_=>by
  rw[Jw,Ug,Aam F2,Au1 F0];rfl
 |j+1,i,q+1,hi,hq=>by
  have hlt:i<l.length:=F0
  have ih:=Ac9 h l hl hr j (i+1) q F0 F0;have hlen:=IW bits (l.take i);have hol:=Z7 bits l[i].toInt;rw[Ajz]at hlen;have e2:Nw bits (l.take i++[l[i]])=Nw bits (l.take i)++jH bits l[i].toInt:=by unfold Nw;rw[List.flatMap_append,List.flatMap_singleton]
  rw[PD hlt,e2]at ih;rw[Jw,Ug,Aao F2,Cm hlt,Aa,Al0 h _ (hr l[i] (Ar3 _)),Aa,Cu,Aa,Ak];exact ih
theorem iL{bits:Int}(h:Dd bits){l:LX}(hl:l.length<=4000)(hc:Bq bits l=some 0):Ry bits l=some (Nw bits l,0):=by
 have h1:=Ac9 h l hl (Q6 h hl hc) l.length 0 Aq F0 Aw5;rw[Ry,HF,hc,Aa,Aam Aw8];exact h1
theorem Axw{p:Prop}(h:p:=by rw[El,Ac,Ac];simp;omega):p:=h
theorem Axy{p:Prop}(h:p:=by rw[Ak]<;>omega):p:=h
end Go.Pl
namespace Go.Pl
open Go Go.Lv
variable{b:LB}{p:Prop}
def VI:LB->Nat->Int×Int
 |[],n=>((n:Int),0)
 |c::r,n=>if 128<=c.toNat then(0,12)else VI r (128*n+c.toNat)
theorem Ae1:∀(l:LB) (n k:Nat),n<128^k->0<= (VI l n).1/\ (VI l n).1<((128^(k+l.length):Nat):Int)
 |[],n,k,h=>by simp[VI];exact_mod_cast h
 |c::r,n,k,h=>by
  rw[VI];split
  ·have:0<128^(k+(c::r).length):=Avr F0;exact⟨Int.le_refl _,by simp only;exact_mod_cast this⟩
  ·have:=Ae1 r (128*n+c.toNat) (k+1) (by rw[Ard];omega);rw[Ar0,show k+(r.length+1)=k+1+r.length by omega];exact this
theorem or7(n c:Nat)(hn:n<268435456)(hc:c<128):uW (Eh (n:Int) (GI.toZ (7:UInt64)).toNat) (c:Int)=((128*n+c:Nat):Int):=by
 have e:(GI.toZ (7:UInt64)).toNat=7:=rfl;have h1:Eh (n:Int) 7=((2^7*n:Nat):Int):=by
  have:Eh (n:Int) 7=wrap64 ((n:Int)*2^7):=rfl;rw[this,Cz F0 F0];omega
 rw[e,h1];have h2:uW ((2^7*n:Nat):Int) (c:Int)=wrap64 ((BitVec.ofInt 64 ((2^7*n:Nat):Int)|||BitVec.ofInt 64 (c:Int)).toNat:Int):=rfl;rw[h2,BitVec.toNat_or,Aut,Aut];have h3:(((2^7*n:Nat):Int) %((2^64:Nat):Int)).toNat=2^7*n:=F0
 have h4:((c:Int) %((2^64:Nat):Int)).toNat=c:=F0
 rw[h3,h4,<-Atc (by simpa using hc),Cz F0 F0]
theorem Aer(b:LB)(hb:b.length=4):∀(j i q n:Nat),i+j=4->j<q->n<128^i->Mw b q (n:Int) (i:Int)=some (VI (b.drop i) n)
 |0,i,q+1,n,hi,_,_=>by
  rw[Mw,Xg,Aam F2,show b.drop i=[] by simp;omega];rfl
 |j+1,i,q+1,n,hi,hq,hn=>by
  have hlt:i<b.length:=F0
  have hn2:n<268435456:=Apd hn (show 128^i<=128^4 from Aec F0 F0);rw[Mw,Xg,Aao F2,Cm hlt,Aa,drop_cons hlt,VI,Ak5];by_cases hc:128<=b[i].toNat
  ·rw[Aao Aw3,Aao hc]
  ·rw[Aam Aw3,Aam hc,PF,or7 n _ hn2 F0,Ak];exact Aer b hb j (i+1) q _ F0 F0 (by rw[Ard];omega)
theorem Ak2(b:LB)(hb:b.length=4):∀(j i q n:Nat),i+j=4->j<q->n<128^i->Ka b q (n:Int) (i:Int)=some (VI (b.drop i) n)
 |0,i,q+1,n,hi,_,_=>by
  rw[Ka,Uj,Aam Aw4,show b.drop i=[] by simp;omega];rfl
 |j+1,i,q+1,n,hi,hq,hn=>by
  have hlt:i<b.length:=F0
  have hn2:n<268435456:=Apd hn (show 128^i<=128^4 from Aec F0 F0);rw[Ka,Uj,Aao Aw4,Cm hlt,Aa,drop_cons hlt,VI,Ajg];have h128:(128:UInt8).toNat=128:=rfl;by_cases hc:128<=b[i].toNat
  ·rw[Aao (by simpa using hc),Aao hc]
  ·have h3:=b[i].toNat_lt;rw[Aam (by simpa using hc),Aam hc,Aa,PF,Jj,Ak,Ak];have:=Ak2 b hb j (i+1) q (128*n+b[i].toNat) F0 F0 (by rw[Ard];omega);rw[<-this];rfl
theorem Abj(b:LB)(hb:b.length=4):JC b=some (VI b 0):=by
 have h:=Aer b hb 4 0 Aq 0 F0 Aw5 Aw7;rw[JC,IU,Aam (by rw[Am,Ac];simp;omega),WI];exact h
theorem Ag1(b:LB)(hb:b.length=4):AT b=some (VI b 0):=by
 have h:=Ak2 b hb 4 0 Aq 0 F0 Aw5 Aw7;rw[AT,HG,Aam (by rw[Am,Ac];simp;omega),GQ];exact h
theorem Aa6(hb:b.length=4):0<= (VI b 0).1/\ (VI b 0).1<268435456:=by
 have:=Ae1 b 0 0 Aw7;rw[hb]at this;simpa using this
theorem ZR(s p:LB):Lr s p=some (decide (p.length<=s.length/\s.take p.length=p)):=by
 rw[Lr];by_cases h:p.length<=s.length
 ·rw[Aao Axw,show Ac p=(p.length:Int)from rfl,Di,Aa,Ji,Aa,Aly];congr 1;rw[Ak7];simp[h]
 ·rw[Aam Axw];simp[h]
def WU(b:LB)(n:Int):Int×Int:=
 if 4000<n then(0,4)else if(b.length:Int)<n then(0,24)else
 if b.getD 5 0=16/\ (b.take n.toNat).drop (n-10).toNat≠ [51,68,73]++part b 3 7 then(0,12)else(n,0)
def uU(b:LB)(r:Int):Int×Int:=WU b (r+10+(if b.getD 5 0=16 then 10 else 0))
def Xu(b:LB):Int×Int:=
 if ¬(3<=b.length/\b.take 3=[73,68,51])then(0,6)else if b.length<10 then(0,24)else
 if(VI (part b 6 4) 0).2≠0\/b.getD 4 0≠0\/ ¬((b.getD 5 0=0/\2<= (b.getD 3 0).toNat/\ (b.getD 3 0).toNat<=4)\/ (b.getD 5 0=16/\b.getD 3 0=4))then(0,12)else
 uU b (VI (part b 6 4) 0).1
theorem lN{i:Nat}(h:i<b.length):Ah b (i:Int)=some (b.getD i 0):=by
 rw[Cm h];simp[List.getD_eq_getElem?_getD,h]
theorem Po(a w:Nat)(h:a+w<=b.length:=by omega):Bl b (a:Int) ((a+w:Nat):Int)=some (part b a w):=by
 rw[ME];rfl
theorem Am6(b:LB)(r:Int)(h10:10<=b.length)(h0:0<=r)(h1:r<268435456):Vw b r=some (uU b r):=by
 have g5:Ah b (5:Int)=some (b.getD 5 0):=lN (i:=5) F0;have key:∀n:Int,10<=n->n<268435500->Vq b n=some (WU b n):=by
  intro n hn hn2;rw[Vq,KP,WU];by_cases c1:4000<n
  ·rw[Aao (by rw[As];simpa using c1),Aao c1]
  ·rw[Aam (by rw[As];simpa using c1),Aam c1];by_cases c2:(b.length:Int)<n
   ·rw[Aao (by rw[Af,Ac];simpa using c2),Aao c2]
   ·have e3:Bl b (3:Int) (10:Int)=some (part b 3 7):=Po 3 7;rw[Aam (by rw[Af,Ac];simpa using c2),Aam c2,g5,Aa];by_cases c3:b.getD 5 0=16
    ·rw[Aao (by rw[VJ];simpa using c3),Cr,ME,Aa,e3,Aa,Cu (by rw[Ec];simp),Aa];by_cases c4:(b.take n.toNat).drop (n-10).toNat=[51,68,73]++part b 3 7
     ·rw[Aam (by simpa using c4),Aam (by intro h;exact h.2 c4)]
     ·rw[Aao (by simpa using c4),Aao ⟨c3,c4⟩]
    ·rw[Aam (by rw[VJ];simpa using c3),Aam (λh=>c3 h.1)]
 rw[Vw,JS,g5,Aa,uU];by_cases c3:b.getD 5 0=16
 ·rw[Aao (by rw[VJ];simpa using c3),Ak Axy Axy,Ak,key _ F0 F0,Aao c3,show 10+r+10=r+10+10 by omega]
 ·rw[Aam (by rw[VJ];simpa using c3),Ak,key _ F0 F0,Aam c3,show 10+r=r+10+0 by omega]
theorem Akg(b:LB)(hb:b.length<4611686018427387904):DP b=some (Xu b):=by
 rw[DP,JW,Xu];by_cases h3:3<=b.length
 ·rw[Aam F2,Di,Aa];by_cases hp:b.take 3=[73,68,51]
  ·rw[Aam (by simpa using hp),Aam (by simp[h3,hp]),LW,KC];by_cases h10:b.length<10
   ·rw[Aao F2,Aao h10]
   ·have e6:Bl b (6:Int) (10:Int)=some (part b 6 4):=Po 6 4;have g3:Ah b (3:Int)=some (b.getD 3 0):=lN (i:=3) F0;have g4:Ah b (4:Int)=some (b.getD 4 0):=lN (i:=4) F0;have g5:Ah b (5:Int)=some (b.getD 5 0):=lN (i:=5) F0;obtain⟨v1,v2⟩:=Aa6 (b:=part b 6 4) (Ec);rw[Aam F2,Aam h10,e6,Aa,Ag1 _ (Ec),Aa];have ht:=Am6 b (VI (part b 6 4) 0).1 F0 v1 v2;generalize VI (part b 6 4) 0=v at*
    obtain⟨v,e⟩:=v;simp only at ht v1 v2⊢;simp only[Aa,g3,g4,g5,ht];generalize b.getD 3 0=x at*
    generalize b.getD 4 0=y at*
    generalize b.getD 5 0=z at*
    simp only[Abx,Aqq,Ak5,Am];by_cases he:e=0<;>by_cases hy:y=0<;>by_cases hz:z=0<;>by_cases hz2:z=16<;>by_cases hx:x=4<;>by_cases hx2:x.toNat<2<;>by_cases hx4:4<x.toNat<;>simp_all<;>(rw[Aam F0,Aam F0])
  ·rw[Aao (by simpa using hp),Aao (by simp[hp])]
 ·rw[Aao F2,Aao (by simp[h3])]
theorem K6(b:LB)(n:Int)(h10:10<=b.length)(hn:10<=n)(hn2:n<268435500):MI b (b.getD 5 0) n=some (WU b n):=by
 rw[MI,bP];by_cases c1:4000<n
 ·rw[Aao (by rw[As];simpa using c1),WU,Aao c1]
 ·rw[Aam (by rw[As];simpa using c1)];by_cases c2:(b.length:Int)<n
  ·rw[Aao (by rw[Af,Ac];simpa using c2),WU,Aam c1,Aao c2]
  ·have e3:Bl b (3:Int) (10:Int)=some (part b 3 7):=Po 3 7;rw[Aam (by rw[Af,Ac];simpa using c2)];by_cases c3:b.getD 5 0=16
   ·have hl:((b.take n.toNat).drop (n-10).toNat).length=10:=by simp;omega
    have ht:WU b n=if(b.take n.toNat).drop (n-10).toNat≠ [51,68,73]++part b 3 7 then(0,12)else(n,0):=by rw[WU,Aam c1,Aam c2];simp only[c3,true_and]
    rw[Aao (by rw[VJ];simpa using c3),Cr,ME,Aa,ht];generalize(b.take n.toNat).drop (n-10).toNat=f at*
    rw[Di,Aa,Dm,Aa,e3,Aa,Ji,Aa];have hf:f=f.take 3++f.drop 3:=(Av9 3 f).symm;by_cases c4:f=[51,68,73]++part b 3 7
    ·subst c4;simp
    ·by_cases c5:f.take 3=[51,68,73]
     ·have:f.drop 3≠part b 3 7:=λh=>c4 (by rw[hf,c5,h]);simp only[Av2,Aqf]at c4;simp[c4,c5,this]
     ·simp only[Av2,Aqf]at c4;simp[c4,c5]
   ·rw[Aam (by rw[VJ];simpa using c3),WU,Aam c1,Aam c2,Aam (λh=>c3 h.1)]
theorem Aju(b:LB)(r:Int)(h10:10<=b.length)(h0:0<=r)(h1:r<268435456):NB b r (b.getD 5 0)=some (uU b r):=by
 rw[NB,bZ,uU];by_cases c3:b.getD 5 0=16
 ·rw[Aao (by rw[VJ];simpa using c3),Ak Axy Axy,Ak,K6 b _ h10 F0 F0,Aao c3]
 ·rw[Aam (by rw[VJ];simpa using c3),Ak,K6 b _ h10 F0 F0,Aam c3];simp
theorem Agw(b:LB)(hb:b.length<4611686018427387904):OK b=some (Xu b):=by
 rw[OK,Zu,ZR,Aa];by_cases hp:3<=b.length/\b.take 3=[73,68,51]
 ·rw[Aam (by simpa using hp)];by_cases h10:b.length<10
  ·rw[Aao F2,Xu,Aam (λh=>h hp),Aao h10]
  ·have e6:Bl b (6:Int) (10:Int)=some (part b 6 4):=Po 6 4;have g3:Ah b (3:Int)=some (b.getD 3 0):=lN (i:=3) F0;have g4:Ah b (4:Int)=some (b.getD 4 0):=lN (i:=4) F0;have g5:Ah b (5:Int)=some (b.getD 5 0):=lN (i:=5) F0;obtain⟨v1,v2⟩:=Aa6 (b:=part b 6 4) (Ec);have ht:=Aju b (VI (part b 6 4) 0).1 F0 v1 v2;rw[Aam F2,g3,Aa,g5,Aa,ML,NA,e6,Aa,Abj _ (Ec),Aa,Xu,Aam (λh=>h hp),Aam h10];generalize VI (part b 6 4) 0=v at*
   obtain⟨v,e⟩:=v;simp only at ht v1 v2⊢;simp only[Aa,g4,MB,bE];generalize b.getD 3 0=x at*
   generalize b.getD 4 0=y at*
   generalize b.getD 5 0=z at*
   simp only[Abx,Ark,VJ,Ajg,Am];have e2:(2:UInt8).toNat=2:=rfl;have e4:(4:UInt8).toNat=4:=rfl;by_cases he:e=0<;>by_cases hy:y=0<;>by_cases hz:z=0<;>by_cases hz2:z=16<;>by_cases hx:x=4<;>by_cases hx2:2<=x.toNat<;>by_cases hx4:x.toNat<=4<;>simp_all
 ·rw[Aao (by rw[Aph,Ar4];exact hp),Xu,Aao hp]
theorem Alj{n:Int}(h:Xu b=(n,0)):10<=n/\n<=b.length/\n<=4000:=by
 unfold Xu at h;split at h; · simp at h
 split at h; · simp at h
 split at h; · simp at h
 rename_i h10 _;obtain⟨v1,v2⟩:=Aa6 (b:=part b 6 4) (Ec);unfold uU at h;generalize hm:(VI (part b 6 4) 0).1+10+(if b.getD 5 0=16 then 10 else 0)=m at h;unfold WU at h;split at h; · simp at h
 split at h; · simp at h
 split at h; · simp at h
 simp only[Aea,Aw0]at h;subst h;refine⟨?_,F0,F0⟩;rw[<-hm];split<;>omega
theorem Axz(h:p:=by rw[Af,Ac];simp):p:=h
theorem Axf(h:p:=by rw[Ec];omega):p:=h
theorem Axr(h:p:=by simp[Pk]):p:=h
end Go.Pl
namespace Go.Pl
open Go Go.Lv
def wK:LB:=[65,80,69,84,65,71,69,88]
def Oy(n m fl:Nat):LB:=wK++GJ 2000 4++GJ (n+32) 4++GJ m 4++GJ fl 4++List.replicate 8 0
theorem UU{n:Nat}(h:n<18446744073709551616):(UInt64.ofNat n).toNat=n:=by rw[Ahl,Ab6 h]
theorem iX(n m:Int)(fl:UInt64)(c:UInt64)(i q:Nat)(acc:LB)(hi:i<6)(hc:Ah ([(2000:UInt64),(Ad (Ae n (32:Int)):UInt64),(Ad m:UInt64),fl,(0:UInt64),(0:UInt64)]:LQ) (i:Int)=some c)(h:c.toNat<4294967296)(ha:acc.length<=1000000):
  BH n m fl (q+1) (i:Int) acc=BH n m fl q ((i+1:Nat):Int) (acc++GJ c.toNat 4):=by
 have hb:=C9 c 4 F0 F0 (by simpa using h);rw[BH,ZU,Aao F2,hc,Aa,Aa,show((4:Int))=((4:Nat):Int)from rfl,hb,Aa];simp only;rw[Cu (by rw[Pk];omega),Aa,Ak];rfl
theorem xU(n m:Nat)(fl:UInt64)(hn:n<=3000)(hm:m<=1000)(hf:fl.toNat<4294967296):iJ (n:Int) (m:Int) fl=some (Oy n m fl.toNat):=by
 have e1:(Ad (Ae (n:Int) (32:Int)):UInt64).toNat=n+32:=by rw[Ak,show(n:Int)+32=((n+32:Nat):Int) by omega,Xq,UU F0]
 have e2:(Ad (m:Int):UInt64).toNat=m:=by rw[Xq,UU F0]
 have hF:Aq=(Aq-7)+1+1+1+1+1+1+1:=by have:=Ar;omega
 rw[iJ,mR,yH,hF];rw[show((0:Int))=((0:Nat):Int)from rfl,iX n m fl 2000 0 _ _ F0 rfl Aw2 Aw7,iX n m fl _ 1 _ _ F0 rfl (by rw[e1];omega) Axr,iX n m fl _ 2 _ _ F0 rfl (by rw[e2];omega) Axr,
  iX n m fl fl 3 _ _ F0 rfl hf Axr,iX n m fl 0 4 _ _ F0 rfl Aw2 Axr,iX n m fl 0 5 _ _ F0 rfl Aw2 Axr,e1,e2]
 rw[BH,ZU,Aam Axz,mE,C6,Oy];have z:GJ (0:UInt64).toNat 4++GJ (0:UInt64).toNat 4=List.replicate 8 0:=Aw2
 have z2:GJ (2000:UInt64).toNat 4=GJ 2000 4:=rfl;rw[Alw _ (GJ (0:UInt64).toNat 4),z,z2];rfl
theorem qS(n m:Nat)(fl:UInt64)(hn:n<=3000)(hm:m<=1000)(hf:fl.toNat<4294967296):Rb (n:Int) (m:Int) fl=some (Oy n m fl.toNat):=by
 have e1:(Ad (Ae (n:Int) (32:Int)):UInt64).toNat=n+32:=by rw[Ak,show(n:Int)+32=((n+32:Nat):Int) by omega,Xq,UU F0]
 have e2:(Ad (m:Int):UInt64).toNat=m:=by rw[Xq,UU F0]
 have w:∀c:UInt64,Em c 4=some (GJ c.toNat 4):=λc=>B0 c 4 F0;have z2:GJ (2000:UInt64).toNat 4=GJ 2000 4:=rfl;rw[Rb];simp only[w,e1,e2,Aa];rw[Cu Axr,Aa,Cu Axr,Aa,Cu Axr,Aa,Cu Axr,Aa,D4,Aa,Cu Axr,Aa,z2];rfl
theorem PB{b:LB}{a w k:Nat}(h:a+w<=k):part (b.take k) a w=part b a w:=by rw[part,part,List.take_take,Asn h]
def CQ(b:LB):Bool:=decide (Eu (part b 12 4)<32\/3032<Eu (part b 12 4)\/1000<Eu (part b 16 4))
theorem Aky(b:LB)(h:20<=b.length):(((Ck (kP (part b 12 4)) (32:UInt64))||(Du (kP (part b 12 4)) (3032:UInt64)))||(Du (kP (part b 16 4)) (1000:UInt64)))=CQ b:=by
 rw[wO,TQ,TQ,UW Axf,UW Axf,CQ];show((decide (Eu (part b 12 4)<32)||decide (3032<Eu (part b 12 4)))||decide (1000<Eu (part b 16 4)))=_;simp[Bool.or_assoc]
theorem sA(b:LB)(h:20<=b.length)(hb:CQ b=false):Al (Ad (kP (part b 12 4)):Int) (32:Int)=((Eu (part b 12 4)-32:Nat):Int)/\ (Ad (kP (part b 16 4)):Int)=((Eu (part b 16 4):Nat):Int)/\Eu (part b 12 4)-32<=3000/\Eu (part b 16 4)<=1000:=by
 simp only[CQ,Ar4]at hb;refine⟨?_,JI Axf,F0,F0⟩;rw[JI Axf,Cr];omega
theorem ZZ(b:LB)(fl:UInt64)(h:20<=b.length)(hl:b.length<4611686018427387904)(hf:fl.toNat<4294967296):
  PG b fl=some (if CQ b=true then(0,0,false)else(((Eu (part b 12 4)-32:Nat):Int),((Eu (part b 16 4):Nat):Int),b==Oy (Eu (part b 12 4)-32) (Eu (part b 16 4)) fl.toNat)):=by
 have a1:XQ b 12 4=some (kP (part b 12 4),0):=L8 b 12 4 F0 F0 F0 hl;have a2:XQ b 16 4=some (kP (part b 16 4),0):=L8 b 16 4 F0 F0 F0 hl;rw[PG,a1,Aa];simp only;rw[a2,Aa];simp only;rw[Aky b h];cases hb:CQ b with
 |true=>rfl
 |false=>
  obtain⟨i1,i2,i3,i4⟩:=sA b h hb;rw[i1,i2,xU _ _ _ i3 i4 hf];rfl
theorem Z9(b:LB)(h:20<=b.length)(hl:b.length<4611686018427387904):
  Us b=some (if CQ b=true then(0,0,false)else(((Eu (part b 12 4)-32:Nat):Int),((Eu (part b 16 4):Nat):Int),true)):=by
 have a1:Bl b 12 16=some (part b 12 4):=Po 12 4;have a2:Bl b 16 20=some (part b 16 4):=Po 16 4;rw[Us,a1,Aa,wo _ Axf,Aa,a2,Aa,wo _ Axf,Aa,Aky b h];cases hb:CQ b with
 |true=>rfl
 |false=>
  obtain⟨i1,i2,i3,i4⟩:=sA b h hb;rw[i1,i2];rfl
def Jl(b:LB):Int×Int:=
 if ¬(8<=b.length/\b.take 8=wK)then(0,6)else if b.length<32 then(0,24)else
 if CQ b=true\/b.take 32≠Oy (Eu (part b 12 4)-32) (Eu (part b 16 4)) 2684354560 then(0,12)else
 if b.length<Eu (part b 12 4)+32 then(0,24)else
 if(b.take (Eu (part b 12 4)+32)).drop (Eu (part b 12 4))≠Oy (Eu (part b 12 4)-32) (Eu (part b 16 4)) 2147483648 then(0,12)else(((Eu (part b 12 4)+32:Nat):Int),0)
theorem nu(b:LB):CQ (b.take 32)=CQ b:=by rw[CQ,CQ,PB F0,PB F0]
section
variable {b:LB}
theorem fa1(h:¬(8<=b.length/\b.take 8=wK)):Jl b=(0,6):=by rw[Jl,Aao h]
theorem fa2(h:8<=b.length/\b.take 8=wK)(h2:b.length<32):Jl b=(0,24):=by rw[Jl,Aam (λh'=>h' h),Aao h2]
variable (h:8<=b.length/\b.take 8=wK) (h2:¬b.length<32)
include h h2
theorem fa3(h3:CQ b=true):Jl b=(0,12):=by rw[Jl,Aam (λh'=>h' h),Aam h2,Aao (.inl h3)]
theorem fa4(h4:b.take 32≠Oy (Eu (part b 12 4)-32) (Eu (part b 16 4)) 2684354560):Jl b=(0,12):=by rw[Jl,Aam (λh'=>h' h),Aam h2,Aao (.inr h4)]
variable (h3:CQ b=false) (h4:b.take 32=Oy (Eu (part b 12 4)-32) (Eu (part b 16 4)) 2684354560)
include h3 h4
theorem fa5(h5:b.length<Eu (part b 12 4)+32):Jl b=(0,24):=by
 rw[Jl,Aam (λh'=>h' h),Aam h2,Aam (λh'=>h'.elim (λe=>by rw[h3]at e;cases e) λe=>e h4),Aao h5]
theorem fa6(h5:¬b.length<Eu (part b 12 4)+32)(h6:(b.take (Eu (part b 12 4)+32)).drop (Eu (part b 12 4))≠Oy (Eu (part b 12 4)-32) (Eu (part b 16 4)) 2147483648):Jl b=(0,12):=by
 rw[Jl,Aam (λh'=>h' h),Aam h2,Aam (λh'=>h'.elim (λe=>by rw[h3]at e;cases e) λe=>e h4),Aam h5,Aao h6]
theorem fa7(h5:¬b.length<Eu (part b 12 4)+32)(h6:(b.take (Eu (part b 12 4)+32)).drop (Eu (part b 12 4))=Oy (Eu (part b 12 4)-32) (Eu (part b 16 4)) 2147483648):Jl b=(((Eu (part b 12 4)+32:Nat):Int),0):=by
 rw[Jl,Aam (λh'=>h' h),Aam h2,Aam (λh'=>h'.elim (λe=>by rw[h3]at e;cases e) λe=>e h4),Aam h5,Aam (λh'=>h' h6)]
end
theorem Abc(b:LB)(hl:b.length<4611686018427387904):iM b=some (Jl b):=by
 rw[iM,ZR,Aa];by_cases hp:8<=b.length/\b.take 8=wK
 ·rw[Aam (by simpa [wK]using hp)];by_cases h32:b.length<32
  ·rw[Aao F2,fa2 hp h32]
  ·have t:=ZZ (b.take 32) 2684354560 Aw3 Aw3 Aw2;rw[nu,PB F0,PB F0]at t;rw[Aam F2,Di,Aa,show(32:Int).toNat=32 from rfl,t,Aa];cases hb:CQ b with
   |true=>rw[fa3 hp h32 hb];simp
   |false=>
    obtain⟨i1,i2,i3,i4⟩:=sA b F0 hb;have i5:32<=Eu (part b 12 4):=by simp only[CQ,Ar4]at hb;omega
    simp only[Apq,Avq,false_or];by_cases c1:b.take 32=Oy (Eu (part b 12 4)-32) (Eu (part b 16 4)) 2684354560
    ·have c1':b.take 32=Oy (Eu (part b 12 4)-32) (Eu (part b 16 4)) (2684354560:UInt64).toNat:=c1;rw[Aam (by simpa using c1'),Ak];have e1:((Eu (part b 12 4)-32:Nat):Int)+64=((Eu (part b 12 4)+32:Nat):Int):=F0
     rw[e1];by_cases c2:b.length<Eu (part b 12 4)+32
     ·rw[Aao F2,fa5 hp h32 hb c1 c2]
     ·rw[Aam F2,Cr,ME,Aa,xU _ _ _ i3 i4 Aw2,Aa,Ji,Aa];rw[show(((Eu (part b 12 4)+32:Nat):Int)).toNat=Eu (part b 12 4)+32 by omega,show(((Eu (part b 12 4)+32:Nat):Int)-32).toNat=Eu (part b 12 4) by omega];by_cases c3:(b.take (Eu (part b 12 4)+32)).drop (Eu (part b 12 4))=Oy (Eu (part b 12 4)-32) (Eu (part b 16 4)) 2147483648
      ·have c3':(b.take (Eu (part b 12 4)+32)).drop (Eu (part b 12 4))=Oy (Eu (part b 12 4)-32) (Eu (part b 16 4)) (2147483648:UInt64).toNat:=c3;rw[Aam (by simpa using c3'),fa7 hp h32 hb c1 c2 c3]
      ·have c3':¬(b.take (Eu (part b 12 4)+32)).drop (Eu (part b 12 4))=Oy (Eu (part b 12 4)-32) (Eu (part b 16 4)) (2147483648:UInt64).toNat:=c3;rw[Aao (by simpa using c3'),fa6 hp h32 hb c1 c2 c3]
    ·have c1':¬b.take 32=Oy (Eu (part b 12 4)-32) (Eu (part b 16 4)) (2684354560:UInt64).toNat:=c1;rw[Aao (by simpa using c1'),fa4 hp h32 c1]
 ·rw[Aao (by rw[Aph,Ar4];exact hp),fa1 hp]
theorem Afx(b:LB)(hl:b.length<4611686018427387904):AM b=some (Jl b):=by
 rw[AM,GO];by_cases h8:8<=b.length
 ·rw[Aam F2,Di,Aa,show(8:Int).toNat=8 from rfl];by_cases ha:b.take 8=wK
  ·have hp:=And.intro h8 ha;rw[Aam (by simpa [wK]using ha),HA,GR];by_cases h32:b.length<32
   ·rw[Aao F2,fa2 hp h32]
   ·have t:=Z9 (b.take 32) Aw3 Aw3;rw[nu,PB F0,PB F0]at t;rw[Aam F2,Di,Aa,show(32:Int).toNat=32 from rfl,t,Aa];cases hb:CQ b with
    |true=>rw[fa3 hp h32 hb];simp
    |false=>
     obtain⟨i1,i2,i3,i4⟩:=sA b F0 hb;have i5:32<=Eu (part b 12 4):=by simp only[CQ,Ar4]at hb;omega
     simp only[Apq,Avq,false_or,Aa,Av8];rw[Uz,qS _ _ _ i3 i4 Aw2,Aa,Aa];by_cases c1:b.take 32=Oy (Eu (part b 12 4)-32) (Eu (part b 16 4)) 2684354560
     ·have c1':b.take 32=Oy (Eu (part b 12 4)-32) (Eu (part b 16 4)) (2684354560:UInt64).toNat:=c1;rw[Aam (by simpa using c1'),HN,HB,Ak];have e1:64+((Eu (part b 12 4)-32:Nat):Int)=((Eu (part b 12 4)+32:Nat):Int):=F0
      rw[e1];by_cases c2:b.length<Eu (part b 12 4)+32
      ·rw[Aao F2,fa5 hp h32 hb c1 c2]
      ·rw[Aam F2,Cr,ME,Aa,Lp,Aao rfl,qS _ _ _ i3 i4 Aw2,Aa,Aa];rw[show(((Eu (part b 12 4)+32:Nat):Int)).toNat=Eu (part b 12 4)+32 by omega,show(((Eu (part b 12 4)+32:Nat):Int)-32).toNat=Eu (part b 12 4) by omega];by_cases c3:(b.take (Eu (part b 12 4)+32)).drop (Eu (part b 12 4))=Oy (Eu (part b 12 4)-32) (Eu (part b 16 4)) 2147483648
       ·have c3':(b.take (Eu (part b 12 4)+32)).drop (Eu (part b 12 4))=Oy (Eu (part b 12 4)-32) (Eu (part b 16 4)) (2147483648:UInt64).toNat:=c3;rw[Aam (by simpa using c3'),fa7 hp h32 hb c1 c2 c3]
       ·have c3':¬(b.take (Eu (part b 12 4)+32)).drop (Eu (part b 12 4))=Oy (Eu (part b 12 4)-32) (Eu (part b 16 4)) (2147483648:UInt64).toNat:=c3;rw[Aao (by simpa using c3'),fa6 hp h32 hb c1 c2 c3]
     ·have c1':¬b.take 32=Oy (Eu (part b 12 4)-32) (Eu (part b 16 4)) (2684354560:UInt64).toNat:=c1;rw[Aao (by simpa using c1'),fa4 hp h32 c1]
  ·rw[Aao (by simpa [wK]using ha),fa1 (λh=>ha h.2)]
 ·rw[Aao F2,fa1 (λh=>h8 h.1)]
theorem Ag4{b:LB}{n:Int}(h:Jl b=(n,0)):64<=n/\n<=b.length:=by
 unfold Jl at h;split at h; · simp at h
 split at h; · simp at h
 split at h; · simp at h
 rename_i hb;split at h; · simp at h
 split at h; · simp at h
 simp only[Aea,Aw0]at h;have hb':¬CQ b=true:=λe=>hb (.inl e);simp only[CQ,Acb]at hb';omega
def Cs(b:LB):Int×Int:=if(Xu b).2≠6 then Xu b else Jl b
theorem size_eq(b:LB)(hl:b.length<4611686018427387904):Wb b=some (Cs b):=by
 rw[Wb,Agw b hl,Aa,Abc b hl];by_cases h:(Xu b).2=6
 ·simp[Cs,h,Am]
 ·simp[Cs,h,Am]
theorem gC{b:LB}{n:Int}(h:Cs b=(n,0)):10<=n/\n<=b.length:=by
 unfold Cs at h;split at h
 ·have:=Alj h;omega
 ·have:=Ag4 h;omega
def Cg(b:LB):Nat->Nat->LI×Int
 |0,_=>([],6)
 |j+1,p=>if(Cs (b.drop p)).2=6 then([],0)else if(Cs (b.drop p)).2≠0 then([],(Cs (b.drop p)).2)else
  if 4000<(p:Int)+(Cs (b.drop p)).1 then([],4)else
  if(Cg b j (p+(Cs (b.drop p)).1.toNat)).2=0 then((Cs (b.drop p)).1::(Cg b j (p+(Cs (b.drop p)).1.toNat)).1,0)else([],(Cg b j (p+(Cs (b.drop p)).1.toNat)).2)
theorem iZ(b:LB):∀(j p:Nat),p<=b.length->p<=4000-> (Cg b j p).2=0-> (∀x∈(Cg b j p).1,10<=x)/\ (p:Int)+(Cg b j p).1.sum<=b.length/\ (p:Int)+(Cg b j p).1.sum<=4000
 |0,p,_,_,h=>by simp[Cg]at h
 |j+1,p,hp,hq,h=>by
  rw[Cg]at h⊢;split at h
  ·rename_i h6;rw[Aao h6];simp;omega
  ·rename_i h6;split at h
   ·rename_i h0;exact absurd h h0
   ·rename_i h0;rw[Aam h6,Aam h0];have hz:Cs (b.drop p)=((Cs (b.drop p)).1,0):=by rw[Prod.ext_iff];exact⟨rfl,Classical.not_not.1 h0⟩
    have hs:=gC hz;rw[Aiq]at hs;split at h
    ·simp at h
    ·rename_i h4;rw[Aam h4];split at h
     ·rename_i h00;rw[Aao h00];obtain⟨i1,i2,i3⟩:=iZ b j _ F0 F0 h00;refine⟨λx hx=>?_,?_,?_⟩
      ·rcases List.mem_cons.1 hx with rfl|hx
       ·exact hs.1
       ·exact i1 x hx
      ·simp only[Aua];omega
      ·simp only[Aua];omega
     ·rename_i h00;exact absurd h h00
def I6(b:LB)(j p:Nat):Int×Int:=if(Cg b j p).2=0 then((p:Int)+(Cg b j p).1.sum,0)else(0,(Cg b j p).2)
theorem C0(b:LB)(hl:b.length<4611686018427387904):∀(j p q:Nat),p<=b.length->p<=4000->b.length-p<j->j<=q->Tq b q (p:Int)=some (I6 b j p)
 |0,p,q,_,_,h,_=>by omega
 |j+1,p,q,hp,hp4,hj,hq=>by
  obtain⟨q,rfl⟩:∃k,q=k+1:=⟨q-1,F0⟩;rw[Tq,Dm,Aa,Aly,size_eq _ Aw3,Aa,Ba,Ba,Am,I6];by_cases h6:(Cs (b.drop p)).2=6
  ·rw[Aao (by simpa using h6)];have:Cg b (j+1) p=([],0):=by rw[Cg,Aao h6]
   rw[this];simp
  ·rw[Aam (by simpa using h6)];by_cases h0:(Cs (b.drop p)).2=0
   ·have hz:Cs (b.drop p)=((Cs (b.drop p)).1,0):=by rw[Prod.ext_iff];exact⟨rfl,h0⟩
    have hs:=gC hz;rw[Aiq]at hs;rw[Ak,As];by_cases h4:4000<(p:Int)+(Cs (b.drop p)).1
    ·rw[Aao (by simp[h0];omega)];have:Cg b (j+1) p=([],4):=by rw[Cg,Aam h6,Aam (λh=>h h0),Aao h4]
     rw[this];simp
    ·rw[Aam (by simp[h0];omega),Aam (by simpa using h0)];have ih:=C0 b hl j (p+(Cs (b.drop p)).1.toNat) q F0 F0 F0 F0;rw[show(p:Int)+(Cs (b.drop p)).1=((p+(Cs (b.drop p)).1.toNat:Nat):Int) by omega,ih,I6];have:Cg b (j+1) p=if(Cg b j (p+(Cs (b.drop p)).1.toNat)).2=0 then((Cs (b.drop p)).1::(Cg b j (p+(Cs (b.drop p)).1.toNat)).1,0)else([],(Cg b j (p+(Cs (b.drop p)).1.toNat)).2):=by
      rw[Cg,Aam h6,Aam (λh=>h h0),Aam h4]
     rw[this];by_cases hr:(Cg b j (p+(Cs (b.drop p)).1.toNat)).2=0
     ·simp only[hr,Awz,Aua];congr 2;omega
     ·simp only[hr,Avq]
   ·rw[Aam (by simp[h0]),Aao (by simpa using h0)];have:Cg b (j+1) p=([],(Cs (b.drop p)).2):=by rw[Cg,Aam h6,Aao h0]
    rw[this];simp[h0]
def Aie(b:LB)(j p:Nat)(xs:LI):LI×Int:=if(Cg b j p).2=0 then(xs++(Cg b j p).1,0)else([],(Cg b j p).2)
theorem Aij(bk:Int->LI->Option (LI×Int))(b:LB)(p:Nat)(hp:p<=b.length)(xs:LI)(hx:xs.length<=4000)(hl:b.length<4611686018427387904):Un (Oh bk b) b (p:Int) xs=Oh bk b (p:Int) xs (Cs (b.drop p)).1 (Cs (b.drop p)).2:=by
 have hf:=Afx (b.drop p) Aw3;rw[Un,Dm,Aa,Aly,Akg _ Aw3,Aa];by_cases h:(Xu (b.drop p)).2=6
 ·simp[Cs,h,Ba,hf]
 ·simp[Cs,h,Ba]
theorem O8(b:LB)(hl:b.length<4611686018427387904):∀(j p q:Nat) (xs:LI),p<=b.length->p<=4000->b.length-p<j->j<=q->xs.length<=p->Ny b q (p:Int) xs=some (Aie b j p xs)
 |0,p,q,_,_,_,h,_,_=>by omega
 |j+1,p,q,xs,hp,hp4,hj,hq,hx=>by
  obtain⟨q,rfl⟩:∃k,q=k+1:=⟨q-1,F0⟩;rw[Ny,Aij _ b p hp xs F0 hl,Oh,GZ,Ba,Am,Aie];by_cases h6:(Cs (b.drop p)).2=6
  ·rw[Aao (by simpa using h6)];have:Cg b (j+1) p=([],0):=by rw[Cg,Aao h6]
   rw[this];simp
  ·rw[Aam (by simpa using h6)];by_cases h0:(Cs (b.drop p)).2=0
   ·have hz:Cs (b.drop p)=((Cs (b.drop p)).1,0):=by rw[Prod.ext_iff];exact⟨rfl,h0⟩
    have hs:=gC hz;rw[Aiq]at hs;rw[Aam (by simpa using h0),Ak,As];by_cases h4:4000<(p:Int)+(Cs (b.drop p)).1
    ·rw[Aao Aw3];have:Cg b (j+1) p=([],4):=by rw[Cg,Aam h6,Aam (λh=>h h0),Aao h4]
     rw[this];simp
    ·rw[Aam Aw3,Cu Aw3,Aa];have ih:=O8 b hl j (p+(Cs (b.drop p)).1.toNat) q (xs++[(Cs (b.drop p)).1]) F0 F0 F0 F0 Aw3;rw[show(p:Int)+(Cs (b.drop p)).1=((p+(Cs (b.drop p)).1.toNat:Nat):Int) by omega,ih,Aie];have:Cg b (j+1) p=if(Cg b j (p+(Cs (b.drop p)).1.toNat)).2=0 then((Cs (b.drop p)).1::(Cg b j (p+(Cs (b.drop p)).1.toNat)).1,0)else([],(Cg b j (p+(Cs (b.drop p)).1.toNat)).2):=by
      rw[Cg,Aam h6,Aam (λh=>h h0),Aam h4]
     rw[this];by_cases hr:(Cg b j (p+(Cs (b.drop p)).1.toNat)).2=0
     ·simp only[hr,Awz];simp
     ·simp only[hr,Avq]
   ·rw[Aao (by simpa using h0)];have:Cg b (j+1) p=([],(Cs (b.drop p)).2):=by rw[Cg,Aam h6,Aao h0]
    rw[this];simp[h0]
theorem wJ:∀{l:LI},(∀x∈l,10<=x)->0<=l.sum/\ (l.length:Int)<=l.sum
 |[],_=>by simp
 |x::l,h=>by
  have h1:=h x Auq;have h2:=wJ (l:=l) λy hy=>h y (Aty _ hy);simp only[Aua,Ar0];omega
theorem xJ(r:Int)(l:LI)(hl:l.length<=4000)(hx:∀x∈l,10<=x):∀(j i q:Nat) (n:Int),i+j=l.length->j<q->0<=n->n+(l.drop i).sum<=4000->Js r l q n (i:Int)=some (n+(l.drop i).sum,r)
 |0,i,q+1,n,hi,_,_,_=>by
  rw[Js,Tv,Aam F2,show i=l.length by omega,Ava];simp[HM,GN]
 |j+1,i,q+1,n,hi,hq,hn,hs=>by
  have hlt:i<l.length:=F0
  rw[drop_cons hlt,Aua]at hs⊢;have h1:=hx l[i] (Ar3 hlt);have h2:=wJ (l:=l.drop (i+1)) λy hy=>hx y (List.mem_of_mem_drop hy);rw[Js,Tv,Aao F2,Cm hlt,Aa,Aa,Ak,Ak];have ih:=xJ r l hl hx j (i+1) q (n+l[i]) F0 F0 F0 F0;rw[show((i:Int)+1)=((i+1:Nat):Int) by omega,ih];congr 2;omega
def Dk(b:LB):Int×Int:=I6 b (b.length+1) 0
theorem PU(b:LB)(hl:b.length<4611686018427387904):Lf b=some (Dk b):=by
 have:=C0 b hl (b.length+1) 0 Aq F0 F0 F0 Aw5;exact this
theorem ZP(b:LB)(hl:b.length<4611686018427387904):Tc b=some (Dk b):=by
 have h:=O8 b hl (b.length+1) 0 Aq [] F0 F0 F0 Aw5 Aw7;have h':QD b=some (Aie b (b.length+1) 0 []):=h;rw[Tc,GX,h',Aa,Dk,I6,Aie];have ho:=iZ b (b.length+1) 0 F0 F0;by_cases h0:(Cg b (b.length+1) 0).2=0
 ·obtain⟨i1,i2,i3⟩:=ho h0;have hp:=wJ i1;simp only[h0,Awz,Aqf];have:=xJ 0 (Cg b (b.length+1) 0).1 F0 i1 (Cg b (b.length+1) 0).1.length 0 Aq 0 F0 Aw5 F0 (by simpa using i3);simpa [Tx]using this
 ·simp only[h0,Avq];have:=xJ (Cg b (b.length+1) 0).2 [] Aw7 Aw7 0 0 Aq 0 Aw7 Aw5 F0 Aw7;simpa [Tx]using this
theorem PC{b:LB}(h:(Dk b).2=0):0<= (Dk b).1/\ (Dk b).1<=b.length/\ (Dk b).1<=4000:=by
 unfold Dk I6 at h⊢;split at h
 ·rename_i h0;rw[Aao h0];obtain⟨i1,i2,i3⟩:=iZ b (b.length+1) 0 F0 F0 h0;have hp:=wJ i1;exact⟨by simp;omega,i2,i3⟩
 ·rename_i h0;exact absurd h h0
theorem Axh{p:Prop}(h:p:=by rw[Af,Ac,Ac];simp;omega):p:=h
end Go.Pl
namespace Go.Pl
open Go Go.Lv
def Be(r:Nat):Nat:=max 1 (256*r/245)
theorem Xp(r:Nat):1<=Be r:=Nat.le_max_left _ _
theorem zO{r:Nat}(h:r<=1048576):Be r<=1100000:=by unfold Be;omega
theorem uo{r:Nat}(h:r<=1048576):oK (1:Int) (Cq (Ce (256:Int) (r:Int)) (245:Int))=(Be r:Int):=by
 rw[Jj,MG,Atz F0,Cz F0 F0,Ab2,Be];omega
def Ao(g n:Nat):LI:=List.replicate ((n-1)/g) (g:Int)++[((n-(n-1)/g*g:Nat):Int)]
theorem uI(g n:Nat):(Ao g n).length=(n-1)/g+1:=by simp[Ao]
theorem J6{g n:Nat}(h:n<=g)(h1:1<=n):Ao g n=[(n:Int)]:=by
 rw[Ao,Aug F0];simp
theorem Aad{g n:Nat}(hg:1<=g)(h:g<n):Ao g n=(g:Int)::Ao g (n-g):=by
 have e:(n-1)/g=(n-g-1)/g+1:=by rw[<-Nat.add_div_right _ F0];congr 1;omega
 rw[Ao,Ao,e,Auf,Av2];congr 4;have:=Avo (n-g-1) g;rw[Aq2,Nat.one_mul];omega
theorem nK{g n:Nat}(hg:1<=g)(h1:1<=n):(n+g-1)/g=(n-1)/g+1:=by
 rw[<-Nat.add_div_right _ F0];congr 1;omega
theorem K0{r:Nat}(h1:1<=r)(h:r<=1048576):Rs (r:Int)=some ((Be r:Int),0):=by
 rw[Rs,Aam Axd,uo h]
theorem Aje{r:Nat}(h:r<=1048576):Vd (r:Int)=some (Be r:Int):=by rw[Vd,uo h]
theorem zC{r n:Nat}(h1:1<=r)(h:r<=1048576)(n1:1<=n)(n2:n<=4000):Ze (r:Int) (n:Int)=some (if 1000<(n-1)/Be r+1 then(0,4)else((((n-1)/Be r+1:Nat):Int),0)):=by
 have hp:=Xp r;have hl:=zO h;have e:Cq (Al (Ae (n:Int) (Be r:Int)) (1:Int)) (Be r:Int)=(((n-1)/Be r+1:Nat):Int):=by
  have:(n+Be r-1)/Be r<=n+Be r-1:=Ar5 _ _;rw[Ak,Cr,MG,Atz F0,show(n:Int)+(Be r:Int)-1=((n+Be r-1:Nat):Int) by omega,<-Int.natCast_ediv,nK hp n1];rw[nK hp n1]at this;generalize(n-1)/Be r=k at*
  exact Cz F0 F0
 rw[Ze,K0 h1 h,Aa];simp only;rw[Aam Aw8,Aam Axd,Dv Axb,Aa,e];by_cases hk:1000<(n-1)/Be r+1
 ·rw[Aao Aw9,Aao hk]
 ·rw[Aam Aw9,Aam hk]
theorem C8{r:Nat}(h:r<=1048576):∀(j n q:Nat) (acc:LI),n<=4000->n<=j->j<q->acc.length+n<=10000->Fg (r:Int) q (n:Int) acc=some (acc++(if n=0 then []else Ao (Be r) n))
 |0,n,q+1,acc,hn,hj,hq,ha=>by
  obtain rfl:n=0:=F0
  rw[Fg,Jy,Aam Axt];simp[Oi,Oc]
 |j+1,n,q+1,acc,hn,hj,hq,ha=>by
  have hp:=Xp r;have hl:=zO h;by_cases h0:n=0
  ·subst h0;rw[Fg,Jy,Aam Axt];simp[Oi,Oc]
  ·rw[Fg,Jy,Aao Aw9,Aje h,Aa,Cu Aw3,Aa,Aa,Cr,MC];by_cases hs:n<=Be r
   ·rw[show min (n:Int) (Be r:Int)=(n:Int) by omega,Aam h0,J6 hs F0];have hz:∃k,q=k+1:=⟨q-1,F0⟩;obtain⟨q,rfl⟩:=hz;rw[Fg,Jy,Aam Aw9];simp[Oi,Oc]
   ·rw[show min (n:Int) (Be r:Int)=(Be r:Int) by omega,show(n:Int)-(Be r:Int)=((n-Be r:Nat):Int) by omega,C8 h j (n-Be r) q _ F0 F0 F0 Aw3,Aam F0,Aam h0,Aad hp (show Be r<n by omega)];simp
theorem A3{r n:Nat}(h:r<=1048576)(n1:1<=n)(n2:n<=4000):Nr (r:Int) (n:Int)=some (Ao (Be r) n):=by
 have:=C8 h n n Aq [] n2 (Aox _) Aw5 Aw3;rw[Nr,GW,GM,this,Aam F0];rfl
theorem mul_one(m:Nat)(h:m<=100000):Zm (1:UInt64) (UInt64.ofNat m)=some (0,UInt64.ofNat m):=by
 have y1:(UInt64.ofNat m).toNat=m:=UU F0;have s1:Ct (1:UInt64) (GI.toZ (32:UInt64)).toNat=0:=Aw2
 have s2:Ct (UInt64.ofNat m) (GI.toZ (32:UInt64)).toNat=0:=by
  apply UInt64.toNat_inj.1;rw[LO,y1];exact Aug (Aud h Aw2)
 have s0:Ct (0:UInt64) (GI.toZ (32:UInt64)).toNat=0:=Aw2
 have a1:Ex (1:UInt64) (4294967295:UInt64)=1:=Aw2
 have a0:Ex (0:UInt64) (4294967295:UInt64)=0:=Aw2
 have a2:Ex (UInt64.ofNat m) (4294967295:UInt64)=UInt64.ofNat m:=by
  apply UInt64.toNat_inj.1;rw[A9,UInt64.toNat_and,y1]
  show m&&& (2^32-1)=m;rw[Av0,Ab6 F0]
 have m1:∀x:UInt64,Ce 1 x=x:=λx=>by rw[KM,UInt64.one_mul]
 have m0:∀x:UInt64,Ce 0 x=0:=λx=>by rw[KM,UInt64.zero_mul]
 have p0:∀x:UInt64,Ae 0 x=x:=λx=>by rw[KS,UInt64.zero_add]
 have p1:∀x:UInt64,Ae x 0=x:=λx=>by rw[KS,UInt64.add_zero]
 rw[Zm,MO];simp only[s1,s2,a1,a2,m1,m0,p0,p1,s0,a0,Aa]
theorem uD(v:Int)(m:Nat)(hm:m<=100000):∀(j n q:Nat),1<=n->n<=m->m-n<=j->j<q->Ey q (n:Int) (List.replicate n v++List.replicate (m-n) 0)=some (List.replicate m v)
 |j,n,q+1,hn,hnm,hj,hq=>by
  have hlen:Ac (List.replicate n v++List.replicate (m-n) 0)=(m:Int):=by simp[Ac];omega
  rw[Ey,Hj,hlen];by_cases h:n<m
  ·obtain⟨j,rfl⟩:∃k,j=k+1:=⟨j-1,F0⟩;rw[Aao Aw4];have v1:aB (m:Int) (n:Int) (m:Int)=some ():=by rw[aB,Dv];simp;omega
   have v2:aB (m:Int) (0:Int) (n:Int)=some ():=by rw[aB,Dv];simp;omega
   have e1:KT (List.replicate n v++List.replicate (m-n) 0) (0:Int) ((n:Int)-0)=List.replicate n v:=by
    simp[KT]
   rw[v1,Aa,v2,Aa,e1];have e2:FC ((m:Int)-(n:Int)) (List.replicate n v).length=((min n (m-n):Nat):Int):=by
    rw[FC,List.length_replicate];split<;>omega
   have e3:Qo (List.replicate n v++List.replicate (m-n) 0) (n:Int) ((m:Int)-(n:Int)) (List.replicate n v)=List.replicate (n+min n (m-n)) v++List.replicate (m-(n+min n (m-n))) 0:=by
    have t1:((m:Int)-(n:Int)).toNat=m-n:=F0
    have t2:(List.replicate n v++List.replicate (m-n) (0:Int)).take n=List.replicate n v:=by simp
    rw[Qo,t1,Aly,t2,List.take_replicate,List.length_replicate,<-Alw,List.replicate_append_replicate,List.drop_append,List.length_replicate,Nat.min_comm (m-n) n];simp only[List.drop_replicate];rw[show n-(n+min n (m-n))=0 by omega,List.replicate_zero,Aqf,show m-n-(n+min n (m-n)-n)=m-(n+min n (m-n)) by omega]
   rw[e2,e3,Ak,show(n:Int)+((min n (m-n):Nat):Int)=((n+min n (m-n):Nat):Int) by omega];exact uD v m hm j (n+min n (m-n)) q F0 F0 F0 F0
  ·rw[Aam Aw4];obtain rfl:n=m:=F0
   simp[Jm,Ok]
theorem Ag8(v:Int)(m:Nat)(hm:m<=100000):Og [v] (m:Int)=some (List.replicate m v):=by
 have y1:(UInt64.ofNat m).toNat=m:=UU F0;have c1:(Ad (Ac [v]):UInt64)=1:=by rfl
 have c2:(Ad (m:Int):UInt64)=UInt64.ofNat m:=Xq m;have c3:(Ad (UInt64.ofNat m):Int)=(m:Int):=by rw[tK F0,y1]
 rw[Og,Pz,Aam Axe,Zp,Pw,c1,c2,mul_one m hm,Aa];simp only;rw[Aam (by rw[TQ,TQ,y1];simp;show m<=9223372036854775807;omega),Zi,Qb,c3,D4,Aa,Dv Axv,Aa,Zn,Aly];by_cases h0:m=0
 ·subst h0;have hF:Aq=(Aq-1)+1:=by have:=Ar;omega
  rw[hF,Ey,Hj];simp[Ac,gR,FC,Af,Jm,Ok]
 ·have:=uD v m hm m 1 Aq F0 F0 F0 Aw5;have e1:FC (Ac (List.replicate m (0:Int))) [v].length=((1:Nat):Int):=by simp[FC,Ac];omega
  have e2:gR (List.replicate m (0:Int)) [v]=List.replicate 1 v++List.replicate (m-1) 0:=by
   obtain⟨k,rfl⟩:∃k,m=k+1:=⟨m-1,F0⟩;simp[gR]
  rw[e1,e2,this]
theorem Agr(l m:LI)(h:l.length+m.length<=1000000):Nz [l,m]=some (l++m):=by
 have hF:Aq=(Aq-3)+1+1+1:=by have:=Ar;omega
 rw[Nz,Py,Zd];have g0:Ah [l,m] (0:Int)=some l:=rfl;have g1:Ah [l,m] (1:Int)=some m:=rfl;have l2:Ac [l,m]=2:=rfl;have h3:Ot [l,m] []=some (l++m):=by
  rw[Ot,Om,Oq,hF,En,Gs,l2,Aao Aw2,g0,Aa,Cu Aw3,Aa,Aqf,show Ae (0:Int) 1=1 by decide,
   En,Gs,l2,Aao Aw2,g1,Aa,Cu,Aa,show Ae (1:Int) 1=2 by decide,En,Gs,l2,Aam Aw2]
  rfl
 rw[hF,Ew,Hh,l2,Aao Aw2,g0,Aa,Ak Axk Axk,Aam Axz,show Ae (0:Int) 1=1 by decide,
  Ew,Hh,l2,Aao Aw2,g1,Aa,Ak Axk Axk,Aam Axh,show Ae (1:Int) 1=2 by decide,
  Ew,Hh,l2,Aam Aw2,Xt,Ou,Aam Axh,Xv,On]
 have z:Al (0:Int) 0=0:=Aw2
 have n0:(0:Int)+Ac l+Ac m=((l.length+m.length:Nat):Int):=by simp[Ac]
 rw[z,n0,Cr,Int.sub_zero];by_cases hp:0<l.length+m.length
 ·rw[Aao Aw9,show aB (0:Int) 0 0=some ()from rfl,Aa,D4,Aa,Cu Aw3,Aa];rw[show aB (Ac ([]++List.replicate ((l.length+m.length:Nat):Int).toNat (0:Int))) 0 0=some () by rw[aB,Dv];simp[Ac];omega,Aa];simp only[KT,Int.sub_self,Int.toNat_zero,Awc];exact h3
 ·rw[Aam Aw9];exact h3
theorem Ak3{r n:Nat}(h1:1<=r)(h:r<=1048576)(n1:1<=n)(n2:n<=4000)(hk:(n-1)/Be r+1<=1000):TC (r:Int) (n:Int)=some (Ao (Be r) n,0):=by
 have hp:=Xp r;have hl:=zO h;have hd:=Avo (n-1) (Be r);rw[TC,zC h1 h n1 n2,Aam F0,Aa];simp only;rw[Aam Aw8,K0 h1 h,Aa];simp only;rw[Ao];generalize(n-1)/Be r=k at*
 have e1:Al ((k+1:Nat):Int) 1=(k:Int):=by rw[Cr];omega
 have e2:(k:Int)*(Be r:Int)=((k*Be r:Nat):Int):=by simp
 rw[e1,Ag8 _ _ F0,Aa,Jj (by rw[e2];omega) (by rw[e2];omega),e2,Cr,RA,Agr _ _ Aw3,Aa,Aa,show(n:Int)-((k*Be r:Nat):Int)=((n-k*Be r:Nat):Int) by omega]
def Ku(f c w r n:Nat):Bool:=decide ((f=1\/f=2)/\ (1<=c/\c<=6)/\ (w=8\/w=16\/w=24)/\ (1<=r/\r<=1048576)/\1<=n)
def QU(c r n:Nat):Bool:=decide (n<=4000/c/\ (n-1)/Be r+1<=1000)
theorem dY(f c w r n:Nat):Pv (f:Int) (c:Int) (w:Int) (r:Int) (n:Int)=some (Ku f c w r n):=by
 have e2:Rc (f:Int) (c:Int) (w:Int) (r:Int) (n:Int)=some (decide ((f=1\/f=2)/\ (1<=c/\c<=6)/\ (1<=r/\r<=1048576)/\1<=n)):=by
  rw[Rc,IA];congr 1;rw[Ak7];simp only[Ba,As,RN,Aap,Ars,Ar7,Acb];omega
 have g:∀k:Nat,geq (w:Int) (k:Int)=decide (w=k):=λk=>by rw[Ba,Ak7];simp;omega
 have g8:geq (w:Int) (8:Int)=decide (w=8):=g 8;have g16:geq (w:Int) (16:Int)=decide (w=16):=g 16;have g24:geq (w:Int) (24:Int)=decide (w=24):=g 24;rw[Pv,HX,e2,g8,g16,g24,Ku];by_cases h8:w=8
 ·subst h8;simp
 ·by_cases h16:w=16
  ·subst h16;simp
  ·by_cases h24:w=24
   ·subst h24;simp
   ·simp[h8,h16,h24]
theorem mX(f c w r n:Nat):Jb (f:Int) (c:Int) (w:Int) (r:Int) (n:Int)=some (Ku f c w r n):=by
 rw[Jb,Ku];simp only[Ba,El,RN,Aap,Ars,Ar7,Acb,Awb];split
 ·rename_i h;congr 1;rw[Ak7];simp only[Aap,Ars,Ar7,Acb];omega
 ·rename_i h;congr 1;symm;rw[Ar4];omega
theorem Apc{c:Nat}(h:1<=c):Cq (4000:Int) (c:Int)=((4000/c:Nat):Int):=by
 have:4000/c<=4000:=Ar5 _ _;rw[MG,Atz F0,show(4000:Int)=((4000:Nat):Int)from rfl,<-Int.natCast_ediv];generalize 4000/c=k at*
 exact Cz F0 F0
theorem rZ{f c w r n:Nat}(h:Ku f c w r n=true):LH (f:Int) (c:Int) (w:Int) (r:Int) (n:Int)=some (QU c r n):=by
 simp only[Ku,Acb]at h;have hd:4000/c<=4000:=Ar5 _ _;rw[LH,Dv Axb,Aa,Apc F0,QU];generalize 4000/c=m at*
 by_cases h1:n<=m
 ·rw[Aam Aw9,zC F0 F0 F0 F0,Aa];generalize(n-1)/Be r+1=k;by_cases h2:1000<k
  ·rw[Aao h2];simp[Ba,RN];omega
  ·rw[Aam h2];simp[Ba,RN,h1];omega
 ·rw[Aao Aw9];simp[h1]
theorem G9{f c w r n:Nat}(h:Ku f c w r n=true):Vk (f:Int) (c:Int) (w:Int) (r:Int) (n:Int)=some (!QU c r n):=by
 simp only[Ku,Acb]at h;have hd:4000/c<=4000:=Ar5 _ _;rw[Vk,Dv Axb,Aa,Apc F0,QU];generalize 4000/c=m at*
 by_cases h1:n<=m
 ·rw[Aam Aw9,A3 F0 F0 F0,Aa,Ac,uI];generalize(n-1)/Be r+1=k;congr 1;rw[As,Ak7];simp only[Acb,Aph,Ar4];omega
 ·rw[Aao Aw9];simp[h1]
def bV:LB:=[84,84,65,49]
def f0(b:LB):Nat:=Eu (part b 4 2)
def f1(b:LB):Nat:=Eu (part b 6 2)
def f2(b:LB):Nat:=Eu (part b 8 2)
def f3(b:LB):Nat:=Eu (part b 10 4)
def f4(b:LB):Nat:=Eu (part b 14 4)
abbrev H6:=Int×Int×Int×Int×Int×Int
def Fc(b:LB):H6:=
 if b.take (min 4 b.length)≠bV.take (min 4 b.length)then(0,0,0,0,0,12)else if b.length<22 then(0,0,0,0,0,24)else
 if(Hp (b.take 18)).toNat≠Eu (part b 18 4)then(0,0,0,0,0,22)else
 if Ku (f0 b) (f1 b) (f2 b) (f3 b) (f4 b)=false then(0,0,0,0,0,12)else
 if QU (f1 b) (f3 b) (f4 b)=false then(0,0,0,0,0,4)else((f0 b:Int),(f1 b:Int),(f2 b:Int),(f3 b:Int),(f4 b:Int),0)
section
variable {b:LB}
theorem rs1(h:b.take (min 4 b.length)≠bV.take (min 4 b.length)):Fc b=(0,0,0,0,0,12):=by rw[Fc,Aao h]
variable (h:b.take (min 4 b.length)=bV.take (min 4 b.length))
include h
theorem rs2(h2:b.length<22):Fc b=(0,0,0,0,0,24):=by rw[Fc,Aam (λe=>e h),Aao h2]
variable (h2:¬b.length<22)
include h2
theorem rs3(h3:(Hp (b.take 18)).toNat≠Eu (part b 18 4)):Fc b=(0,0,0,0,0,22):=by rw[Fc,Aam (λe=>e h),Aam h2,Aao h3]
variable (h3:(Hp (b.take 18)).toNat=Eu (part b 18 4))
include h3
theorem rs4(h4:Ku (f0 b) (f1 b) (f2 b) (f3 b) (f4 b)=false):Fc b=(0,0,0,0,0,12):=by rw[Fc,Aam (λe=>e h),Aam h2,Aam (λe=>e h3),Aao h4]
variable (h4:Ku (f0 b) (f1 b) (f2 b) (f3 b) (f4 b)=true)
include h4
theorem rs5(h5:QU (f1 b) (f3 b) (f4 b)=false):Fc b=(0,0,0,0,0,4):=by rw[Fc,Aam (λe=>e h),Aam h2,Aam (λe=>e h3),Aam (by rw[h4];simp),Aao h5]
theorem rs6(h5:QU (f1 b) (f3 b) (f4 b)=true):Fc b=((f0 b:Int),(f1 b:Int),(f2 b:Int),(f3 b:Int),(f4 b:Int),0):=by rw[Fc,Aam (λe=>e h),Aam h2,Aam (λe=>e h3),Aam (by rw[h4];simp),Aam (by rw[h5];simp)]
end
theorem Ahx(b:LB)(h2:¬b.length<22):Bi (Ad (Hp (b.take 18)):UInt64) (kP (part b 18 4))=decide ((Hp (b.take 18)).toNat≠Eu (part b 18 4)):=by
 rw[ON,Jg,Ak7];simp only[Av7,ne_eq,Acb];rw[<-Av5,UU (by have:=(Hp (b.take 18)).toNat_lt;omega),UW Axf]
theorem dV(b:LB)(a w:Nat)(i q:Nat)(l:LI)(hi:i<5)(hl:l.length=5)(hw:Ah ([2,2,2,4,4]:LI) (i:Int)=some (w:Int))(h1:1<=w)(h4:w<=4)(ha:a+w<=b.length)(hb:b.length<4611686018427387904):
  Nd b (q+1) (a:Int) (i:Int) l=Nd b q ((a+w:Nat):Int) ((i+1:Nat):Int) (l.set i (Eu (part b a w):Int)):=by
 rw[Nd,DK,Aao Aw4,hw,Aa,L8 b a w h1 F0 ha hb,Aa];simp only;rw[Cm,Aa,Yj _ F0,Aa,JI (by rw[Ec ha];omega),Ak,Ak];rfl
theorem Ai9(b:LB)(h22:¬b.length<22)(hb:b.length<4611686018427387904):QQ b 4 0 (List.replicate 5 0)=DJ [(f0 b:Int),(f1 b:Int),(f2 b:Int),(f3 b:Int),(f4 b:Int)]:=by
 have hF:Aq=(Aq-6)+1+1+1+1+1+1:=by have:=Ar;omega
 rw[QQ,hF,show(4:Int)=((4:Nat):Int)from rfl,show(0:Int)=((0:Nat):Int)from rfl];rw[dV b 4 2 0 _ _ F0 Aw7 rfl F0 F0 F0 hb,dV b 6 2 1 _ _ F0 Aw7 rfl F0 F0 F0 hb,dV b 8 2 2 _ _ F0 Aw7 rfl F0 F0 F0 hb,
  dV b 10 4 3 _ _ F0 Aw7 rfl F0 F0 F0 hb,dV b 14 4 4 _ _ F0 Aw7 rfl F0 F0 F0 hb,Nd,DK,Aam Axe]
 rfl
theorem Aux(b:LB):Ig [84,84,65,49] (b.take (min 4 b.length))=some (decide (b.take (min 4 b.length)=bV.take (min 4 b.length))):=by
 have hl:(b.take (min 4 b.length)).length=min 4 b.length:=by rw[Ajz];omega
 rw[Ig,Gl,Aao (by rw[El,Ac,Ac,hl];simp;omega),Ac,hl,Di F0 Aw3,Aa,Aa,Aly];congr 1;rw[Ak7];rw[Acb,Ar7];exact eq_comm
theorem As9(b:LB):Ee (4:Int) (Ac b)=((min 4 b.length:Nat):Int):=by rw[MC,Ac];omega
theorem sS(b:LB)(hb:b.length<4611686018427387904):Ph b=some (Fc b):=by
 rw[Ph,RO,As9,Di,Aa,Aly,Aux,Aa];by_cases h:b.take (min 4 b.length)=bV.take (min 4 b.length)
 ·rw[Aam (by simpa using h)];by_cases h2:b.length<22
  ·rw[Aao F2,rs2 h h2]
  ·have a1:XQ b 18 4=some (kP (part b 18 4),0):=L8 b 18 4 F0 F0 F0 hb;rw[Aam F2,a1,Aa];simp only;rw[Di,Aa,show(18:Int).toNat=18 from rfl,Abm _ Aw3,Aa];simp only;rw[Ahx b h2];by_cases h3:(Hp (b.take 18)).toNat=Eu (part b 18 4)
   ·rw[Aam (by simpa using h3),Ai9 b h2 hb,DJ,gP];rw[show Ah [(f0 b:Int),(f1 b:Int),(f2 b:Int),(f3 b:Int),(f4 b:Int)] 0=some (f0 b:Int)from rfl,show Ah [(f0 b:Int),(f1 b:Int),(f2 b:Int),(f3 b:Int),(f4 b:Int)] 1=some (f1 b:Int)from rfl,show Ah [(f0 b:Int),(f1 b:Int),(f2 b:Int),(f3 b:Int),(f4 b:Int)] 2=some (f2 b:Int)from rfl,
     show Ah [(f0 b:Int),(f1 b:Int),(f2 b:Int),(f3 b:Int),(f4 b:Int)] 3=some (f3 b:Int)from rfl,show Ah [(f0 b:Int),(f1 b:Int),(f2 b:Int),(f3 b:Int),(f4 b:Int)] 4=some (f4 b:Int)from rfl]
    simp only[Aa,dY];cases h4:Ku (f0 b) (f1 b) (f2 b) (f3 b) (f4 b)with
    |false=>rw[rs4 h h2 h3 h4];rfl
    |true=>
     rw[rZ h4,Aam Aw7,Aa];cases h5:QU (f1 b) (f3 b) (f4 b)with
     |false=>rw[rs5 h h2 h3 h4 h5];rfl
     |true=>rw[rs6 h h2 h3 h4 h5];rfl
   ·rw[Aao (by simpa using h3),rs3 h h2 h3]
 ·rw[Aao (by simpa using h),rs1 h]
theorem xT(b:LB)(hb:b.length<4611686018427387904):Vi b=some (Fc b):=by
 rw[Vi,JY,As9,Di,Aa,Aly,Di F0 Aw3,Aa,Aly];by_cases h:b.take (min 4 b.length)=bV.take (min 4 b.length)
 ·rw[Aam (by rw[h];simp[bV]),KX,KB];by_cases h2:b.length<22
  ·rw[Aao F2,rs2 h h2]
  ·have a1:Bl b 18 22=some (part b 18 4):=Po 18 4;have c1:Bl b 4 6=some (part b 4 2):=Po 4 2;have c2:Bl b 6 8=some (part b 6 2):=Po 6 2;have c3:Bl b 8 10=some (part b 8 2):=Po 8 2;have c4:Bl b 10 14=some (part b 10 4):=Po 10 4;have c5:Bl b 14 18=some (part b 14 4):=Po 14 4;have hs:Bi (kP (part b 18 4)) (Ad (Hp (b.take 18)):UInt64)=decide ((Hp (b.take 18)).toNat≠Eu (part b 18 4)):=by
    rw[<-Ahx b h2,ON,ON,Ak7];simp only[Av7,ne_eq];exact not_congr eq_comm
   have lp:∀a w,a+w<=b.length->Dw (part b a w)=some (kP (part b a w)):=λa w h=>wo _ (by rw[Ec h];omega);rw[Aam F2,a1,Aa,Di,Aa,show(18:Int).toNat=18 from rfl,lp _ _ F0,Aa,Ah0 _ Aw3,Aa,hs];by_cases h3:(Hp (b.take 18)).toNat=Eu (part b 18 4)
   ·rw[Aam (by simpa using h3),LC,KK,c1,Aa,c2,Aa,c3,Aa,c4,Aa,c5,Aa,lp _ _ F0,Aa,lp _ _ F0,Aa,lp _ _ F0,Aa,lp _ _ F0,Aa,lp _ _ F0,Aa,
     KU,KJ,JI Axf,JI Axf,JI Axf,JI Axf,JI Axf]
    rw[show Eu (part b 4 2)=f0 b from rfl,show Eu (part b 6 2)=f1 b from rfl,show Eu (part b 8 2)=f2 b from rfl,show Eu (part b 10 4)=f3 b from rfl,show Eu (part b 14 4)=f4 b from rfl,mX,Aa];cases h4:Ku (f0 b) (f1 b) (f2 b) (f3 b) (f4 b)with
    |false=>rw[rs4 h h2 h3 h4];rfl
    |true=>
     rw[G9 h4,Aam Aw7,Aa];cases h5:QU (f1 b) (f3 b) (f4 b)with
     |false=>rw[rs5 h h2 h3 h4 h5];rfl
     |true=>rw[rs6 h h2 h3 h4 h5];rfl
   ·rw[Aao (by simpa using h3),rs3 h h2 h3]
 ·rw[Aao (by simpa [bV]using h),rs1 h]
theorem wu{b:LB}(h:(Fc b).2.2.2.2.2=0):Fc b=((f0 b:Int),(f1 b:Int),(f2 b:Int),(f3 b:Int),(f4 b:Int),0)/\22<=b.length/\Ku (f0 b) (f1 b) (f2 b) (f3 b) (f4 b)=true/\QU (f1 b) (f3 b) (f4 b)=true:=by
 unfold Fc at h⊢;split at h; · simp at h
 rename_i c1;rw[Aam c1];split at h; · simp at h
 rename_i c2;rw[Aam c2];split at h; · simp at h
 rename_i c3;rw[Aam c3];split at h; · simp at h
 rename_i c4;rw[Aam c4];split at h; · simp at h
 rename_i c5;rw[Aam c5];exact⟨rfl,F0,by simpa using c4,by simpa using c5⟩
theorem qg{f c w r n:Nat}(h:Ku f c w r n=true)(h2:QU c r n=true):Dz (f:Int) (c:Int) (w:Int) (r:Int) (n:Int)=some (Ao (Be r) n,0):=by
 have hc:Rq (f:Int) (c:Int) (w:Int) (r:Int) (n:Int)=some 0:=by
  rw[Rq,dY,Aa,h,Aam Aw7,rZ h,Aa,h2];rfl
 have hd:4000/c<=4000:=Ar5 _ _;simp only[Ku,Acb]at h;simp only[QU,Acb]at h2;rw[Dz,hc,Aa,Aam Aw8,Ak3 F0 F0 F0 F0 h2.2];rfl
def okL:LI->Int->Bool
 |[],_=>true
 |x::l,left=>decide (5<=x/\x<=left)&&okL l (left-x)
theorem Aqi:∀l:LI,(∀x∈l,5<=x)->0<=l.sum
 |[],_=>by simp
 |x::l,h=>by
  have h1:=h x Auq;have h2:=Aqi l λy hy=>h y (Aty _ hy);rw[Aua];omega
theorem OT:∀(l:LI) (left:Int),0<=left-> (okL l left=true↔(∀x∈l,5<=x)/\l.sum<=left)
 |[],left,h=>by simp[okL];exact h
 |x::l,left,h=>by
  rw[okL,Aap,Acb,Aua];by_cases hx:5<=x/\x<=left
  ·rw[OT l (left-x) F0];constructor
   ·rintro⟨_,h1,h2⟩;exact⟨λy hy=>(List.mem_cons.1 hy).elim (λe=>e▸hx.1) (h1 y),F0⟩
   ·rintro⟨h1,h2⟩;exact⟨hx,λy hy=>h1 y (Aty _ hy),F0⟩
  ·constructor
   ·rintro⟨h1,_⟩;exact absurd h1 hx
   ·rintro⟨h1,h2⟩;have h3:=h1 x Auq;have:0<=l.sum:=Aqi l λy hy=>h1 y (Aty _ hy);omega
theorem D5(l:LI)(hl:l.length<=1000):∀(j i q:Nat) (left:Int),i+j=l.length->j<q->0<=left->left<=100000->Qz l q left (i:Int)=some (if okL (l.drop i) left=true then 0 else 8)
 |0,i,q+1,left,hi,_,_,_=>by
  rw[Qz,FX,Aam F2,show i=l.length by omega,Ava];rfl
 |j+1,i,q+1,left,hi,hq,h0,h1=>by
  have hlt:i<l.length:=F0
  rw[Qz,FX,Aao F2,Cm hlt,Aa,drop_cons hlt];by_cases h:5<=l[i]/\l[i]<=left
  ·rw[Aam Axd,Cr,Ak];have ih:=D5 l hl j (i+1) q (left-l[i]) F0 F0 F0 F0;rw[show((i:Int)+1)=((i+1:Nat):Int) by omega,ih];simp[okL,h]
  ·rw[Aao Axd];have:okL (l[i]::l.drop (i+1)) left=false:=by rw[okL,At4 h];rfl
   rw[this];rfl
def AV(l:LI):Bool:=decide (1<=l.length/\l.length<=1000)&&okL l 100000
theorem Z1(l:LI)(hl:l.length<=1000):Ps l=some (if AV l=true then 0 else 8):=by
 rw[Ps,FA,AV];by_cases h:1<=l.length
 ·rw[Aam (by rw[Ba,As,Ac];simp;constructor;(intro e;subst e;simp at h);omega),fQ];have:=D5 l hl l.length 0 Aq 100000 F0 Aw5 F0 F0;rw[Awv]at this;rw[Auh (show 1<=l.length/\l.length<=1000 from⟨h,hl⟩),Au4];exact this
 ·have:l=[]:=by
   cases l with
   |nil=>rfl
   |cons _ _=>simp at h
  subst this;rfl
theorem O6(l:LI)(hl:l.length<=1000):∀(j i q:Nat) (s:Int),i+j=l.length->j<q->0<=s->s<=100000*(i:Int)->Kb l q s (i:Int)=some (if(∀x∈l.drop i,5<=x/\x<=100000)/\s+(l.drop i).sum<=100000 then 0 else 8)
 |0,i,q+1,s,hi,_,_,_=>by
  rw[Kb,Uk,Aam F2,show i=l.length by omega,Ava,EY,FO];by_cases h:s<=100000
  ·rw[Aam Aw9,Aao Aw3]
  ·rw[Aao Aw9,Aam Aw3]
 |j+1,i,q+1,s,hi,hq,h0,h1=>by
  have hlt:i<l.length:=F0
  rw[Kb,Uk,Aao F2,Cm hlt,Aa,drop_cons hlt];by_cases h5:l[i]<5
  ·rw[Aao (by rw[Af];simpa using h5),Aam (λh=>by have:=(h.1 l[i] Auq).1;omega)]
  ·rw[Aam (by rw[Af];simpa using h5),Aa];by_cases h6:100000<l[i]
   ·rw[Aao (by rw[As];simpa using h6),Aam (λh=>by have:=(h.1 l[i] Auq).2;omega)]
   ·rw[Aam (by rw[As];simpa using h6),HC,GY,Cm hlt,Aa,Ak,Ak];have ih:=O6 l hl j (i+1) q (s+l[i]) F0 F0 F0 F0;rw[show((i:Int)+1)=((i+1:Nat):Int) by omega,ih];have e:((∀x∈l.drop (i+1),5<=x/\x<=100000)/\s+l[i]+(l.drop (i+1)).sum<=100000)↔((∀x∈l[i]::l.drop (i+1),5<=x/\x<=100000)/\s+(l[i]::l.drop (i+1)).sum<=100000):=by
     rw[Aua,List.forall_mem_cons,Int.add_assoc];constructor
     ·rintro⟨a,b⟩;exact⟨⟨F0,a⟩,b⟩
     ·rintro⟨⟨_,a⟩,b⟩;exact⟨a,b⟩
    simp only[e]
theorem R7:∀{l:LI},(∀x∈l,5<=x)->∀x∈l,x<=l.sum
 |[],_,x,hx=>by simp at hx
 |y::l,h,x,hx=>by
  have h1:=h y Auq;have h2:=Aqi l λz hz=>h z (Aty _ hz);rw[Aua];rcases List.mem_cons.1 hx with rfl|hx
  ·omega
  ·have:=R7 (l:=l) (λz hz=>h z (Aty _ hz)) x hx;omega
theorem zn(l:LI)(hl:l.length<=1000):Hq l=some (if AV l=true then 0 else 8):=by
 rw[Hq,Tw,AV];by_cases h:1<=l.length
 ·have:=O6 l hl l.length 0 Aq 0 F0 Aw5 F0 F0;rw[Aam (by rw[Af,As,Ac];simp;omega),HK];refine Ave this ?_;rw[Awv,Auh (show 1<=l.length/\l.length<=1000 from⟨h,hl⟩),Au4];have e:((∀x∈l,5<=x/\x<=100000)/\0+l.sum<=100000)↔okL l 100000=true:=by
   rw[OT l 100000 F0,Int.zero_add];constructor
   ·rintro⟨a,b⟩;exact⟨λx hx=>(a x hx).1,b⟩
   ·rintro⟨a,b⟩;exact⟨λx hx=>⟨a x hx,Int.le_trans (R7 a x hx) b⟩,b⟩
  simp only[e]
 ·have:l=[]:=by
   cases l with
   |nil=>rfl
   |cons _ _=>simp at h
  subst this;rfl
theorem dQ(l:LI):Ps l=some (if AV l=true then 0 else 8):=by
 by_cases hl:l.length<=1000
 ·exact Z1 l hl
 ·rw[Ps,FA,Aao Aw6,AV,At4 F0];rfl
theorem VH(l:LI):Hq l=some (if AV l=true then 0 else 8):=by
 by_cases hl:l.length<=1000
 ·exact zn l hl
 ·rw[Hq,Tw,Aao Aw6,AV,At4 F0];rfl
theorem Aca(l:LI)(hl:l.length<=1000)(hx:∀x∈l,0<=x/\x<4294967296):Ps l=some (if AV l=true then 0 else 8):=dQ l
theorem Afo(l:LI)(hl:l.length<=1000)(hx:∀x∈l,0<=x/\x<4294967296):Hq l=some (if AV l=true then 0 else 8):=VH l
def OY(b:LB)(n:Nat):LI:=(List.range n).map λi=>(Eu (part b (4*i) 4):Int)
theorem KH(b:LB)(n:Nat):(OY b n).length=n:=by simp[OY]
theorem M5(b:LB)(n:Nat):OY b (n+1)=OY b n++[(Eu (part b (4*n) 4):Int)]:=by simp[OY,List.range_succ]
theorem Ac8(b:LB)(n:Nat)(h:4*n<=b.length):∀x∈OY b n,0<=x/\x<4294967296:=by
 intro x hx;simp only[OY,List.mem_map,List.mem_range]at hx;obtain⟨i,hi,rfl⟩:=hx;have:=Aei (l:=part b (4*i) 4) Axf;omega
def Jf(b:LB)(n:Nat):LI×Int:=
 if ¬(1<=n/\n<=1000)then([],2)else if b.length<4*n+4 then([],24)else if(Hp (b.take (4*n))).toNat≠Eu (part b (4*n) 4)then([],22)else
 if AV (OY b n)=true then(OY b n,0)else([],12)
theorem Ad9{b:LB}{n:Nat}(h:1<=n/\n<=1000)(h2:¬b.length<4*n+4):Bi (Ad (Hp (b.take (4*n))):UInt64) (kP (part b (4*n) 4))=decide ((Hp (b.take (4*n))).toNat≠Eu (part b (4*n) 4)):=by
 rw[ON,Jg,Ak7];simp only[Av7,ne_eq,Acb];rw[<-Av5,UU (by have:=(Hp (b.take (4*n))).toNat_lt;omega),UW Axf]
section
variable {b:LB} {n:Nat}
theorem ss1(h:¬(1<=n/\n<=1000)):Jf b n=([],2):=by rw[Jf,Aao h]
variable (h:1<=n/\n<=1000)
include h
theorem ss2(h2:b.length<4*n+4):Jf b n=([],24):=by rw[Jf,Aam (λe=>e h),Aao h2]
variable (h2:¬b.length<4*n+4)
include h2
theorem ss3(h3:(Hp (b.take (4*n))).toNat≠Eu (part b (4*n) 4)):Jf b n=([],22):=by rw[Jf,Aam (λe=>e h),Aam h2,Aao h3]
theorem ss4(h3:(Hp (b.take (4*n))).toNat=Eu (part b (4*n) 4)):Jf b n=if AV (OY b n)=true then(OY b n,0)else([],12):=by rw[Jf,Aam (λe=>e h),Aam h2,Aam (λe=>e h3)]
end
theorem O1(b:LB)(l8:LI)(n:Nat)(hn:n<=1000)(h8:l8.length=n)(hb:4*n+4<=b.length)(hb2:b.length<4611686018427387904):∀(j i q:Nat),i+j=n->j<q->Tn b l8 q (i:Int) (OY b i++List.replicate j 0)=IX (OY b n)
 |0,i,q+1,hi,_=>by
  obtain rfl:i=n:=F0
  rw[Tn,JB,Aam F2];simp
 |j+1,i,q+1,hi,hq=>by
  have hlen:(OY b i++List.replicate (j+1) 0).length=i+(j+1):=by simp[KH]
  have ha:=L8 b (4*i) 4 F0 F0 F0 hb2;rw[Tn,JB,Aao F2,Jj,show(4:Int)*(i:Int)=((4*i:Nat):Int) by omega,show(4:Int)=((4:Nat):Int)from rfl,ha,Aa];simp only;rw[Cm (by rw[hlen];omega),Aa,Yj _ (by rw[hlen];omega),Aa,JI Axf,Ak,Auf,iE (KH _ _)];have ih:=O1 b l8 n hn h8 hb hb2 j (i+1) q F0 F0;rw[M5]at ih;rw[show((i:Int)+1)=((i+1:Nat):Int) by omega,<-ih];simp
theorem R3(b:LB)(n:Nat)(hb:b.length<=100100):RC b (n:Int)=some (Jf b n):=by
 rw[RC,VW];by_cases h:1<=n/\n<=1000
 ·rw[Aam Axd,Jj,Ak];by_cases h2:b.length<4*n+4
  ·rw[Aao F2,ss2 h h2]
  ·have ha:XQ b (4*(n:Int)) 4=some (kP (part b (4*n) 4),0):=by
    rw[show(4:Int)*(n:Int)=((4*n:Nat):Int) by omega];exact L8 b (4*n) 4 F0 F0 F0 F0
   rw[Aam F2,ha,Aa];simp only;rw[Di,Aa,show(4*(n:Int)).toNat=4*n by omega,Abm _ Aw3,Aa];simp only;rw[Ad9 h h2];by_cases h3:(Hp (b.take (4*n))).toNat=Eu (part b (4*n) 4)
   ·have hlp:=O1 b (List.replicate n 0) n F0 Aw7 F0 F0 n 0 Aq F0 Aw5;rw[Aam (by simpa using h3),D4,Aa,Dv Axv,Aa,kR,Aly];refine Ave (hlp) ?_;rw[IX,lJ,Aca _ (by rw[KH];omega) (Ac8 b n F0),Aa,ss4 h h2 h3];cases AV (OY b n)<;>rfl
   ·rw[Aao (by simpa using h3),ss3 h h2 h3]
 ·rw[Aao Axd,ss1 h]
theorem kW(b:LB)(n:Nat)(hn:n<=1000)(hb:4*n+4<=b.length)(hb2:b.length<4611686018427387904):∀(j i q:Nat),i+j=n->j<q->Kx b (n:Int) q (i:Int) (OY b i)=Wg (OY b n)
 |0,i,q+1,hi,_=>by
  obtain rfl:i=n:=F0
  rw[Kx,Wa,Aam Axe]
 |j+1,i,q+1,hi,hq=>by
  have hc:Bl b ((4:Int)*(i:Int)) ((4:Int)*(i:Int)+4)=some (part b (4*i) 4):=by
   rw[show(4:Int)*(i:Int)=((4*i:Nat):Int) by omega];exact Po (4*i) 4
  rw[Kx,Wa,Aao Aw4,Jj,Ak,hc,Aa,wo _ Axf,Aa,Cu (by rw[KH];simp;omega),Aa,
   JI Axf,Ak,<-M5]
  exact kW b n hn hb hb2 j (i+1) q F0 F0
theorem Akv(b:LB)(n:Nat)(hb:b.length<=100100):FF b (n:Int)=some (Jf b n):=by
 rw[FF,JO];by_cases h:1<=n/\n<=1000
 ·rw[Aam Axd,Jj,Ak];by_cases h2:b.length<4*n+4
  ·rw[Aao F2,ss2 h h2]
  ·have hc:Bl b ((4:Int)*(n:Int)) ((4:Int)*(n:Int)+4)=some (part b (4*n) 4):=by
    rw[show(4:Int)*(n:Int)=((4*n:Nat):Int) by omega];exact Po (4*n) 4
   have hs:Bi (kP (part b (4*n) 4)) (Ad (Hp (b.take (4*n))):UInt64)=decide ((Hp (b.take (4*n))).toNat≠Eu (part b (4*n) 4)):=by
    rw[<-Ad9 h h2,ON,ON,Ak7];simp only[Av7,ne_eq];exact not_congr eq_comm
   rw[Aam F2,hc,Aa,Di,Aa,show(4*(n:Int)).toNat=4*n by omega,wo _ Axf,Aa,Ah0 _ Aw3,Aa,hs];by_cases h3:(Hp (b.take (4*n))).toNat=Eu (part b (4*n) 4)
   ·have hlp:=kW b n F0 F0 F0 n 0 Aq F0 Aw5;rw[Aam (by simpa using h3),KA,JN,LG];refine Ave hlp ?_;rw[Wg,KQ,Afo _ (by rw[KH];omega) (Ac8 b n F0),Aa,ss4 h h2 h3];cases AV (OY b n)<;>rfl
   ·rw[Aao (by simpa using h3),ss3 h h2 h3]
 ·rw[Aao Axd,ss1 h]
theorem lu{b:LB}{n:Nat}(h:(Jf b n).2=0):Jf b n=(OY b n,0)/\1<=n/\n<=1000/\4*n+4<=b.length/\ (∀x∈OY b n,5<=x)/\ (OY b n).sum<=100000:=by
 unfold Jf at h⊢;split at h; · simp at h
 rename_i c1;rw[Aam c1];split at h; · simp at h
 rename_i c2;rw[Aam c2];split at h; · simp at h
 rename_i c3;rw[Aam c3];split at h
 ·rename_i c4;rw[Aao c4];have c4':=c4;rw[AV,Aap,OT _ _ F0]at c4';exact⟨rfl,F0,F0,F0,c4'.2.1,c4'.2.2⟩
 ·simp at h
def Ui(b:LB):LB:=b.drop (Dk b).1.toNat
theorem Acl(A K:Nat)(h:A<=200000)(hk:K<=1000):Ae (Ae (A:Int) (Ce 4 (K:Int))) 4=((A+4*K+4:Nat):Int):=by
 rw[Jj,Ak (a:=(A:Int)) F0 F0,Ak];omega
theorem Agy(l:LI)(i:Nat):(l.take i).sum+(l.drop i).sum=l.sum:=by
 conv=>rhs;rw[<-Av9 i l,List.sum_append]
theorem kN{l:LI}{i:Nat}(h:i<l.length):(l.take (i+1)).sum=(l.take i).sum+l[i]:=by
 rw[PD h,List.sum_append];simp
theorem HU{g n:Nat}(hg:1<=g)(hn:1<=n){x:Int}(h:x∈Ao g n):∃m:Nat,x=m/\1<=m/\m<=n:=by
 have hmul:=Avo (n-1) g;rw[Ao,List.mem_append]at h;rcases h with h|h
 ·rw[List.mem_replicate]at h;have h1:1<= (n-1)/g:=Nat.pos_of_ne_zero h.1;have:=Ac1 g h1;exact⟨g,h.2,hg,F0⟩
 ·rw[List.mem_singleton]at h;exact⟨_,h,F0,F0⟩
theorem nU{f c w r n:Nat}(h:Ku f c w r n=true):(1<=c/\c<=6)/\Dd (w:Int)/\ (1<=r/\r<=1048576)/\1<=n/\ (f=1\/f=2):=by
 simp only[Ku,Acb]at h;refine⟨h.2.1,?_,h.2.2.2.1,h.2.2.2.2,h.1⟩;rcases h.2.2.1 with rfl|rfl|rfl
 ·exact .inl rfl
 ·exact .inr (.inl rfl)
 ·exact .inr (.inr rfl)
theorem Axn{p:Prop}(h:p:=by rw[Ajz];omega):p:=h
end Go.Pl
namespace Go.Pl
open Go Go.Lv
theorem Ap0(n m:Nat):Oy n m 0≠Oy n m 2147483648:=by
 intro h;simp[Oy,GJ,wK]at h
def Cp(b:LB):LB:=b.drop (b.length-32)
theorem oh{b:LB}(h:32<=b.length):(Cp b).length=32:=by rw[Cp,Aiq];omega
def HJ(t:LB):Nat:=Eu (part t 12 4)-32
def zK(t:LB):Nat:=Eu (part t 16 4)
def Wf(b:LB):Int×Int:=
 if ¬(32<=b.length/\ (Cp b).take 8=wK)then(0,6)else if CQ (Cp b)=true then(0,12)else
 if Cp b=Oy (HJ (Cp b)) (zK (Cp b)) 0 then(if b.length<HJ (Cp b)+32 then(0,24)else(((HJ (Cp b)+32:Nat):Int),0))else
 if Cp b≠Oy (HJ (Cp b)) (zK (Cp b)) 2147483648 then(0,12)else
 if b.length<HJ (Cp b)+64 then(0,24)else
 if(b.take (b.length-(HJ (Cp b)+64)+32)).drop (b.length-(HJ (Cp b)+64))≠Oy (HJ (Cp b)) (zK (Cp b)) 2684354560 then(0,12)else(((HJ (Cp b)+64:Nat):Int),0)
section
variable {b:LB}
theorem ba1(h:¬(32<=b.length/\ (Cp b).take 8=wK)):Wf b=(0,6):=by rw[Wf,Aao h]
variable (h:32<=b.length/\ (Cp b).take 8=wK)
include h
theorem ba2(h2:CQ (Cp b)=true):Wf b=(0,12):=by rw[Wf,Aam (λh'=>h' h),Aao h2]
variable (h2:CQ (Cp b)=false)
include h2
theorem ba3(h3:Cp b=Oy (HJ (Cp b)) (zK (Cp b)) 0):Wf b=if b.length<HJ (Cp b)+32 then(0,24)else(((HJ (Cp b)+32:Nat):Int),0):=by
 rw[Wf,Aam (λh'=>h' h),Aam (by rw[h2];simp),Aao h3]
variable (h3:Cp b≠Oy (HJ (Cp b)) (zK (Cp b)) 0)
include h3
theorem ba4(h4:Cp b≠Oy (HJ (Cp b)) (zK (Cp b)) 2147483648):Wf b=(0,12):=by
 rw[Wf,Aam (λh'=>h' h),Aam (by rw[h2];simp),Aam h3,Aao h4]
variable (h4:Cp b=Oy (HJ (Cp b)) (zK (Cp b)) 2147483648)
include h4
theorem ba5(h5:b.length<HJ (Cp b)+64):Wf b=(0,24):=by
 rw[Wf,Aam (λh'=>h' h),Aam (by rw[h2];simp),Aam h3,Aam (λe=>e h4),Aao h5]
theorem ba6(h5:¬b.length<HJ (Cp b)+64):Wf b=if(b.take (b.length-(HJ (Cp b)+64)+32)).drop (b.length-(HJ (Cp b)+64))≠Oy (HJ (Cp b)) (zK (Cp b)) 2684354560 then(0,12)else(((HJ (Cp b)+64:Nat):Int),0):=by
 rw[Wf,Aam (λh'=>h' h),Aam (by rw[h2];simp),Aam h3,Aam (λe=>e h4),Aam h5]
end
theorem nk{b:LB}{n:Int}(h:Wf b=(n,0)):32<=n/\n<=b.length:=by
 unfold Wf at h;split at h; · simp at h
 rename_i h32;split at h; · simp at h
 split at h
 ·split at h; · simp at h
  simp only[Aea,Aw0]at h;omega
 split at h; · simp at h
 split at h; · simp at h
 split at h; · simp at h
 simp only[Aea,Aw0]at h;omega
theorem Afw{b:LB}(h:(Wf b).2≠0):(Wf b).1=0:=by
 revert h
 unfold Wf;split; · simp
 split; · simp
 split
 ·split<;>simp
 split; · simp
 split; · simp
 split<;>simp
theorem Aj7{b:LB}(h:32<=b.length)(hl:b.length<4611686018427387904):Al (Ac b) 32=((b.length-32:Nat):Int)/\Bl b ((b.length-32:Nat):Int) (Ac b)=some (Cp b):=by
 refine⟨by rw[Ac,Cr];omega,?_⟩;rw[Dm];rfl
theorem Ahh(b:LB)(hl:b.length<4611686018427387904):oH b=some (Wf b):=by
 rw[oH,uQ];by_cases h32:32<=b.length
 ·obtain⟨e1,e2⟩:=Aj7 h32 hl;have hl3:=oh h32;rw[Aam (by rw[e1,Af];simp),e1,e2,Aa,ZR,Aa];by_cases hp:(Cp b).take 8=wK
  ·have h:=And.intro h32 hp;rw[Aam (by simpa [wK,hl3]using hp),tP,vB,e1,e2,Aa,ZZ _ 0 F0 F0 Aw2,Aa];cases hb:CQ (Cp b)with
   |true=>
    rw[ba2 h hb];simp only[Awz,Apq,Avq];rw[Aa,ZZ _ 2147483648 F0 F0 Aw2,Aa,hb];rfl
   |false=>
    obtain⟨i1,i2,i3,i4⟩:=sA (Cp b) F0 hb;have eI:Eu (part (Cp b) 12 4)-32=HJ (Cp b):=rfl;have eM:Eu (part (Cp b) 16 4)=zK (Cp b):=rfl;simp only[Apq,Avq];rw[eI]at i3;rw[eM]at i4;rw[eI,eM];by_cases c1:Cp b=Oy (HJ (Cp b)) (zK (Cp b)) 0
    ·have c1':Cp b=Oy (HJ (Cp b)) (zK (Cp b)) (0:UInt64).toNat:=c1;rw[Aao (by simpa using c1'),ba3 h hb c1];by_cases c2:b.length<HJ (Cp b)+32
     ·rw[Aao Aw4,Aao c2]
     ·rw[Aam Aw4,Aam c2,Ak];rfl
    ·have c1':¬Cp b=Oy (HJ (Cp b)) (zK (Cp b)) (0:UInt64).toNat:=c1;rw[Aam (by simpa using c1'),Aa,ZZ _ 2147483648 F0 F0 Aw2,Aa,hb];simp only[Apq,Avq];rw[eI,eM];by_cases c2:Cp b=Oy (HJ (Cp b)) (zK (Cp b)) 2147483648
     ·have c2':Cp b=Oy (HJ (Cp b)) (zK (Cp b)) (2147483648:UInt64).toNat:=c2;rw[Aam (by simpa using c2'),Ak];by_cases c3:b.length<HJ (Cp b)+64
      ·rw[Aao F2,ba5 h hb c1 c2 c3]
      ·rw[Aam F2,Ac,Cr,Ak,ME,Aa,xU _ _ _ i3 i4 Aw2,Aa,Ji,Aa,ba6 h hb c1 c2 c3];rw[show((b.length:Int)-(((HJ (Cp b):Nat):Int)+64)).toNat=b.length-(HJ (Cp b)+64) by omega,show((b.length:Int)-(((HJ (Cp b):Nat):Int)+64)+32).toNat=b.length-(HJ (Cp b)+64)+32 by omega];have e7:(2684354560:UInt64).toNat=2684354560:=rfl;rw[e7];by_cases c4:(b.take (b.length-(HJ (Cp b)+64)+32)).drop (b.length-(HJ (Cp b)+64))=Oy (HJ (Cp b)) (zK (Cp b)) 2684354560
       ·rw[Aam (by simpa using c4),Aam (λe=>e c4)];rfl
       ·rw[Aao (by simpa using c4),Aao c4]
     ·have c2':¬Cp b=Oy (HJ (Cp b)) (zK (Cp b)) (2147483648:UInt64).toNat:=c2;rw[Aao (by simpa using c2'),ba4 h hb c1 c2]
  ·rw[Aao (by rw[Aph,Ar4];intro h;exact hp h.2),ba1 (λh=>hp h.2)]
 ·rw[Aao (by rw[Ac,Cr,Af];simp;omega),ba1 (λh=>h32 h.1)]
theorem Anx{b:LB}(h:32<=b.length):(b.take (b.length-32+8)).drop (b.length-32)=(Cp b).take 8:=by
 rw[Cp,List.take_drop]
theorem Ak8(b:LB)(hl:b.length<4611686018427387904):DR b=some (Wf b):=by
 rw[DR,JK];by_cases h32:32<=b.length
 ·obtain⟨e1,e2⟩:=Aj7 h32 hl;have hl3:=oh h32;rw[Aam F2,e1,Ak,ME,Aa,show((b.length-32:Nat):Int).toNat=b.length-32 from rfl,show(((b.length-32:Nat):Int)+8).toNat=b.length-32+8 by omega,Anx h32];by_cases hp:(Cp b).take 8=wK
  ·have h:=And.intro h32 hp;rw[Aam (by simpa [wK]using hp),LD,KZ,e1,e2,Aa,Z9 _ F0 F0,Aa];cases hb:CQ (Cp b)with
   |true=>rw[ba2 h hb];rfl
   |false=>
    obtain⟨i1,i2,i3,i4⟩:=sA (Cp b) F0 hb;have eI:Eu (part (Cp b) 12 4)-32=HJ (Cp b):=rfl;have eM:Eu (part (Cp b) 16 4)=zK (Cp b):=rfl;simp only[Apq,Avq,Av8];rw[eI]at i3;rw[eM]at i4;rw[eI,eM,Lp,Aao rfl,qS _ _ _ i3 i4 Aw2,Aa,Aa];have e7:(2147483648:UInt64).toNat=2147483648:=rfl;have e8:(2684354560:UInt64).toNat=2684354560:=rfl;rw[e7];by_cases c2:Cp b=Oy (HJ (Cp b)) (zK (Cp b)) 2147483648
    ·have c1:Cp b≠Oy (HJ (Cp b)) (zK (Cp b)) 0:=λe=>Ap0 (HJ (Cp b)) (zK (Cp b)) (e.symm.trans c2);rw[Aam (by simpa using c2),Wh,Vv,Aao (by simpa using c2),Ws,Ww,Ak (a:=32) F0 F0,Ak];by_cases c3:b.length<HJ (Cp b)+64
     ·rw[Aao F2,ba5 h hb c1 c2 c3]
     ·rw[Aam F2,Aao (by simpa using c2),Ac,Cr,Ak,ME,Aa,Uz,qS _ _ _ i3 i4 Aw2,Aa,Aa,ba6 h hb c1 c2 c3,e8];rw[show((b.length:Int)-(32+((HJ (Cp b):Nat):Int)+32)).toNat=b.length-(HJ (Cp b)+64) by omega,show((b.length:Int)-(32+((HJ (Cp b):Nat):Int)+32)+32).toNat=b.length-(HJ (Cp b)+64)+32 by omega];by_cases c4:(b.take (b.length-(HJ (Cp b)+64)+32)).drop (b.length-(HJ (Cp b)+64))=Oy (HJ (Cp b)) (zK (Cp b)) 2684354560
      ·rw[Aam (by simpa using c4),Aam (λe=>e c4),show(32+((HJ (Cp b):Nat):Int)+32)=((HJ (Cp b)+64:Nat):Int) by omega]
      ·rw[Aao (by simpa using c4),Aao c4]
    ·rw[Aao (by simpa using c2),Lp,Aam Aw7,qS _ _ _ i3 i4 Aw2,Aa,Aa];have e9:(0:UInt64).toNat=0:=rfl;rw[e9];by_cases c1:Cp b=Oy (HJ (Cp b)) (zK (Cp b)) 0
     ·rw[Aam (by simpa using c1),Wh,Vv,Aam (by simpa using c2),Ws,Ww,Ak,ba3 h hb c1,Aam (c:=(Cp b==Oy (HJ (Cp b)) (zK (Cp b)) 2147483648)=true) (by simpa using c2)];by_cases c3:b.length<HJ (Cp b)+32
      ·rw[Aao F2,Aao c3]
      ·rw[Aam F2,Aam c3,show(32+((HJ (Cp b):Nat):Int))=((HJ (Cp b)+32:Nat):Int) by omega]
     ·rw[Aao (by simpa using c1),ba4 h hb c1 c2]
  ·rw[Aao (by simpa [wK]using hp),ba1 (λh=>hp h.2)]
 ·rw[Aao F2,ba1 (λh=>h32 h.1)]
def W6:Nat->LB->Nat->Int×Int
 |0,_,_=>(0,38)
 |j+1,b,a=>if b=[]then((a:Int),0)else if(Wf b).2≠0 then(0,38)else W6 j (b.take (b.length-(Wf b).1.toNat)) (a+1)
theorem ug:∀(j q a:Nat) (b:LB),b.length<j->j<=q->b.length<=4000->a+b.length<=4000->Tg q (a:Int) b=some (W6 j b a)
 |0,_,_,_,h,_,_,_=>by omega
 |j+1,q+1,a,b,h,hq,h4,ha=>by
  rw[Tg,MZ,W6];by_cases hb:b=[]
  ·subst hb;rw[Aam Aw2,Aao rfl];rfl
  ·have hpos:0<b.length:=List.length_pos_iff.2 hb;rw[Aao Aw6,Aam hb,Ahh b F0,Aa];have hbad:=Afw (b:=b);have hok:=λn=>nk (b:=b) (n:=n);generalize Wf b=v at*
   obtain⟨n,e⟩:=v;simp only at hbad⊢;rw[IG,YB];by_cases he:e≠0
   ·rw[Aao he,hbad he,Aao Aw2]
   ·obtain⟨k1,k2⟩:=hok n (by rw[show e=0 by simpa using he]);rw[Aam he,Aam Axc,Ac,Cr,Di,Aa,YG,YJ,Ak];rw[show((b.length:Int)-n).toNat=b.length-n.toNat by omega];have ih:=ug j q (a+1) (b.take (b.length-n.toNat)) Axn F0 Axn Axn;rw[<-ih];rfl
theorem Adt:∀(j q a:Nat) (b:LB),b.length<j->j<=q->b.length<=4000->a+b.length<=4000->Mr q b (a:Int)=some (W6 j b a)
 |0,_,_,_,h,_,_,_=>by omega
 |j+1,q+1,a,b,h,hq,h4,ha=>by
  rw[Mr,GG,W6];by_cases hb:b=[]
  ·subst hb;rw[Aam Aw2,Aao rfl];rfl
  ·have hpos:0<b.length:=List.length_pos_iff.2 hb;rw[Aao Aw6,Aam hb,Ak8 b F0,Aa];have hok:=λn=>nk (b:=b) (n:=n);generalize Wf b=v at*
   obtain⟨n,e⟩:=v;simp only;by_cases he:e≠0
   ·rw[Aao he,Aao (by rw[Am];simpa using he)]
   ·obtain⟨k1,k2⟩:=hok n (by rw[show e=0 by simpa using he]);rw[Aam he,Aam (by rw[Am];simpa using he),Ac,Cr,Di,Aa,Ak];rw[show((b.length:Int)-n).toNat=b.length-n.toNat by omega];have ih:=Adt j q (a+1) (b.take (b.length-n.toNat)) Axn F0 Axn Axn;rw[<-ih];rfl
def UE(b:LB):Int×Int:=if 4000<b.length then(0,38)else W6 (b.length+1) b 0
theorem oz(b:LB)(hl:b.length<4611686018427387904):OO b=some (UE b):=by
 rw[OO,MS,UE];by_cases h:4000<b.length
 ·rw[Aao Aw6,Aao h]
 ·rw[Aam Aw6,Aam h];exact ug _ Aq 0 b F0 Aw5 F0 F0
theorem Aco(b:LB)(hl:b.length<4611686018427387904):Ye b=some (UE b):=by
 rw[Ye,DH,UE];by_cases h:4000<b.length
 ·rw[Aao Aw6,Aao h]
 ·rw[Aam Aw6,Aam h];exact Adt _ Aq 0 b F0 Aw5 F0 F0
theorem Aro{a b:Nat}(h:a<9223372036854775808:=by omega):Cq (a:Int) (b:Int)=((a/b:Nat):Int):=by
 have:a/b<=a:=Ar5 _ _;rw[MG,Atz F0,<-Int.natCast_ediv];generalize a/b=k at*
 exact Cz F0 F0
theorem Afg{bits:Int}(h:Dd bits)(x:Int):(jH bits x).length=wB bits:=by
 obtain rfl|rfl|rfl:=h<;>rfl
theorem dW{bits:Int}(h:Dd bits):∀l:LX,(Nw bits l).length=l.length*wB bits
 |[]=>by simp[Nw]
 |x::l=>by
  have h1:=dW h l;have h2:=Afg h x.toInt;simp only[Nw,List.flatMap_cons,Aar,Ar0,Avu]at*
  omega
def Atl(b:LB)(A:Nat)(l:LI)(k:Nat):LB:=(b.take ((A:Int)+(l.take (k+1)).sum).toNat).drop ((A:Int)+(l.take k).sum).toNat
structure Gts (b p:LB) (f c w r n A:Nat) (l:LI) (k m:Nat) (x:LX) (s:LB) (e:Int):Prop where
 mom:Ah (Ao (Be r) n) (k:Int)=some (m:Int)
 pos:1<=m/\m*c<=4000
 got:sC b p (f:Int) (c:Int) (w:Int) (r:Int) (n:Int) (A:Int) l (k:Int)=some (s,e)
 none':e≠0->s=[]/\x=[]
 some':e=0->s=Nw (w:Int) x/\x.length=m*c/\Bq (w:Int) x=some 0/\Rp (w:Int) x=some (s,0)/\ (A:Int)+(l.take (k+1)).sum<=b.length
 way:((b.length:Int)<(A:Int)+(l.take (k+1)).sum/\e=24)\/ ((A:Int)+(l.take (k+1)).sum<=b.length/\Qn (c:Int) (w:Int) (IL p) (m:Int) (Atl b A l k)=some (x,e)/\Fa (c:Int) (w:Int) (IL p) (m:Int) (Atl b A l k)=some (x,e))
theorem Gts.lens{b p:LB}{f c w r n A:Nat}{l:LI}{k m:Nat}{x:LX}{s:LB}{e:Int}(hw:Dd (w:Int))(g:Gts b p f c w r n A l k m x s e):s.length<=12000/\x.length<=4000/\ (e=0->s.length=m*c*wB (w:Int)):=by
 by_cases he:e=0
 ·obtain⟨h1,h2,_⟩:=g.some' he;have h3:=IW (w:Int) x;have h4:=dW hw x;have h5:=g.pos;rw[<-h1]at h3 h4;refine⟨F0,F0,λ_=>by rw[h4,h2]⟩
 ·obtain⟨h1,h2⟩:=g.none' he;exact⟨by simp[h1],by simp[h2],λh=>absurd h he⟩
variable (b:LB)
end Go.Pl
namespace Go.Pl
open Go Go.Lv
variable{e bits:Int}
theorem Aq9{c:Nat}{w:Nat}(hc:c<=6)(hw:Dd (w:Int)):Cq (Ce (c:Int) (w:Int)) 8=((c*wB (w:Int):Nat):Int):=by
 have h:w=8\/w=16\/w=24:=by unfold Dd at hw;omega
 have:c=0\/c=1\/c=2\/c=3\/c=4\/c=5\/c=6:=F0
 rcases h with rfl|rfl|rfl<;>rcases this with rfl|rfl|rfl|rfl|rfl|rfl|rfl<;>rfl
theorem Aqe{w:Nat}(hw:Dd (w:Int)):8*wB (w:Int)=w/\w<=24:=by
 have h:w=8\/w=16\/w=24:=by unfold Dd at hw;omega
 rcases h with rfl|rfl|rfl<;>exact⟨rfl,F0⟩
theorem Aru{t c w:Nat}(ht:t<=4000)(hc:c<=6)(hw:Dd (w:Int)):Cq (Ce (Ce (t:Int) (c:Int)) (w:Int)) 8=((t*(c*wB (w:Int)):Nat):Int):=by
 obtain⟨h1,h2⟩:=Aqe hw;have e1:(t:Int)*(c:Int)=((t*c:Nat):Int):=by simp
 have b1:t*c<=4000*6:=At8 ht hc;have b2:t*c*w<=24000*24:=At8 b1 h2;rw[Jj (a:=(t:Int)) (by rw[e1];omega) (by rw[e1];omega),e1,Jj Axl Axl,<-Atb,show(8:Int)=((8:Nat):Int)from rfl,Aro];congr 1;generalize wB (w:Int)=W at*
 subst h1;rw[Nat.mul_left_comm,Nat.mul_div_cancel_left _ F0,Aui]
theorem ng{seg p:LB}(hs:seg.length=8)(hp:p.length<=64):FN seg p=some (seg==GJ (BN p).toNat 8,0):=by
 rw[FN,Afp p hp,Aa];simp only;rw[Aam (by rw[Am,Am,Ac,Ac,Pk,hs];simp),Ji,Aa]
def rA(b:LB):LI:=Ao (Be (f3 (Ui b))) (f4 (Ui b))
theorem A5{c r n:Nat}(h:QU c r n=true):1<= (Ao (Be r) n).length/\ (Ao (Be r) n).length<=1000:=by
 simp only[QU,Acb]at h;rw[uI];exact⟨Nat.le_add_left _ _,h.2⟩
theorem Ada(g:Nat):∀K:Nat,(List.replicate K (g:Int)).sum=((K*g:Nat):Int)
 |0=>by simp
 |K+1=>by
  rw[Auf,Aua,Ada g K,Avu];omega
theorem fJ{g n:Nat}(hn:1<=n):(Ao g n).sum=(n:Int):=by
 have h:=Avo (n-1) g;rw[Ao,List.sum_append,Ada];simp only[Aua,List.sum_nil];omega
theorem Acj:∀{l:LI},(∀x∈l,0<=x)->0<=l.sum
 |[],_=>by simp
 |x::l,h=>by
  have h1:=h x Auq;have h2:=Acj (l:=l) λy hy=>h y (Aty _ hy);rw[Aua];omega
theorem iQ{l:LI}(h:∀x∈l,0<=x)(i:Nat):0<= (l.take i).sum/\ (l.take i).sum<=l.sum:=by
 have h1:=Acj (l:=l.take i) λx hx=>h x (List.mem_of_mem_take hx);have h2:=Acj (l:=l.drop i) λx hx=>h x (List.mem_of_mem_drop hx);have:=Agy l i;omega
def CM(c w:Nat)(fr:LI)(k:Nat):Int:=(((fr.take k).sum.toNat*(c*wB (w:Int)):Nat):Int)
section
variable {f c w r n:Nat} (h1:Ku f c w r n=true) (h2:QU c r n=true)
include h1 h2
theorem RM:(∀x∈Ao (Be r) n,0<=x)/\ (Ao (Be r) n).sum=(n:Int)/\n<=4000:=by
 obtain⟨hc,hw,hr,hn,_⟩:=nU h1;have hfit:n<=4000/c:=by simp only[QU,Acb]at h2;exact h2.1
 have hn4:n<=4000:=by have:=Ar5 4000 c;omega
 refine⟨λx hx=>?_,fJ hn,hn4⟩;obtain⟨m,rfl,_⟩:=HU (Xp r) hn hx;omega
end
theorem Abr(C W:Nat)(fr:LI):CM C W fr 0=0:=by rw[CM,Awc,List.sum_nil];simp
theorem Abp(C W:Nat){fr:LI}(hp:∀z∈fr,0<=z){A m:Nat}(hA:A<fr.length)(hm:fr[A]=(m:Int)):CM C W fr (A+1)=CM C W fr A+((m*C*wB (W:Int):Nat):Int):=by
 have hs:0<= (fr.take A).sum:=by
  have:∀l:LI,(∀z∈l,0<=z)->0<=l.sum:=by
   intro l
   induction l with
   |nil=>intro _;simp
   |cons a l ih=>intro h;rw[Aua];have:=h a Aw7;have:=ih (λz hz=>h z (by simp[hz]));omega
  exact this _ λz hz=>hp z (List.mem_of_mem_take hz)
 have e:(fr.take (A+1)).sum=(fr.take A).sum+m:=by rw[PD hA,List.sum_append,Aua,List.sum_nil,hm];omega
 rw[CM,CM,e];have:((fr.take A).sum+(m:Int)).toNat=(fr.take A).sum.toNat+m:=F0
 rw[this,Aq2,Aui m];omega
def Auk(bits:Int)(ch:Nat)(t x:LX):LU:=evl bits ch t (mx ch x) x.length
def As4(bits:Int)(ch:Nat)(t x:LX):LB:=Ata (Atp ch (Auk bits ch t x) x.length)
def nN(bits:Int)(ch:Nat)(t x:LX):LB:=As4 bits ch t x++GJ (Hp (As4 bits ch t x)).toNat 4
theorem Am4{n:Nat}(h:n<2^64):(UInt64.ofNat n).toNat=n:=by rw[Ahl];exact Ab6 h
structure ClipOk (c w r n:Nat) (x:LX):Prop where
 ch:1<=c/\c<=6
 bits:Dd (w:Int)
 rate:1<=r/\r<=1048576
 cnt:1<=n/\n<=4000/c
 len:x.length=n*c
 fr:(n-1)/Be r+1<=1000
 rng:inR (w:Int) x
theorem ClipOk.le{c w r n:Nat}{x:LX}(h:ClipOk c w r n x):n<=4000/\n*c<=4000/\1<=x.length/\x.length<=4000:=by
 have h1:=Ac1 c h.cnt.2;have h2:=Avo 4000 c;have h3:=Ar5 4000 c;have h4:=Nat.mul_pos h.cnt.1 h.ch.1;have h5:=h.len;have:=h.cnt;omega
theorem ClipOk.w3{c w r n:Nat}{x:LX}(h:ClipOk c w r n x):w=8\/w=16\/w=24:=by
 have:=h.bits;unfold Dd at this;omega
theorem ClipOk.shape{c w r n:Nat}{x:LX}(h:ClipOk c w r n x)(f:Nat)(hf:f=1\/f=2):Ku f c w r n=true:=by
 have:=h.w3;have:=h.ch;have:=h.rate;have:=h.cnt;simp only[Ku,Acb];omega
theorem ClipOk.fit{c w r n:Nat}{x:LX}(h:ClipOk c w r n x):QU c r n=true:=by
 have:=h.cnt;have:=h.fr;simp only[QU,Acb];omega
def Atw(f c w r n:Nat):LB:=bV++GJ f 2++GJ c 2++GJ w 2++GJ r 4++GJ n 4
def Auw(f c w r n:Nat):LB:=Atw f c w r n++GJ (Hp (Atw f c w r n)).toNat 4
theorem Ape(b f g h k:Int)(m v w q:Nat)(a:LB)(hm:m<5)(hv:Ah ([b,f,g,h,k]:LI) (m:Int)=some (v:Int))(hw:Ah ([2,2,2,4,4]:LI) (m:Int)=some (w:Int))(h1:1<=w)(h8:w<=8)(hlt:v<256^w)(h64:v<18446744073709551616)(ha:a.length<=100):
  Pa b f g h k (q+1) (m:Int) a=Pa b f g h k q ((m+1:Nat):Int) (a++GJ v w):=by
 have e64:(UInt64.ofNat v).toNat=v:=Am4 F0;have hi1:Ae (m:Int) 1=((m+1:Nat):Int):=by rw[Ak];omega
 rw[Pa,MY,Aao Aw4,hv,Aa,hw,Aa,Xq,C9 _ w h1 h8 (by rw[e64];exact hlt),Aa];simp only;rw[Cu (by rw[Pk];omega),Aa,hi1,e64]
def Asa(l:LI):LB:=l.flatMap λx=>GJ x.toNat 4
def Auu(l:LI):LB:=Asa l++GJ (Hp (Asa l)).toNat 4
def Ajd(c:Nat):LX->LI->List LX
 |_,[]=>[]
 |x,m::l=>x.take (m.toNat*c)::Ajd c (x.drop (m.toNat*c)) l
def D6(fs:List LB):LI:=fs.map λf=>(f.length:Int)
theorem yN(fs:List LB):(D6 fs).length=fs.length:=by rw[D6,List.length_map]
def Ast(p:LB):Nat:=if p=[]then 1 else 2
def Aun(p:LB):LB:=if p=[]then []else GJ (BN p).toNat 8
def Auz(c r n:Nat)(x:LX):List LX:=Ajd c x (Ao (Be r) n)
def frs(c w r n:Nat)(x:LX)(p:LB):List LB:=(Auz c r n x).map (nN (w:Int) c (IL p))
section
variable {c w r n:Nat} {x:LX} (h:ClipOk c w r n x)
include h
theorem ClipOk.sum:(Ao (Be r) n).sum=(n:Int):=fJ h.cnt.1
omit h in
omit h in
omit h in
omit h in
end
structure FileOf (c w r n:Nat) (x:LX) (p:LB) (T:Nat) (fs:List LB) (z b:LB):Prop where
 clip:ClipOk c w r n x
 pass:p.length<=64
 front:Dk b=((T:Int),0)
 le:b.length<=100000
 lens:D6 fs=D6 (frs c w r n x p)
 form:b.drop T=Auw (Ast p) c w r n++(Aun p++(Auu (D6 (frs c w r n x p))++(fs.flatten++z)))
section
variable {c w r n:Nat} {x:LX} {p:LB} {T:Nat} {fs:List LB} {z b:LB} (h:FileOf c w r n x p T fs z b)
include h
theorem FileOf.cnt:fs.length=(frs c w r n x p).length:=by
 have:=congrArg List.length h.lens;rw[yN,yN]at this;exact this
end
def Cd(e:Int):Prop:=e=0\/e=4\/e=12\/e=16\/e=22\/e=24\/e=26\/e=38
instance(e:Int):Decidable (Cd e):=by unfold Cd;infer_instance
theorem Cd.nn(h:Cd e):0<=e:=by unfold Cd at h;omega
theorem Apz(p:LB)(N a k:Nat):Cd (SU p N a k).2.2:=by
 unfold SU
 repeat' split
 all_goals first|decide|exact .inl rfl
theorem Arq(p:LB)(N a k l:Nat):Cd (ZJ p N a k l).2.2:=by
 have h:=Apz p N (a+1) l;unfold ZJ
 repeat' split
 all_goals first|exact h|decide|exact .inl rfl
theorem Adf(ch:Nat)(p:LB)(N:Nat):∀(j a:Nat) (out:LU),Cd (Xo ch p N j a out).2.2
 |0,a,out=>by rw[Xo];exact .inl rfl
 |j+1,a,out=>by
  rw[Xo];split
  ·exact Arq ..
  ·exact Adf ch p N j _ _
theorem Ah8(b:LB):Cd (Ux b):=by
 unfold Ux
 repeat' split
 all_goals first|decide|exact .inl rfl
theorem P8(a:LX)(b:Int):∀(q:Nat) (i e:Int),Bv a b q i=some e->Cd e
 |0,_,_,h=>by rw[Bv]at h;cases h
 |q+1,i,e,h=>by
  rw[Bv,Ff]at h;split at h
  ·cases hg:Ah a i with
   |none=>rw[hg]at h;cases h
   |some g=>
    rw[hg,Aa]at h;split at h
    ·cases h;decide
    ·rw[Aa]at h;split at h
     ·cases h;decide
     ·exact P8 a b q _ e h
  ·cases h;decide
theorem Aa9{a:LX}(hb:Dd bits)(h:Bq bits a=some e):Cd e:=by
 rw[Bq,Ju]at h;rw[uM hb,Aa,Aam (by have:=lS bits;rw[Ba];simp;omega)]at h;split at h
 ·cases h;decide
 ·exact P8 a _ _ _ e h
theorem O2{ch n:Nat}{t:LX}{b:LB}(hb:Dd bits)(ht:t.length=16)(h1:1<=ch)(h6:ch<=6)(n1:1<=n)(n2:n<=4000/ch){l:LX}
  (h:Fa (ch:Int) bits t (n:Int) b=some (l,e)):Cd e:=by
 have hn:n*ch<=4000:=by
  have:=Ac1 ch n2;have h2:=Avo 4000 ch;omega
 have hq4:=Ac2 h1 h6;generalize 4000/ch=mm at*
 have hh:=lS bits;have Ac0:Nv (ch:Int) bits (n:Int)=some 0:=by
  rw[Nv,AZ,Aam Axd,uM hb,Aa,Aam Axc,Aa,Aam (by simp[Am,Af];omega),Dv Axb,Aa,hq4,Aam Aw9]
 rw[Fa,Tf,Ac0,Aa,Aam Aw8,yL,Aa]at h;by_cases hs:Ux b≠0
 ·rw[Aao (by rw[Am];simpa using hs)]at h;simp only[Aa]at h;cases h;exact Ah8 b
 have hs0:Ux b=0:=by simpa using hs
 have hlen:=zo hs0;have e4:Al (Ac b) 4=((b.length-4:Nat):Int):=by rw[Ac,Cr];omega
 rw[Aam (by rw[Am,hs0];simp),e4,Di,Aa,show((b.length-4:Nat):Int).toNat=b.length-4 from rfl]at h;have hpl:(b.take (b.length-4)).length=b.length-4:=by simp
 generalize b.take (b.length-4)=p at*
 have hr:=Ad0 (N:=8*p.length) (p:=p) rfl F0 h1 h6 hn;have hV:=Adf ch p (8*p.length) (n*ch) 0 [];have hat:=wF (ch:=ch) (p:=p) (N:=8*p.length) (n*ch) 0 [] F0;rw[hr,Aa]at h;generalize Xo ch p (8*p.length) (n*ch) 0 []=V at*
 obtain⟨v,at',er⟩:=V;simp only at*
 by_cases he:er≠0
 ·rw[Aao he]at h;simp only at h;rw[Ii,Iw,Aao (by rw[Am];simpa using he)]at h;cases h;exact hV
 have he0:er=0:=by simpa using he
 have hvl:=hat.2.2 he0;simp only[List.length_nil,Avt]at hvl;rw[Aam he]at h;simp only at h;rw[Ii,Iw]at h;split at h
 ·cases h;decide
 ·rw[Aam Aw2]at h;have hm:v.length %ch=0:=by rw[hvl];exact Av4 n ch
  obtain⟨l',e',g1,g2,g3,g4,g5⟩:=oZ (v:=v) hb ht h1 h6 F0 hm;rw[g1,Aa,g2,Aa]at h;have:=Aa9 hb g4;by_cases hl:e'≠0
  ·rw[Aao hl]at h;cases h;exact this
  ·rw[Aam hl]at h;cases h;decide
theorem L6{ch n:Nat}{t:LX}{b:LB}(hb:Dd bits)(ht:t.length=16)(h1:1<=ch)(h6:ch<=6)(n1:1<=n)(n2:n<=4000/ch){l:LX}
  (h:Fa (ch:Int) bits t (n:Int) b=some (l,e)):0<=e:=(O2 hb ht h1 h6 n1 n2 h).nn
def shI(f c w r n:Int):Bool:=decide ((f=1\/f=2)/\ (1<=c/\c<=6)/\ (w=8\/w=16\/w=24)/\ (1<=r/\r<=1048576)/\1<=n)
theorem Akt(f c w r n:Int):Pv f c w r n=some (shI f c w r n):=by
 have e2:Rc f c w r n=some (decide ((f=1\/f=2)/\ (1<=c/\c<=6)/\ (1<=r/\r<=1048576)/\1<=n)):=by
  rw[Rc,IA];congr 1;rw[Ak7];simp only[Ba,As,RN,Aap,Ars,Ar7,Acb];omega
 have g:∀k:Int,geq w k=decide (w=k):=λk=>by rw[Ba,Ak7];simp
 rw[Pv,HX,e2,g,g,g,shI];by_cases h8:w=8
 ·subst h8;simp
 ·by_cases h16:w=16
  ·subst h16;simp
  ·by_cases h24:w=24
   ·subst h24;simp
   ·simp[h8,h16,h24]
theorem Aof(f c w r n:Int):Jb f c w r n=some (shI f c w r n):=by
 rw[Jb,shI];simp only[Ba,El,RN,Aap,Ars,Ar7,Acb,Awb];split
 ·rename_i h;congr 1;rw[Ak7];simp only[Aap,Ars,Ar7,Acb];omega
 ·rename_i h;congr 1;symm;rw[Ar4];omega
structure HdI (f c w r n:Int) (F C W R N:Nat):Prop where
 ef:f=F
 ec:c=C
 ew:w=W
 er:r=R
 en:n=N
 shape:Ku F C W R N=true
 fit:QU C R N=true
theorem Aha(f c w r n:Int):(∃F C W R N:Nat,HdI f c w r n F C W R N)\/ (Kn f c w r n=some 8/\Dz f c w r n=some ([],8)):=by
 by_cases h:shI f c w r n=true
 ·have h':=h;simp only[shI,Acb]at h';obtain⟨F,rfl⟩:=Alv (show 0<=f by omega);obtain⟨C,rfl⟩:=Alv (show 0<=c by omega);obtain⟨W,rfl⟩:=Alv (show 0<=w by omega);obtain⟨R,rfl⟩:=Alv (show 0<=r by omega);obtain⟨N,rfl⟩:=Alv (show 0<=n by omega);have hs:Ku F C W R N=true:=by simp only[Ku,Acb];omega
  by_cases hf:QU C R N=true
  ·exact .inl ⟨F,C,W,R,N,rfl,rfl,rfl,rfl,rfl,hs,hf⟩
  ·have hf':QU C R N=false:=by simpa using hf
   refine .inr ⟨?_,?_⟩
   ·rw[Kn,mX,Aa,hs,Aam Aw7,G9 hs,Aa,hf'];rfl
   ·rw[Dz,Rq,dY,Aa,hs,Aam Aw7,rZ hs,Aa,hf'];rfl
 ·have h':shI f c w r n=false:=by simpa using h
  refine .inr ⟨?_,?_⟩
  ·rw[Kn,Aof,Aa,h'];rfl
  ·rw[Dz,Rq,Akt,Aa,h'];rfl
theorem HdI.check{f c w r n:Int}{F C W R N:Nat}(h:HdI f c w r n F C W R N):Kn f c w r n=some 0:=by
 obtain⟨rfl,rfl,rfl,rfl,rfl,hs,hf⟩:=h;rw[Kn,mX,Aa,hs,Aam Aw7,G9 hs,Aa,hf];rfl
theorem HdI.rA{f c w r n:Int}{F C W R N:Nat}(h:HdI f c w r n F C W R N):Dz f c w r n=some (Ao (Be R) N,0):=by
 obtain⟨rfl,rfl,rfl,rfl,rfl,hs,hf⟩:=h;exact qg hs hf
theorem HdI.num{f c w r n:Int}{F C W R N:Nat}(h:HdI f c w r n F C W R N):(F=1\/F=2)/\ (1<=C/\C<=6)/\ (W=8\/W=16\/W=24)/\ (1<=R/\R<=1048576)/\1<=N/\N<=4000/C/\N<=4000/\ (N-1)/Be R+1<=1000:=by
 obtain⟨rfl,rfl,rfl,rfl,rfl,hs,hf⟩:=h;simp only[Ku,Acb]at hs;simp only[QU,Acb]at hf;have hd:4000/C<=4000:=Ar5 _ _;omega
theorem HdI.Abq{f c w r n:Int}{F C W R N:Nat}(h:HdI f c w r n F C W R N):Gc f c w r n=some (Ao (Be R) N):=by
 have hn:=h.num;obtain⟨rfl,rfl,rfl,rfl,rfl,hs,hf⟩:=h;rw[Gc,A3 F0 F0 F0];rfl
section
variable {f c w r n:Nat} (h1:Ku f c w r n=true) (h2:QU c r n=true)
include h1 h2
theorem M3(k:Nat)(hk:k<= (Ao (Be r) n).length):∀(j i q:Nat),i+j=k->j<q->Lc (k:Int) (f:Int) (c:Int) (w:Int) (r:Int) (n:Int) (Ao (Be r) n) q (((Ao (Be r) n).take i).sum) (i:Int)=some (CM c w (Ao (Be r) n) k)
 |0,i,q+1,hi,_=>by
  obtain⟨hc,hw,hr,hn,_⟩:=nU h1;obtain⟨g1,g2,g3⟩:=RM h1 h2;have b:=iQ g1 i;obtain rfl:i=k:=F0
  have hb:((Ao (Be r) n).take i).sum.toNat*(c*wB (w:Int))<=4000*(6*3):=At8 F0 (At8 hc.2 (jh (w:Int)).2);rw[Lc,Vy,Aam Axe,JM,KR,Ht,Aa];simp only;rw[NX,Aq9 hc.2 hw,Aa,CM];have e:((Ao (Be r) n).take i).sum=((((Ao (Be r) n).take i).sum.toNat:Nat):Int):=F0
  rw[e,Jj Axl Axl,<-Atb];rfl
 |j+1,i,q+1,hi,hq=>by
  obtain⟨g1,g2,g3⟩:=RM h1 h2;have hK:=A5 h2;have hlt:i<(Ao (Be r) n).length:=F0
  have b1:=iQ g1 i;have b2:=iQ g1 (i+1);have e:=kN hlt;have ih:=M3 k hk j (i+1) q F0 F0;rw[e]at ih;rw[Lc,Vy,Aao Aw4,Cm hlt,Aa,Aa,Ak,Ak];exact ih
theorem iq(k:Nat)(hk:k<= (Ao (Be r) n).length):Vh (f:Int) (c:Int) (w:Int) (r:Int) (n:Int) (k:Int)=some (CM c w (Ao (Be r) n) k):=by
 have hK:=A5 h2;obtain⟨g1,g2,g3⟩:=RM h1 h2;obtain⟨hc,hw,hr,hn,_⟩:=nU h1;have h:=M3 h1 h2 k hk k 0 Aq F0 Aw5;rw[Awc,List.sum_nil]at h;rw[Vh,KG,Gc,A3 hr.2 hn g3,Aa,Aa];exact h
theorem Aba{i:Nat}(hlt:i<(Ao (Be r) n).length):Ae (CM c w (Ao (Be r) n) i) (Cq (Ce (Ce ((Ao (Be r) n)[i]) (c:Int)) (w:Int)) 8)=CM c w (Ao (Be r) n) (i+1):=by
 obtain⟨hc,hw,hr,hn,_⟩:=nU h1;obtain⟨g1,g2,g3⟩:=RM h1 h2;have b1:=iQ g1 i;have b2:=iQ g1 (i+1);have e:=kN hlt;have h0:=g1 _ (Ar3 hlt);have e2:(Ao (Be r) n)[i]=(((Ao (Be r) n)[i].toNat:Nat):Int):=F0
 have hb:((Ao (Be r) n).take (i+1)).sum.toNat*(c*wB (w:Int))<=4000*(6*3):=At8 F0 (At8 hc.2 (jh (w:Int)).2);rw[e2,Aru F0 hc.2 hw,CM,CM];have e3:((Ao (Be r) n).take (i+1)).sum.toNat=((Ao (Be r) n).take i).sum.toNat+(Ao (Be r) n)[i].toNat:=F0
 rw[e3,Aq2]at hb⊢;rw[Ak];omega
theorem M8(a:Nat)(ha:a<= (Ao (Be r) n).length)(o p:LB)(m:LI)(a':Int)(N:LB)(u:Bool)(v:Int):∀(j i q:Nat),i+j=a->j<q->
  Oz ((Ao (Be r) n).take a) o p (f:Int) (c:Int) (w:Int) (r:Int) (n:Int) m a' N u v q (CM c w (Ao (Be r) n) i) (i:Int)=some (pB (Ac N) (CM c w (Ao (Be r) n) a))
 |0,i,q+1,hi,_=>by
  obtain rfl:i=a:=F0
  rw[Oz,Zs,Aam (by rw[Af,Ac,Ajz];simp;omega),MR,bG]
 |j+1,i,q+1,hi,hq=>by
  have hK:=A5 h2;have hlt:i<(Ao (Be r) n).length:=F0
  have hlt2:i<((Ao (Be r) n).take a).length:=by rw[Ajz];omega
  have ih:=M8 a ha o p m a' N u v j (i+1) q F0 F0;rw[Oz,Zs,Aao F2,Cm hlt2,Aa,List.getElem_take,Aba h1 h2 hlt,Ak];exact ih
end
theorem Axm{p:Prop}(h:p:=by simp[Am,Af,As,Ac];omega):p:=h
end Go.Pl
namespace Go.Pl
open Go Go.Lv
theorem wL{α:Type}(l:List α):geq (Ac l) 0=decide (l=[]):=by
 cases l with
 |nil=>rfl
 |cons x l=>rw[Ba,Ac,Ar0,At4 Aw7,beq_eq_false_iff_ne];omega
theorem T0{α:Type}(l:List α):Du (Ac l) 0=decide (l≠ []):=by
 cases l with
 |nil=>rfl
 |cons x l=>rw[As,Ac,Ar0,Auh Aw7];simp
inductive FitD (o:LB) (f c w r n:Int) (g:LI) (a:Int) (x:LB):Prop
 |new:f=0->c=0->w=0->r=0->n=0->g=[]->a=0->x=[]->FitD o f c w r n g a x
 |head (F C W R N:Nat):HdI f c w r n F C W R N-> (o==([]:LB))=decide (F=1)->g=[]->a=0->x=[]->FitD o f c w r n g a x
 |tab (F C W R N A:Nat):HdI f c w r n F C W R N-> (o==([]:LB))=decide (F=1)->AV g=true->g.length=(Ao (Be R) N).length->a=A->A<=g.length->FitD o f c w r n g a x
theorem Aby(f c w r n:Int)(o:LB):Nk f c w r n o=Eb f c w r n o:=rfl
theorem Aaw(o p:LB)(f c w r n:Int)(g:LI)(a:Int)(x:LB)(u:Bool)(v:Int):
  (Xc o p f c w r n g a x u v=some false/\Kl o p f c w r n g a x u v=some false)\/
  (Xc o p f c w r n g a x u v=some true/\Kl o p f c w r n g a x u v=Ch o p f c w r n g a x u v/\FitD o f c w r n g a x):=by
 rw[Xc,MW,Kl,Um];by_cases hz:f=0/\c=0/\w=0/\r=0/\n=0
 ·obtain⟨rfl,rfl,rfl,rfl,rfl⟩:=hz;rw[Aao Aw2,Aao Aw2,wL,wL,T0,T0];by_cases h:g=[]/\a=0/\x=[]
  ·obtain⟨rfl,rfl,rfl⟩:=h;exact .inr ⟨rfl,by rw[Aam Aw2], .new rfl rfl rfl rfl rfl rfl rfl rfl⟩
  ·refine .inl ⟨?_,?_⟩
   ·congr 1;rw[Bool.eq_false_iff];intro e;simp only[Aap,Acb,Ba,Ar7]at e;exact h ⟨e.1.1,e.1.2,e.2⟩
   ·rw[Aao];simp only[Ars,Acb,Am,Av7];by_cases e1:g=[]
    ·by_cases e2:a=0
     ·exact .inr λe3=>h ⟨e1,e2,e3⟩
     ·exact .inl (.inr e2)
    ·exact .inl (.inl e1)
 ·have hz2:¬(((geq f 0)&&((geq c 0)&&((geq w 0)&&((geq r 0)&&((geq n 0)&&true)))))=true):=by
   simp only[Aap,Ba,Ar7,Aw0];exact hz
  rw[Aam hz2,Aam hz2];rcases Aha f c w r n with⟨F,C,W,R,N,h⟩|⟨e1,e2⟩
  ·rw[h.rA,h.check,Aa,Aa,Aby];simp only;rw[Aam Aw2,Aam Aw2,Eb];have hf:geq f 1=decide (F=1):=by rw[h.ef,Ba,Ak7];simp;omega
   rw[hf];by_cases hp:(o==([]:LB))=decide (F=1)
   ·rw[Aam (by rw[hp];simp),Aa,Aa,Aam Aw2,Aam Aw2,cB,MQ,Of,Od,wL,wL,T0];by_cases hg:g=[]
    ·subst hg;rw[Aao Aw7,Aao Aw7];by_cases h':a=0/\x=[]
     ·obtain⟨rfl,rfl⟩:=h';exact .inr ⟨rfl,by rw[Aam Aw2], .head F C W R N h hp rfl rfl rfl⟩
     ·refine .inl ⟨?_,?_⟩
      ·congr 1;rw[Bool.eq_false_iff];intro e;simp only[Aap,Acb,Ba,Ar7]at e;exact h' e
      ·rw[Aao];simp only[Ars,Acb,Am,Av7];by_cases e2:a=0
       ·exact .inr λe3=>h' ⟨e2,e3⟩
       ·exact .inl e2
    ·rw[Aam (by simpa using hg),Aam (by simpa using hg),dQ,VH,Aa,Aa];by_cases ht:AV g=true
     ·rw[Aao ht,h.Abq];simp only[Aa];by_cases hl:g.length=(Ao (Be R) N).length/\0<=a/\a<=g.length
      ·obtain⟨hl,ha0,ha1⟩:=hl;obtain⟨A,rfl⟩:=Alv ha0;have hA:A<= (Ao (Be R) N).length:=F0
       rw[Aam Axm,Aam Aw2,Aam Axm,Di,Aa,cD];have hh:=h;clear hf;obtain⟨rfl,rfl,rfl,rfl,rfl,hs,hf⟩:=hh;have hlp:=M8 hs hf A hA o p g (A:Int) x u v A 0 Aq F0 (by have:=Ar;have:=A5 hf;omega);have h0:CM C W (Ao (Be R) N) 0=0:=by rw[CM,Awc,List.sum_nil];simp
       rw[h0,show((0:Nat):Int)=0 from rfl]at hlp;rw[show((A:Int)).toNat=A from rfl,hlp,iq hs hf A hA,Aa];by_cases hx:(x.length:Int)<=CM C W (Ao (Be R) N) A
       ·refine .inr ⟨?_,?_, .tab F C W R N A h hp ht hl rfl F0⟩
        ·rw[RN,Ac,Auh hx]
        ·rw[Aam Aw6]
       ·refine .inl ⟨?_,?_⟩
        ·rw[RN,Ac,At4 hx]
        ·rw[Aao Aw6]
      ·refine .inl ⟨?_,?_⟩
       ·rw[Aao Axm]
       ·rw[Aam Aw2,Aao Axm]
     ·refine .inl ⟨?_,?_⟩
      ·rw[Aam ht,Aao (by simp[Am])]
      ·rw[Aam ht,Aao Aw2,Aao Aw7]
   ·rw[Aao (by simpa using hp),Aa,Aa,Aao Aw2,Aao Aw2];exact .inl ⟨rfl,rfl⟩
  ·rw[e1,e2,Aa,Aa];simp only;rw[Aao Aw2,Aao Aw2];exact .inl ⟨rfl,rfl⟩
theorem Ajj(b:LB)(n:Int):Cd (WU b n).2:=by
 unfold WU
 repeat' split
 all_goals first|decide|exact .inl rfl
theorem Aii(b:LB):(Xu b).2=6\/Cd (Xu b).2:=by
 unfold Xu uU
 repeat' split
 all_goals first|exact .inl rfl|exact .inr (Ajj _ _)|exact .inr Aw2
theorem Afc(b:LB):(Jl b).2=6\/Cd (Jl b).2:=by
 unfold Jl
 repeat' split
 all_goals first|exact .inl rfl|exact .inr (.inl rfl)|exact .inr Aw2
theorem Ajw(b:LB):(Cs b).2=6\/Cd (Cs b).2:=by
 unfold Cs;split
 ·exact Aii b
 ·exact Afc b
theorem K4(b:LB):∀(j p:Nat),p<=b.length->b.length<j+p->Cd (Cg b j p).2
 |0,p,h1,h2=>by omega
 |j+1,p,h1,h2=>by
  rw[Cg];split
  ·exact .inl rfl
  ·rename_i h6;split
   ·exact(Ajw _).resolve_left h6
   ·rename_i h0;split
    ·exact(by decide:Cd 4)
    ·have hz:Cs (b.drop p)=((Cs (b.drop p)).1,0):=by rw[Prod.ext_iff];exact⟨rfl,by simpa using h0⟩
     obtain⟨k1,k2⟩:=gC hz;rw[Aiq]at k2;split
     ·exact .inl rfl
     ·exact K4 b j _ F0 F0
theorem rS(b:LB):Cd (Dk b).2:=by
 unfold Dk I6;split
 ·exact .inl rfl
 ·exact K4 b _ _ F0 F0
theorem M0(b:LB):0<= (Dk b).2:=(rS b).nn
theorem G3(b:LB):Cd (Fc b).2.2.2.2.2:=by
 unfold Fc
 repeat' split
 all_goals first|decide|exact .inl rfl
theorem yh(b:LB):0<= (Fc b).2.2.2.2.2:=(G3 b).nn
theorem Alg(b:LB){n:Nat}(h:1<=n/\n<=1000):Cd (Jf b n).2:=by
 unfold Jf;rw[Aam (λe=>e h)]
 repeat' split
 all_goals first|decide|exact .inl rfl
theorem za(b:LB)(n:Nat):0<= (Jf b n).2:=by
 unfold Jf
 repeat' split
 all_goals simp
def H5:LB:=[73,68,51]
def I2:LB:=[65,80,69,84,65,71,69,88]
def Rk(b s:LB):Bool:=decide (b.length<s.length)&&(b==s.take b.length)
theorem Q3(b s:LB):Ql b s=some (Rk b s):=by
 rw[Ql,Rk];by_cases h:b.length<s.length
 ·rw[Aao Axh,Ac,Di,Aa,Auh h,Au4];rfl
 ·rw[Aam Axh,At4 h];rfl
theorem Aj9(b s:LB)(h:b.length<s.length):Ig s b=some (Rk b s):=by
 rw[Ig,Gl,Aao Axw,Ac,Di,Aa,Aa,Rk,Auh h,Au4,Aly];congr 1;rw[Ak7,Ar7,Ar7];exact eq_comm
theorem iG{b s:LB}(h:¬b.length<s.length):Rk b s=false:=by rw[Rk,At4 h];rfl
theorem Ajs(b:LB):Pu b=some (Rk b H5||Rk b I2):=by
 obtain⟨q,hq⟩:∃q,Aq=q+3:=⟨Aq-3,by have:=Ar;omega⟩;have l3:Je b (q+1) 2=some false:=by rw[Je,Th,Aam Aw2];rfl
 have l2:Je b (q+2) 1=some (Rk b I2):=by
  rw[Je,Th,Aao Aw2,show Ah ([([73,68,51]:LB),([65,80,69,84,65,71,69,88]:LB)]:List LB) 1=some I2 from rfl,Aa,show Ae (1:Int) 1=2 from rfl];by_cases h:b.length<I2.length
  ·rw[Aao Axh,Aj9 b I2 h,Aa];by_cases hb:Rk b I2=true
   ·rw[Aao hb,hb]
   ·rw[Aam hb,l3];simpa using hb
  ·rw[Aam Axh,l3,iG h]
 rw[Pu,MU,bR,hq,Je,Th,Aao Aw2,show Ah ([([73,68,51]:LB),([65,80,69,84,65,71,69,88]:LB)]:List LB) 0=some H5 from rfl,Aa,show Ae (0:Int) 1=1 from rfl];by_cases h:b.length<H5.length
 ·rw[Aao Axh,Aj9 b H5 h,Aa];by_cases hb:Rk b H5=true
  ·rw[Aao hb,hb];rfl
  ·rw[Aam hb,l2,Bool.eq_false_iff.2 hb];rfl
 ·rw[Aam Axh,l2,iG h];rfl
def jm(b:LB):Int×Int×Int×Int×Int×Int×Int:=
 if(Dk b).2=24 then(0,0,0,0,0,0, -1)else if(Dk b).2≠0 then(0,0,0,0,0,0,(Dk b).2)else
 if(Rk (Ui b) H5||Rk (Ui b) I2)=true then(0,0,0,0,0,0, -1)else
 if(Fc (Ui b)).2.2.2.2.2=24 then(0,0,0,0,0,0, -1)else((Dk b).1+22,(Fc (Ui b)).1,(Fc (Ui b)).2.1,(Fc (Ui b)).2.2.1,(Fc (Ui b)).2.2.2.1,(Fc (Ui b)).2.2.2.2.1,(Fc (Ui b)).2.2.2.2.2)
theorem AE(b:LB)(hb:b.length<=100000):Wk b=some (jm b):=by
 rw[Wk,BM,ZP b F0,Aa,jm];have hok:=PC (b:=b);simp only;by_cases h1:(Dk b).2=24
 ·rw[Aao (by rw[Ba];simpa using h1),Aao h1]
 rw[Aam (by rw[Ba];simpa using h1),Aam h1];by_cases h2:(Dk b).2≠0
 ·rw[Aao (by rw[Am];simpa using h2),Aao h2]
 have h0:(Dk b).2=0:=by simpa using h2
 obtain⟨k1,k2,k3⟩:=hok h0;rw[Aam (by rw[Am,h0];simp),Aam h2,Dm,Aa,Q3,Aa,show b.drop (Dk b).1.toNat=Ui b from rfl,show([73,68,51]:LB)=H5 from rfl,show([65,80,69,84,65,71,69,88]:LB)=I2 from rfl];by_cases h3:Rk (Ui b) H5=true
 ·rw[Aao h3,h3,Bool.true_or,Aao rfl]
 rw[Aam h3,Q3,Aa,Bool.eq_false_iff.2 h3,Bool.false_or];by_cases h4:Rk (Ui b) I2=true
 ·rw[Aao h4,Aao h4]
 have hl:(Ui b).length<=b.length:=by rw[Ui,Aiq];omega
 rw[Aam h4,Aam h4,BJ,BU,xT _ F0,Aa];simp only;by_cases h5:(Fc (Ui b)).2.2.2.2.2=24
 ·rw[Aao (by rw[Ba];simpa using h5),Aao h5]
 ·rw[Aam (by rw[Ba];simpa using h5),Aam h5,Ak]
theorem Axu{p:Prop}(h:p:=by rw[Aar];omega):p:=h
end Go.Pl
namespace Go.Pl
open Go Go.Lv
variable{e:Int}{p q:LB}
theorem Mf{n:Nat}(h:n<=p.length):(p++q).take n=p.take n:=by rw[Av3 h]
theorem nT{i:Nat}(h:i<p.length):(p++q).getD i 0=p.getD i 0:=by
 rw[List.getD_eq_getElem?_getD,List.getElem?_append_left h,<-List.getD_eq_getElem?_getD]
theorem Pr{a w:Nat}(h:a+w<=p.length:=by omega):part (p++q) a w=part p a w:=by rw[part,Mf h,part]
theorem Ah7{s:LB}(h:Rk p s=false)(hl:p.length<s.length):(p++q).take s.length≠s:=by
 intro e;rw[Rk,Auh hl,Au4]at h;have h1:p=s.take p.length:=by
  have:=congrArg (List.take p.length) e;rw[List.take_take,Asn F0,Mf (Aox _),Awl]at this;exact this
 rw[<-h1]at h;simp at h
theorem K7(q:LB)(h:(Xu p).2≠24)(h6:Rk p H5=false):Xu (p++q)=Xu p:=by
 unfold Xu at h⊢;by_cases h3:3<=p.length/\p.take 3=[73,68,51]
 ·have h3':3<= (p++q).length/\ (p++q).take 3=[73,68,51]:=⟨by rw[Aar];omega,by rw[Mf h3.1];exact h3.2⟩;have n1:¬ ¬(3<=p.length/\p.take 3=[73,68,51]):=λf=>f h3;have n2:¬ ¬(3<= (p++q).length/\ (p++q).take 3=[73,68,51]):=λf=>f h3';rw[Aam n1]at h;rw[Aam n1,Aam n2];by_cases h10:p.length<10
  ·rw[Aao h10]at h;exact absurd rfl h
  ·have h10':¬(p++q).length<10:=by rw[Aar];omega
   rw[Aam h10]at h;rw[Aam h10,Aam h10',Pr,nT F0,nT F0,nT F0];split
   ·rfl
   ·rename_i hc;rw[Aam hc]at h;unfold uU WU at h⊢;rw[nT F0];generalize(VI (part p 6 4) 0).1+10+(if p.getD 5 0=16 then 10 else 0)=n at h⊢;by_cases c1:4000<n
    ·rw[Aao c1,Aao c1]
    ·rw[Aam c1]at h;rw[Aam c1,Aam c1];by_cases c2:(p.length:Int)<n
     ·rw[Aao c2]at h;exact absurd rfl h
     ·have c2':¬((p++q).length:Int)<n:=by rw[Aar];omega
      rw[Aam c2,Aam c2',Mf F0,Pr]
 ·rw[Aao h3,Aao];rintro⟨_,h5⟩;by_cases hl:3<=p.length
  ·rw[Mf hl]at h5;exact h3 ⟨hl,h5⟩
  ·exact Ah7 h6 (by simp[H5];omega) h5
theorem Abe(q:LB)(h:(Jl p).2≠24)(h6:Rk p I2=false):Jl (p++q)=Jl p:=by
 unfold Jl at h⊢;by_cases h3:8<=p.length/\p.take 8=wK
 ·have h3':8<= (p++q).length/\ (p++q).take 8=wK:=⟨by rw[Aar];omega,by rw[Mf h3.1];exact h3.2⟩;have n1:¬ ¬(8<=p.length/\p.take 8=wK):=λf=>f h3;have n2:¬ ¬(8<= (p++q).length/\ (p++q).take 8=wK):=λf=>f h3';rw[Aam n1]at h;rw[Aam n1,Aam n2];by_cases h10:p.length<32
  ·rw[Aao h10]at h;exact absurd rfl h
  ·have h10':¬(p++q).length<32:=by rw[Aar];omega
   have eb:CQ (p++q)=CQ p:=by rw[CQ,CQ,Pr,Pr]
   rw[Aam h10]at h;rw[Aam h10,Aam h10',Pr,Pr,eb,Mf (n:=32) F0];split
   ·rfl
   ·rename_i hc;rw[Aam hc]at h;by_cases c2:p.length<Eu (part p 12 4)+32
    ·rw[Aao c2]at h;exact absurd rfl h
    ·have c2':¬(p++q).length<Eu (part p 12 4)+32:=by rw[Aar];omega
     rw[Aam c2,Aam c2',Mf F0]
 ·rw[Aao h3,Aao];rintro⟨_,h5⟩;by_cases hl:8<=p.length
  ·rw[Mf hl]at h5;exact h3 ⟨hl,h5⟩
  ·exact Ah7 h6 (by simp[I2];omega) h5
theorem qZ(q:LB)(h:(Cs p).2≠24)(h6:(Cs p).2=6->Rk p H5=false/\Rk p I2=false):Cs (p++q)=Cs p:=by
 have Ar2:∀s:LB,s.length<=p.length->Rk p s=false:=λs hs=>iG F0;unfold Cs at h h6⊢;by_cases hT:(Xu p).2≠6
 ·rw[Aao hT]at h⊢;have h3:Rk p H5=false:=by
   refine Ar2 _ ?_;unfold Xu at hT;by_cases h3:3<=p.length/\p.take 3=[73,68,51]
   ·simp[H5];omega
   ·rw[Aao h3]at hT;exact absurd rfl hT
  rw[K7 q h h3,Aao hT]
 ·rw[Aam hT]at h h6⊢;have hb:Rk p H5=false/\Rk p I2=false:=by
   by_cases hA:(Jl p).2=6
   ·exact h6 hA
   ·unfold Jl at hA;by_cases h3:8<=p.length/\p.take 8=wK
    ·exact⟨Ar2 _ (by simp[H5];omega),Ar2 _ (by simp[I2];omega)⟩
    ·rw[Aao h3]at hA;exact absurd rfl hA
  have hT':¬(Xu (p++q)).2≠6:=by
   rw[K7 q (by simp only[ne_eq,Classical.not_not]at hT;rw[hT];decide) hb.1];exact hT
  rw[Aam hT',Abe q h hb.2]
theorem yJ{p:LB}(q:LB):∀(j s j':Nat),s<=p.length->p.length-s<j->p.length+q.length-s<j'-> (Cg p j s).2≠24->
  ((Cg p j s).2=0->Rk (p.drop (s+(Cg p j s).1.sum.toNat)) H5=false/\Rk (p.drop (s+(Cg p j s).1.sum.toNat)) I2=false)->Cg (p++q) j' s=Cg p j s
 |0,s,j',_,hj,_,_,_=>absurd hj (Nat.not_lt_zero _)
 |j+1,s,0,_,_,hj,_,_=>absurd hj (Nat.not_lt_zero _)
 |j+1,s,j'+1,hs,hj,hj',h,hb=>by
  have ed:(p++q).drop s=p.drop s++q:=Aub hs;rw[Cg]at h hb⊢;rw[Cg,ed];by_cases h6:(Cs (p.drop s)).2=6
  ·rw[Aao h6]at h hb⊢;have hb':=hb rfl;simp only[List.sum_nil,Int.toNat_zero,Av6]at hb';rw[qZ q (by rw[h6];decide) (λ_=>hb'),Aao h6]
  ·rw[Aam h6]at h hb⊢;by_cases h0:(Cs (p.drop s)).2≠0
   ·rw[Aao h0]at h⊢;rw[qZ q h (λe=>absurd e h6),Aam h6,Aao h0]
   ·rw[Aam h0]at h hb⊢;have h0':(Cs (p.drop s)).2=0:=by simpa using h0
    have e1:Cs (p.drop s++q)=Cs (p.drop s):=qZ q (by rw[h0'];decide) (λe=>absurd e h6);rw[e1,Aam h6,Aam h0];have hok:=gC (b:=p.drop s) (n:=(Cs (p.drop s)).1) (by rw[<-h0']);rw[Aiq]at hok;by_cases hm:4000<(s:Int)+(Cs (p.drop s)).1
    ·rw[Aao hm,Aao hm]
    ·rw[Aam hm]at h hb⊢;rw[Aam hm];have hl1:s+(Cs (p.drop s)).1.toNat<=p.length:=F0
     have ih:=yJ (p:=p) q j (s+(Cs (p.drop s)).1.toNat) j' hl1 F0 F0;by_cases hr:(Cg p j (s+(Cs (p.drop s)).1.toNat)).2=0
     ·rw[Aao hr]at hb⊢;have hle1:s+(Cs (p.drop s)).1.toNat<=p.length:=F0
      have hle2:s+(Cs (p.drop s)).1.toNat<=4000:=F0
      have hi:=(iZ p j (s+(Cs (p.drop s)).1.toNat) hle1 hle2 hr).1;have hsum:(0:Int)<= (Cg p j (s+(Cs (p.drop s)).1.toNat)).1.sum:=by
       have:∀l:LI,(∀x∈l,10<=x)->0<=l.sum:=by
        intro l
        induction l with
        |nil=>intro _;simp
        |cons a l ih=>intro h;rw[Aua];have:=h a Aw7;have:=ih (λx hx=>h x (by simp[hx]));omega
       exact this _ hi
      rw[ih (by rw[hr];decide) (λ_=>by
       have:=hb rfl;simp only[Aua]at this;rw[show s+((Cs (p.drop s)).1+(Cg p j (s+(Cs (p.drop s)).1.toNat)).1.sum).toNat=s+(Cs (p.drop s)).1.toNat+(Cg p j (s+(Cs (p.drop s)).1.toNat)).1.sum.toNat by omega]at this;exact this),Aao hr]
     ·rw[Aam hr]at h⊢;rw[ih h (λe=>absurd e hr),Aam hr]
theorem wW(q:LB)(h:(Dk p).2≠24)(hb:(Dk p).2=0->Rk (Ui p) H5=false/\Rk (Ui p) I2=false):Dk (p++q)=Dk p:=by
 have key:Cg (p++q) ((p++q).length+1) 0=Cg p (p.length+1) 0:=by
  refine yJ q (p.length+1) 0 ((p++q).length+1) (Nat.zero_le _) F0 Axu ?_ ?_
  ·unfold Dk I6 at h;by_cases h0:(Cg p (p.length+1) 0).2=0
   ·rw[h0];decide
   ·rw[Aam h0]at h;exact h
  ·intro h0;have e:Dk p=(((0:Nat):Int)+(Cg p (p.length+1) 0).1.sum,0):=by unfold Dk I6;rw[Aao h0]
   have:=hb (by rw[e]);rw[Ui,e]at this;simpa using this
 unfold Dk I6;rw[key]
theorem Agu(q:LB)(h:(Fc p).2.2.2.2.2≠24):Fc (p++q)=Fc p:=by
 unfold Fc at h⊢;by_cases h1:p.take (min 4 p.length)≠bV.take (min 4 p.length)
 ·have h1':(p++q).take (min 4 (p++q).length)≠bV.take (min 4 (p++q).length):=by
   intro e;have hle:min 4 p.length<=min 4 (p++q).length:=by rw[Aar];omega
   have:=congrArg (List.take (min 4 p.length)) e;rw[List.take_take,List.take_take,Asn hle,Mf F0]at this;exact h1 this
  rw[Aao h1,Aao h1']
 ·rw[Aam h1]at h;by_cases h2:p.length<22
  ·rw[Aao h2]at h;exact absurd rfl h
  ·have h2':¬(p++q).length<22:=by rw[Aar];omega
   have h1':¬(p++q).take (min 4 (p++q).length)≠bV.take (min 4 (p++q).length):=by
    rw[Asn F0]at h1⊢;rw[Mf F0];exact h1
   have e0:f0 (p++q)=f0 p:=by unfold f0;rw[Pr]
   have e1:f1 (p++q)=f1 p:=by unfold f1;rw[Pr]
   have e2:f2 (p++q)=f2 p:=by unfold f2;rw[Pr]
   have e3:f3 (p++q)=f3 p:=by unfold f3;rw[Pr]
   have e4:f4 (p++q)=f4 p:=by unfold f4;rw[Pr]
   rw[Aam h1,Aam h1',Aam h2,Aam h2',e0,e1,e2,e3,e4,Mf F0,Pr]
theorem Amo(q:LB)(h:(jm p).2.2.2.2.2.2≠ -1):jm (p++q)=jm p:=by
 unfold jm at h⊢;by_cases h1:(Dk p).2=24
 ·rw[Aao h1]at h;exact absurd rfl h
 rw[Aam h1]at h;by_cases h2:(Dk p).2≠0
 ·rw[wW q h1 (λe=>absurd e h2),Aam h1,Aao h2,Aam h1,Aao h2]
 rw[Aam h2]at h;have h0:(Dk p).2=0:=by simpa using h2
 by_cases h3:(Rk (Ui p) H5||Rk (Ui p) I2)=true
 ·rw[Aao h3]at h;exact absurd rfl h
 rw[Aam h3]at h;have h3f:Rk (Ui p) H5=false/\Rk (Ui p) I2=false:=by
  simp only[Bool.not_eq_true,Avs]at h3;exact h3
 have eF:=wW q h1 (λ_=>h3f);obtain⟨k1,k2,k3⟩:=PC h0;have eH:Ui (p++q)=Ui p++q:=by rw[Ui,eF,Ui,Aub F0]
 by_cases h5:(Fc (Ui p)).2.2.2.2.2=24
 ·rw[Aao h5]at h;exact absurd rfl h
 have eR:Fc (Ui p++q)=Fc (Ui p):=Agu q h5;have beg:∀s:LB,Rk (Ui p) s=false-> (s=H5\/s=I2)->Rk (Ui p++q) s=false:=by
  intro s hs hk;by_cases hl:(Ui p++q).length<s.length
  ·have hp:(Ui p).length<s.length:=by rw[Aar]at hl;omega
   rw[Rk,Auh hp,Au4]at hs;rw[Rk,Auh hl,Au4];refine beq_eq_false_iff_ne.2 λe=>?_;have:=congrArg (List.take (Ui p).length) e;rw[Mf (Aox _),Awl,List.take_take,Asn Axu]at this;rw[<-this]at hs;simp at hs
  ·exact iG hl
 rw[eF,eH,eR,Aam h1,Aam h2,beg _ h3f.1 (.inl rfl),beg _ h3f.2 (.inr rfl),Aam Aw2,Aam h5,Aam h1,Aam h2,Aam h3]
theorem Agt(q:LB)(n:Nat)(h:(Jf p n).2≠24):Jf (p++q) n=Jf p n:=by
 unfold Jf at h⊢;by_cases h1:1<=n/\n<=1000
 ·have n1:¬ ¬(1<=n/\n<=1000):=λf=>f h1;rw[Aam n1]at h;rw[Aam n1,Aam n1];by_cases h2:p.length<4*n+4
  ·rw[Aao h2]at h;exact absurd rfl h
  ·have h2':¬(p++q).length<4*n+4:=by rw[Aar];omega
   have et:OY (p++q) n=OY p n:=by
    unfold OY;refine Awi λi hi=>?_;rw[List.mem_range]at hi;rw[Pr]
   rw[Aam h2,Aam h2',Mf F0,Pr,et]
 ·rw[Aao h1,Aao h1]
def Aa4(g a:LB)(k p o u v:Int)(f:LI)(b:Int)(h:LB)(m:Bool)(n:Int):Option Int:=
if(geq k 0)then
(Lf a).bind λ(al,ba)=>
if(geq ba 24)then
Ei true 0
else
if(Bi ba 0)then
(Aj ba).bind λ(bx,bz)=>
Ei bx bz
else
(Bl a al (Ac a)).bind λda=>
(Pu da).bind λan=>
if an then
Ei true 0
else
(Bl a al (Ac a)).bind λdb=>
(Ph db).bind λ(ae,af,aa,ag,ab,bb)=>
if(geq bb 24)then
Ei true 0
else
if(Bi bb 0)then
(Aj bb).bind λ(dc,dd)=>
Ei dc dd
else
(
(Bl a (Ae al 22) (Ac a)).bind λak=>
(
Uv g ak ae af aa ag ab b m n f h))
else
if(geq (Ac f) 0)then
if(geq k 2)then
if(Ck (Ac a) 8)then
Io true 0
else
Ut g a k p o u v b m n f h
else
Iz g a k p o u v b m n f h 0
else
if(Ck b (Ac f))then
(Ah f b).bind λ_=>
(Ah f b).bind λw=>
if(Ck (Ac a) w)then
Fm true 0
else
(Tt g).bind λ(ap,am)=>
if(Bi am 0)then
(Aj am).bind λ(de,df)=>
Fm de df
else
(Dz k p o u v).bind λ(ad,dg)=>
if((Bi dg 0)||(Ks b (Ac ad)))then
(Aj 8).bind λ(dh,di)=>
Fm dh di
else
DC w g a k p o u v b m n ap ad f h
else
if(Du (Ac a) 4000)then
(Aj 38).bind λ(dj,bf)=>
Bm ((dj==true)&&((geq bf 0)&&true))
else
Vf
theorem mB(d:Bool)(e:Int):Ei d e=Bm (d&&geq e 0):=by
 rw[Ei,SO];cases d<;>simp
theorem G4(d:Bool)(e:Int):Io d e=Bm (d&&geq e 0):=by
 rw[Io,TJ];cases d<;>simp
theorem Ab1(d:Bool)(e:Int):Fm d e=Bm (d&&geq e 0):=by
 rw[Fm,SX];cases d<;>simp
theorem pq{o:LB}{f c w r n:Int}{g:LI}{a:Int}{x:LB}{u:Bool}{v:Int}{t1 t2:LB}{t3 t4 t5 t6 t7:Int}{t8:LI}{t9:Int}{t10:LB}{t11:Bool}{t12:Int}
  (h:Ag o p f c w r n g a x u v=some (t1,t2,t3,t4,t5,t6,t7,t8,t9,t10,t11,t12,e)):Ch o p f c w r n g a x u v=some (geq e (-1)):=by
 rw[Ch,Up,h,Aa]
theorem fK(h:0<=e):geq e (-1)=false:=by rw[Ba,beq_eq_false_iff_ne];omega
theorem Afm(o p:LB)(c w r n:Int)(g:LI)(a:Int)(x:LB)(u:Bool)(v:Int)(hp:p.length<=100000):
  ∃B:Bool,Aa4 o p 0 c w r n g a x u v=Bm B/\Ch o p 0 c w r n g a x u v=some B:=by
 have hT:Ag o p 0 c w r n g a x u v=Ag o p 0 c w r n g a x u v:=rfl
 conv at hT=>rhs;rw[Ag,Br,Aao Aw2,AE p hp,Aa,jm]
 have hfn:=M0 p;have hrn:=yh (Ui p);rw[Aa4,Aao Aw2,PU p F0,Aa];have hok:=PC (b:=p);simp only at hT⊢;by_cases h1:(Dk p).2=24
 ·rw[Aao h1]at hT;simp only at hT;rw[Aao Aw2]at hT;rw[Aao (by rw[Ba];simpa using h1),mB];exact⟨_,rfl,pq hT⟩
 rw[Aam h1]at hT;rw[Aam (by rw[Ba];simpa using h1)];by_cases h2:(Dk p).2≠0
 ·rw[Aao h2]at hT;simp only at hT;rw[Aao (by rw[Am];simpa using h2)]at hT;rw[Aao (by rw[Am];simpa using h2),Aj,Aa];simp only;rw[mB];exact⟨_,rfl,(pq hT).trans (by rw[fK hfn];rfl)⟩
 have h0:(Dk p).2=0:=by simpa using h2
 obtain⟨k1,k2,k3⟩:=hok h0;have hl:(Ui p).length=p.length-(Dk p).1.toNat:=by rw[Ui,Aiq]
 rw[Aam h2]at hT;rw[Aam (by rw[Am,h0];simp),Dm,Aa,Aa,show p.drop (Dk p).1.toNat=Ui p from rfl,Ajs,Aa];by_cases h3:(Rk (Ui p) H5||Rk (Ui p) I2)=true
 ·rw[Aao h3]at hT⊢;simp only at hT;rw[Aao Aw2]at hT;rw[mB];exact⟨_,rfl,pq hT⟩
 rw[Aam h3]at hT⊢;rw[sS _ F0,Aa];by_cases h5:(Fc (Ui p)).2.2.2.2.2=24
 ·rw[Aao h5]at hT;simp only at hT;rw[Aao Aw2]at hT;rw[Aao (by rw[Ba];simpa using h5),mB];exact⟨_,rfl,pq hT⟩
 rw[Aam h5]at hT;rw[Aam (by rw[Ba];simpa using h5)];simp only at hT;by_cases h6:(Fc (Ui p)).2.2.2.2.2≠0
 ·rw[Aao (by rw[Am];simpa using h6)]at hT⊢;rw[Aj,Aa];simp only;rw[mB];exact⟨_,rfl,(pq hT).trans (by rw[fK hrn];rfl)⟩
 have h7:(Fc (Ui p)).2.2.2.2.2=0:=by simpa using h6
 have h22:=(wu h7).2.1;rw[Aam (by rw[Am,h7];simp),Dm,Aa,Ga,Fz,Eb]at hT;rw[Aam (by rw[Am,h7];simp),Ak,Dm,Aa,Uv,US,Nk];simp only;by_cases h8:((o==([]:LB)) !=geq (Fc (Ui p)).1 1)=true
 ·rw[Aao h8]at hT⊢;rw[Aa]at hT⊢;rw[Aj,Aa];simp only;rw[mB];exact⟨_,rfl,pq hT⟩
 ·rw[Aam h8]at hT⊢;rw[Aa]at hT⊢;rw[Aj,Aa];simp only;rw[mB];exact⟨_,rfl,pq hT⟩
theorem Axj{p:Prop}(h:p:=by rw[Aiq];omega):p:=h
end Go.Pl
namespace Go.Pl
open Go Go.Lv
section
variable {f c w r n:Int} {F C W R N:Nat} (hd:HdI f c w r n F C W R N)
include hd
theorem HdI.ne0:¬(geq f 0=true):=by
 have:=hd.num;rw[Ba,Ar7,hd.ef];omega
theorem zA(o p:LB)(hp:p.length<=100000)(A:Nat)(hA:A<=p.length)(a:Int)(x:LB)(u:Bool)(v:Int):
  (Iz o p f c w r n a u v [] x (A:Int)=Bm (decide ((Jf (p.drop A) (Ao (Be R) N).length).2=24)))/\
  Dx p f c w r n (A:Int)=some (if(Jf (p.drop A) (Ao (Be R) N).length).2=24 then(0,[], -1)else((A:Int)+(4*((Jf (p.drop A) (Ao (Be R) N).length).1.length:Int)+4),(Jf (p.drop A) (Ao (Be R) N).length).1,(Jf (p.drop A) (Ao (Be R) N).length).2))/\
  ((Jf (p.drop A) (Ao (Be R) N).length).2=0-> (A:Int)+(4*((Jf (p.drop A) (Ao (Be R) N).length).1.length:Int)+4)<=p.length):=by
 have hs:=R3 (p.drop A) (Ao (Be R) N).length Axj;have hr:=Akv (p.drop A) (Ao (Be R) N).length Axj;have hok:=lu (b:=p.drop A) (n:=(Ao (Be R) N).length);have hlen:(Jf (p.drop A) (Ao (Be R) N).length).1.length<=1000:=by
  unfold Jf
  repeat' split
  all_goals simp[KH]
  all_goals omega
 have hfit:(Jf (p.drop A) (Ao (Be R) N).length).2=0-> (A:Int)+(4*((Jf (p.drop A) (Ao (Be R) N).length).1.length:Int)+4)<=p.length:=by
  intro h0;obtain⟨k1,k2,k3,k4,_⟩:=hok h0;rw[k1];simp only[KH];rw[Aiq]at k4;omega
 refine⟨?_,?_,hfit⟩
 ·rw[Iz,SY,hd.rA,Aa];simp only;rw[Aam Aw2,Dm,Aa,Aly,Ac,hs,Aa];generalize Jf (p.drop A) (Ao (Be R) N).length=z at*
  obtain⟨z1,z2⟩:=z;simp only at*
  by_cases h1:z2=24
  ·rw[Aao (by rw[Ba];simpa using h1),G4,Auh h1];rfl
  rw[Aam (by rw[Ba];simpa using h1),At4 h1];by_cases h2:z2≠0
  ·rw[Aao (by rw[Am];simpa using h2),Aj,Aa];simp only;rw[G4];rfl
  ·have h0:z2=0:=by simpa using h2
   have:=hfit h0;rw[Aam (by rw[Am,h0];simp),Ac,Acl A z1.length F0 F0,Dm,Aa,G4];rfl
 ·rw[Dx,GA,Dm,Aa,hd.Abq,Aa,Ac,Aly,hr,Aa];generalize Jf (p.drop A) (Ao (Be R) N).length=z at*
  obtain⟨z1,z2⟩:=z;simp only at*
  rw[EW,FP];by_cases h1:z2=24
  ·rw[Aao (by rw[Ba];simpa using h1),Aao h1]
  ·rw[Aam (by rw[Ba];simpa using h1),Aam h1,Ac,Acl A z1.length F0 F0];congr 2
theorem Al2(o p:LB)(ho:o.length<=64)(hp:p.length<=100000)(a:Int)(x:LB)(u:Bool)(v:Int):
  ∃B:Bool,Aa4 o p f c w r n [] a x u v=Bm B/\Ch o p f c w r n [] a x u v=some B:=by
 have hT:Ag o p f c w r n [] a x u v=Ag o p f c w r n [] a x u v:=rfl
 conv at hT=>rhs;rw[Ag,Br,Aam hd.ne0,Bt,Bb,Aao Aw2,Fb,Iv]
 rw[Aa4,Aam hd.ne0,Aao Aw2];have fin:∀A:Nat,A<=p.length->Ag o p f c w r n [] a x u v=(Dx p f c w r n (A:Int)).bind (λ(ag,ak,w1)=>
   if(Bi w1 0)then some (o,p,f,c,w,r,n,[],a,x,u,v,w1)else(Bl p ag (Ac p)).bind λal=>some (o,al,f,c,w,r,n,ak,a,x,u,v,0))->
   ∃B:Bool,Iz o p f c w r n a u v [] x (A:Int)=Bm B/\Ch o p f c w r n [] a x u v=some B:=by
  intro A hA hT;obtain⟨t1,t2,t3⟩:=zA hd o p hp A hA a x u v;have hnn:=za (p.drop A) (Ao (Be R) N).length;rw[t2,Aa]at hT;rw[t1];generalize Jf (p.drop A) (Ao (Be R) N).length=z at*
  obtain⟨z1,z2⟩:=z;simp only at*
  by_cases h1:z2=24
  ·rw[Aao h1]at hT;simp only at hT;rw[Aao Aw2]at hT;exact⟨_,rfl,(pq hT).trans (by rw[Auh h1];rfl)⟩
  rw[Aam h1]at hT;simp only at hT;by_cases h2:z2≠0
  ·rw[Aao (by rw[Am];simpa using h2)]at hT;exact⟨_,rfl,(pq hT).trans (by rw[At4 h1,fK hnn])⟩
  ·have h0:z2=0:=by simpa using h2
   have:=t3 h0;rw[Aam (by rw[Am,h0];simp),Dm,Aa]at hT;exact⟨_,rfl,(pq hT).trans (by rw[At4 h1];rfl)⟩
 by_cases h2:geq f 2=true
 ·rw[Aao h2]at hT⊢;by_cases h8:p.length<8
  ·rw[Aao F2]at hT⊢;rw[Aa]at hT;simp only at hT;rw[Aao Aw2]at hT;rw[G4];exact⟨_,rfl,pq hT⟩
  ·rw[Aam F2]at hT⊢;have h8':(p.take 8).length=8:=by rw[Ajz];omega
   rw[Di,Aa,K1 o ho,Aa]at hT;rw[Ut,UM,Di,Aa,show(8:Int).toNat=8 from rfl,ng h8' ho,Aa];rw[show(8:Int).toNat=8 from rfl]at hT;simp only;rw[UG,TD,Aam Aw2];by_cases he:(p.take 8==GJ (BN o).toNat 8)=true
   ·rw[Aam (by rw[bne,he];decide)]at hT;rw[Aam (by rw[he];decide)];exact fin 8 F0 hT
   ·have he':(p.take 8==GJ (BN o).toNat 8)=false:=by simpa using he
    rw[Aao (by rw[bne,he'];decide),Aa]at hT;simp only at hT;rw[Aao Aw2]at hT;rw[Aao (by rw[he'];decide),Aj,Aa];simp only;rw[G4];exact⟨_,rfl,pq hT⟩
 ·rw[Aam h2]at hT⊢;exact fin 0 F0 hT
end
theorem Ag5{f c w r n:Int}{F C W R N:Nat}(hd:HdI f c w r n F C W R N)(o p:LB)(ho:o.length<=64)(hp:p.length<=100000)(g:LI)(hg:AV g=true)(hl:g.length=(Ao (Be R) N).length)(A:Nat)(hA:A<=g.length)(x:LB)(hx:x.length<=14000000)(u:Bool)(v:Int):
  ∃B:Bool,Aa4 o p f c w r n g (A:Int) x u v=Bm B/\Ch o p f c w r n g (A:Int) x u v=some B:=by
 have hc:=hd.ec;subst hc;have hg':=hg;rw[AV,Aap,Acb,OT g 100000 F0]at hg';obtain⟨⟨g1,g2⟩,g5,g6⟩:=hg';have hT:Ag o p f (C:Int) w r n g (A:Int) x u v=Ag o p f (C:Int) w r n g (A:Int) x u v:=rfl
 conv at hT=>rhs;rw[Ag,Br,Aam hd.ne0,Bt,Bb,Aam (by rw[Ba,Ac];simp;intro e;subst e;simp at g1)]
 rw[Aa4,Aam hd.ne0,Aam (by rw[Ba,Ac];simp;intro e;subst e;simp at g1)];by_cases hA2:A=g.length
 ·subst hA2;rw[Aao (by rw[Ba,Ac];simp)]at hT;rw[Aam Axz];by_cases h4:4000<p.length
  ·rw[Aao Aw6]at hT⊢;rw[Aj,Aa];simp only;exact⟨_,rfl,pq hT⟩
  ·rw[Aam Aw6]at hT⊢;rw[Vf,UA];exact⟨_,rfl,pq hT⟩
 ·have hlt:A<g.length:=F0
  have h5:=g5 g[A] (Ar3 hlt);have hsum:=R7 g5 g[A] (Ar3 hlt);rw[Aam (by rw[Ba,Ac];simp;omega),Cv,Gn,Cm hlt,Aa]at hT;rw[Aao F2,Cm hlt,Aa,Aa];by_cases hw:(p.length:Int)<g[A]
  ·rw[Aao (by rw[Af,Ac];simpa using hw)]at hT⊢;rw[Aa]at hT;simp only at hT;rw[Aao Aw2]at hT;rw[Ab1];exact⟨_,rfl,pq hT⟩
  rw[Aam (by rw[Af,Ac];simpa using hw)]at hT⊢;have SM:=hd.num;have hlt2:A<(Ao (Be R) N).length:=F0
  obtain⟨m,hm,m1,m2⟩:=HU (Xp R) SM.2.2.2.2.1 (Ar3 hlt2);have hb:Dd w:=by rw[hd.ew];unfold Dd;omega
  obtain⟨xs,e,d1,d2,d3,d4⟩:=TN (bits:=w) (ch:=C) (n:=m) (t:=IL o) (p.take g[A].toNat) hb (AI o) SM.2.1.1 SM.2.1.2 m1 F0;have hnn:=L6 hb (AI o) SM.2.1.1 SM.2.1.2 m1 F0 d2;rw[P0 o ho,Aa];simp only;rw[Aam Aw2,hd.rA,Aa];simp only;rw[Aam (by simp[Am,El,Ac];omega),DC,EL,Cm hlt2,Aa,Di,Aa,Aa,Za,Aa];simp only;rw[hm,d1,Aa];simp only;rw[pG o ho,Aa]at hT;simp only at hT;rw[Di,Aa,Ht,Aa]at hT;simp only at hT;rw[hd.Abq,Aa,Cm hlt2,Aa,Aa,hm]at hT;rw[d2,Aa]at hT;simp only at hT;rw[Gp,Gj]at hT;rw[GF,Vj];by_cases he:e≠0
  ·rw[Aao (by rw[Am];simpa using he)]at hT⊢;rw[Aa]at hT;simp only at hT;rw[Aao (by rw[Am];simpa using he)]at hT;rw[Aj,Aa];simp only;rw[Ab1];exact⟨_,rfl,(pq hT).trans (by rw[fK hnn];rfl)⟩
  ·have he0:e=0:=by simpa using he
   obtain⟨k1,k2,k3⟩:=d3 he0;have hbl:=IW w xs;rw[Aam (by rw[Am,he0];simp)]at hT⊢;rw[iL hb k2 k1,Aa,Aa]at hT;simp only at hT;rw[Aam Aw2,Cu Aw3,Aa,Aqf,Cu,Aa,Aa,Dm,Aa]at hT;rw[zW hb k2 k1,Aa];simp only;rw[Aam Aw2,Cu,Aa,Dm,Aa,Ab1];exact⟨_,rfl,pq hT⟩
theorem qo(a:LI)(b:Int)(ha:a.length<=100):∀(j i q:Nat),i+j=a.length->j<q->∃r,Bw a b q (i:Int)=some r/\Ks r 0=(a.drop i).any λy=>b==y
 |0,i,q+1,hi,_=>by
  refine⟨-1,?_,?_⟩
  ·rw[Bw,Ek,Aam F2];rfl
  ·rw[show i=a.length by omega,Ava];rfl
 |j+1,i,q+1,hi,hq=>by
  have hlt:i<a.length:=F0
  obtain⟨r,h1,h2⟩:=qo a b ha j (i+1) q F0 F0;rw[Bw,Ek,Aao F2,Cm hlt,Aa,drop_cons hlt,List.any_cons];by_cases h:b=a[i]
  ·rw[Aao (by rw[Ba];simpa using h)];refine⟨_,rfl,?_⟩;rw[El,Auh F0,h];simp
  ·rw[Aam (by rw[Ba];simpa using h),Ak];refine⟨r,h1,?_⟩;rw[h2,beq_eq_false_iff_ne.2 h,Bool.false_or]
theorem Aja(v:Int):∃B:Bool,Px v=some B/\Wj v=some B:=by
 obtain⟨r,h1,h2⟩:=qo [4,12,16,22,24,26,38] v Aw2 7 0 Aq rfl Aw5;refine⟨_,?_,rfl⟩;rw[Px,Hg,Im,Hk,Mu];have h1':Bw [4,12,16,22,24,26,38] v Aq 0=some r:=h1;rw[h1',Aa,Aa,h2];simp only[Awv,List.any_cons,List.any_nil,Bool.or_false,Ba,Bool.or_assoc]
theorem mL(B:Bool):Bm B=some (if B=true then 0 else 8):=by
 rw[Bm,UP];cases B<;>rfl
theorem Ano(a b:LB)(f g h k m:Int)(n:LI)(o:Int)(p:LB)(u:Bool)(v:Int)(hb:b.length<=16000000)(hn:n.length<=16000000)(hp:p.length<=16000000):
  Dq a b f g h k m n o p u v=some (a,b,f,g,h,k,m,n,o,p,u,v):=by
 rw[Dq,Ib,Cu Aw3,Aa,Aa,Ib,Cu Aw3,Aa,Aa,Gf,Cu Aw3,Aa,Aa];rfl
theorem qM(o p:LB)(f c w r n:Int)(g:LI)(a:Int)(x:LB)(u:Bool)(v:Int)(hp:p.length<=100000)(hg:g.length<=100000)(hx:x.length<=14000000):
  ∃E,Hm o p f c w r n g a x u v=some E/\De o p f c w r n g a x u v=some E:=by
 rw[Hm,Xk,De];by_cases ho:64<o.length
 ·rw[Aao Aw6,Aao Aw6];exact⟨8,rfl,rfl⟩
 have hO:¬(Du (Ac o) 64=true):=by rw[As,Ac];simp;omega
 rw[Aam hO,Aam hO];by_cases hw:(geq v 0&& !u)=true
 ·rw[Aao hw,Aao hw,Ano o p f c w r n g a x u v F0 F0 F0,Aa];simp only;rcases Aaw o p f c w r n g a x u v with⟨e1,e2⟩|⟨e1,e2,hd⟩
  ·rw[e1,e2,Aa,Aa,Aam Aw2,Aao Aw2,mL];exact⟨8,rfl,rfl⟩
  ·rw[e1,e2,Aa,Aao rfl];have key:∃B:Bool,Aa4 o p f c w r n g a x u v=Bm B/\Ch o p f c w r n g a x u v=some B:=by
    cases hd with
    |new e1 e2 e3 e4 e5 e6 e7 e8=>subst e1;exact Afm o p c w r n g a x u v hp
    |head F C W R N h hpw e6 e7 e8=>subst e6;exact Al2 h o p F0 hp a x u v
    |tab F C W R N A h hpw ht hl ea hA=>subst ea;exact Ag5 h o p F0 hp g ht hl A hA x hx u v
   obtain⟨B,k1,k2⟩:=key;rw[k2,Aa];refine⟨if B=true then 0 else 8,k1.trans (mL B),?_⟩;cases B<;>rfl
 ·rw[Aam hw,Aam hw];by_cases hl:(geq (Ac p) 0&&geq (Ac g) 0)=true
  ·rw[Aao hl,Aao hl];generalize(geq f 0&&(geq c 0&&(geq w 0&&(geq r 0&&(geq n 0&&true)))))=z;by_cases hz:((z&&geq a 0)&&pB (Ac x) 12000)=true
   ·rw[Aao hz];simp only[Aap,RN,Ac,Acb]at hz;obtain⟨⟨z1,z2⟩,z3⟩:=hz;have hN:¬((!(z&&geq a 0)||Du (Ac x) 12000)=true):=by rw[z1,z2,As,Ac];simp;omega
    rw[Aam hN];by_cases hv:v=0
    ·have v1:geq v 0=true:=by rw[Ba];simpa using hv
     have v2:¬(Bi v 0=true):=by rw[Am];simpa using hv
     rw[Aao v1,Aam v2,mL];exact⟨0,rfl,rfl⟩
    ·have v1:¬(geq v 0=true):=by rw[Ba];simpa using hv
     have v2:Bi v 0=true:=by rw[Am];simpa using hv
     rw[Aam v1,Aao v2];obtain⟨B,k1,k2⟩:=Aja v;rw[k1,k2,Aa,Aa,mL,mL];cases u
     ·refine⟨if B=true then 0 else 8,Aw7,?_⟩;cases B<;>rfl
     ·exact⟨8,rfl,rfl⟩
   ·rw[Aam hz,Aao,mL]
    ·exact⟨8,rfl,rfl⟩
    ·simp only[Aap,RN,Ac,Acb]at hz;simp only[Ars,Aph,As,Ac,Acb];by_cases hz2:(z&&geq a 0)=true
     ·rw[Aap]at hz2;exact .inr (by have hq:¬((x.length:Int)<=12000):=λh=>hz ⟨hz2,h⟩;omega)
     ·exact .inl (by simpa using hz2)
  ·rw[Aam hl,Aam hl,Aam Aw7,Aao Aw7,mL];exact⟨8,rfl,rfl⟩
def QL(bk:LB->Int->Int->Int->Int->Int->Int->LI->LB->Ap)(o:LB)(u:Bool)(v:Int):LB->Int->Int->Int->Int->Int->Int->LI->LB->Ap:=
 Hw (Na bk o u v) (Qq bk o u v) (Kk bk o u v) (Xa bk o u v) (Nb bk o u v) (Mz bk o u v) (Xr bk o u v) (Cb bk o u v) (Xm bk o u v) o u v
structure SzD (p:LB) (g:LI) (a:Int) (x:LB):Prop where
 hp:p.length<=100000
 hg:g.length<=1000
 hx:x.length+12000*(g.length-a.toNat)<=13000000
def muD(f:Int)(g:LI)(a:Int):Nat:=if f=0 then 1003 else if g=[]then 1002 else g.length-a.toNat+1
section
variable {bk:LB->Int->Int->Int->Int->Int->Int->LI->LB->Ap} {o p:LB} {f c w r n:Int} {g:LI} {a:Int} {x:LB} {u:Bool} {v:Int}
theorem Aki(hp:p.length<=100000)(hg:g.length<=1000)(hx:x.length<=13000000):Dq o p f c w r n g a x u v=some (o,p,f,c,w,r,n,g,a,x,u,v):=by
 rw[Dq,Ib,Cu Aw3,Aa,Aa,Ib,Cu Aw3,Aa,Aa,Gf,Cu Aw3,Aa,Aa];rfl
theorem Atq(h:SzD p g a x)(e:Int):Cb bk o u v p f c w r n a true e g x=some (o,p,f,c,w,r,n,g,a,x,u,v,0):=by
 rw[Cb,HP,Aao rfl,Aki h.hp h.hg (by have:=h.hx;omega),Aa]
theorem Ass{e:Int}(h:e≠0):Cb bk o u v p f c w r n a false e g x=some (o,[],0,0,0,0,0,[],0,x,false,e,e):=by
 rw[Cb,HP,Aam Aw2,Aao (by rw[Am];simpa using h)];rfl
inductive StepR (bk:LB->Int->Int->Int->Int->Int->Int->LI->LB->Ap) (o p:LB) (f c w r n:Int) (g:LI) (a:Int) (x:LB) (u:Bool) (v:Int):Prop
 |wait:QL bk o u v p f c w r n a g x=some (o,p,f,c,w,r,n,g,a,x,u,v,0)->Ag o p f c w r n g a x u v=some (o,p,f,c,w,r,n,g,a,x,u,v, -1)->StepR bk o p f c w r n g a x u v
 |err (e:Int) {t1 t2:LB} {t3 t4 t5 t6 t7:Int} {t8:LI} {t9:Int} {t10:LB} {t11:Bool} {t12:Int}:0<e->QL bk o u v p f c w r n a g x=some (o,[],0,0,0,0,0,[],0,x,false,e,e)->
   Ag o p f c w r n g a x u v=some (t1,t2,t3,t4,t5,t6,t7,t8,t9,t10,t11,t12,e)->StepR bk o p f c w r n g a x u v
 |next (p':LB) (f' c' w' r' n':Int) (g':LI) (a':Int) (x':LB):QL bk o u v p f c w r n a g x=bk p' f' c' w' r' n' a' g' x'->Ag o p f c w r n g a x u v=some (o,p',f',c',w',r',n',g',a',x',u,v,0)->
   FitD o f' c' w' r' n' g' a' x'->SzD p' g' a' x'->p'.length<=p.length->muD f' g' a'<muD f g a->StepR bk o p f c w r n g a x u v
theorem f62{d:Bool}{e:Int}:Na bk o u v a g x d e p f c w r n=Cb bk o u v p f c w r n a d e g x:=rfl
theorem f75{d:Bool}{e:Int}:Kk bk o u v f c w r n a x d e p g=Cb bk o u v p f c w r n a d e g x:=rfl
theorem f78{d:Bool}{e:Int}:Mz bk o u v f c w r n g d e p a x=Cb bk o u v p f c w r n a d e g x:=rfl
theorem mkW(hZ:SzD p g a x)(hF:QL bk o u v p f c w r n a g x=Cb bk o u v p f c w r n a true 0 g x)(hT:Ag o p f c w r n g a x u v=some (o,p,f,c,w,r,n,g,a,x,u,v, -1)):StepR bk o p f c w r n g a x u v:=
 .wait (hF.trans (Atq hZ 0)) hT
theorem mkE{e:Int}{p2:LB}{f2 c2 w2 r2 n2 a2:Int}{g2:LI}{t1 t2:LB}{t3 t4 t5 t6 t7:Int}{t8:LI}{t9:Int}{t10:LB}{t11:Bool}{t12:Int}(he:0<e)(hF:QL bk o u v p f c w r n a g x=Cb bk o u v p2 f2 c2 w2 r2 n2 a2 false e g2 x)
  (hT:Ag o p f c w r n g a x u v=some (t1,t2,t3,t4,t5,t6,t7,t8,t9,t10,t11,t12,e)):StepR bk o p f c w r n g a x u v:= .err e he (hF.trans (Ass F0)) hT
theorem HdI.fnz{F C W R N:Nat}(h:HdI f c w r n F C W R N):f≠0:=by
 have:=h.num;rw[h.ef];omega
theorem Aiy(hp:p.length<=100000):StepR bk o p 0 0 0 0 0 [] 0 [] u v:=by
 have hZ:SzD p [] 0 []:=⟨hp,Aw7,Aw7⟩;have hT:Ag o p 0 0 0 0 0 [] 0 [] u v=Ag o p 0 0 0 0 0 [] 0 [] u v:=rfl
 conv at hT=>rhs;rw[Ag,Br,Aao Aw2,AE p hp,Aa,jm]
 have hF:QL bk o u v p 0 0 0 0 0 0 [] []=QL bk o u v p 0 0 0 0 0 0 [] []:=rfl
 conv at hF=>rhs;rw[QL,Hw,Aao Aw2,PU p F0,Aa]
 have hfn:=M0 p;have hrn:=yh (Ui p);have hok:=PC (b:=p);simp only at hT hF;by_cases h1:(Dk p).2=24
 ·rw[Aao h1]at hT;simp only at hT;rw[Aao Aw2]at hT;rw[Aao (by rw[Ba];simpa using h1)]at hF;exact mkW hZ hF hT
 rw[Aam h1]at hT;rw[Aam (by rw[Ba];simpa using h1)]at hF;by_cases h2:(Dk p).2≠0
 ·rw[Aao h2]at hT;simp only at hT;rw[Aao (by rw[Am];simpa using h2)]at hT;rw[Aao (by rw[Am];simpa using h2),Aj,Aa]at hF;exact mkE F0 hF hT
 have h0:(Dk p).2=0:=by simpa using h2
 obtain⟨k1,k2,k3⟩:=hok h0;have hl:(Ui p).length=p.length-(Dk p).1.toNat:=by rw[Ui,Aiq]
 rw[Aam h2]at hT;rw[Aam (by rw[Am,h0];simp),Dm,Aa,Aa,show p.drop (Dk p).1.toNat=Ui p from rfl,Ajs,Aa]at hF;by_cases h3:(Rk (Ui p) H5||Rk (Ui p) I2)=true
 ·rw[Aao h3]at hT hF;simp only at hT;rw[Aao Aw2]at hT;exact mkW hZ hF hT
 rw[Aam h3]at hT hF;rw[sS _ F0,Aa]at hF;by_cases h5:(Fc (Ui p)).2.2.2.2.2=24
 ·rw[Aao h5]at hT;simp only at hT;rw[Aao Aw2]at hT;rw[Aao (by rw[Ba];simpa using h5)]at hF;exact mkW hZ hF hT
 rw[Aam h5]at hT;rw[Aam (by rw[Ba];simpa using h5)]at hF;simp only at hT;by_cases h6:(Fc (Ui p)).2.2.2.2.2≠0
 ·rw[Aao (by rw[Am];simpa using h6)]at hT hF;rw[Aj,Aa]at hF;exact mkE (by have:=hrn;generalize(Fc (Ui p)).2.2.2.2.2=z at *;omega) (hF.trans f62) hT
 have h7:(Fc (Ui p)).2.2.2.2.2=0:=by simpa using h6
 obtain⟨r1,h22,r3,r4⟩:=wu h7;rw[Aam (by rw[Am,h7];simp),Dm,Aa,Ga,Fz,Eb]at hT;rw[Aam (by rw[Am,h7];simp),Ak,Dm,Aa,Qq,XZ,Nk]at hF;simp only at hT hF;by_cases h8:((o==([]:LB)) !=geq (Fc (Ui p)).1 1)=true
 ·rw[Aao h8]at hT hF;rw[Aa]at hT hF;rw[Aj,Aa]at hF;simp only at hF;exact mkE Aw2 (hF.trans f62) hT
 ·rw[Aam h8]at hT hF;rw[Aa]at hT hF;rw[Aj,Aa]at hF;have hd:HdI (Fc (Ui p)).1 (Fc (Ui p)).2.1 (Fc (Ui p)).2.2.1 (Fc (Ui p)).2.2.2.1 (Fc (Ui p)).2.2.2.2.1 (f0 (Ui p)) (f1 (Ui p)) (f2 (Ui p)) (f3 (Ui p)) (f4 (Ui p)):=by
   constructor<;>first|(rw[r1])|assumption
  refine .next _ _ _ _ _ _ [] 0 [] (by exact hF) hT (.head _ _ _ _ _ hd ?_ rfl rfl rfl) ⟨by rw[Aiq];omega,Aw7,Aw7⟩ Axj ?_
  ·have e:geq (Fc (Ui p)).1 1=decide (f0 (Ui p)=1):=by rw[hd.ef,Ba,Ak7];simp;omega
   rw[<-e];simpa using h8
  ·rw[muD,muD,Aam hd.fnz,Aao rfl,Aao rfl];omega
section
variable {F C W R N:Nat} (hd:HdI f c w r n F C W R N)
include hd
theorem Aeo(hp:p.length<=100000)(hpw:(o==([]:LB))=decide (F=1))(A:Nat)(hA:A<=p.length)
  (hT:Ag o p f c w r n [] 0 [] u v=(Dx p f c w r n (A:Int)).bind (λ(ag,ak,w1)=>if(Bi w1 0)then some (o,p,f,c,w,r,n,([]:LI),(0:Int),([]:LB),u,v,w1)else(Bl p ag (Ac p)).bind λal=>some (o,al,f,c,w,r,n,ak,(0:Int),([]:LB),u,v,(0:Int))))
  (hF:QL bk o u v p f c w r n 0 [] []=Nb bk o u v p f c w r n 0 [] [] (A:Int)):StepR bk o p f c w r n [] 0 [] u v:=by
 have hZ:SzD p [] 0 []:=⟨hp,Aw7,Aw7⟩;obtain⟨_,t2,t3⟩:=zA hd o p hp A hA 0 [] u v;have hs:=R3 (p.drop A) (Ao (Be R) N).length Axj;have hnn:=za (p.drop A) (Ao (Be R) N).length;have hok:=lu (b:=p.drop A) (n:=(Ao (Be R) N).length);rw[t2,Aa]at hT;rw[Nb,Xs,hd.rA,Aa]at hF;simp only at hF;rw[Aam Aw2,Dm,Aa,Aly,Ac,hs,Aa]at hF;generalize hz:Jf (p.drop A) (Ao (Be R) N).length=z at*
 obtain⟨z1,z2⟩:=z;simp only at*
 by_cases h1:z2=24
 ·rw[Aao h1]at hT;simp only at hT;rw[Aao Aw2]at hT;rw[Aao (by rw[Ba];simpa using h1)]at hF;exact mkW hZ hF hT
 rw[Aam h1]at hT;rw[Aam (by rw[Ba];simpa using h1)]at hF;simp only at hT;by_cases h2:z2≠0
 ·rw[Aao (by rw[Am];simpa using h2)]at hT hF;rw[Aj,Aa]at hF;exact mkE F0 hF hT
 ·have h0:z2=0:=by simpa using h2
  subst h0;have h3:=t3 rfl;obtain⟨k1,k2,k3,k4,k5,k6⟩:=hok rfl;simp only[Aea,Aw0]at k1;have hl:z1.length=(Ao (Be R) N).length:=by rw[k1];exact KH _ _
  rw[<-k1]at k5 k6;rw[Aam Aw2,Dm,Aa]at hT;rw[Aam Aw2,Ac,Acl A z1.length F0 F0,Dm,Aa]at hF;have hne:z1≠ []:=by intro e;rw[e]at hl;simp at hl;omega
  refine .next _ _ _ _ _ _ z1 0 [] (by exact hF) hT (.tab _ _ _ _ _ 0 hd hpw ?_ hl rfl F0) ⟨by rw[Aiq];omega,F0,by simp;omega⟩ Axj ?_
  ·rw[AV,Aap,Acb,OT z1 100000 F0];exact⟨F0,k5,k6⟩
  ·rw[muD,muD,Aam hd.fnz,Aam hd.fnz,Aao rfl,Aam hne];simp;omega
theorem Agp(ho:o.length<=64)(hp:p.length<=100000)(hpw:(o==([]:LB))=decide (F=1)):StepR bk o p f c w r n [] 0 [] u v:=by
 have hZ:SzD p [] 0 []:=⟨hp,Aw7,Aw7⟩;have hT:Ag o p f c w r n [] 0 [] u v=Ag o p f c w r n [] 0 [] u v:=rfl
 conv at hT=>rhs;rw[Ag,Br,Aam hd.ne0,Bt,Bb,Aao Aw2,Fb,Iv]
 have hF:QL bk o u v p f c w r n 0 [] []=QL bk o u v p f c w r n 0 [] []:=rfl
 conv at hF=>rhs;rw[QL,Hw,Aam hd.ne0,Aao Aw2]
 by_cases h2:geq f 2=true
 ·rw[Aao h2]at hT hF;by_cases h8:p.length<8
  ·rw[Aao F2]at hT hF;rw[Aa]at hT;simp only at hT;rw[Aao Aw2]at hT;exact mkW hZ hF hT
  ·rw[Aam F2]at hT hF;have h8':(p.take 8).length=8:=by rw[Ajz];omega
   rw[Di,Aa,K1 o ho,Aa]at hT;rw[Xa,HW,Di,Aa,show(8:Int).toNat=8 from rfl,ng h8' ho,Aa]at hF;rw[show(8:Int).toNat=8 from rfl]at hT;simp only at hF;rw[WC,IV,Aam Aw2]at hF;by_cases he:(p.take 8==GJ (BN o).toNat 8)=true
   ·rw[Aam (by rw[bne,he];decide)]at hT;rw[Aam (by rw[he];decide)]at hF;exact Aeo hd hp hpw 8 F0 hT hF
   ·have he':(p.take 8==GJ (BN o).toNat 8)=false:=by simpa using he
    rw[Aao (by rw[bne,he'];decide),Aa]at hT;simp only at hT;rw[Aao Aw2]at hT;rw[Aao (by rw[he'];decide),Aj,Aa]at hF;simp only at hF;exact mkE Aw2 (hF.trans f75) hT
 ·rw[Aam h2]at hT hF;exact Aeo hd hp hpw 0 F0 hT hF
theorem Akx(ho:o.length<=64)(hpw:(o==([]:LB))=decide (F=1))(hg:AV g=true)(hl:g.length=(Ao (Be R) N).length)(A:Nat)(hA:A<=g.length)(hZ:SzD p g (A:Int) x):StepR bk o p f c w r n g (A:Int) x u v:=by
 have hp:=hZ.hp;have hx:=hZ.hx;have hc:=hd.ec;subst hc;have hg':=hg;rw[AV,Aap,Acb,OT g 100000 F0]at hg';obtain⟨⟨g1,g2⟩,g5,g6⟩:=hg';have hgn:¬(geq (Ac g) 0=true):=by rw[Ba,Ac];simp;intro e;subst e;simp at g1
 have hT:Ag o p f (C:Int) w r n g (A:Int) x u v=Ag o p f (C:Int) w r n g (A:Int) x u v:=rfl
 conv at hT=>rhs;rw[Ag,Br,Aam hd.ne0,Bt,Bb,Aam hgn]
 have hF:QL bk o u v p f (C:Int) w r n (A:Int) g x=QL bk o u v p f (C:Int) w r n (A:Int) g x:=rfl
 conv at hF=>rhs;rw[QL,Hw,Aam hd.ne0,Aam hgn]
 by_cases hA2:A=g.length
 ·subst hA2;rw[Aao (by rw[Ba,Ac];simp)]at hT;rw[Aam Axz]at hF;by_cases h4:4000<p.length
  ·rw[Aao Aw6]at hT hF;rw[Aj,Aa]at hF;exact mkE Aw2 hF hT
  ·rw[Aam Aw6]at hT hF;exact mkW hZ hF hT
 ·have hlt:A<g.length:=F0
  have h5:=g5 g[A] (Ar3 hlt);have hsum:=R7 g5 g[A] (Ar3 hlt);rw[Aam (by rw[Ba,Ac];simp;omega),Cv,Gn,Cm hlt,Aa]at hT;rw[Aao F2,Cm hlt,Aa,Aa]at hF;by_cases hw:(p.length:Int)<g[A]
  ·rw[Aao (by rw[Af,Ac];simpa using hw)]at hT hF;rw[Aa]at hT;simp only at hT;rw[Aao Aw2]at hT;exact mkW hZ hF hT
  rw[Aam (by rw[Af,Ac];simpa using hw)]at hT hF;have SM:=hd.num;have hlt2:A<(Ao (Be R) N).length:=F0
  obtain⟨m,hm,m1,m2⟩:=HU (Xp R) SM.2.2.2.2.1 (Ar3 hlt2);have hb:Dd w:=by rw[hd.ew];unfold Dd;omega
  obtain⟨xs,e,d1,d2,d3,d4⟩:=TN (bits:=w) (ch:=C) (n:=m) (t:=IL o) (p.take g[A].toNat) hb (AI o) SM.2.1.1 SM.2.1.2 m1 F0;have hnn:=L6 hb (AI o) SM.2.1.1 SM.2.1.2 m1 F0 d2;rw[P0 o ho,Aa]at hF;simp only at hF;rw[Aam Aw2,hd.rA,Aa]at hF;simp only at hF;rw[Aam (by simp[Am,El,Ac];omega),Xr,HV,Cm hlt2,Aa,Di,Aa,Aa,Za,Aa]at hF;simp only at hF;rw[hm,d1,Aa]at hF;simp only at hF;rw[pG o ho,Aa]at hT;simp only at hT;rw[Di,Aa,Ht,Aa]at hT;simp only at hT;rw[hd.Abq,Aa,Cm hlt2,Aa,Aa,hm]at hT;rw[d2,Aa]at hT;simp only at hT;rw[Gp,Gj]at hT;rw[IH,Xi]at hF;by_cases he:e≠0
  ·rw[Aao (by rw[Am];simpa using he)]at hT hF;rw[Aa]at hT;simp only at hT;rw[Aao (by rw[Am];simpa using he)]at hT;rw[Aj,Aa]at hF;exact mkE F0 hF hT
  ·have he0:e=0:=by simpa using he
   obtain⟨k1,k2,k3⟩:=d3 he0;have hbl:=IW w xs;have ht:((A:Int)).toNat=A:=rfl;rw[ht]at hx;rw[Aam (by rw[Am,he0];simp)]at hT hF;rw[iL hb k2 k1,Aa,Aa]at hT;simp only at hT;rw[Aam Aw2,Cu Aw3,Aa,Aqf,Cu,Aa,Aa,Dm,Aa,Ak]at hT;rw[zW hb k2 k1,Aa]at hF;simp only at hF;rw[Aam Aw2,Cu,Aa,Dm,Aa,Ak]at hF;have e1:((A:Int)+1).toNat=A+1:=rfl;refine .next _ _ _ _ _ _ _ _ _ (by exact hF) hT (.tab _ _ _ _ _ (A+1) hd hpw hg hl rfl F0) ⟨by rw[Aiq];omega,hZ.hg,by rw[e1,Aar];omega⟩ Axj ?_
   have hne:g≠ []:=by intro e;subst e;simp at g1
   rw[muD,muD,Aam hd.fnz,Aam hd.fnz,Aam hne,Aam hne,e1,ht];omega
end
theorem zG(hf:FitD o f c w r n g a x)(ho:o.length<=64)(hZ:SzD p g a x):StepR bk o p f c w r n g a x u v:=by
 cases hf with
 |new e1 e2 e3 e4 e5 e6 e7 e8=>subst e1 e2 e3 e4 e5 e6 e7 e8;exact Aiy hZ.hp
 |head F C W R N h hpw e6 e7 e8=>subst e6 e7 e8;exact Agp h ho hZ.hp hpw
 |tab F C W R N A h hpw ht hl ea hA=>subst ea;exact Akx h ho hpw ht hl A hA hZ
end
abbrev Aup:=LB×LB×Int×Int×Int×Int×Int×LI×Int×LB×Bool×Int×Int
theorem Ak0:∀(j:Nat) (b:LB) (a:Nat),(W6 j b a).2=0\/ (W6 j b a).2=38
 |0,_,_=> .inr rfl
 |j+1,b,a=>by
  rw[W6];split
  ·exact .inl rfl
  ·split
   ·exact .inr rfl
   ·exact Ak0 j _ _
theorem Af1(b:LB):(UE b).2=0\/ (UE b).2=38:=by
 rw[UE];split
 ·exact .inr rfl
 ·exact Ak0 _ _ _
theorem XK{o p:LB}{f c w r n:Int}{g:LI}{a:Int}{x:LB}{u:Bool}{v:Int}(hp:p.length<=100000)(hg:g.length<=2000)(hx:x.length<=13000000):Lj o p f c w r n g a x u v=some (o,p,f,c,w,r,n,g,a,x,u,v):=by
 rw[Lj,Pc,Cu Aw3,Aa,Cu Aw3,Aa,Pg,Pf,Cu Aw3,Aa];rfl
theorem N5{o p:LB}{f c w r n:Int}{g:LI}{a:Int}{x:LB}{u:Bool}{v:Int}(hp:p.length<=100000)(hg:g.length<=2000)(hx:x.length<=13000000):Dq o p f c w r n g a x u v=some (o,p,f,c,w,r,n,g,a,x,u,v):=by
 rw[Dq,Ib,Cu Aw3,Aa,Aa,Ib,Cu Aw3,Aa,Aa,Gf,Cu Aw3,Aa,Aa];rfl
theorem zU{o p:LB}{f c w r n:Int}{g:LI}{a:Int}{x:LB}{u:Bool}{v e:Int}(hx:x.length<=13000000):Mj o p f c w r n g a x u v e=some (o,[],0,0,0,0,0,[],0,x,false,e,e):=by
 rw[Mj,Vl,Cu Aw3,Aa];rfl
theorem Aj5{p:LB}{f:Int}{g:LI}{a:Int}{x:LB}(h:SzD p g a x):muD f g a<1004:=by
 have:=h.hg;unfold muD;split
 ·omega
 ·split<;>omega
section
variable {o p:LB} {f c w r n:Int} {g:LI} {a:Int} {x:LB} {u:Bool} {v:Int} (hp:p.length<=20000) (hg:g.length<=2000) (hx:x.length<=13000000)
include hp hg hx
theorem oN{E:Int}(hE:Hm o p f c w r n g a x u v=some E):Qd o p f c w r n g a x u v=if E≠0 then some ([],[],0,0,0,0,0,[],0,[],false,0,E)else some (o,p,f,c,w,r,n,g,a,x,u,v,if v≠0 then v else if u=true then 36 else 0):=by
 rw[Qd,hE,Aa];by_cases h:E≠0
 ·rw[Aao (by rw[Am];simpa using h),Aao h]
 rw[Aam (by rw[Am];simpa using h),Aam h,N5 F0 hg F0];by_cases hv:v≠0
 ·rw[Aao (by rw[Am];simpa using hv),Aao hv,Aa]
 ·rw[Aam (by rw[Am];simpa using hv),Aam hv];cases u<;>simp[Aa]
omit hg hx in
theorem kr:∃e,Vz o p f c w r n g a x u v=some e/\Qg o p f c w r n g a x u v=some e:=by
 rw[Vz,Qg];by_cases h0:geq f 0=true
 ·rw[Aao h0,Aao h0,PU p F0,ZP p F0,Aa,Aa];have hok:=PC (b:=p);simp only;by_cases h2:(Dk p).2≠0
  ·rw[Aao (by rw[Am];simpa using h2),Aao (by rw[Am];simpa using h2)];exact⟨_,rfl,rfl⟩
  have h3:(Dk p).2=0:=by simpa using h2
  obtain⟨k1,k2,k3⟩:=hok h3;have hl:(Ui p).length<=p.length:=by rw[Ui,Aiq];omega
  rw[Aam (by rw[Am,h3];simp),Aam (by rw[Am,h3];simp),Dm,Aa,Aa,show p.drop (Dk p).1.toNat=Ui p from rfl,sS _ F0,xT _ F0,Aa];exact⟨_,rfl,rfl⟩
 ·rw[Aam h0,Aam h0,Bool.or_comm];by_cases h1:(geq (Ac g) 0||Ck a (Ac g))=true
  ·rw[Aao h1,Aao h1];exact⟨_,rfl,rfl⟩
  ·rw[Aam h1,Aam h1,oz p F0,Aco p F0,Aa,Aa];simp only;refine⟨(UE p).2,rfl,?_⟩;rcases Af1 p with h|h
   ·rw[Aam (by rw[h];decide),h]
   ·rw[Aao (by rw[h];decide),h]
end
end Go.Pl
