/- A part of a proof (see the text that ends in Proof). No conditions. -/
import Derived.Test.YtheamkpclkijmaaGreatDoorMdPA
import Derived.KernelRfl
set_option linter.unusedVariables false
set_option linter.unusedSimpArgs false
namespace Go.Lv
variable{a b:Int}{l:List UInt8}{n:Nat}{α:Type}
theorem Aj(h: -9223372036854775808<=a+b:=by omega)(h':a+b<=9223372036854775807:=by omega):Ae a b=a+b:=by rw[Ats,Cq h h']
theorem Ci(h: -9223372036854775808<=a-b:=by omega)(h':a-b<=9223372036854775807:=by omega):Am a b=a-b:=by rw[At3,Cq h h']
theorem Ii(h: -9223372036854775808<=a*b:=by omega)(h':a*b<=9223372036854775807:=by omega):Bv a b=a*b:=by rw[Ajm,Cq h h']
theorem OO(c:UInt8):(Ad c:Int)=(c.toNat:Int):=by rw[Alb,Cq]<;>have:=c.toNat_lt<;>omega
theorem Abu(c:UInt32):(Ad c:Int)=(c.toNat:Int):=by rw[Ahr,Cq]<;>have:=c.toNat_lt<;>omega
theorem lI(c:UInt8):(Ad c:UInt64)=UInt64.ofNat c.toNat:=by simp only[Ad,AU,Ht]
theorem Iz(c:UInt32):(Ad c:UInt64)=UInt64.ofNat c.toNat:=by simp only[Ad,Wy,Ht]
theorem ZO(c:UInt64):(Ad c:UInt8)=UInt8.ofNat c.toNat:=by simp only[Ad,Jg,Mu]
theorem lR(c:UInt32):(Ad c:UInt8)=UInt8.ofNat c.toNat:=by simp only[Ad,Wy,Mu]
theorem Xi(n:Nat):(Ad (n:Int):UInt64)=UInt64.ofNat n:=by simp only[Ad];exact Ht n
theorem Q3(n:Nat):(Ad (n:Int):UInt32)=UInt32.ofNat n:=by simp only[Ad];exact Eu n
theorem Akt(n:Nat):(Ad (n:Int):UInt8)=UInt8.ofNat n:=by simp only[Ad];exact Mu n
theorem sE{c:UInt64}(h:c.toNat<9223372036854775808):(Ad c:Int)=(c.toNat:Int):=by rw[Ahn,Cq]<;>omega
theorem Afl:K3=17179869184:=F7
theorem Aq:36893488147419103231<Ar:=F7
theorem Cf{l:List α}(h:n<l.length:=by omega):Ak l (n:Int)=some l[n]:=by simp[Ak,h]
theorem Ye{l:List α}(x:α)(h:n<l.length):Lz l (n:Int) x=some (l.set n x):=by simp[Lz,h]
theorem DD{l:List α}(h:0<=a:=by omega)(h1:a<=b:=by omega)(h2:b<=l.length:=by omega):Bi l a b=some ((l.take b.toNat).drop a.toNat):=by rw[Bi,Abo ⟨h,h1,h2⟩]
theorem Cz{l:List α}(h:0<=a:=by omega)(h1:a<=l.length:=by omega):Bi l a (Ac l)=some (l.drop a.toNat):=by
 unfold Ac;rw[DD h h1 (Int.le_refl _),Ajr,Ayh]
theorem Cw{l:List α}(h:0<=b:=by omega)(h1:b<=l.length:=by omega):Bi l 0 b=some (l.take b.toNat):=by rw[DD (Int.le_refl _) h h1];rfl
theorem Cr{l m:List α}(h:l.length+m.length<=17179869184:=by omega):Df l m=some (l++m):=by rw[Df,Afl,Abo h]
theorem D1{n:Int}{z:α}(h:0<=n:=by omega)(h':n<=17179869184:=by omega):mkI n z=some (List.replicate n.toNat z):=by rw[mkI,Afl,Abo ⟨h,h'⟩]
theorem Dj{b:Bool}(h:b=true):Jv b=some ():=by rw[h];rfl
theorem Aa{β:Type}(a:α)(f:α->Option β):Option.bind (some a) f=f a:=rfl
theorem drop_cons{l:List α}(h:n<l.length):l.drop n=l[n]::l.drop (n+1):=List.drop_eq_getElem_cons h
theorem ON{l:List α}(h:n<l.length):l.take (n+1)=l.take n++[l[n]]:=by rw[List.take_add_one,List.getElem?_eq_getElem h];rfl
def El:List UInt8->Nat
 |[]=>0
 |x::r=>x.toNat+256*El r
theorem Z6:∀l:List UInt8,El l<256^l.length
 |[]=>by simp[El]
 |x::r=>by
  have h:=Z6 r;have:=x.toNat_lt;simp only[El,As0,As2];omega
theorem xU:∀l m:List UInt8,El (l++m)=El l+256^l.length*El m
 |[],m=>by simp[El]
 |x::r,m=>by
  simp only[El,Ax0,xU r m,As0,As2,Nat.mul_add];rw[Aso (256^r.length) 256,Axl];omega
def jR(l:List UInt8):UInt64:=UInt64.ofNat (El l)
theorem Aoh(h:l.length<=8):El l<18446744073709551616:=by
 have h1:=Z6 l;have h2:256^l.length<=256^8:=Ajg F0 h;exact Aob h1 (by simpa using h2)
theorem Afv(h:l.length<=4):El l<4294967296:=by
 have h1:=Z6 l;have h2:256^l.length<=256^4:=Ajg F0 h;exact Aob h1 (by simpa using h2)
theorem UC(h:l.length<=8):(jR l).toNat=El l:=by
 rw[jR,Ajj,Adl (Aoh h)]
theorem IW(h:l.length<=4):(Ad (jR l):Int)=(El l:Int):=by
 have:=Afv h;rw[sE]<;>rw[UC F0];omega
def FU(n:Nat):Nat->List UInt8
 |0=>[]
 |w+1=>UInt8.ofNat n::FU (n/256) w
theorem On:∀(w n:Nat),(FU n w).length=w
 |0,_=>rfl
 |w+1,n=>by simp[FU,On w]
theorem uh:∀(w n:Nat),FU n (w+1)=FU n w++[UInt8.ofNat (n/256^w)]
 |0,n=>by simp[FU]
 |w+1,n=>by
  rw[FU,uh w (n/256),FU];simp[Ayu,As2,Aso]
def Km(p:List UInt8)(i:Nat):Nat:=(p.getD (i/8) 0).toNat/2^(i %8) %2
theorem Yy(p:List UInt8)(i:Nat):Km p i<2:=Axu _ F0
def Ct(p:List UInt8):Nat->Nat->Nat
 |_,0=>0
 |a,n+1=>Km p a+2*Ct p (a+1) n
theorem Rk(p:List UInt8):∀(n a:Nat),Ct p a n<2^n
 |0,_=>by simp[Ct]
 |n+1,a=>by
  have:=Rk p n (a+1);have:=Yy p a;rw[Ct,As2];omega
theorem QI(p:List UInt8):∀(m n a:Nat),Ct p a (m+n)=Ct p a m+2^m*Ct p (a+m) n
 |0,n,a=>by simp[Ct]
 |m+1,n,a=>by
  rw[show m+1+n=(m+n)+1 by omega,Ct,Ct,QI p m n (a+1),show a+1+m=a+(m+1) by omega,As2,Nat.mul_add,Aso (2^m) 2,Axl];omega
theorem wz(p:List UInt8)(a:Nat):Ct p a 1=Km p a:=by simp[Ct]
theorem N0(p:List UInt8)(a n:Nat):Ct p a (n+1)=Ct p a n+2^n*Km p (a+n):=by rw[QI p n 1 a,wz]
theorem rV(p:List UInt8)(a:Nat):∀t:Nat,a %8+t<=8->Ct p a t=(p.getD (a/8) 0).toNat/2^(a %8) %2^t
 |0,_=>by simp[Ct,Nat.mod_one]
 |t+1,h=>by
  have h1:(a+t)/8=a/8:=F0
  have h2:(a+t) %8=a %8+t:=F0
  rw[N0,rV p a t F0,Km,h1,h2,Nat.mod_pow_succ,Azo,Ayu]
theorem M8{p:List UInt8}:∀(n a:Nat),(∀k,k<n->Km p (a+k)=0)->Ct p a n=0
 |0,_,_=>rfl
 |n+1,a,h=>by
  have h0:=h 0 F0;rw[Ct,M8 n (a+1) λk hk=>by have:=h (k+1) F0;rwa [show a+1+k=a+(k+1) by omega]];rw[Axs]at h0;omega
def okB(p:List UInt8)(n:Nat):Prop:=n<=330000/\p.length=(n+7)/8/\∀k,n<=k->k<8*p.length->Km p k=0
def HE(p:List UInt8)(a n:Nat):List UInt8:=(List.range ((n+7)/8)).map λj=>UInt8.ofNat (Ct p (a+8*j) (min 8 (n-8*j)))
theorem Oi(p:List UInt8)(a n:Nat):(HE p a n).length=(n+7)/8:=by simp[HE]
theorem sw(p:List UInt8):∀(n a k:Nat),k<n->Ct p a n/2^k %2=Km p (a+k)
 |n+1,a,0,_=>by have:=Yy p a;rw[Ct];simp;omega
 |n+1,a,k+1,h=>by
  have hb:=Yy p a;have e:(Km p a+2*Ct p (a+1) n)/2=Ct p (a+1) n:=F0
  rw[Ct,As2,Aso (2^k) 2,<-Ayu,e,sw p n (a+1) k F0,show a+1+k=a+(k+1) by omega]
theorem Ahs(p:List UInt8)(n a k:Nat)(h:n<=k):Ct p a n/2^k %2=0:=by
 have:=Rk p n a;rw[Axg (Aob this (Ajg F0 h))]
theorem Aj6(p:List UInt8)(a n k:Nat):Km (HE p a n) k=if k<n then Km p (a+k)else 0:=by
 rw[Km];by_cases hj:k/8<(n+7)/8
 ·have e:(HE p a n).getD (k/8) 0=UInt8.ofNat (Ct p (a+8*(k/8)) (min 8 (n-8*(k/8)))):=by
   rw[List.getD_eq_getElem?_getD,List.getElem?_eq_getElem (by rw[Oi];exact hj)];simp[HE]
  have hlt:Ct p (a+8*(k/8)) (min 8 (n-8*(k/8)))<256:=by
   have:=Rk p (min 8 (n-8*(k/8))) (a+8*(k/8));have h2:2^(min 8 (n-8*(k/8)))<=2^8:=Ajg F0 F0;omega
  have hu:(UInt8.ofNat (Ct p (a+8*(k/8)) (min 8 (n-8*(k/8))))).toNat=Ct p (a+8*(k/8)) (min 8 (n-8*(k/8))):=by
   rw[Ao0];exact Adl hlt
  rw[e,hu];by_cases hk:k<n
  ·rw[Abo hk,sw p _ _ _ F0,show a+8*(k/8)+k %8=a+k by omega]
  ·rw[Abl hk,Ahs p _ _ _ F0]
 ·have e:(HE p a n).getD (k/8) 0=0:=by
   rw[List.getD_eq_getElem?_getD,List.getElem?_eq_none (by rw[Oi];omega)];rfl
  rw[e,Abl F0];simp
theorem Aeq(p:List UInt8)(a n:Nat)(h:n<=330000):okB (HE p a n) n:=⟨h,Oi p a n,λk hk _=>by rw[Aj6,Abl F0]⟩
end Go.Lv
namespace Go.Pl
open Go Go.Lv
variable{p:Prop}
theorem F5(h:p:=by rw[Af,Ac];simp;omega):p:=h
theorem Az8(h:p:=by rw[Af];simp;omega):p:=h
theorem Bae(h:p:=by rw[Dz];simp;omega):p:=h
theorem Bag(h:p:=by rw[Bb];simp;omega):p:=h
theorem Bah(h:p:=by simp[Af,Ax];omega):p:=h
theorem Bao(h:p:=by unfold Ac;omega):p:=h
theorem Az9(h:p:=by have:=Aq;omega):p:=h
theorem Bal(h:p:=by rw[Dz];simp):p:=h
theorem Ba0(h:p:=by rw[Bb];simp):p:=h
theorem Bat(h:p:=by rw[Bb];rfl):p:=h
end Go.Pl
namespace Go.Pl
open Go Go.Lv
variable{i:Nat}{p:Prop}
theorem Akd(b:LB)(hb:b.length<4611686018427387904):∀(j q:Nat),j<=b.length->j<q->Nb b q (jR (b.drop j)) ((j:Int)-1)=some (jR b)
 |0,q+1,_,_=>by
  rw[Nb,AT,Abl Bal];simp[QR,PG]
 |j+1,q+1,hj,hq=>by
  rw[Nb,AT,Abo Bal,show((j+1:Nat):Int)-1=(j:Int) by omega,Cf,Aa,Ci];have h:Ae (Bv (256:UInt64) (jR (b.drop (j+1)))) (Ad b[j]:UInt64)=jR (b.drop j):=by
   rw[KI,KC,lI,drop_cons (n:=j) F0,jR,jR,El,UInt64.ofNat_add,UInt64.ofNat_mul];exact UInt64.add_comm _ _
  rw[h];exact Akd b hb j q F0 F0
theorem Aab(b:LB)(hb:b.length<4611686018427387904):Dl b=some (jR b):=by
 have h:=Akd b hb b.length Ar (An1 _) Az9;rw[Dl,QB,QD];have e:Am (Ac b) 1=(b.length:Int)-1:=Ci Bao Bao;rw[e,<-h,Axj];rfl
theorem Al6{n c:UInt64}(hn:n.toNat<2^i)(hc:c.toNat*2^i<18446744073709551616):uR n (Ec c i)=UInt64.ofNat (n.toNat+c.toNat*2^i):=by
 rw[Arv];apply UInt64.toNat_inj.1;rw[UInt64.toNat_or,XL,Adl hc,Aso,Nat.or_comm,<-Avh hn,Ajj,Adl,Az0,Aso];have h:=Avh hn c.toNat;have h2:2^i*c.toNat+n.toNat<2^64:=by
  rw[h];exact Nat.or_lt_two_pow (by rw[Aso];simpa using hc) n.toNat_lt
 rw[Az0];first|exact h2|(rw[Aso];exact h2)
theorem Q7(b:LB)(hb:b.length<=8):∀(j i q:Nat),i+j=b.length->j<q->BB b q (jR (b.take i)) (i:Int)=some (jR b,0)
 |0,i,q+1,hi,_=>by
  rw[BB,TE,Abl F5,show i=b.length by omega,Ayh];rfl
 |j+1,i,q+1,hi,hq=>by
  have hlt:i<b.length:=F0
  rw[BB,TE,Abo F5,Cf hlt,Aa,Ii,Dj Bae,Aa,Aj];have h:uR (jR (b.take i)) (Ec (Ad b[i]:UInt64) (GI.toZ ((8:Int)*(i:Int))).toNat)=jR (b.take (i+1)):=by
   have e:(GI.toZ ((8:Int)*(i:Int))).toNat=8*i:=by show((8:Int)*(i:Int)).toNat=_;omega
   have e2:(2:Nat)^(8*i)=256^i:=by rw[Nat.pow_mul]
   have h1:=Z6 (b.take i);rw[Agw,Au2 F0]at h1;have h3:=b[i].toNat_lt;have hle:(256:Nat)^(i+1)<=256^8:=Ajg F0 F0;rw[As2]at hle;have h4:(Ad b[i]:UInt64).toNat=b[i].toNat:=by rw[lI,Ajj];omega
   have h5:b[i].toNat*256^i<18446744073709551616:=by
    have:b[i].toNat*256^i<256*256^i:=Nat.mul_lt_mul_of_pos_right (by simpa using h3) (Axx F0);simp at hle;omega
   rw[e,Al6 (by rw[UC F9,e2];exact h1) (by rw[h4,e2];exact h5),UC F9,h4,e2,ON hlt];rw[jR,xU];simp only[El,Agw,Au2 (Nat.le_of_lt hlt),Nat.mul_zero,Axs];rw[Aso]
  rw[h];exact Q7 b hb j (i+1) q F0 F0
theorem Aak(b:LB)(h1:1<=b.length)(h2:b.length<=8):dT b=some (jR b,0):=by
 have h:=Q7 b h2 b.length 0 Ar F0 Az9;rw[dT,gN,Abl (by simp[Af,Ax,Ac];omega),tU];exact h
def part(b:LB)(at' w:Nat):LB:=(b.take (at'+w)).drop at'
theorem Dr{b:LB}{a w:Nat}(h:a+w<=b.length:=by omega):(part b a w).length=w:=by simp[part];omega
theorem M2(b:LB)(a w:Nat)(h1:1<=w)(h2:w<=8)(h3:a+w<=b.length)(hb:b.length<4611686018427387904):WN b (a:Int) (w:Int)=some (jR (part b a w),0):=by
 rw[WN,Abl Bah,Abl (by rw[Ax,Ci Bao Bao,Ac];simp;omega),Aj,DD,Aa];rw[show((a:Int)+(w:Int)).toNat=a+w by omega,show(a:Int).toNat=a by omega];rw[Aak _ (by rw[show((b.take (a+w)).drop a).length=_ from Dr h3];exact h1) (by rw[show((b.take (a+w)).drop a).length=_ from Dr h3];exact h2),Aa];rfl
theorem sU(w:Nat)(hw:w<=1000):∀(j i q:Nat) (n:UInt64) (acc:LB),i+j=w->j<q->acc.length+j<=1000000->Hp (w:Int) q n (i:Int) acc=some (acc++FU n.toNat j)
 |0,i,q+1,n,acc,hi,_,_=>by
  rw[Hp,Qu,Abl Az8];simp[AY,BN,FU]
 |j+1,i,q+1,n,acc,hi,hq,ha=>by
  rw[Hp,Qu,Abo Az8];have e:(Ad (CH n (256:UInt64)):UInt8)=UInt8.ofNat n.toNat:=by
   rw[ZO,qb];apply UInt8.toNat_inj.1;rw[Ao0,Ao0,UInt64.toNat_mod]
   show n.toNat %256 %256=_;omega
  have e2:(Cy n (256:UInt64)).toNat=n.toNat/256:=by rw[pC,Azq];rfl
  rw[Cr F9,Aa,Aj,e];have h:=sU w hw j (i+1) q (Cy n 256) (acc++[UInt8.ofNat n.toNat]) F0 F0 F9;rw[e2]at h;rw[show((i:Int)+1)=((i+1:Nat):Int) by omega,h,FU];simp
theorem zY(n:UInt64)(w:Nat)(hw:w<=1000):Ed n (w:Int)=some (FU n.toNat w):=by
 rw[Ed,BW,BL];have h:=sU w hw w 0 Ar n [] F0 Az9 F9;simpa using h
theorem gR{α:Type}{l m:List α}{x y:α}(h:l.length=i):(l++x::m).set i y=l++y::m:=by subst h;simp
theorem K8(n:UInt64)(l4:LB)(w:Nat)(hl:l4.length=w)(hw:w<=8):∀(j i q:Nat),i+j=w->j<q->BZ n l4 q (i:Int) (FU n.toNat i++List.replicate j 0)=some (FU n.toNat w,0)
 |0,i,q+1,hi,_=>by
  rw[BZ,TB,Abl F5];obtain rfl:i=w:=F0
  simp[cZ,tR]
 |j+1,i,q+1,hi,hq=>by
  have hlen:(FU n.toNat i++List.replicate (j+1) 0).length=i+(j+1):=by simp[On]
  rw[BZ,TB,Abo F5,Ii,Dj Bae,Aa,Cf (by rw[hlen];omega),Aa,Ye _ (by rw[hlen];omega),Aa,Aj];have e:(Ad (Cn n (GI.toZ ((8:Int)*(i:Int))).toNat):UInt8)=UInt8.ofNat (n.toNat/256^i):=by
   have e:(GI.toZ ((8:Int)*(i:Int))).toNat=8*i:=by show((8:Int)*(i:Int)).toNat=_;omega
   rw[e,ZO,KZ,Nat.pow_mul]
  rw[e,Axc,gR (On _ _)];have h:=K8 n l4 w hl hw j (i+1) q F0 F0;rw[uh]at h;simpa using h
theorem Ar5(n:UInt64)(w:Nat)(h1:1<=w)(h2:w<=8)(h:n.toNat<256^w):vR n (w:Int)=some true:=by
 rw[vR];by_cases h8:w=8
 ·subst h8;rw[Abo Bat]
 ·rw[Abl Bag,Ii,Dj Bae,Aa];have e:(GI.toZ ((8:Int)*(w:Int))).toNat=8*w:=by show((8:Int)*(w:Int)).toNat=_;omega
  rw[e,vF];have:Cn n (8*w)=0:=by
   apply UInt64.toNat_inj.1;rw[KZ,Nat.pow_mul];exact Axg h
  rw[this];rfl
theorem C7(n:UInt64)(w:Nat)(h1:1<=w)(h2:w<=8)(h:n.toNat<256^w):Yq n (w:Int)=some (FU n.toNat w,0):=by
 rw[Yq,eT,Abl Bah,Ar5 n w h1 h2 h,Aa,Abl Bab,D1,Aa,Dj Ba0,Aa,tS];have h:=K8 n (List.replicate (w:Int).toNat 0) w Bab h2 w 0 Ar F0 Az9;simpa [FU]using h
theorem Bad(h:p:=by rw[Ax];simp;omega):p:=h
theorem Bac(h:p:=by rw[Ao];simp):p:=h
end Go.Pl
namespace Go.Pl
open Go Go.Lv
variable{p:LB}
theorem yh(n:Nat)(h:n<4611686018427387904):Er (n:Int) (7:Int)=((n %8:Nat):Int):=by
 have e:Er (n:Int) (7:Int)=wrap64 ((BitVec.ofInt 64 (n:Int)&&&BitVec.ofInt 64 7).toNat:Int):=rfl;rw[e,BitVec.toNat_and,Axn,Axn];have h1:((n:Int) %((2^64:Nat):Int)).toNat=n:=F0
 have h2:((7:Int) %((2^64:Nat):Int)).toNat=2^3-1:=F7
 rw[h1,h2,Ay6,Cq F0 F0]
theorem Avo(n:Nat):Y4 (n:Int) (GI.toZ (3:UInt64)).toNat=((n/8:Nat):Int):=by
 have e:Y4 (n:Int) (GI.toZ (3:UInt64)).toNat=(n:Int).fdiv 8:=rfl;rw[e,Asz _ F0];omega
theorem Awx{t:Nat}(h:t<=8):Am (Ec (1:UInt8) t) (1:UInt8)=UInt8.ofNat (2^t-1):=by
 have:t=0\/t=1\/t=2\/t=3\/t=4\/t=5\/t=6\/t=7\/t=8:=F0
 rcases this with rfl|rfl|rfl|rfl|rfl|rfl|rfl|rfl|rfl<;>decide
theorem bitsOf(c:UInt8)(off t:Nat)(h:t<=8):(Er (Cn c off) (Am (Ec (1:UInt8) t) (1:UInt8))).toNat=c.toNat/2^off %2^t:=by
 have hp:2^t<=2^8:=Ajg F0 h;rw[Awx h,Aov,UInt8.toNat_and,Aga,Ao0,Adl (by have:=Axx (n:=t) (show 0<2 by omega);omega),Ay6]
theorem A8{k:Nat}(h:k<p.length):Ak p (k:Int)=some (p.getD k 0):=by
 rw[Cf h];simp[List.getD_eq_getElem?_getD,h]
def Vj(p:LB)(a n:Nat):UInt64:=UInt64.ofNat (Ct p a n)
theorem FJ(p:LB)(a n:Nat)(h:n<=64):(Vj p a n).toNat=Ct p a n:=by
 have h1:=Rk p n a;have h2:2^n<=2^64:=Ajg F0 h;rw[Vj,Ajj,Adl F0]
theorem xg(p:LB)(N:Int)(a n:Nat)(hn:n<=64)(ha:a+n<=8*p.length)(hp:p.length<=1000000):∀(j h q:Nat),h+j=n->j<q->JY (a:Int) (n:Int) p N q (Vj p a h) (h:Int)=some (Vj p a n)
 |j,h,q+1,hj,hq=>by
  rw[JY,eZ];by_cases hlt:h<n
  ·have e1:Ae (a:Int) (h:Int)=((a+h:Nat):Int):=by rw[Aj];omega
   have e2:Ej (Am (n:Int) (h:Int)) (Am (8:Int) (((a+h) %8:Nat):Int))=((min (n-h) (8-(a+h) %8):Nat):Int):=by
    rw[HF,Ci,Ci];omega
   have hm:(a+h)/8<p.length:=F0
   rw[Abo Az8,e1,Avo,A8 hm,Aa,yh _ F0,Dj Bae,Aa,e2,Dj Bal,Aa,Dj Bal,Aa];generalize hT:min (n-h) (8-(a+h) %8)=T;have hT8:T<=8:=F0
   have hT1:1<=T:=F0
   have hb:(a+h) %8+T<=8:=F0
   have hv:=rV p (a+h) T hb;have z1:(GI.toZ (((a+h) %8:Nat):Int)).toNat=(a+h) %8:=rfl;have z2:(GI.toZ ((T:Nat):Int)).toNat=T:=rfl;have z3:(GI.toZ ((h:Nat):Int)).toNat=h:=rfl;rw[z1,z2,z3];have hx:(Ad (Er (Cn (p.getD ((a+h)/8) 0) ((a+h) %8)) (Am (Ec (1:UInt8) T) (1:UInt8))):UInt64).toNat=Ct p (a+h) T:=by
    rw[lI,Ajj,bitsOf _ _ _ hT8,<-hv];have:=Rk p T (a+h);have h2:2^T<=2^8:=Ajg F0 hT8;omega
   have hlt2:=Rk p (h+T) a;rw[QI]at hlt2;have h64:2^(h+T)<=2^64:=Ajg F0 F0;have hor:uR (Vj p a h) (Ec (Ad (Er (Cn (p.getD ((a+h)/8) 0) ((a+h) %8)) (Am (Ec (1:UInt8) T) (1:UInt8))):UInt64) h)=Vj p a (h+T):=by
    rw[Al6 (by rw[FJ p a h F0];exact Rk p h a) (by rw[hx,Aso];omega),hx,FJ p a h F0,Vj,QI,Aso (2^h)]
   rw[hor,Aj,show(h:Int)+((T:Nat):Int)=((h+T:Nat):Int) by omega];exact xg p N a n hn ha hp (j-T) (h+T) q F0 F0
  ·rw[Abl Az8,show h=n by omega];rfl
theorem get_eq(p:LB)(N:Int)(a n:Nat)(hn:n<=64)(ha:a+n<=8*p.length)(hp:p.length<=1000000):pA p N (a:Int) (n:Int)=some (Vj p a n):=by
 have:=xg p N a n hn ha hp n 0 Ar F0 Az9;exact this
theorem OQ{n:Nat}(h:okB p n):Kh p (n:Int)=some 0:=by
 obtain⟨h1,h2,h3⟩:=h;have e7:Ae (n:Int) 7=((n+7:Nat):Int):=by rw[Aj];omega
 rw[Kh,e7,Avo,Abl (by simp[Af,Ax,Ao,Ac,h2];omega),yh _ F0];by_cases hz:n %8=0
 ·rw[Abl Bad]
 ·have el:Am (Ac p) 1=((p.length-1:Nat):Int):=by rw[Ac,Ci];omega
  rw[Abo Bad,el,A8 F0,Aa,Dj Bae,Aa];have z:(GI.toZ ((n %8:Nat):Int)).toNat=n %8:=rfl;have hs:Cn (p.getD (p.length-1) 0) (n %8)=0:=by
   apply UInt8.toNat_inj.1;rw[Aga];have hv:=rV p n (8-n %8) F0;have h0:Ct p n (8-n %8)=0:=M8 _ _ λk hk=>h3 _ F0 F0;rw[h0,show n/8=p.length-1 by omega]at hv;have hlt:(p.getD (p.length-1) 0).toNat/2^(n %8)<2^(8-n %8):=by
    have:=(p.getD (p.length-1) 0).toNat_lt;rw[Nat.div_lt_iff_lt_mul (Axx F0),<-Azo,show 8-n %8+n %8=8 by omega];simpa using this
   rw[Adl hlt]at hv;exact hv.symm
  rw[z,hs,Abl (by rw[Ac2];simp)]
theorem sH{N:Nat}(h:okB p N)(a n:Nat)(hn:n<=64):EM p (N:Int) (a:Int) (n:Int)=some (if N<a+n then(0,24)else(Vj p a n,0)):=by
 obtain⟨h1,h2,h3⟩:=h;rw[EM,OQ ⟨h1,h2,h3⟩,Aa,Abl Bac,Abl Bah,Ci];by_cases hl:N<a+n
 ·rw[Abo Bad,Abo hl]
 ·rw[Abl Bad,get_eq p N a n hn F0 F0,Aa,Abl hl]
theorem Ax1(c:Nat)(h:c<4611686018427387904):Cy (c:Int) (2:Int)=((c/2:Nat):Int):=by
 rw[LN,Avv F0,Cq F0 F0];omega
theorem Avp(c:Nat)(h:c<4611686018427387904):Cy (c:Int) (8:Int)=((c/8:Nat):Int):=by
 rw[LN,Avv F0,Cq F0 F0];omega
theorem Aj1(c:Nat):Hu (c:Int) (8:Int)=((c %8:Nat):Int):=by rw[Hu,Ayi F0];omega
theorem Ayj(c:Nat):Hu (c:Int) (2:Int)=((c %2:Nat):Int):=by rw[Hu,Ayi F0];omega
theorem Ae9(i c:Nat)(hc:c<256):∀(j k q:Nat),k+j=i %8->j<q->Ng (i:Int) q ((c/2^k:Nat):Int) (k:Int)=some (((c/2^(i %8) %2:Nat):Int))
 |0,k,q+1,hk,_=>by
  rw[Ng,AH,Aj1,Abl Az8,RX,RJ,Ayj,show k=i %8 by omega]
 |j+1,k,q+1,hk,hq=>by
  have hle:c/2^k<=c:=Aud _ _;rw[Ng,AH,Aj1,Abo Az8,Ax1 _ F0,Aj,Ayu,<-As2];exact Ae9 i c hc j (k+1) q F0 F0
theorem qI(p:LB)(N:Int)(i:Nat)(h:i/8<p.length)(hi:i<4611686018427387904):Lf p N (i:Int)=some ((Km p i:Nat):Int):=by
 have hc:=(p.getD (i/8) 0).toNat_lt;have:=Ae9 i (p.getD (i/8) 0).toNat (by simpa using hc) (i %8) 0 Ar F0 Az9;rw[Lf,RN,Avp _ hi,A8 h,Aa,OO,RL];simpa [Km]using this
theorem zC(p:LB)(N:Int)(a n:Nat)(ha:a+n<=8*p.length)(hp:p.length<=1000000):∀(j q:Nat),j<=n->j<q->Jk (a:Int) p N q (Vj p (a+j) (n-j)) ((j:Int)-1)=some (Vj p a n)
 |0,q+1,_,_=>by
  rw[Jk,Ts,Abl Bal];rfl
 |j+1,q+1,hj,hq=>by
  have hb:=Yy p (a+j);rw[Jk,Ts,show((j+1:Nat):Int)-1=(j:Int) by omega,Abo Bal,Aj (a:=(a:Int)) F0 F0,show(a:Int)+(j:Int)=((a+j:Nat):Int) by omega,qI p N (a+j) F0 F0,Aa,Ci];have e:Ae (Bv (2:UInt64) (Vj p (a+(j+1)) (n-(j+1)))) (Ad ((Km p (a+j):Nat):Int):UInt64)=Vj p (a+j) (n-j):=by
   rw[KI,KC,Xi,Vj,Vj,show n-j=(n-(j+1))+1 by omega,Ct,show a+j+1=a+(j+1) by omega,UInt64.ofNat_add,UInt64.ofNat_mul];exact UInt64.add_comm _ _
  rw[e];exact zC p N a n ha hp j q F0 F0
theorem kN(p:LB)(N:Int)(a n:Nat)(ha:a+n<=8*p.length)(hp:p.length<=1000000):Rt p N (a:Int) (n:Int)=some (Vj p a n):=by
 have:=zC p N a n ha hp n Ar (An1 _) Az9;have hz:Vj p (a+n) (n-n)=0:=by rw[Nat.sub_self];rfl
 rw[hz]at this;rw[Rt,GP,GF,Ci];exact this
theorem Agb(bit:Int)(N:Nat)(l:LB):∀(j k q:Nat),k+j=N %8->j<q->Ly bit (N:Int) l q ((2^k:Nat):Int) (k:Int)=Xt bit ((2^(N %8):Nat):Int) (N:Int) l
 |0,k,q+1,hk,_=>by
  rw[Ly,Yp,Aj1,Abl Az8,show k=N %8 by omega]
 |j+1,k,q+1,hk,hq=>by
  have hp:2^k<=2^8:=Ajg F0 F0;have e:Bv ((2^k:Nat):Int) 2=((2^(k+1):Nat):Int):=by
   rw[As2];generalize 2^k=K at*
   rw[Ii];omega
  rw[Ly,Yp,Aj1,Abo Az8,e,Aj];exact Agb bit N l j (k+1) q F0 F0
theorem B5(p:LB)(a n j:Nat)(h:j<(n+7)/8):(HE p a n)[j]'(by rw[Oi];exact h)=UInt8.ofNat (Ct p (a+8*j) (min 8 (n-8*j))):=by simp[HE]
theorem Abh(p:LB)(a t:Nat)(h:t<=8):Ct p a t<256:=by
 have h1:=Rk p t a;have h2:2^t<=2^8:=Ajg F0 h;omega
def room(p:LB)(a n:Nat):LB:=if n %8=0 then HE p a n++[0]else HE p a n
theorem Yu(p:LB)(a n:Nat):(room p a n).length=n/8+1:=by
 rw[room];split<;>simp[Oi]<;>omega
theorem Aa6(p:LB)(a n j:Nat)(h:j<n/8+1):(room p a n)[j]'(by rw[Yu];exact h)=UInt8.ofNat (Ct p (a+8*j) (min 8 (n-8*j))):=by
 have h0:(room p a n)[j]? =some (UInt8.ofNat (Ct p (a+8*j) (min 8 (n-8*j)))):=by
  rw[room];split
  ·by_cases hj:j<(n+7)/8
   ·rw[List.getElem?_append_left (by rw[Oi];exact hj),List.getElem?_eq_getElem (by rw[Oi];exact hj),B5 p a n j hj]
   ·rw[List.getElem?_append_right (by rw[Oi];omega),Oi,show j-(n+7)/8=0 by omega,show n-8*j=0 by omega];rfl
  ·rw[List.getElem?_eq_getElem (by rw[Oi];omega),B5 p a n j F0]
 rw[List.getElem?_eq_getElem (by rw[Yu];exact h)]at h0;exact Azf h0
theorem Aav(p:LB)(a n T:Nat)(h1:1<=T)(h:n %8+T<=8):(room p a n).set (n/8) (UInt8.ofNat (Ct p (a+8*(n/8)) (n %8+T)))=HE p a (n+T):=by
 apply Av9 (by rw[Axp,Yu,Oi];omega);intro j g1 g2;rw[Axp,Yu]at g1;rw[Azr,B5 p a (n+T) j (by rw[Oi]at g2;exact g2)];split
 ·rename_i e;subst e;rw[show min 8 (n+T-8*(n/8))=n %8+T by omega]
 ·rw[Aa6 p a n j g1,show min 8 (n-8*j)=8 by omega,show min 8 (n+T-8*j)=8 by omega]
theorem O2(p:LB)(a n:Nat):(room p a n)[n/8]'(by rw[Yu];omega)=UInt8.ofNat (Ct p (a+8*(n/8)) (n %8)):=by
 rw[Aa6 p a n _ F0,show min 8 (n-8*(n/8))=n %8 by omega]
theorem Aju(p:LB)(a n:Nat)(hn:n<=400000):Wv (HE p a n) (n:Int) ((Km p (a+n):Nat):Int)=some (HE p a (n+1),((n+1:Nat):Int)):=by
 have hb:=Yy p (a+n);have hp:2^(n %8)<=2^7:=Ajg F0 F0;have hroom:Wv (HE p a n) (n:Int) ((Km p (a+n):Nat):Int)=Xx ((Km p (a+n):Nat):Int) (n:Int) (room p a n):=by
  rw[Wv,MZ,Aj1,room];by_cases h0:n %8=0
  ·rw[Abo (by rw[Bb,h0];rfl),Cr (by rw[Oi];simp;omega),Aa,Abo h0]
  ·rw[Abl Bag,Abl h0]
 have hl:=Agb ((Km p (a+n):Nat):Int) n (room p a n) (n %8) 0 Ar F0 Az9;rw[hroom,Xx,NH,MX];refine Axr hl ?_;have hg:Ak (room p a n) ((n/8:Nat):Int)=some (UInt8.ofNat (Ct p (a+8*(n/8)) (n %8))):=by
  rw[Cf (by rw[Yu];omega),O2]
 have hlt:=Abh p (a+8*(n/8)) (n %8+1) F0;have hsn:=N0 p (a+8*(n/8)) (n %8);rw[show a+8*(n/8)+n %8=a+n by omega]at hsn;have hm:Bv ((Km p (a+n):Nat):Int) ((2^(n %8):Nat):Int)=((2^(n %8)*Km p (a+n):Nat):Int):=by
  have hle:2^(n %8)*Km p (a+n)<=2^7*1:=Av2 hp F0;rw[Ajm,<-Avg,Cq F0 (by rw[Aso];omega),Aso]
 have hx:Ae (UInt8.ofNat (Ct p (a+8*(n/8)) (n %8))) (Ad (((2^(n %8)*Km p (a+n):Nat):Int)):UInt8)=UInt8.ofNat (Ct p (a+8*(n/8)) (n %8+1)):=by
  rw[Arq,Akt,hsn,UInt8.ofNat_add]
 rw[Xt,MY,Avp _ F0,hg,Aa,Aa,Aa,hm,hx,Ye _ (by rw[Yu];omega),Aa,Aav p a n 1 F0 F0,Aj];rfl
theorem pE(p:LB)(N:Int)(a n:Nat)(ha:a+n<=8*p.length)(hp:p.length<=1000000)(hn:n<=300000):∀(j m q:Nat),m+j=n->j<q->Hr ((a+n:Nat):Int) p N q ((a+m:Nat):Int) (m:Int) (HE p a m)=some (HE p a n,(n:Int))
 |0,m,q+1,hm,_=>by
  rw[Hr,Qt,Abl Az8,show m=n by omega];rfl
 |j+1,m,q+1,hm,hq=>by
  rw[Hr,Qt,Abo Az8,qI p N (a+m) F0 F0,Aa,Aju p a m F0,Aa];simp only;rw[Aj];exact pE p N a n ha hp hn j (m+1) q F0 F0
theorem mq(p:LB)(N:Int)(a n:Nat)(ha:a+n<=8*p.length)(hp:p.length<=1000000)(hn:n<=300000):KB p N (a:Int) ((a+n:Nat):Int)=some (HE p a n,(n:Int)):=by
 have:=pE p N a n ha hp hn n 0 Ar F0 Az9;exact this
theorem Bax{p:Prop}(h:p:=by rw[Ax];simp):p:=h
end Go.Pl
namespace Go.Pl
open Go Go.Lv
variable{t:Nat}{p:Prop}
theorem Atf(h:t<=8):Am (Ec (1:UInt64) t) (1:UInt64)=UInt64.ofNat (2^t-1):=by
 have:t=0\/t=1\/t=2\/t=3\/t=4\/t=5\/t=6\/t=7\/t=8:=F0
 rcases this with rfl|rfl|rfl|rfl|rfl|rfl|rfl|rfl|rfl<;>decide
theorem Aye(v:UInt64)(h:t<=8):(Er v (Am (Ec (1:UInt64) t) (1:UInt64))).toNat=v.toNat %2^t:=by
 have hp:2^t<=2^8:=Ajg F0 h;rw[Atf h,zW,UInt64.toNat_and,Ajj,Adl (by have:=Axx (n:=t) (show 0<2 by omega);omega),Ay6]
theorem or8{v w i:Nat}(hv:v<2^i)(hw:w*2^i<256)(hi:i<8):uR (UInt8.ofNat v) (Ec (UInt8.ofNat w) i)=UInt8.ofNat (v+w*2^i):=by
 have hp:2^i<=2^8:=Ajg F0 F0;have hpos:0<2^i:=Axx F0;have hw2:w<256:=Axa (Nat.le_mul_of_pos_right w hpos) hw;rw[Atn];apply UInt8.toNat_inj.1;have e1:(UInt8.ofNat v).toNat=v:=by rw[Ao0,Adl F0]
 have e2:(UInt8.ofNat w).toNat=w:=by rw[Ao0,Adl F0]
 rw[UInt8.toNat_or,Aqb,e1,e2,Adl hw,Aso w,Nat.or_comm,<-Avh hv,Ao0,Az0 v];rw[Aso]at hw;have hb:2^i*w+v<256:=by
  rw[Avh hv];exact Nat.or_lt_two_pow (n:=8) hw F0
 rw[Adl hb]
theorem Aln(p:LB)(a n T:Nat)(h:T<=n)(hn:n<=64):Cn (Vj p a n) T=Vj p (a+T) (n-T):=by
 apply UInt64.toNat_inj.1;rw[KZ,FJ p a n hn,FJ p (a+T) (n-T) F0];have:=Rk p T a
 conv=>lhs;rw[show n=T+(n-T) by omega,QI,Nat.add_mul_div_left _ _ (Axx F0),Axg this,Axt]
theorem Amz(p:LB)(a n T:Nat)(h:T<=n)(hn:n<=64):(Vj p a n).toNat %2^T=Ct p a T:=by
 have:=Rk p T a;rw[FJ p a n hn]
 conv=>lhs;rw[show n=T+(n-T) by omega,QI,Nat.add_mul_mod_self_left,Adl this]
theorem zN(bk:Int->Int->LB->Option (LB×Int×Int))(to':Int)(p:LB)(N fr:Int)(r6:UInt64)(a:Nat):∀(j m q:Nat),m+j<=300000->j<=64->j<q->
  Om bk to' p N fr r6 q (Vj p (a+m) j) (j:Int) (m:Int) (HE p a m)=NQ bk to' p N fr ((m+j:Nat):Int) (HE p a (m+j))
 |0,m,q+1,_,_,_=>by
  rw[Om,NV,Abl Bax];rfl
 |j+1,m,q+1,hm,hj,hq=>by
  have hroom:Om bk to' p N fr r6 (q+1) (Vj p (a+m) (j+1)) ((j+1:Nat):Int) (m:Int) (HE p a m)=NW (Om bk to' p N fr r6 q) to' fr p N r6 (Vj p (a+m) (j+1)) ((j+1:Nat):Int) (m:Int) (room p a m):=by
   rw[Om,NV,Abo Bax,yh m F0,room];by_cases h0:m %8=0
   ·rw[Abo (by rw[Bb,h0];rfl),Cr (by rw[Oi];simp;omega),Aa,Abo h0]
   ·rw[Abl Bag,Abl h0]
  have hl:Am (Ac (room p a m)) 1=((m/8:Nat):Int):=by
   rw[Ac,Yu,Ci];omega
  have e2:Ej ((j+1:Nat):Int) (Am (8:Int) ((m %8:Nat):Int))=((min (j+1) (8-m %8):Nat):Int):=by
   rw[HF,Ci];omega
  rw[hroom,NW,pS,yh m F0,e2,hl];generalize hT:min (j+1) (8-m %8)=T;have hT1:1<=T:=F0
  have hT8:m %8+T<=8:=F0
  have hg:Ak (room p a m) ((m/8:Nat):Int)=some (UInt8.ofNat (Ct p (a+8*(m/8)) (m %8))):=by
   rw[Cf (by rw[Yu];omega),O2]
  have z1:(GI.toZ ((m %8:Nat):Int)).toNat=m %8:=rfl;have z2:(GI.toZ ((T:Nat):Int)).toNat=T:=rfl;have hlt:=Abh p (a+8*(m/8)) (m %8+T) F0;have hadd:=QI p (m %8) T (a+8*(m/8));rw[show a+8*(m/8)+m %8=a+m by omega]at hadd;have hbyte:(Ad (Er (Vj p (a+m) (j+1)) (Am (Ec (1:UInt64) T) (1:UInt64))):UInt8)=UInt8.ofNat (Ct p (a+m) T):=by
   rw[ZO,Aye _ F0,Amz p (a+m) (j+1) T F0 hj]
  have hnew:uR (UInt8.ofNat (Ct p (a+8*(m/8)) (m %8))) (Ec (UInt8.ofNat (Ct p (a+m) T)) (m %8))=UInt8.ofNat (Ct p (a+8*(m/8)) (m %8+T)):=by
   rw[or8 (Rk _ _ _) (by rw[Aso];omega) F0,hadd,Aso (2^(m %8))]
  rw[hg,z1,z2,hbyte];simp only[Aa];rw[Dj Bal,Aa,Dj Bae,Aa,hnew,Ye _ (by rw[Yu];omega),Aa,Aav p a m T hT1 hT8,oP,oB,yh m F0,e2,hT,Dj Bal,Aa,z2,Aln p (a+m) (j+1) T F0 hj,Ci,Aj];have ih:=zN bk to' p N fr r6 a (j+1-T) (m+T) q F0 F0 F0;rw[show m+T+(j+1-T)=m+(j+1) by omega]at ih;rw[<-ih,show a+m+T=a+(m+T) by omega,show((j+1:Nat):Int)-((T:Nat):Int)=((j+1-T:Nat):Int) by omega,show(m:Int)+((T:Nat):Int)=((m+T:Nat):Int) by omega]
theorem wh(p:LB)(N:Int)(a n:Nat)(ha:a+n<=8*p.length)(hp:p.length<=1000000)(hn:n<=300000):∀(j m f q:Nat),(f=m\/n<=f/\m=n)->m+j=n->f<=n+64->j<q->Wr ((a+n:Nat):Int) p N q ((a+f:Nat):Int) (m:Int) (HE p a m)=some (HE p a n,(n:Int),0)
 |j,m,f,q+1,hf,hm,hf2,hq=>by
  rw[Wr,ZM];by_cases hlt:f<n
  ·obtain rfl:f=m:=F0
   have e1:Ej (64:Int) (Am ((a+n:Nat):Int) ((a+f:Nat):Int))=((min 64 (n-f):Nat):Int):=by
    rw[HF,Ci];omega
   rw[Abo Az8,e1,get_eq p N (a+f) _ F0 F0 hp,Aa,ZR];have h1:=zN (Wr ((a+n:Nat):Int) p N q) ((a+n:Nat):Int) p N ((a+f:Nat):Int) (Vj p (a+f) (min 64 (n-f))) a (min 64 (n-f)) f Ar F0 F0 Az9;refine Axr h1 ?_;rw[NQ,nZ,Aj,show((a+f:Nat):Int)+64=((a+(f+64):Nat):Int) by omega];exact wh p N a n ha hp hn (j-min 64 (n-f)) (f+min 64 (n-f)) (f+64) q F0 F0 F0 F0
  ·rw[Abl Az8,YH,pD,show m=n by omega]
theorem Atr{p:LB}{N:Nat}(h:okB p N)(a n:Nat)(ha:a+n<=N)(hn:n<=300000):eV p (N:Int) (a:Int) ((a+n:Nat):Int)=some (HE p a n,(n:Int),0):=by
 obtain⟨h1,h2,h3⟩:=h;have:=wh p N a n F0 F0 hn n 0 0 Ar F0 F0 F0 Az9;rw[eV,fG,OQ ⟨h1,h2,h3⟩,Aa,Abl Bac,Abl Bah,mR];exact this
theorem Bas(h:p:=by simp[Af];omega):p:=h
theorem Baj(h:p:=by rw[Af];simp):p:=h
end Go.Pl
namespace Go.Pl
open Go Go.Lv
variable{p:LB}{n N a k l:Nat}{t s:UInt64}
def Gz(p:LB):Nat->Nat->Nat
 |_,0=>0
 |a,m+1=>if Km p a=1 then 1+Gz p (a+1) m else 0
theorem TA(p:LB):∀(m a:Nat),Gz p a m<=m
 |0,_=>An1 _
 |m+1,a=>by rw[Gz];split<;>have:=TA p m (a+1)<;>omega
theorem yu(p:LB):∀(m a:Nat),∃s,Ct p a m+1=2^(Gz p a m+1)*s+2^Gz p a m/\ (Gz p a m=m->s=0)
 |0,a=>⟨0,by simp[Ct,Gz],λ_=>rfl⟩
 |m+1,a=>by
  have hb:=Yy p a;obtain⟨s,h1,h2⟩:=yu p m (a+1);by_cases h:Km p a=1
  ·refine⟨s,?_,λe=>h2 ?_⟩
   ·rw[Gz,Abo h,Ct,h,show 1+Gz p (a+1) m+1=(Gz p (a+1) m+1)+1 by omega,show 1+Gz p (a+1) m=Gz p (a+1) m+1 by omega,As2,As2 (n:=2) (m:=Gz p (a+1) m)];rw[As2]at h1;generalize Ct p (a+1) m=V at*
    generalize 2^Gz p (a+1) m=W at*
    have e1:W*2*2*s=2*(W*2*s):=by rw[Nat.mul_right_comm (W*2) 2 s,Aso]
    omega
   ·rw[Gz,Abo h]at e;omega
  ·refine⟨Ct p (a+1) m,?_,λe=>?_⟩
   ·rw[Gz,Abl h,Ct];simp;omega
   ·rw[Gz,Abl h]at e;omega
theorem Arm{t s:Nat}(h:2^(t+1)*s+2^t<=2^n)(ht:t<n)(x:Nat)(hx:x=2^n-(2^(t+1)*s+2^t)):x&&& (2^(t+1)*s+2^t)=2^t:=by
 have hpos:0<2^t:=Axx F0;have hlt:2^t<2^(t+1):=by rw[As2];omega
 have e:x=2^n-((2^(t+1)*s+(2^t-1))+1):=by rw[hx];congr 1;omega
 apply Nat.eq_of_testBit_eq;intro i;rw[Nat.testBit_and,e,Nat.testBit_two_pow_sub_succ F0,Nat.testBit_two_pow_mul_add _ F0,Nat.testBit_two_pow_mul_add _ hlt];by_cases hi:i<t+1
 ·rw[Abo hi,Abo hi,Nat.testBit_two_pow_sub_one,Nat.testBit_two_pow];by_cases hit:t=i
  ·subst hit;simp;exact ht
  ·have:¬i=t:=λe=>hit e.symm;simp[hit]
 ·rw[Abl hi,Abl hi,Nat.testBit_two_pow];have:¬t=i:=F0
  simp[this]
theorem Amv(a:UInt64):(B3 a).toNat=18446744073709551615-a.toNat:=by
 have h:=a.toNat_lt;have e:B3 a=UInt64.ofNat (BitVec.ofInt 64 18446744073709551615^^^BitVec.ofInt 64 (a.toNat:Int)).toNat:=Ht _;have h1:BitVec.ofInt 64 (a.toNat:Int)=a.toBitVec:=Y6 a;have h2:(BitVec.ofInt 64 18446744073709551615:BitVec 64)=BitVec.allOnes 64:=F7
 rw[e,Ajj,h1,h2,BitVec.allOnes_xor,BitVec.toNat_not];show(18446744073709551616-1-a.toNat) %18446744073709551616=18446744073709551615-a.toNat;omega
theorem Alj(a:UInt64):(nH a).toNat=(18446744073709551616-a.toNat) %18446744073709551616:=by
 have h:=a.toNat_lt;have e:nH a=UInt64.ofNat ((0-(a.toNat:Int)) %18446744073709551616).toNat:=U5 _;rw[e,Ajj];show((0-(a.toNat:Int)) %18446744073709551616).toNat %18446744073709551616=_;omega
def Awn:LB:=[0,1,56,2,57,49,28,3,61,58,42,50,38,29,17,4,62,47,59,36,45,43,51,22,53,39,33,30,24,18,12,5,63,55,48,27,60,41,37,16,46,35,44,21,52,32,23,11,54,26,40,15,34,20,31,10,25,14,19,9,13,8,7,6]
theorem Ag5:∀t:Fin 64,Ak Awn (GI.toZ (Cn (Bv (UInt64.ofNat (2^t.val)) (285870213051353865:UInt64)) (GI.toZ (58:UInt64)).toNat))=some (UInt8.ofNat t.val):=by decide +kernel
theorem Av6(x:UInt64)(t s:Nat)(ht:t<64)(h:x.toNat+(2^(t+1)*s+2^t)=18446744073709551616):Gp x=some (t:Int):=by
 have hpos:0<2^t:=Axx F0;have hx:x.toNat=2^64-(2^(t+1)*s+2^t):=by show x.toNat=18446744073709551616-_;omega
 have hle:2^t<=2^63:=Ajg F0 F0;have hne:x≠0:=by
  intro e;rw[e]at h;have h':2^t*(2*s+1)=2^64:=by
   rw[Nat.mul_add,Nat.mul_one,<-Axl,<-As2]
   show _=18446744073709551616;simpa using h
  have h2:2^64=2^t*2^(64-t):=by rw[<-Azo];congr 1;omega
  rw[h2]at h';have h3:=Nat.eq_of_mul_eq_mul_left hpos h';rw[show 64-t=(63-t)+1 by omega,As2]at h3;omega
 have hx0:x.toNat≠0:=λe=>hne (UInt64.toNat_inj.1 e);have hl:Er x (nH x)=UInt64.ofNat (2^t):=by
  apply UInt64.toNat_inj.1;rw[zW,UInt64.toNat_and,Alj,show(18446744073709551616-x.toNat) %18446744073709551616=2^(t+1)*s+2^t by omega,Arm (n:=64) (by show _<=18446744073709551616;omega) ht _ hx,Ajj,Adl];exact Axa hle F7
 have hb:=Ag5 ⟨t,ht⟩;rw[Gp,Abl (by rw[vF];simpa using hne),hl];refine Axr (congrArg (λo=>Option.bind o λc=>some (Ad c:Int)) hb) ?_;rw[Aa,OO,Ao0,Adl (by show t<256;omega)]
theorem Arw(p:LB)(a m:Nat)(hm:m<=48):Gp (B3 (Vj p a m))=some ((Gz p a m:Nat):Int):=by
 obtain⟨s,h1,h2⟩:=yu p m a;have hle:=TA p m a;have hlt:=Rk p m a;have h48:2^m<=2^48:=Ajg F0 hm;have hn:(B3 (Vj p a m)).toNat=18446744073709551615-Ct p a m:=by rw[Amv,FJ p a m F0]
 have h3:(281474976710656:Nat)=2^48:=rfl;refine Av6 _ (Gz p a m) s F0 ?_;rw[hn];omega
def pz(p:LB)(N a:Nat):Int×Int×Int:=
 if Gz p a (min 48 (N-a))<min 48 (N-a)then((Gz p a (min 48 (N-a)):Nat),((a+Gz p a (min 48 (N-a))+1:Nat):Int),0)else
 if Gz p a (min 48 (N-a))=48 then(48,((a+48:Nat):Int),0)else(0,0,24)
theorem Amg(h:okB p N)(a:Nat)(ha:a<N):HZ p (N:Int) (a:Int)=some (pz p N a):=by
 have hN:=h.1;have e1:Ej (48:Int) (Am (N:Int) (a:Int))=((min 48 (N-a):Nat):Int):=by rw[HF,Ci];omega
 have hle:=TA p (min 48 (N-a)) a;rw[HZ,Ze,OQ h,Aa,Abl Bac,Abl Baj,Abl Bae,e1,sH h a _ F0,Abl F0,Aa];simp only;rw[UK,kB,Abl Bac,Arw p a _ F0,Aa,kF,jS,e1,pz];by_cases h1:Gz p a (min 48 (N-a))<min 48 (N-a)
 ·rw[Abo Az8,Abo h1,Aj (a:=(a:Int)) F0 F0,show Ae (0:Int) 1=1 by decide,Aj];congr 3;omega
 ·rw[Abl Az8,Abl h1,jY,jN];by_cases h2:Gz p a (min 48 (N-a))=48
  ·rw[Abo (by rw[Bb,h2];rfl),Abo h2,h2,Aj (a:=(a:Int)) F0 F0,Aj];congr 3;omega
  ·rw[Abl Bag,Abl h2];rfl
theorem P6(p:LB):∀(m a:Nat),Gz p a m<m->Km p (a+Gz p a m)≠1
 |0,_,h=>by simp[Gz]at h
 |m+1,a,h=>by
  by_cases hb:Km p a=1
  ·rw[Gz,Abo hb]at h⊢;have:=P6 p m (a+1) F0;rwa [show a+(1+Gz p (a+1) m)=a+1+Gz p (a+1) m by omega]
  ·rw[Gz,Abl hb];exact hb
theorem N6(p:LB):∀(m a k:Nat),k<Gz p a m->Km p (a+k)=1
 |0,a,k,h=>by simp[Gz]at h
 |m+1,a,k,h=>by
  by_cases hb:Km p a=1
  ·rw[Gz,Abo hb]at h;cases k with
   |zero=>exact hb
   |succ k=>
    have:=N6 p m (a+1) k F0;rwa [show a+(k+1)=a+1+k by omega]
  ·rw[Gz,Abl hb]at h;omega
def unR(p:LB)(N a:Nat):Int×Int:=if(pz p N a).2.2=0 then((pz p N a).1,(pz p N a).2.1)else(-1,0)
theorem C9{p:LB}{N:Nat}(h:okB p N)(a:Nat)(ha:a<N):∀(j k q:Nat),k+j=Gz p a (min 48 (N-a))->j<q->Ll (a:Int) p (N:Int) q (k:Int)=some (unR p N a)
 |0,k,q+1,hk,_=>by
  obtain⟨hN,hl,hz⟩:=h;have hle:=TA p (min 48 (N-a)) a;have hk':k=Gz p a (min 48 (N-a)):=F0
  have e1:Ae (a:Int) (k:Int)=((a+k:Nat):Int):=by rw[Aj];omega
  have hend:Yo (a:Int) (k:Int) p (N:Int)=some (unR p N a):=by
   rw[Yo,NK,e1];by_cases h48:k=48
   ·have hu:pz p N a=(48,((a+48:Nat):Int),0):=by rw[pz,<-hk',Abl F0,Abo h48]
    rw[Abo (by rw[Bb,h48];rfl),unR,hu,h48];rfl
   ·rw[Abl Bag];by_cases hN2:N<=a+k
    ·have hu:pz p N a=(0,0,24):=by rw[pz,<-hk',Abl F0,Abl h48]
     rw[Abo Bae,unR,hu];rfl
    ·have hu:pz p N a=(((k:Nat):Int),((a+k+1:Nat):Int),0):=by rw[pz,<-hk',Abo F0]
     rw[Abl Bae,unR,hu,Aj];rfl
  rw[Ll,Yk,e1];by_cases hc:a+k<N/\k<48
  ·have hb:=Yy p (a+k);have hs:=P6 p (min 48 (N-a)) a F0;rw[<-hk']at hs;rw[Abo Bas,qI p _ (a+k) F0 F0,Aa,Abl Bag,hend]
  ·rw[Abl Bas,hend]
 |j+1,k,q+1,hk,hq=>by
  obtain⟨hN,hl,hz⟩:=h;have hle:=TA p (min 48 (N-a)) a;have hb:=N6 p (min 48 (N-a)) a k F0;have e1:Ae (a:Int) (k:Int)=((a+k:Nat):Int):=by rw[Aj];omega
  rw[Ll,Yk,e1,Abo Bas,qI p _ (a+k) F0 F0,Aa,hb,Abo F7,Aj];exact C9 ⟨hN,hl,hz⟩ a ha j (k+1) q F0 F0
theorem Akn(h:okB p N)(a:Nat)(ha:a<N):VN p (N:Int) (a:Int)=some (unR p N a):=by
 have hle:=TA p (min 48 (N-a)) a;have:=C9 h a ha (Gz p a (min 48 (N-a))) 0 Ar F0 Az9;exact this
theorem Ak6(h:Gz p a (min 48 (N-a))<min 48 (N-a)):pz p N a=(((Gz p a (min 48 (N-a)):Nat):Int),((a+Gz p a (min 48 (N-a))+1:Nat):Int),0):=by rw[pz,Abo h]
theorem Ami(h:¬Gz p a (min 48 (N-a))<min 48 (N-a))(h2:Gz p a (min 48 (N-a))=48):pz p N a=(48,((a+48:Nat):Int),0):=by rw[pz,Abl h,Abo h2]
theorem Aj8(h:¬Gz p a (min 48 (N-a))<min 48 (N-a))(h2:¬Gz p a (min 48 (N-a))=48):pz p N a=(0,0,24):=by rw[pz,Abl h,Abl h2]
theorem Ahj(h:okB p N)(a:Nat)(ha:N<=a):HZ p (N:Int) (a:Int)=some (0,0,24):=by
 rw[HZ,Ze,OQ h,Aa,Abl Bac,Abl Baj,Abo Bae]
def SJ(p:LB)(N a k:Nat):UInt32×Int×Int:=
 if N<=a then(0,0,24)else
 if Gz p a (min 48 (N-a))<min 48 (N-a)then
  (if N<a+Gz p a (min 48 (N-a))+1+k then(0,0,24)else(UInt32.ofNat (Gz p a (min 48 (N-a))*2^k+Ct p (a+Gz p a (min 48 (N-a))+1) k),((a+Gz p a (min 48 (N-a))+1+k:Nat):Int),0))
 else if Gz p a (min 48 (N-a))=48 then
  (if N<a+48+32 then(0,0,24)else if Ct p (a+48) 32/2^k<48 then(0,0,12)else(UInt32.ofNat (Ct p (a+48) 32),((a+48+32:Nat):Int),0))
 else(0,0,24)
theorem nV(h:n<=32):(Ad (Vj p a n):UInt32)=UInt32.ofNat (Ct p a n):=by
 have e:(Ad (Vj p a n):UInt32)=UInt32.ofNat (Vj p a n).toNat:=by simp only[Ad,Jg,Eu]
 rw[e,FJ p a n F0]
theorem YN(h:n<4294967296):(UInt32.ofNat n).toNat=n:=by rw[Aod];exact Adl h
theorem yg(p:LB)(a:Nat)(h:n<=32):Ct p a n<4294967296:=by
 have h1:=Rk p n a;have h2:2^n<=2^32:=Ajg F0 h;omega
theorem Aun{q v:Nat}(hq:q<48)(hv:v<2^k)(hk:k<=24):uR (Ec (Ad (q:Int):UInt32) k) (UInt32.ofNat v)=UInt32.ofNat (q*2^k+v):=by
 have hp:2^k<=2^24:=Ajg F0 hk;have h1:q*2^k<=47*2^24:=Av2 F0 hp;rw[Ap9];apply UInt32.toNat_inj.1;rw[UInt32.toNat_or,vX,Q3,YN F0,YN (n:=v) F0,Adl F0,Aso q,<-Avh hv,YN (by rw[Aso];omega)]
theorem Ap4(h:okB p N)(a k:Nat)(hk:k<=24):iG p (N:Int) (a:Int) (k:Int)=some (SJ p N a k):=by
 have hN:=h.1;rw[iG,oM,OQ h,Aa,Abl Bac,Abl Bah];by_cases ha:N<=a
 ·rw[Ahj h a ha,Aa,SJ,Abo ha];rfl
 have hle:=TA p (min 48 (N-a)) a;rw[Amg h a F0,Aa];by_cases h1:Gz p a (min 48 (N-a))<min 48 (N-a)
 ·have hS:SJ p N a k=if N<a+Gz p a (min 48 (N-a))+1+k then(0,0,24)else(UInt32.ofNat (Gz p a (min 48 (N-a))*2^k+Ct p (a+Gz p a (min 48 (N-a))+1) k),((a+Gz p a (min 48 (N-a))+1+k:Nat):Int),0):=by rw[SJ,Abl ha,Abo h1]
  rw[Ak6 h1,hS];generalize Gz p a (min 48 (N-a))=q at*
  simp only;rw[Abl Bac,Abl Bag,ZU,ZC,sH h _ k F0,Aa];by_cases h2:N<a+q+1+k
  ·rw[Abo h2,Abo h2];rfl
  ·rw[Abl h2,Abl h2];simp only;have z:(GI.toZ (k:Int)).toNat=k:=rfl;rw[Abl Bac,Abo Az8,Dj Bal,Aa,z,nV F0,Aun F0 (Rk _ _ _) hk,Aj];rfl
 ·by_cases h2:Gz p a (min 48 (N-a))=48
  ·have hS:SJ p N a k=if N<a+48+32 then(0,0,24)else if Ct p (a+48) 32/2^k<48 then(0,0,12)else(UInt32.ofNat (Ct p (a+48) 32),((a+48+32:Nat):Int),0):=by rw[SJ,Abl ha,Abl h1,Abo h2]
   have hg:=sH h (a+48) 32 F0;rw[Ami h1 h2,hS];simp only;rw[Abl Bac,Abo Bat,ZU,ZC];refine Axr (congrArg (λo=>Option.bind o _) hg) ?_;rw[Aa];by_cases h3:N<a+48+32
   ·rw[Abo h3,Abo h3];rfl
   ·rw[Abl h3,Abl h3];simp only;have z:(GI.toZ (k:Int)).toNat=k:=rfl;have hv:=yg p (a+48) (n:=32) F0;rw[Abl Bac,Abl Baj,OE,Dj Bal,Aa,Aa,z,nV F0,Apm];have e:(decide ((48:UInt32).toNat<= (Cn (UInt32.ofNat (Ct p (a+48) 32)) k).toNat))=decide (¬Ct p (a+48) 32/2^k<48):=by
     rw[VK,YN hv];simp
    rw[e];by_cases h4:Ct p (a+48) 32/2^k<48
    ·rw[Abo (by simp[h4]),Abo h4]
    ·rw[Abl F9,Abl h4,Aj];rfl
  ·rw[Aj8 h1 h2,SJ,Abl ha,Abl h1,Abl h2];rfl
theorem zL(k:Nat)(hk:k<=63):∀(j i q:Nat),i+j=k->j<q->Ji (k:Int) q (UInt64.ofNat (2^i)) (i:Int)=some (UInt64.ofNat (2^k))
 |0,i,q+1,hi,_=>by
  rw[Ji,Tv,Abl Az8,show i=k by omega];rfl
 |j+1,i,q+1,hi,hq=>by
  have e:Bv (UInt64.ofNat (2^i)) (2:UInt64)=UInt64.ofNat (2^(i+1)):=by
   rw[KC,As2,UInt64.ofNat_mul];rfl
  rw[Ji,Tv,Abo Az8,Aj,e];exact zL k hk j (i+1) q F0 F0
theorem KE(k:Nat)(hk:k<=63):Fx (k:Int)=some (UInt64.ofNat (2^k)):=
 zL k hk k 0 Ar F0 Az9
theorem SU(hk:k<=63):(UInt64.ofNat (2^k)).toNat=2^k:=by
 have hp:2^k<=2^63:=Ajg F0 hk;rw[Ajj,Adl F0]
theorem Aph(v:UInt32)(k:Nat)(hk:k<=24):CV v (k:Int)=some ((min 48 (v.toNat/2^k):Nat):Int):=by
 have hpos:0<2^k:=Axx F0;have hv:=v.toNat_lt;rw[CV,KE k F0,Aa,Dj (by rw[NU];simp only[Azg,ne_eq,<-Aza,SU (show k<=63 by omega)];simp),Aa];have e:(Cy (Ad v:UInt64) (UInt64.ofNat (2^k))).toNat=v.toNat/2^k:=by
  rw[pC,Azq,Iz,SU F0,Ajj,Adl F0]
 have hle:v.toNat/2^k<=v.toNat:=Aud _ _;have e2:Ej (48:UInt64) (Cy (Ad v:UInt64) (UInt64.ofNat (2^k)))=UInt64.ofNat (min 48 (v.toNat/2^k)):=by
  apply UInt64.toNat_inj.1;rw[Ajj,Adl F0];show(if _ then _ else _:UInt64).toNat=_;rw[show(GI.toZ (Cy (Ad v:UInt64) (UInt64.ofNat (2^k))))=((v.toNat/2^k:Nat):Int) by rw[Jg,e],show GI.toZ (48:UInt64)=48 from rfl];split
  ·rw[e];omega
  ·show 48=_;omega
 rw[e2,sE (by rw[Ajj,Adl]<;>omega),Ajj,Adl F0]
theorem Akk(h:okB p N)(a k:Nat)(hk:k<=24):HW p (N:Int) (a:Int) (k:Int)=some (SJ p N a k):=by
 obtain⟨hN,hl,hz⟩:=h;have h:okB p N:=⟨hN,hl,hz⟩;rw[HW,MV];by_cases ha:N<=a
 ·rw[Abo Bae,SJ,Abo ha]
 have hle:=TA p (min 48 (N-a)) a;rw[Abl Bae,Akn h a F0,Aa,unR];by_cases h1:Gz p a (min 48 (N-a))<min 48 (N-a)
 ·have hS:SJ p N a k=if N<a+Gz p a (min 48 (N-a))+1+k then(0,0,24)else(UInt32.ofNat (Gz p a (min 48 (N-a))*2^k+Ct p (a+Gz p a (min 48 (N-a))+1) k),((a+Gz p a (min 48 (N-a))+1+k:Nat):Int),0):=by rw[SJ,Abl ha,Abo h1]
  rw[Ak6 h1,hS];generalize Gz p a (min 48 (N-a))=q at*
  rw[Abo rfl];simp only;rw[Abl Bag,Ym,Yb,Ci];by_cases h2:N<a+q+1+k
  ·rw[Abo Bas,Abo h2]
  ·have hp:2^k<=2^24:=Ajg F0 hk;have hm:q*2^k<=47*2^24:=Av2 F0 hp;have hv:=Rk p k (a+q+1);have e:(Ad (Ae (Bv (Ad (q:Int):UInt64) (UInt64.ofNat (2^k))) (Vj p (a+q+1) k)):UInt32)=UInt32.ofNat (q*2^k+Ct p (a+q+1) k):=by
    have e1:Ae (Bv (Ad (q:Int):UInt64) (UInt64.ofNat (2^k))) (Vj p (a+q+1) k)=UInt64.ofNat (q*2^k+Ct p (a+q+1) k):=by
     rw[KI,KC,Xi,Vj,UInt64.ofNat_add,UInt64.ofNat_mul]
    rw[e1];have e2:∀x:UInt64,(Ad x:UInt32)=UInt32.ofNat x.toNat:=λx=>by simp only[Ad,Jg,Eu]
    rw[e2,Ajj,Adl F0]
   rw[Abl Bas,Abl h2,kN p _ _ k F0 F0,Aa,Abo Az8,KE k F0,Aa,e,Aj];rfl
 ·by_cases h2:Gz p a (min 48 (N-a))=48
  ·have hS:SJ p N a k=if N<a+48+32 then(0,0,24)else if Ct p (a+48) 32/2^k<48 then(0,0,12)else(UInt32.ofNat (Ct p (a+48) 32),((a+48+32:Nat):Int),0):=by rw[SJ,Abl ha,Abl h1,Abo h2]
   rw[Ami h1 h2,hS,Abo rfl];simp only;rw[Abo Bat,Ym,Yb,Ci];by_cases h3:N<a+48+32
   ·rw[Abo Bas,Abo h3]
   ·have hg:=kN p (N:Int) (a+48) 32 F0 F0;have hv:=yg p (a+48) (n:=32) F0;rw[Abl Bas,Abl h3];refine Axr (congrArg (λo=>Option.bind o _) hg) ?_;rw[Aa,Abl Baj,nV F0,Aph _ k hk,Aa,YN hv];by_cases h4:Ct p (a+48) 32/2^k<48
    ·rw[Abo Az8,Abo h4]
    ·rw[Abl Az8,Abl h4,Aj];rfl
  ·rw[Aj8 h1 h2,SJ,Abl ha,Abl h1,Abl h2];have e:(if((0:Int),(0:Int),(24:Int)).2.2=0 then(((0:Int),(0:Int),(24:Int)).1,((0:Int),(0:Int),(24:Int)).2.1)else((-1:Int),(0:Int)))=(-1,0):=F7
   rw[e];rfl
theorem Atl{v:UInt32}{n:Int}(h:SJ p N a k=(v,n,0)):(a:Int)<n/\n<=N:=by
 unfold SJ at h;split at h
 ·simp at h
 split at h
 ·split at h
  ·simp at h
  ·simp only[Afp]at h;omega
 ·split at h
  ·split at h
   ·simp at h
   ·split at h
    ·simp at h
    ·simp only[Afp]at h;omega
  ·simp at h
def okD(k l:Nat)(s t:UInt64):Prop:=k<=24/\l<=24/\s.toNat<=68719476735/\t.toNat<=68719476735
theorem yt(a b:UInt64)(h:a.toNat<=b.toNat):Ej a b=a:=by
 show(if _ then _ else _)=_;rw[Jg,Jg,Abl F0]
theorem nC(a:UInt64):geq a a=true:=by rw[vF];simp
theorem As9(h:okD k l s t):RD (k:Int) (l:Int) s t=some 0:=by
 obtain⟨h1,h2,h3,h4⟩:=h;have e1:Ej (bW (k:Int) 0) 24=(k:Int):=by rw[HF,Z2];omega
 have e2:Ej (bW (l:Int) 0) 24=(l:Int):=by rw[HF,Z2];omega
 have e3:Ej s (68719476735:UInt64)=s:=yt _ _ (by simpa using h3);have e4:Ej t (68719476735:UInt64)=t:=yt _ _ (by simpa using h4);have e5:∀a:Int,geq a a=true:=λa=>by rw[Bb];simp
 rw[RD,IP,UZ,II,UG,jI,e1,e2,e3,e4,e5,e5,nC,nC];rfl
def FM(s n:UInt64):UInt64:=s+n-s/16
def kS(k:Nat)(s:UInt64):Nat:=if 0<k/\s.toNat<2^(k+4)then k-1 else if k<24/\2^(k+5)<s.toNat then k+1 else k
theorem Asr(h:k<=24)(s:UInt64):kS k s<=24:=by
 unfold kS;by_cases h1:0<k/\s.toNat<2^(k+4)
 ·rw[Abo h1];omega
 ·rw[Abl h1];split<;>omega
theorem Aev(h:¬(0<k/\s.toNat<2^(k+4))):(if k<24/\2^(k+5)<s.toNat then((k+1:Nat):Int)else(k:Int))=((kS k s:Nat):Int):=by
 rw[kS,Abl h];split<;>rfl
theorem Aex{n:UInt64}(h:s.toNat<=68719476735)(hn:n.toNat<=4294967295):(FM s n).toNat<=68719476735:=by
 have h1:=s.toNat_lt;have e:(s+n).toNat=s.toNat+n.toNat:=by rw[UInt64.toNat_add];omega
 have e2:(s/16).toNat=s.toNat/16:=by rw[Azq];rfl
 rw[FM,UInt64.toNat_sub_of_le _ _ (by rw[UInt64.le_iff_toNat_le,e,e2];omega),e,e2];omega
theorem vY(s n:UInt64):Ae s (Am n (Cn s (GI.toZ (4:UInt64)).toNat))=FM s n:=by
 have e:Cn s (GI.toZ (4:UInt64)).toNat=s/16:=by
  apply UInt64.toNat_inj.1;rw[KZ,Azq];rfl
 rw[e,KI,E3,FM,UInt64.sub_eq_add_neg,UInt64.sub_eq_add_neg,UInt64.add_assoc]
theorem Ae6(s n:UInt64):Am (Ae s n) (Cy s (16:UInt64))=FM s n:=by rw[KI,E3,pC,FM]
theorem Avq(h:k<=24):(Ec (16:UInt64) k).toNat=2^(k+4):=by
 have hp:2^k<=2^24:=Ajg F0 h;rw[XL,Azo]
 show 16*2^k %_=2^k*16;rw[Adl F0,Aso]
theorem Auu(h:k<=24):(Ec (32:UInt64) k).toNat=2^(k+5):=by
 have hp:2^k<=2^24:=Ajg F0 h;rw[XL,Azo]
 show 32*2^k %_=2^k*32;rw[Adl F0,Aso]
theorem Asi(h:0<k)(h2:s.toNat<2^(k+4)):kS k s=k-1:=by rw[kS,Abo ⟨h,h2⟩]
theorem Asw(h:¬(0<k/\s.toNat<2^(k+4)))(h2:k<24)(h3:2^(k+5)<s.toNat):kS k s=k+1:=by rw[kS,Abl h,Abo ⟨h2,h3⟩]
theorem Ae3(h:¬(0<k/\s.toNat<2^(k+4)))(h2:¬(k<24/\2^(k+5)<s.toNat)):kS k s=k:=by rw[kS,Abl h,Abl h2]
theorem Asx{α:Type}(k:Nat)(hk:k<=24)(s:UInt64)(f:Int->Option α):
  (if(Dw (k:Int) (0:Int))=true then(
   Option.bind (Jv (Lk (k:Int) (0:Int))) λ_=>
   if(Ch s (Ec (16:UInt64) (GI.toZ (k:Int)).toNat))=true then f (Am (k:Int) (1:Int))
   else(if(Ch (k:Int) (24:Int))=true then(
    Option.bind (Jv (Lk (k:Int) (0:Int))) λ_=>
    if(Dw s (Ec (32:UInt64) (GI.toZ (k:Int)).toNat))=true then f (Ae (k:Int) (1:Int))else f (k:Int))
    else f (k:Int)))
  else(if(Ch (k:Int) (24:Int))=true then(
    Option.bind (Jv (Lk (k:Int) (0:Int))) λ_=>
    if(Dw s (Ec (32:UInt64) (GI.toZ (k:Int)).toNat))=true then f (Ae (k:Int) (1:Int))else f (k:Int))
    else f (k:Int)))=f ((kS k s:Nat):Int):=by
 have z:(GI.toZ (k:Int)).toNat=k:=rfl;rw[z,Dj Bal];simp only[Aa];rw[vM,TD,Avq hk,Auu hk];by_cases h0:0<k
 ·rw[Abo Bad];by_cases h1:s.toNat<2^(k+4)
  ·rw[Abo (by simp[h1]),Asi h0 h1,Ci];congr 1;omega
  ·rw[Abl F9];by_cases h2:k<24
   ·rw[Abo Az8];by_cases h3:2^(k+5)<s.toNat
    ·rw[Abo (by simp[h3]),Asw (λh=>h1 h.2) h2 h3,Aj];rfl
    ·rw[Abl F9,Ae3 (λh=>h1 h.2) (λh=>h3 h.2)]
   ·rw[Abl Az8,Ae3 (λh=>h1 h.2) (λh=>h2 h.1)]
 ·rw[Abl Bad];by_cases h2:k<24
  ·rw[Abo Az8];by_cases h3:2^(k+5)<s.toNat
   ·rw[Abo (by simp[h3]),Asw (λh=>h0 h.1) h2 h3,Aj];rfl
   ·rw[Abl F9,Ae3 (λh=>h0 h.1) (λh=>h3 h.2)]
  ·rw[Abl Az8,Ae3 (λh=>h0 h.1) (λh=>h2 h.1)]
theorem Af6(k:Nat)(hk:k<=24)(s n:UInt64):Uj (k:Int) s n=some (((kS k (FM s n):Nat):Int),FM s n):=by
 have g1:Ae (k:Int) 4=((k+4:Nat):Int):=by rw[Aj];omega
 have g2:Ae (k:Int) 5=((k+5:Nat):Int):=by rw[Aj];omega
 have hp:Vi (k:Int) s n=some (if k<24/\2^(k+5)<(FM s n).toNat then((k+1:Nat):Int)else(k:Int),FM s n):=by
  rw[Vi,KY,g2,KE _ F0,Aa,Ae6,TD,SU F0];by_cases h2:k<24
  ·rw[Abo Az8];by_cases h3:2^(k+5)<(FM s n).toNat
   ·rw[Abo (by simp[h3]),Abo ⟨h2,h3⟩,Aj];rfl
   ·rw[Abl F9,Abl (λh=>h3 h.2)]
  ·rw[Abl Az8,Abl (λh=>h2 h.1)]
 rw[Uj,JT,g1,KE _ F0,Aa,Ae6,vM,SU F0,hp];by_cases h0:0<k
 ·rw[Abo Bad];by_cases h1:(FM s n).toNat<2^(k+4)
  ·rw[Abo (by simp[h1]),Asi h0 h1,Ci];congr 2;omega
  ·rw[Abl F9,Aev (λh=>h1 h.2)]
 ·rw[Abl Bad,Aev (λh=>h0 h.1)]
def jy(v:UInt32):UInt64:=UInt64.ofNat v.toNat
theorem Akx(v:UInt32):(jy v).toNat<=4294967295:=by have:=v.toNat_lt;rw[jy,Ajj,Adl F0];omega
def tN(k:Nat)(v:UInt32):UInt32:=UInt32.ofNat (v.toNat-2^k)
def lK(l:Nat)(t:UInt64)(k:Nat)(v:UInt32):Nat:=if v.toNat<2^k then l else kS l (FM t (jy (tN k v)))
def lT(t:UInt64)(k:Nat)(v:UInt32):UInt64:=if v.toNat<2^k then t else FM t (jy (tN k v))
theorem Ajz(h:okD k l s t)(v:UInt32):okD (kS k (FM s (jy v))) (lK l t k v) (FM s (jy v)) (lT t k v):=by
 obtain⟨h1,h2,h3,h4⟩:=h;refine⟨Asr h1 _,?_,Aex h3 (Akx v),?_⟩
 ·unfold lK;split; · exact h2
  exact Asr h2 _
 ·unfold lT;split; · exact h4
  exact Aex h4 (Akx _)
theorem At0(k l:Nat)(s t:UInt64)(hk:k<=24)(v:UInt32):HP (k:Int) (l:Int) s t v=some (decide (v.toNat<2^k)):=by
 have:=v.toNat_lt;rw[HP,KE k F0,Aa,vM,SU F0,Iz,Ajj,Adl F0]
theorem left_eq(k l:Nat)(s t:UInt64)(hk:k<=24)(v:UInt32)(h:¬v.toNat<2^k):EC (k:Int) (l:Int) s t v=some (tN k v):=by
 have:=v.toNat_lt;have e2:∀x:UInt64,(Ad x:UInt32)=UInt32.ofNat x.toNat:=λx=>by simp only[Ad,Jg,Eu]
 have e3:(UInt64.ofNat v.toNat).toNat=v.toNat:=by rw[Ajj,Adl F0]
 rw[EC,KE k F0,Aa,e2,E3,Iz,UInt64.toNat_sub_of_le _ _ (by rw[UInt64.le_iff_toNat_le,SU F0,e3];omega),SU F0,e3,tN]
theorem Aiv(h:okD k l s t)(v:UInt32):Xs (k:Int) (l:Int) s t v=some (((kS k (FM s (jy v)):Nat):Int),((lK l t k v:Nat):Int),FM s (jy v),lT t k v):=by
 obtain⟨h1,h2,h3,h4⟩:=h;have hp:∀(r1:Int) (r2:UInt64),Ri v (k:Int) (l:Int) s t r1 r2=some (((kS k (FM s (jy v)):Nat):Int),r1,FM s (jy v),r2):=by
  intro r1 r2;rw[Ri,ER,Iz,Af6 k h1,Aa];rfl
 rw[Xs,DA,At0 k l s t h1,Aa];by_cases hv:v.toNat<2^k
 ·rw[Abl (by simp[hv]),hp,lK,Abo hv,lT,Abo hv]
 ·rw[Abo F9,left_eq k l s t h1 v hv,Aa,Iz,Af6 l h2,Aa];simp only;rw[hp,lK,Abl hv,lT,Abl hv];rfl
theorem Ak3(k l:Nat)(s t:UInt64)(hk:k<=24)(v:UInt32):IB (k:Int) (l:Int) s t v=some (if v.toNat<2^k then(0,v)else(1,tN k v)):=by
 have hp:2^k<=2^24:=Ajg F0 hk;have hpos:0<2^k:=Axx F0;have hl:=v.toNat_lt;have z:(GI.toZ (k:Int)).toNat=k:=rfl;have e1:geq (Cn v k) (0:UInt32)=decide (v.toNat<2^k):=by
  rw[T7,Aks];simp only[Auy,<-UInt32.toNat_inj,VK,Adf]
  show _/_=0↔_;rw[Nat.div_eq_zero_iff];omega
 have e2:¬v.toNat<2^k->Am v (Ec (1:UInt32) k)=tN k v:=by
  intro h;have e3:(Ec (1:UInt32) k).toNat=2^k:=by rw[vX];show 1*2^k %_=_;rw[Adl F0,Nat.one_mul]
  apply UInt32.toNat_inj.1;rw[qg,UInt32.toNat_sub_of_le _ _ (by rw[UInt32.le_iff_toNat_le,e3];omega),e3,tN,YN F0]
 rw[IB,Dj Bal,Aa,Aa,z,e1];by_cases h:v.toNat<2^k
 ·rw[Abo (by simp[h]),Abo h]
 ·rw[Abl F9,Abl h,e2 h]
abbrev Rd:=UInt32×Int×Int×Int×UInt64×UInt64×Int
theorem wP(h:okD k l s t)(v:UInt32)(r:Int):YO (k:Int) (l:Int) s t v r=some (v,r,((kS k (FM s (jy v)):Nat):Int),((lK l t k v:Nat):Int),FM s (jy v),lT t k v,0):=by
 obtain⟨h1,h2,h3,h4⟩:=h;have hp:∀(x:Int) (y:UInt64),FG v r (k:Int) s x y=some (v,r,((kS k (FM s (jy v)):Nat):Int),x,FM s (jy v),y,0):=by
  intro x y;rw[FG,pO,Iz,vY,Asx k h1];rw[mU,oY,jQ,jH,Iz,vY];rfl
 rw[YO,YI,Ak3 k l s t h1,Aa];by_cases hv:v.toNat<2^k
 ·rw[Abo hv];simp only;rw[Abl Ba0,hp,lK,Abo hv,lT,Abo hv]
 ·rw[Abl hv];simp only;rw[Abo Bat,Iz,vY,Asx l h2 _ (λx=>FG v r (k:Int) s x (FM t (UInt64.ofNat (tN k v).toNat))),hp,lK,Abl hv,lT,Abl hv];rfl
def YK(p:LB)(N a k l:Nat):UInt32×Int×Int:=
 if N<=a then(0,0,24)else
 if Km p a=0 then(if N<a+1+k then(0,0,24)else(UInt32.ofNat (Ct p (a+1) k),((a+1+k:Nat):Int),0))else
 if(SJ p N (a+1) l).2.2≠0 then(0,0,(SJ p N (a+1) l).2.2)else
 if 4294967295<(SJ p N (a+1) l).1.toNat+2^k then(0,0,12)else(UInt32.ofNat ((SJ p N (a+1) l).1.toNat+2^k),(SJ p N (a+1) l).2.1,0)
theorem Auc(h:(YK p N a k l).2.2=0):(a:Int)<(YK p N a k l).2.1/\ (YK p N a k l).2.1<=N:=by
 revert h
 unfold YK;split
 ·simp
 split
 ·split
  ·simp
  ·simp only;omega
 ·split
  ·intro h;contradiction
  ·rename_i h1;split
   ·simp
   ·intro _;have:=Atl (p:=p) (N:=N) (a:=a+1) (k:=l) (v:=(SJ p N (a+1) l).1) (n:=(SJ p N (a+1) l).2.1) (by
     have e:(SJ p N (a+1) l).2.2=0:=by simpa using h1
     rw[<-e])
    simp only;omega
theorem Ap1(h:okB p N)(a:Nat)(hd:okD k l s t):HR p (N:Int) (a:Int) (k:Int) (l:Int) s t=
  some (if(YK p N a k l).2.2≠0 then(0,0,0,0,0,0,(YK p N a k l).2.2)else((YK p N a k l).1,(YK p N a k l).2.1,((kS k (FM s (jy (YK p N a k l).1)):Nat):Int),((lK l t k (YK p N a k l).1:Nat):Int),FM s (jy (YK p N a k l).1),lT t k (YK p N a k l).1,0)):=by
 obtain⟨h1,h2,h3,h4⟩:=hd;have hd:okD k l s t:=⟨h1,h2,h3,h4⟩;have hN:=h.1;have hg:=sH h a 1 F0;have hb:=Yy p a;rw[HR,aD,OQ h,Aa,Abl Bac,As9 hd,Aa,Abl Bac,pP,YT];refine Axr (congrArg (λo=>Option.bind o _) hg) ?_;rw[Aa];by_cases ha:N<=a
 ·have hS:YK p N a k l=(0,0,24):=by rw[YK,Abo ha]
  rw[Abo F0,hS];rfl
 rw[Abl F0];simp only;have e0:geq (Vj p a 1) (0:UInt64)=decide (Km p a=0):=by
  rw[vF,Aks];simp only[Auy,<-Aza,Adf,FJ p a 1 F0,wz];rfl
 have e1:Ae (a:Int) 1=((a+1:Nat):Int):=by rw[Aj];omega
 rw[Abl Bac,e0,e1];by_cases hz:Km p a=0
 ·rw[Abo (by simp[hz]),sH h (a+1) k F0,Aa];by_cases h5:N<a+1+k
  ·have hS:YK p N a k l=(0,0,24):=by rw[YK,Abl ha,Abo hz,Abo h5]
   rw[Abo h5,hS];rfl
  ·have hS:YK p N a k l=(UInt32.ofNat (Ct p (a+1) k),((a+1+k:Nat):Int),0):=by rw[YK,Abl ha,Abo hz,Abl h5]
   rw[Abl h5,hS];simp only;rw[Abl Bac,wP hd,nV F0,Aj];rfl
 ·rw[Abl (by simp[hz]),Ap4 h (a+1) l h2,Aa];have hp:2^k<=2^24:=Ajg F0 h1;by_cases h5:(SJ p N (a+1) l).2.2≠0
  ·have hS:YK p N a k l=(0,0,(SJ p N (a+1) l).2.2):=by rw[YK,Abl ha,Abl hz,Abo h5]
   rw[hS];generalize SJ p N (a+1) l=R at*
   obtain⟨v,n,e⟩:=R;simp only at*
   rw[Abo (by rw[Ao];simpa using h5),Abo h5]
  ·have hv:=(SJ p N (a+1) l).1.toNat_lt;have z:(GI.toZ (k:Int)).toNat=k:=rfl;have e3:(Ec (1:UInt32) k).toNat=2^k:=by rw[vX];show 1*2^k %_=_;rw[Adl F0,Nat.one_mul]
   by_cases h6:4294967295<(SJ p N (a+1) l).1.toNat+2^k
   ·have hS:YK p N a k l=(0,0,12):=by rw[YK,Abl ha,Abl hz,Abl h5,Abo h6]
    rw[hS];generalize SJ p N (a+1) l=R at*
    obtain⟨v,n,e⟩:=R;simp only at*
    rw[Abl (by rw[Ao];simpa using h5),Dj Bal,Aa,z,Abo (by rw[Aey,vV,UInt32.toNat_add,e3];simp;omega),Abo F7]
   ·have hS:YK p N a k l=(UInt32.ofNat ((SJ p N (a+1) l).1.toNat+2^k),(SJ p N (a+1) l).2.1,0):=by rw[YK,Abl ha,Abl hz,Abl h5,Abl h6]
    rw[hS];generalize SJ p N (a+1) l=R at*
    obtain⟨v,n,e⟩:=R;simp only at*
    have e4:Ae v (Ec (1:UInt32) k)=UInt32.ofNat (v.toNat+2^k):=by
     apply UInt32.toNat_inj.1;rw[vV,UInt32.toNat_add,e3,YN F0,Adl F0]
    rw[Abl (by rw[Ao];simpa using h5),Dj Bal,Aa,z,Abl (by rw[Aey,vV,UInt32.toNat_add,e3];simp;omega),e4,wP hd];rfl
theorem Amy(h:okB p N)(a:Nat)(k l:Nat)(s t:UInt64)(h1:k<=24)(h2:l<=24):HS p (N:Int) (a:Int) (k:Int) (l:Int) s t=some (YK p N a k l):=by
 have hN:=h.1;have hl:=h.2.1;have hb:=Yy p a;rw[HS];by_cases ha:N<=a
 ·rw[Abo Bae,YK,Abo ha]
 rw[Abl Bae,qI p _ a F0 F0,Aa,Ci (a:=(N:Int)) (b:=(a:Int)) F0 F0,Ci];have e1:Ae (a:Int) 1=((a+1:Nat):Int):=by rw[Aj];omega
 rw[e1];by_cases hz:Km p a=0
 ·rw[Abo (by rw[Bb];simp[hz])];by_cases h5:N<a+1+k
  ·rw[Abo Az8,YK,Abl ha,Abo hz,Abo h5]
  ·rw[Abl Az8,kN p _ (a+1) k F0 F0,Aa,YK,Abl ha,Abo hz,Abl h5,nV F0,Aj];rfl
 ·rw[Abl Bag,Akk h (a+1) l h2,Aa];have hp:2^k<=2^24:=Ajg F0 h1;have hv:=(SJ p N (a+1) l).1.toNat_lt;have e2:∀x:UInt64,(Ad x:UInt32)=UInt32.ofNat x.toNat:=λx=>by simp only[Ad,Jg,Eu]
  by_cases h5:(SJ p N (a+1) l).2.2≠0
  ·have hS:YK p N a k l=(0,0,(SJ p N (a+1) l).2.2):=by rw[YK,Abl ha,Abl hz,Abo h5]
   rw[hS];generalize SJ p N (a+1) l=R at*
   obtain⟨v,n,e⟩:=R;simp only at*
   rw[Abo (by rw[Ao];simpa using h5)]
  ·have hsum:∀v:UInt32,(Ae (Ad v:UInt64) (UInt64.ofNat (2^k))).toNat=v.toNat+2^k:=by
    intro v;have:=v.toNat_lt;have:=Axx (n:=k) (show 0<2 by omega);rw[KI,UInt64.toNat_add,Iz,SU F0,Ajj];omega
   by_cases h6:4294967295<(SJ p N (a+1) l).1.toNat+2^k
   ·have hS:YK p N a k l=(0,0,12):=by rw[YK,Abl ha,Abl hz,Abl h5,Abo h6]
    rw[hS];generalize SJ p N (a+1) l=R at*
    obtain⟨v,n,e⟩:=R;simp only at*
    rw[Abl (by rw[Ao];simpa using h5),KE k F0,Aa,Abo (by rw[TD,hsum];simpa using h6)]
   ·have hS:YK p N a k l=(UInt32.ofNat ((SJ p N (a+1) l).1.toNat+2^k),(SJ p N (a+1) l).2.1,0):=by rw[YK,Abl ha,Abl hz,Abl h5,Abl h6]
    rw[hS];generalize SJ p N (a+1) l=R at*
    obtain⟨v,n,e⟩:=R;simp only at*
    rw[Abl (by rw[Ao];simpa using h5),KE k F0,Aa,Abl (by rw[TD,hsum];simpa using h6),e2,hsum]
theorem Baf{p:Prop}(h:p:=by rw[Ao];simp;omega):p:=h
theorem Bap{p:Prop}(h:p:=by rw[<-Avg];omega):p:=h
end Go.Pl
namespace Go.Pl
open Go Go.Lv
variable{out v:LU}
abbrev DuN:=Nat×Nat×UInt64×UInt64
def okN(d:DuN):Prop:=okD d.1 d.2.1 d.2.2.1 d.2.2.2
def nxt(d:DuN)(v:UInt32):DuN:=(kS d.1 (FM d.2.2.1 (jy v)),lK d.2.1 d.2.2.2 d.1 v,FM d.2.2.1 (jy v),lT d.2.2.2 d.1 v)
def Z8:DuN:=(10,10,16384,16384)
theorem Ak8:okN Z8:=⟨F7,F7,F7,F7⟩
theorem Aug{d:DuN}(h:okN d)(v:UInt32):okN (nxt d v):=Ajz h v
abbrev DuL:=Int×Int×UInt64×UInt64×Unit
def toI(d:DuN):DuL:=((d.1:Int),(d.2.1:Int),d.2.2.1,d.2.2.2,())
def eW(ch:Nat)(v:LU)(c:Nat):Nat->DuN
 |0=>Z8
 |m+1=>if m %ch=c then nxt (eW ch v c m) (v.getD m 0)else eW ch v c m
theorem qY(ch:Nat)(v:LU)(c:Nat):∀m,okN (eW ch v c m)
 |0=>Ak8
 |m+1=>by rw[eW];split;exact Aug (qY ch v c m) _;exact qY ch v c m
theorem Af9(ch:Nat)(v w:LU)(c:Nat):∀m,m<=v.length->eW ch (v++w) c m=eW ch v c m
 |0,_=>rfl
 |m+1,h=>by
  have e:(v++w).getD m 0=v.getD m 0:=by simp[List.getD_eq_getElem?_getD,List.getElem?_append_left (show m<v.length by omega)]
  rw[eW,eW,Af9 ch v w c m F0,e]
theorem T3(ch:Nat)(v:LU)(c:Nat):∀m,m<=c->c<ch->eW ch v c m=Z8
 |0,_,_=>rfl
 |m+1,h,h2=>by rw[eW,Abl (by rw[Adl F0];omega),T3 ch v c m F0 h2]
theorem Aai(ch:Nat)(v:LU)(c i:Nat)(hi:i %ch=c)(hc:c<ch):∀j,j<ch->eW ch v c (i+1+j)=eW ch v c (i+1)
 |0,_=>rfl
 |j+1,h=>by
  have hne:(i+1+j) %ch≠c:=by
   intro e;have h1:(i+(1+j)) %ch=i %ch:=by rw[hi,<-e];congr 1;omega
   have h2:(1+j) %ch=0:=by
    have h3:=Nat.sub_mod_eq_zero_of_mod_eq h1;rwa [Axw]at h3
   rw[Adl F0]at h2;omega
  rw[show i+1+(j+1)=(i+1+j)+1 by omega,eW,Abl hne,Aai ch v c i hi hc j F0]
theorem Alo(ch:Nat)(v:LU)(c i:Nat)(hi:i %ch=c)(hc:c<ch):eW ch v c (i+ch)=nxt (eW ch v c i) (v.getD i 0):=by
 have h:=Aai ch v c i hi hc (ch-1) F0;rw[show i+1+(ch-1)=i+ch by omega]at h;rw[h,eW,Abo hi]
theorem E4{l:LU}{k:Nat}(h:k<l.length):Ak l (k:Int)=some (l.getD k 0):=by
 rw[Cf h];simp[List.getD_eq_getElem?_getD,h]
theorem wO(a b:Nat):Hu (a:Int) (b:Int)=((a %b:Nat):Int):=by rw[Hu,Ayi F0];omega
theorem uC(ch:Nat)(v:LU)(hch:1<=ch)(Avb:ch<=6)(hv:v.length<=4000):∀(j i q:Nat),i %ch=v.length %ch->i<=v.length->v.length-i<=j->j<q->
  Me (ch:Int) v q (i:Int) ((eW ch v (v.length %ch) i).1:Int) ((eW ch v (v.length %ch) i).2.1:Int) (eW ch v (v.length %ch) i).2.2.1 (eW ch v (v.length %ch) i).2.2.2=
   some (((eW ch v (v.length %ch) v.length).1:Int),((eW ch v (v.length %ch) v.length).2.1:Int),(eW ch v (v.length %ch) v.length).2.2.1,(eW ch v (v.length %ch) v.length).2.2.2)
 |j,i,q+1,hi,hl,hj,hq=>by
  have hc:v.length %ch<ch:=Axu _ F0;rw[Me,EO];by_cases h:i<v.length
  ·have h1:=Aiv (qY ch v (v.length %ch) i) (v.getD i 0);rw[Abo F5,E4 h,Aa,h1,Aa];have hle:i+ch<=v.length:=by
    have h2:=Nat.div_add_mod i ch;have h3:=Nat.div_add_mod v.length ch;rw[hi]at h2;have h4:ch*(i/ch)<ch*(v.length/ch):=F0
    have h5:=Nat.lt_of_mul_lt_mul_left h4;have h6:ch*(i/ch+1)<=ch*(v.length/ch):=Nat.mul_le_mul_left _ h5;rw[Nat.mul_add]at h6;omega
   have ih:=uC ch v hch Avb hv (j-ch) (i+ch) q (by rw[Azy];exact hi) hle F0 F0;rw[Alo ch v _ i hi hc]at ih;simp only;rw[Aj];exact ih
  ·rw[Abl F5,show i=v.length by omega];rfl
theorem Ah0(ch:Nat)(v:LU)(hch:1<=ch)(Avb:ch<=6)(hv:v.length<=4000):Ps (ch:Int) v=some (((eW ch v (v.length %ch) v.length).1:Int),((eW ch v (v.length %ch) v.length).2.1:Int),(eW ch v (v.length %ch) v.length).2.2.1,(eW ch v (v.length %ch) v.length).2.2.2):=by
 have hc:v.length %ch<ch:=Axu _ F0;have hle:v.length %ch<=v.length:=Nat.mod_le _ _;have h:=uC ch v hch Avb hv v.length (v.length %ch) Ar (by rw[Nat.mod_mod]) hle F0 Az9;rw[T3 ch v _ _ (An1 _) hc]at h;rw[Ps,DO,Mv,Aa];simp only;rw[Dj Baf,Aa,Ac,wO];exact h
def now(ch:Nat)(v:LU):DuN:=eW ch v (v.length %ch) v.length
def wC(N a:Nat):Nat:=min 81 (N-a)
def Mc(ch:Nat)(p:LB)(N a:Nat)(out:LU):UInt32×Int×Int:=YK (HE p a (wC N a)) (wC N a) 0 (now ch out).1 (now ch out).2.1
def Xh(ch:Nat)(p:LB)(N:Nat):Nat->Nat->LU->LU×Nat×Int
 |0,a,out=>(out,a,0)
 |j+1,a,out=>if(Mc ch p N a out).2.2≠0 then(out,a,(Mc ch p N a out).2.2)else Xh ch p N j (a+(Mc ch p N a out).2.1.toNat) (out++[(Mc ch p N a out).1])
theorem iB{ch:Nat}{p:LB}{N a:Nat}(h:(Mc ch p N a out).2.2=0):0<(Mc ch p N a out).2.1/\ (Mc ch p N a out).2.1<=wC N a:=by
 have:=Auc h;exact⟨this.1,this.2⟩
theorem Q4{ch:Nat}{p:LB}{N a:Nat}(h:(Mc ch p N a out).2.2=0):((a:Int)+(Mc ch p N a out).2.1)=((a+(Mc ch p N a out).2.1.toNat:Nat):Int):=by
 have:=iB h;omega
def sts(ch:Nat)(v:LU):List DuL:=(List.range 6).map λc=>toI (eW ch v c v.length)
theorem Afa{ch:Nat}{c:Nat}(h:c<6):Ak (sts ch v) (c:Int)=some (toI (eW ch v c v.length)):=by
 rw[Cf (by simp[sts];exact h)];simp[sts]
theorem Ars{ch:Nat}{c:Nat}(x:UInt32)(h:c<6)(hc:c=v.length %ch):Lz (sts ch v) (c:Int) (toI (nxt (eW ch v c v.length) x))=some (sts ch (v++[x])):=by
 rw[Ye _ (by simp[sts];exact h)];congr 1;apply Av9 (by simp[sts]);intro i h1 h2;rw[Azr];simp only[sts,Azb,Ay8];have e:(v++[x]).getD v.length 0=x:=by simp
 rw[Abq,List.length_singleton,eW,e,Af9 ch v [x] i v.length (An1 _)];by_cases hi:c=i
 ·subst hi;rw[Abo rfl,Abo hc.symm]
 ·rw[Abl hi,Abl F0]
section
variable {p:LB} {N ch n:Nat}
theorem lu(hp:okB p N)(h1:1<=ch)(h6:ch<=6)(hn:n*ch<=4000):∀(j a q:Nat) (out:LU),out.length+j=n*ch->j<q->a<=N->
  Mr (ch:Int) (n:Int) p (N:Int) q (a:Int) (out.length:Int) (sts ch out) out=
   some (if(Xh ch p N j a out).2.2≠0 then([],0,(Xh ch p N j a out).2.2)else((Xh ch p N j a out).1,((Xh ch p N j a out).2.1:Int),0))
 |j,a,q+1,out,hj,hq,ha=>by
  have hN:=hp.1;have hnn:n<=n*ch:=Nat.le_mul_of_pos_right n F0;have em:Bv (n:Int) (ch:Int)=((n*ch:Nat):Int):=by rw[Ii Bap Bap,Avg]
  rw[Mr,Rv,em];cases j with
  |zero=>
   rw[Abl Az8];rfl
  |succ j=>
   have hc:out.length %ch<6:=Aob (Axu _ F0) h6;have ew:Ej (Ae (a:Int) 81) (N:Int)=((a+wC N a:Nat):Int):=by rw[HF,Aj];unfold wC;omega
   have hw:a+wC N a<=N:=by unfold wC;omega
   have hw2:wC N a<=81:=by unfold wC;omega
   have hd:=Ap1 (Aeq p a (wC N a) F0) 0 (qY ch out (out.length %ch) out.length);have An9:YK (HE p a (wC N a)) (wC N a) 0 (eW ch out (out.length %ch) out.length).1 (eW ch out (out.length %ch) out.length).2.1=Mc ch p N a out:=rfl;rw[Abo Az8,ew,Atr hp a _ hw F0,Aa];simp only;rw[Abl Bac,Dj Baf,Aa,wO,Afa hc,Aa,Aa];refine Axr (congrArg (λo=>Option.bind o _) hd) ?_;rw[Aa,An9,Xh];by_cases he:(Mc ch p N a out).2.2≠0
   ·rw[Abo he,Abo he];simp only;rw[Rl,Zz,Abo (by rw[Ao];simpa using he),Abo he]
   ·have he0:(Mc ch p N a out).2.2=0:=by simpa using he
    have hok:=iB he0;have hset:=Ars (ch:=ch) (v:=out) (Mc ch p N a out).1 hc rfl;rw[Abl he,Abl he];simp only;rw[Rl,Zz,Abl Bac,Dj Baf,Aa,wO,Afa hc,Aa];refine Axr (congrArg (λo=>Option.bind o _) hset) ?_;rw[Aa,PH,RC,Cr F9,Aa,Aj,Aj,Q4 he0];have ih:=lu hp h1 h6 hn j (a+(Mc ch p N a out).2.1.toNat) q (out++[(Mc ch p N a out).1]) F9 F0 F0;rw[Abq,List.length_singleton]at ih;exact ih
theorem Agv{p:LB}(hN:N=8*p.length)(hN2:N<=330000)(h1:1<=ch)(h6:ch<=6)(hn:n*ch<=4000):∀(j a q:Nat) (out:LU),out.length+j=n*ch->j<q->a<=N->
  Fb (ch:Int) (n:Int) p q (a:Int) (out.length:Int) out=
   if(Xh ch p N j a out).2.2≠0 then some ((Xh ch p N j a out).1,(Xh ch p N j a out).2.2)else Ty ((Xh ch p N j a out).2.1:Int) p (Xh ch p N j a out).1
 |j,a,q+1,out,hj,hq,ha=>by
  have hnn:n<=n*ch:=Nat.le_mul_of_pos_right n F0;have em:Bv (n:Int) (ch:Int)=((n*ch:Nat):Int):=by rw[Ii Bap Bap,Avg]
  have e8:Bv (8:Int) (Ac p)=(N:Int):=by rw[Ac,Ii];omega
  rw[Fb,GY,em];cases j with
  |zero=>
   rw[Abl Az8];rfl
  |succ j=>
   have ew:Ej (Ae (a:Int) 81) (N:Int)=((a+wC N a:Nat):Int):=by rw[HF,Aj];unfold wC;omega
   have hw:a+wC N a<=N:=by unfold wC;omega
   have hw2:wC N a<=81:=by unfold wC;omega
   have hpre:(Option.bind Mv λ(r_4,r_5,r_6,r_7)=>
     if(Lk (out.length:Int) (ch:Int))=true then(
     Option.bind (Ps (ch:Int) out) λ(r_8,r_9,r_10,r_11)=>
     Jm (Fb (ch:Int) (n:Int) p q) (ch:Int) (n:Int) p (a:Int) (out.length:Int) out r_8 r_9 r_10 r_11)
     else Jm (Fb (ch:Int) (n:Int) p q) (ch:Int) (n:Int) p (a:Int) (out.length:Int) out r_4 r_5 r_6 r_7)=
     Jm (Fb (ch:Int) (n:Int) p q) (ch:Int) (n:Int) p (a:Int) (out.length:Int) out ((now ch out).1:Int) ((now ch out).2.1:Int) (now ch out).2.2.1 (now ch out).2.2.2:=by
    rw[Mv,Aa];by_cases hc:ch<=out.length
    ·simp only;rw[Abo Bae,Ah0 ch out h1 h6 F0,Aa];rfl
    ·have e:now ch out=Z8:=by rw[now,Adl F0,T3 ch out _ _ (An1 _) F0]
     simp only;rw[Abl Bae,e];rfl
   have hd:=Amy (Aeq p a (wC N a) F0) 0 (now ch out).1 (now ch out).2.1 (now ch out).2.2.1 (now ch out).2.2.2 (qY ch out _ _).1 (qY ch out _ _).2.1;have An9:YK (HE p a (wC N a)) (wC N a) 0 (now ch out).1 (now ch out).2.1=Mc ch p N a out:=rfl;rw[Abo Az8,hpre,Jm,GQ,e8,ew,mq p (N:Int) a _ F0 F0 F0,Aa];simp only;refine Axr (congrArg (λo=>Option.bind o _) hd) ?_;rw[Aa,An9,Xh];by_cases he:(Mc ch p N a out).2.2≠0
   ·rw[Abo he,Abo (by rw[Ao];simpa using he),Abo he]
   ·have he0:(Mc ch p N a out).2.2=0:=by simpa using he
    have hok:=iB he0;have ih:=Agv hN hN2 h1 h6 hn j (a+(Mc ch p N a out).2.1.toNat) q (out++[(Mc ch p N a out).1]) F9 F0 F0;have hx:=Q4 he0;rw[Abq,List.length_singleton]at ih;rw[Abl he];generalize Mc ch p N a out=R at*
    obtain⟨v,nx,e⟩:=R;simp only at*
    rw[Abl (by rw[Ao];simpa using he),Cr F9,Aa,Aj,Aj,hx];exact ih
end
theorem vC{ch:Nat}{p:LB}{N:Nat}:∀(j a:Nat) (out:LU),a<=N-> (Xh ch p N j a out).2.1<=N/\ (Xh ch p N j a out).1.length<=out.length+j/\ ((Xh ch p N j a out).2.2=0-> (Xh ch p N j a out).1.length=out.length+j)
 |0,a,out,h=>⟨h,An1 _,λ_=>rfl⟩
 |j+1,a,out,h=>by
  rw[Xh];split
  ·rename_i he;exact⟨h,Bab,λe=>absurd e he⟩
  ·rename_i he;have hok:=iB (ch:=ch) (p:=p) (N:=N) (a:=a) (out:=out) (by simpa using he);have hw:a+wC N a<=N:=by unfold wC;omega
   have ih:=vC (ch:=ch) (p:=p) (N:=N) j (a+(Mc ch p N a out).2.1.toNat) (out++[(Mc ch p N a out).1]) F0;rw[Abq,List.length_singleton]at ih;exact⟨ih.1,F0,λe=>by have:=ih.2.2 e;omega⟩
theorem oh(ch n:Int)(b:LB)(N:Int):AR ch n b N 0 (List.replicate 6 ((0:Int),(0:Int),(0:UInt64),(0:UInt64),()))=OV ch n b N (List.replicate 6 ((10:Int),(10:Int),(16384:UInt64),(16384:UInt64),())):=by
 have e:Ar=(Ar-7)+1+1+1+1+1+1+1:=by have:=Aq;omega
 rw[AR,e];rfl
theorem values_eq{p:LB}{N ch n:Nat}(hp:okB p N)(h1:1<=ch)(h6:ch<=6)(hn:n*ch<=4000):DY (ch:Int) (n:Int) p (N:Int)=
  some (if(Xh ch p N (n*ch) 0 []).2.2≠0 then([],0,(Xh ch p N (n*ch) 0 []).2.2)else((Xh ch p N (n*ch) 0 []).1,((Xh ch p N (n*ch) 0 []).2.1:Int),0)):=by
 have h:=lu hp h1 h6 hn (n*ch) 0 Ar [] Bab Az9 F0;rw[DY,DX,oh];exact h
theorem O9(p:LB)(x:LU)(N:Nat)(hN:N=8*p.length)(hN2:N<=330000):∀(j a q:Nat),a+j=N->j<q->Jo p x q (a:Int)=some (x,if Ct p a j=0 then 0 else 12)
 |0,a,q+1,ha,_=>by
  have e8:Bv (8:Int) (Ac p)=(N:Int):=by rw[Ac,Ii];omega
  rw[Jo,Tn,e8,Abl Az8,Ct,Abo rfl];rfl
 |j+1,a,q+1,ha,hq=>by
  have e8:Bv (8:Int) (Ac p)=(N:Int):=by rw[Ac,Ii];omega
  have hb:=Yy p a;rw[Jo,Tn,e8,Abo Az8,qI p _ a F0 F0,Aa,Ct];by_cases h:Km p a=0
  ·rw[Abl (by rw[Ao];simp[h]),Aj,h];have ih:=O9 p x N hN hN2 j (a+1) q F0 F0;rw[show((a:Int)+1)=((a+1:Nat):Int) by omega,ih];congr 2;by_cases hv:Ct p (a+1) j=0
   ·rw[Abo hv,Abo F0]
   ·rw[Abl hv,Abl F0]
  ·rw[Abo Baf,Abl F0]
theorem Afd{p:LB}{N ch n:Nat}(hN:N=8*p.length)(hN2:N<=330000)(h1:1<=ch)(h6:ch<=6)(hn:n*ch<=4000):CX (ch:Int) (n:Int) p=
  some (if(Xh ch p N (n*ch) 0 []).2.2≠0 then((Xh ch p N (n*ch) 0 []).1,(Xh ch p N (n*ch) 0 []).2.2)else
   ((Xh ch p N (n*ch) 0 []).1,if 7<N-(Xh ch p N (n*ch) 0 []).2.1\/Ct p (Xh ch p N (n*ch) 0 []).2.1 (N-(Xh ch p N (n*ch) 0 []).2.1)≠0 then 12 else 0)):=by
 have h:=Agv hN hN2 h1 h6 hn (n*ch) 0 Ar [] Bab Az9 F0;have hat:=(vC (ch:=ch) (p:=p) (N:=N) (n*ch) 0 [] F0).1;have e8:Bv (8:Int) (Ac p)=(N:Int):=by rw[Ac,Ii];omega
 rw[CX,KL];refine Axr h ?_;generalize Xh ch p N (n*ch) 0 []=V at*
 obtain⟨v,a,e⟩:=V;simp only at*
 by_cases he:e≠0
 ·rw[Abo he,Abo he]
 ·rw[Abl he,Abl he,Ty,GA,e8,Ci];by_cases h7:7<N-a
  ·rw[Abo Bad,Abo (.inl h7)]
  ·rw[Abl Bad,GG,O9 p v N hN hN2 (N-a) a Ar F0 Az9];by_cases hv:Ct p a (N-a)=0
   ·rw[Abo hv,Abl F0]
   ·rw[Abl hv,Abo (.inr hv)]
theorem ji(n:Int):(GI.ofZ n:Int32)=Int32.ofInt n:=rfl
theorem TM(a:Int32):GI.toZ a=a.toInt:=rfl
theorem VL(a b:Int32):Ae a b=a+b:=by
 rw[Ae,TM,TM,ji,Int32.ofInt_add,Avd,Avd]
theorem xZ(a b:Int32):Am a b=a-b:=by
 rw[Am,TM,TM,ji,Int32.ofInt_sub,Avd,Avd]
theorem Ae0(a b:Int32):geq a b=(a==b):=by
 rw[geq,TM,TM,Aks];simp[Int32.toInt_inj]
def eK(p:Nat->Bool)(a b:LX):LX:=(List.range a.length).map λk=>if p k=true then a.getD k 0 else b.getD k 0
section
variable {p q:Nat->Bool} {a b:LX}
theorem ZP:(eK p a b).length=a.length:=by simp[eK]
theorem Nj{k:Nat}(h:k<a.length):a.getD k 0=a[k]:=by simp[List.getD_eq_getElem?_getD,h]
theorem BM{k:Nat}(h:k<(eK p a b).length):(eK p a b)[k]=if p k=true then a.getD k 0 else b.getD k 0:=by simp[eK]
theorem TR{k:Nat}(h:k<a.length):Ak (eK p a b) (k:Int)=some (if p k=true then a.getD k 0 else b.getD k 0):=by
 rw[Cf (by rw[ZP];exact h),BM]
theorem BK(h:∀k,k<a.length->p k=q k):eK p a b=eK q a b:=by
 apply Azp;intro k hk;rw[h k (List.mem_range.1 hk)]
theorem pF{k:Nat}(h:k<a.length):Lz (eK p a b) (k:Int) (a.getD k 0)=some (eK (λj=>p j||decide (j=k)) a b):=by
 rw[Ye _ (by rw[ZP];exact h)];congr 1;apply Av9 (by simp[ZP]);intro i h1 h2;rw[Azr,BM,BM];by_cases hi:k=i
 ·subst hi;simp
 ·have:¬i=k:=λe=>hi e.symm;simp[hi,this]
theorem oU(h:∀k,k<a.length->p k=true):eK p a b=a:=by
 apply Av9 (by simp[ZP]);intro i h1 h2;rw[BM,Abo (h i h2),Nj h2]
theorem nB(hl:b.length=a.length)(h:∀k,k<a.length->p k=false):eK p a b=b:=by
 apply Av9 (by simp[ZP,hl]);intro i h1 h2;rw[BM,h i F0];simp[List.getD_eq_getElem?_getD,h2]
end
theorem Bau{p:Prop}(h:p:=by rw[Bb];decide):p:=h
end Go.Pl
namespace Go.Pl
open Go Go.Lv
variable{s bits:Int}{x w:Int32}{t p a b:LX}{i:Nat}
theorem wF(a b:Int32):Bv a b=a*b:=by
 rw[Bv,TM,TM,ji,Int32.ofInt_mul,Avd,Avd]
theorem FA(a:Int32): -2147483648<=a.toInt/\a.toInt<2147483648:=⟨a.le_toInt,a.toInt_lt⟩
theorem Fo(a:Int32):(Ad a:Int)=a.toInt:=by
 have:=FA a
 show wrap64 a.toInt=_;rw[Cq]<;>omega
theorem OR(n:Int):(Ad n:Int32)=Int32.ofInt n:=rfl
theorem Aih(x:Int):Int32.ofInt (x %4294967296)=Int32.ofInt x:=by
 apply Int32.toInt_inj.1;rw[Ay3,Ay3];exact Int.emod_bmod x 4294967296
theorem vL(x:Int):Cx x=some (Int32.ofInt x):=by
 have e1:(Ad x:UInt64).toNat=(x %18446744073709551616).toNat:=by
  rw[xw,Ajj,Adl F0]
 have e2:(Ad (Ad x:UInt64):UInt32).toNat=(x %4294967296).toNat:=by
  have e:(Ad (Ad x:UInt64):UInt32)=UInt32.ofNat (Ad x:UInt64).toNat:=by simp only[Ad,Jg,Eu]
  rw[e,Aod,e1];show(x %18446744073709551616).toNat %4294967296=_;omega
 have e3:(Ad (Ad (Ad x:UInt64):UInt32):Int32)=Int32.ofInt ((Ad (Ad x:UInt64):UInt32).toNat:Int):=rfl;rw[Cx,e3,e2,<-Aih x];congr 2;omega
theorem nJ(a b:Int32):Cx (Ae (Ad a:Int) (Ad b:Int))=some (a+b):=by
 have:=FA a;have:=FA b;rw[Fo,Fo,Aj,vL,Int32.ofInt_add,Avd,Avd]
theorem Amf(a b:Int32):Cx (Bv (Ad a:Int) (Ad b:Int))=some (a*b):=by
 have ha:=FA a;have hb:=FA b;have h1: -9223372036854775808<=a.toInt*b.toInt/\a.toInt*b.toInt<=9223372036854775807:=by
  have h2:(a.toInt*b.toInt).natAbs<=2147483648*2147483648:=by
   rw[Int.natAbs_mul];exact Av2 F0 F0
  omega
 rw[Fo,Fo,Ii h1.1 h1.2,vL,Int32.ofInt_mul,Avd,Avd]
def OkF(s:Int)(t p:LX):Prop:=(s=9\/s=10)/\t.length=16/\p.length=16
theorem qT(h:OkF s t p):HX s t p=some 0:=by
 obtain⟨rfl|rfl,_,_⟩:=h<;>rfl
theorem g32{l:LX}{k:Nat}(h:k<l.length):Ak l (k:Int)=some (l.getD k 0):=by
 rw[Cf h];simp[List.getD_eq_getElem?_getD,h]
def fA(t p:LX):Nat->Int32
 |0=>0
 |i+1=>fA t p i+t.getD i 0*p.getD i 0
def half(s:Int):Int32:=if s=9 then 256 else 512
def gF(s:Int)(t p:LX):Int32:=Int32.ofInt ((half s+fA t p 16).toInt.fdiv (if s=9 then 512 else 1024))
theorem O0{s:Int}{t p:LX}(h:OkF s t p):∀(j i q:Nat),i+j=16->j<q->Tg t s p q (half s+fA t p i) (i:Int)=some (gF s t p,0)
 |0,i,q+1,hi,_=>by
  obtain rfl:i=16:=F0
  have hs:=h.1;rw[Tg,IL,Abl Baj,UM,kG,Dj Bae,Aa];obtain rfl|rfl:=hs<;>rfl
 |j+1,i,q+1,hi,hq=>by
  obtain⟨hs,ht,hp⟩:=h;rw[Tg,IL,Abo Az8,g32 F0,Aa,g32 F0,Aa,Aa,Aj (b:=1) F0 F0,VL,wF,Int32.add_assoc];exact O0 ⟨hs,ht,hp⟩ j (i+1) q F0 F0
theorem Al1(h:OkF s t p):QO s t p=some (gF s t p,0):=by
 have hs:=h.1;have h1:=O0 h 16 0 Ar F0 Az9;have e:Ec (1:Int32) (GI.toZ (Am s (1:Int))).toNat=half s+fA t p 0:=by
  obtain rfl|rfl:=hs<;>rfl
 rw[QO,UJ,qT h,Aa,Abl Bac,Dj (by rw[Dz,Ci];simp;omega),Aa,jU,e];exact h1
theorem D9{s:Int}{t p:LX}(ht:t.length=16)(hp:p.length=16){g:Int32}(hg:fA t p 16=g):∀(j i q:Nat),i+j=16->j<q->Lq s t p q (fA t p i).toInt (i:Int)=some g
 |0,i,q+1,hi,_=>by
  obtain rfl:i=16:=F0
  rw[Lq,Xr,Abl Baj,MW,NN,OR,Avd,hg]
 |j+1,i,q+1,hi,hq=>by
  have ih:=D9 (s:=s) ht hp hg j (i+1) q F0 F0;rw[fA]at ih;rw[Lq,Xr,Abo Az8,g32 F0,g32 F0,Aa,Aa,Aa,Aa,Amf,Aa,<-Fo (fA t p i),nJ,Aa,Fo,Aj];exact ih
theorem Ak4(h:OkF s t p):VI s t p=some (fA t p 16):=
 D9 h.2.1 h.2.2 rfl 16 0 Ar F0 Az9
theorem Aiz(x n:Int)(hn:n=512\/n=1024\/n=16\/n=32):(if x.tmod n<0 then x.tdiv n-1 else x.tdiv n)=x.fdiv n:=by
 have hs:n.sign=1:=by obtain rfl|rfl|rfl|rfl:=hn<;>rfl
 rw[Int.tdiv_eq_ediv,Int.tmod_eq_emod,hs,Asz _ F0];by_cases h:0<=x\/n∣x
 ·rw[Abo h,Abo h];obtain rfl|rfl|rfl|rfl:=hn<;>(rw[Abl F0];omega)
 ·rw[Abl h,Abl h];obtain rfl|rfl|rfl|rfl:=hn<;>(rw[Abo F0];omega)
theorem G1(x n:Int)(hn:n=512\/n=1024\/n=16\/n=32)(h: -1000000000000<=x)(h':x<=1000000000000): -1000000000000<=x.tdiv n/\x.tdiv n<=1000000000000:=by
 have hs:n.sign=1:=by obtain rfl|rfl|rfl|rfl:=hn<;>rfl
 rw[Int.tdiv_eq_ediv,hs];by_cases h:0<=x\/n∣x
 ·rw[Abo h];obtain rfl|rfl|rfl|rfl:=hn<;>omega
 ·rw[Abl h];obtain rfl|rfl|rfl|rfl:=hn<;>omega
theorem Av8(x n:Int)(hn:n=512\/n=1024\/n=16\/n=32)(h: -1000000000000<=x)(h':x<=1000000000000):Cy x n=x.tdiv n:=by
 have:=G1 x n hn h h';rw[LN,Cq F0 F0]
theorem zm(x n:Int)(hn:n=512\/n=1024\/n=16\/n=32)(h: -1000000000000<=x)(h':x<=1000000000000):
  (if(Ch (Hu x n) (0:Int))=true then some (Ad (Am (Cy x n) (1:Int)):Int32)else some (Ad (Cy x n):Int32))=some (Int32.ofInt (x.fdiv n)):=by
 have hb:=G1 x n hn h h';rw[Af,Hu,Av8 x n hn h h',Ci,OR,OR,<-Aiz x n hn];by_cases hx:x.tmod n<0
 ·rw[Abo (by simpa using hx),Abo hx]
 ·rw[Abl (by simpa using hx),Abl hx]
theorem Ao9(h:OkF s t p):DT s t p=some (gF s t p):=by
 obtain⟨hs,ht,hp⟩:=h;have h:OkF s t p:=⟨hs,ht,hp⟩;have hx:=FA (fA t p 16+half s);have key:∀n:Int,(n=512\/n=1024)-> (half s).toInt=n/2->gF s t p=Int32.ofInt ((half s+fA t p 16).toInt.fdiv n)->Wk s t p n=some (gF s t p):=by
  intro n hn hh hg;have e2:Cy n (2:Int)=(half s).toInt:=by rw[hh];obtain rfl|rfl:=hn<;>rfl
  rw[Wk,JG,Ak4 h,Aa,e2,<-Fo (half s),nJ,Aa,Dj Baf,Aa,Aa,Fo,zm _ n F0 F0 F0,hg,Int32.add_comm]
 rw[DT,JL];obtain rfl|rfl:=hs
 ·rw[Abo Bat];exact key 512 (.inl rfl) rfl rfl
 ·rw[Abl Bau];exact key 1024 (.inr rfl) rfl rfl
def ko(i:Nat):Int32:=if i=0 then 4 else if i<4 then 2 else 1
def sg(x:Int32):Int32:=if x.toInt<0 then -1 else if 0<x.toInt then 1 else 0
def K9(t p:LX)(w:Int32):LX:=(List.range 16).map λi=>t.getD i 0+ko i*sg (p.getD i 0)*sg w
theorem IV(t p:LX)(w:Int32):(K9 t p w).length=16:=by simp[K9]
theorem W7(t p:LX)(w:Int32)(h:i<16):(K9 t p w).getD i 0=t.getD i 0+ko i*sg (p.getD i 0)*sg w:=by
 rw[Nj (by rw[IV];exact h)];simp[K9]
theorem step_eq(i:Nat):VP (i:Int)=some (ko i):=by
 rw[VP,ko];by_cases h:i=0
 ·rw[Abo (by rw[Bb];simp[h]),Abo h]
 ·rw[Abl Bag,Abl h];by_cases h2:i<4
  ·rw[Abo Az8,Abo h2]
  ·rw[Abl Az8,Abl h2]
theorem Ahw(i:Nat):FF (i:Int)=some (ko i):=by
 rw[FF,ko];by_cases h:i=0
 ·rw[Abo (by rw[Bb];simp[h]),Abo h]
 ·rw[Abl Bag,Abl h];by_cases h2:i<4
  ·rw[Abo (by rw[ND];simp;omega),Abo h2]
  ·rw[Abl (by rw[ND];simp;omega),Abl h2]
theorem W8(a b:Int32):Ch a b=decide (a.toInt<b.toInt):=rfl
theorem Ach(a b:Int32):Dw a b=decide (b.toInt<a.toInt):=rfl
theorem sign_eq(x:Int32):Ub x=some (sg x):=by
 rw[Ub,sg,W8,Ach,show(0:Int32).toInt=0 from rfl];by_cases h:x.toInt<0
 ·rw[Abo (by simpa using h),Abo h]
 ·rw[Abl (by simpa using h),Abl h];by_cases h2:0<x.toInt
  ·rw[Abo (by simpa using h2),Abo h2]
  ·rw[Abl (by simpa using h2),Abl h2]
theorem Afi:sg 0=0:=rfl
theorem toInt_ne(h:x≠0):x.toInt≠0:=λe=>h (Int32.toInt_inj.1 (by rw[e];rfl))
theorem S7(h:x.toInt<0):sg x= -1:=by rw[sg,Abo h]
theorem S8(h:x≠0)(h2:¬x.toInt<0):sg x=1:=by
 have:=toInt_ne h;rw[sg,Abl h2,Abo F0]
theorem iF(i:Nat):ko i=4\/ko i=2\/ko i=1:=by
 unfold ko;by_cases h:i=0
 ·rw[Abo h];exact .inl rfl
 ·rw[Abl h];split;exact .inr (.inl rfl);exact .inr (.inr rfl)
theorem Ah7(hx:x≠0)(hw:w≠0)(h:(x.toInt<0)=(w.toInt<0))(i:Nat):ko i*sg x*sg w=ko i:=by
 by_cases h1:x.toInt<0
 ·rw[S7 h1,S7 (by rw[<-h];exact h1)];obtain e|e|e:=iF i<;>rw[e]<;>decide
 ·rw[S8 hx h1,S8 hw (by rw[<-h];exact h1)];obtain e|e|e:=iF i<;>rw[e]<;>decide
theorem Abz(hx:x≠0)(hw:w≠0)(h:¬(x.toInt<0)=(w.toInt<0))(i:Nat)(a:Int32):a+ko i*sg x*sg w=a-ko i:=by
 have key:ko i*sg x*sg w=-ko i:=by
  by_cases h1:x.toInt<0
  ·have h2:¬w.toInt<0:=λh2=>h (propext ⟨λ_=>h2,λ_=>h1⟩);rw[S7 h1,S8 hw h2];obtain e|e|e:=iF i<;>rw[e]<;>decide
  ·have h2:w.toInt<0:=Decidable.by_contra λh2=>h (propext ⟨λh3=>absurd h3 h1,λh3=>absurd h3 h2⟩);rw[S8 hx h1,S7 h2];obtain e|e|e:=iF i<;>rw[e]<;>decide
 rw[key,Int32.sub_eq_add_neg]
def oZ(i:Nat):Nat->Bool:=λj=>decide (j<i)
theorem G7(h:i<a.length):Lz (eK (oZ i) a b) (i:Int) (a.getD i 0)=some (eK (oZ (i+1)) a b):=by
 rw[pF h];congr 1;apply BK;intro k _;rw[Aks];simp only[oZ,At9,Adf];omega
theorem Ais(e:a.getD i 0=b.getD i 0):eK (oZ i) a b=eK (oZ (i+1)) a b:=by
 apply Azp;intro k _;simp only[oZ,Adf];by_cases h1:k<i
 ·rw[Abo h1,Abo F0]
 ·by_cases h2:k=i
  ·subst h2;rw[Abl h1,Abo F0,e]
  ·rw[Abl h1,Abl F0]
theorem Aar(h:i<a.length):Ak (eK (oZ i) a b) (i:Int)=some (b.getD i 0):=by
 rw[TR h,Abl (by simp[oZ])]
theorem R4{s:Int}{t p:LX}{w:Int32}(hw:w≠0)(ht:t.length=16)(hp:p.length=16):∀(j i q:Nat),i+j=16->j<q->So w p s q (i:Int) (eK (oZ i) (K9 t p w) t)=some (s,K9 t p w,p,0)
 |0,i,q+1,hi,_=>by
  obtain rfl:i=16:=F0
  rw[So,IM,Abl Baj,oU (λk hk=>by rw[IV]at hk;simpa [oZ]using hk)];rfl
 |j+1,i,q+1,hi,hq=>by
  have hl:=IV t p w;have hg:=W7 t p w (i:=i) F0;rw[So,IM,Abo Az8,g32 F0,Aa,Aj (b:=1) F0 F0,Aar F0,step_eq];simp only[Aa];rw[VL,xZ,Ae0,W8,W8,show(0:Int32).toInt=0 from rfl];have ih:=R4 (s:=s) hw ht hp j (i+1) q F0 F0;by_cases hx:p.getD i 0=0
  ·rw[Abo (by rw[hx];rfl),Ais (by rw[hg,hx,Afi,Int32.mul_zero,Int32.zero_mul,Int32.add_zero])];exact ih
  ·rw[Abl (by simpa using hx)];by_cases hs:((p.getD i 0).toInt<0)=(w.toInt<0)
   ·rw[Abo (by rw[Auy];simp only[hs]),show t.getD i 0+ko i=(K9 t p w).getD i 0 by rw[hg,Ah7 hx hw hs],G7 F0,Aa];exact ih
   ·rw[Abl (by rw[Auy,decide_eq_decide];exact λh=>hs (propext h)),show t.getD i 0-ko i=(K9 t p w).getD i 0 by rw[hg,Abz hx hw hs],G7 F0,Aa];exact ih
theorem Ajo(p:LX)(ht:t.length=16):K9 t p 0=t:=by
 apply Av9 (by rw[IV,ht]);intro i h1 h2;have:=W7 t p 0 (i:=i) F0;rw[Nj h1,Nj h2]at this;rw[this,Afi,Int32.mul_zero,Int32.add_zero]
theorem Alv(h:OkF s t p)(w:Int32):aG s t p w=some (s,K9 t p w,p,0):=by
 rw[aG,UT,qT h,Aa,Abl Bac,Ae0];by_cases hw:w=0
 ·rw[Abo (by simpa using hw),hw,Ajo p h.2.1]
 ·have h1:=R4 (s:=s) hw h.2.1 h.2.2 16 0 Ar F0 Az9;rw[nB (by rw[IV,h.2.1]) (λk _=>by simp[oZ])]at h1;rw[Abl (by simpa using hw)];exact h1
theorem oE{s:Int}{t p:LX}{w:Int32}(ht:t.length=16)(hp:p.length=16):∀(j i q:Nat),i+j=16->j<q->Hw w s p q (i:Int) (eK (oZ i) (K9 t p w) t)=some (s,K9 t p w,p)
 |0,i,q+1,hi,_=>by
  obtain rfl:i=16:=F0
  rw[Hw,Qf,Abl Baj,oU (λk hk=>by rw[IV]at hk;simpa [oZ]using hk)];rfl
 |j+1,i,q+1,hi,hq=>by
  have hl:=IV t p w;have hg:=W7 t p w (i:=i) F0;rw[Hw,Qf,Abo Az8,g32 (l:=p) F0,Aj (b:=1) F0 F0,Aar F0,Ahw,sign_eq w,Aa,Aa,Aa,Aa,Aa,sign_eq,Aa,Aa,Aa,VL,wF,wF,<-hg,G7 F0,Aa];exact oE ht hp j (i+1) q F0 F0
theorem Adm(h:OkF s t p)(w:Int32):JF s t p w=some (s,K9 t p w,p):=by
 have h1:=oE (s:=s) (w:=w) h.2.1 h.2.2 16 0 Ar F0 Az9;rw[nB (by rw[IV,h.2.1]) (λk _=>by simp[oZ])]at h1;exact h1
theorem Apk(h:p.length=16):∃a0 a1 a2 a3 a4 a5 a6 a7 a8 a9 b0 b1 b2 b3 b4 b5,p=[a0,a1,a2,a3,a4,a5,a6,a7,a8,a9,b0,b1,b2,b3,b4,b5]:=by
 match p,h with
 |[a0,a1,a2,a3,a4,a5,a6,a7,a8,a9,b0,b1,b2,b3,b4,b5],_=>exact⟨a0,a1,a2,a3,a4,a5,a6,a7,a8,a9,b0,b1,b2,b3,b4,b5,rfl⟩
theorem Aot(h:OkF s t p)(x:Int32):iM s t p x=some (s,t,x::p.take 15,0):=by
 obtain⟨hs,ht,hp⟩:=h;rw[iM,NX,qT ⟨hs,ht,hp⟩,Aa,Abl Bac,show iW (16:Int) 1 16=some ()from rfl,Aa,show iW (16:Int) 0 16=some ()from rfl,Aa,ZI,nG];obtain⟨a0,a1,a2,a3,a4,a5,a6,a7,a8,a9,b0,b1,b2,b3,b4,b5,rfl⟩:=Apk hp;rfl
def U6(p:LX)(i:Nat):LX:=(List.range 16).map λk=>if k<=i then p.getD k 0 else p.getD (k-1) 0
theorem Zq(p:LX)(i:Nat):(U6 p i).length=16:=by simp[U6]
theorem Aqc(p:LX)(i k:Nat)(h:k<16):(U6 p i).getD k 0=if k<=i then p.getD k 0 else p.getD (k-1) 0:=by
 rw[Nj (by rw[Zq];exact h)];simp[U6]
theorem Aqo(p:LX)(i:Nat)(h:i+1<16):Lz (U6 p (i+1)) ((i+1:Nat):Int) (p.getD i 0)=some (U6 p i):=by
 rw[Ye _ (by rw[Zq];exact h)];congr 1;apply Av9 (by simp[Zq]);intro k h1 h2;rw[Zq]at h2;rw[Azr];simp only[U6,Azb,Ay8];by_cases hk:i+1=k
 ·subst hk;rw[Abo rfl,Abl F0];rfl
 ·rw[Abl hk];by_cases h3:k<=i
  ·rw[Abo F0,Abo h3]
  ·rw[Abl F0,Abl h3]
theorem tZ(s:Int)(t p:LX)(x:Int32)(hp:p.length=16):∀(i q:Nat),i<16->i<q->Ip x s t q (i:Int) (U6 p i)=some (s,t,x::p.take 15)
 |0,q+1,_,_=>by
  have hg:Ak (U6 p 0) (0:Int)=some ((U6 p 0).getD 0 0):=g32 (l:=U6 p 0) (k:=0) (by rw[Zq];omega);have hset:Lz (U6 p 0) (0:Int) x=some ((U6 p 0).set 0 x):=Ye (l:=U6 p 0) (n:=0) x (by rw[Zq];omega);rw[Ip,Ru,Abl Bax,CR,DN,hg,Aa,hset,Aa];congr 3;apply Av9 (by simp[Zq,hp]);intro k h1 h2;rw[Axp,Zq]at h1;rw[Azr];cases k with
  |zero=>rw[Abo rfl];rfl
  |succ k=>
   rw[Abl F0];simp only[U6,Azb,Ay8,List.getElem_cons_succ,List.getElem_take];rw[Abl F0,Nat.add_sub_cancel,Nj F0]
 |i+1,q+1,hi,hq=>by
  have hg:=g32 (l:=U6 p (i+1)) (k:=i) (by rw[Zq];omega);rw[Aqc p (i+1) i F0,Abo F0]at hg;have e1:Am ((i+1:Nat):Int) (1:Int)=(i:Int):=by rw[Ci];omega
  have hg2:=g32 (l:=U6 p (i+1)) (k:=i+1) (by rw[Zq];omega);rw[Ip,Ru,Abo Bax,e1,hg,Aa,Aa,hg2,Aa,Aqo p i hi,Aa];exact tZ s t p x hp i q F0 F0
theorem Aik(hp:p.length=16)(x:Int32):MS s t p x=some (s,t,x::p.take 15):=by
 have h:=tZ s t p x hp 15 Ar F0 Az9;have e:U6 p 15=p:=by
  apply Av9 (by rw[Zq,hp]);intro k h1 h2;rw[Zq]at h1;simp only[U6,Azb,Ay8];rw[Abo F0,Nj h2]
 rw[e]at h;exact h
theorem Aka(h:OkF s t p)(w x:Int32):OkF s (K9 t p w) (x::p.take 15):=⟨h.1,IV _ _ _,by simp[h.2.2]⟩
theorem Aqx(h:OkF s t p)(y:Int32):gE s t p y=some (y+gF s t p,s,K9 t p y,(y+gF s t p)::p.take 15,0):=by
 rw[gE,Al1 h,Aa];simp only;rw[Abl Bac,VL,XY,Alv h,Aa];simp only;rw[Aot (s:=s) (t:=K9 t p y) (p:=p) ⟨h.1,IV _ _ _,h.2.2⟩,Aa];rfl
theorem Ag0(h:OkF s t p)(y:Int32):Vn s t p y=some (y+gF s t p,s,K9 t p y,(y+gF s t p)::p.take 15):=by
 rw[Vn,Ao9 h,Aa,nJ,Aa,Adm h,Aa];simp only;rw[Aik h.2.2,Aa]
def sB(bits:Int):Int:=if bits=16 then 9 else 10
def shB(bits:Int):Int:=if bits=8 then 4 else 5
def Cp(bits:Int):Prop:=bits=8\/bits=16\/bits=24
def gs(sh:Int)(last:Int32):Int32:=Ad (Y4 (Am (Ec (Ad last:Int) sh.toNat) (Ad last)) sh.toNat)
theorem Awf(bits:Int):sB bits=9\/sB bits=10:=by unfold sB;split<;>simp
theorem Aqq(bits:Int):0<=shB bits:=by unfold shB;split<;>omega
theorem Ayg(h:Cp bits)(t:LX):oQ bits t=some (sB bits,t,List.replicate 16 0,0):=by
 obtain rfl|rfl|rfl:=h<;>rfl
theorem Au3(h:Cp bits):eJ bits=some (shB bits,0):=by
 obtain rfl|rfl|rfl:=h<;>rfl
theorem Ato{sh:Int}(h:0<=sh)(last:Int32):SI sh last=some (gs sh last):=by
 rw[SI,Dj (by rw[Dz];simpa using h),Aa,Aa];rfl
theorem At6(h:Cp bits)(last:Int32):Vv bits last=some (gs (shB bits) last,0):=by
 rw[Vv,Au3 h,Aa];simp only;rw[Abl Bac,Ato (Aqq bits),Aa]
theorem Adi(h:Cp bits)(last:Int32)(t p:LX):Vt bits last (sB bits) t p=some 0:=by
 rw[Vt,Ayg h,Aa];simp only;rw[Abl (by rw[Ao,Ao];simp)]
theorem Ahk(h:Cp bits)(hF:OkF (sB bits) t p)(last y:Int32):
  Lg bits last (sB bits) t p y=some (y+gF (sB bits) t p+gs (shB bits) last,bits,y+gF (sB bits) t p+gs (shB bits) last,sB bits,K9 t p y,(y+gF (sB bits) t p)::p.take 15,0):=by
 rw[Lg,Adi h,Aa,Abl Bac,At6 h,Aa];simp only;rw[Aqx hF,Aa];simp only;rw[VL]
theorem rT(sh:Int)(hs:sh=4\/sh=5)(last:Int32):Px sh last=some (gs sh last):=by
 have hl:=FA last;have key:∀n:Int,n=16\/n=32->gs sh last=Int32.ofInt (((n-1)*last.toInt).fdiv n)->Rr last n=some (gs sh last):=by
  intro n hn hg;have e:Bv (Am n (1:Int)) (Ad last:Int)=(n-1)*last.toInt:=by
   obtain rfl|rfl:=hn<;>(rw[Fo,Ci,Ii])
  rw[Rr,CW,Dj Baf,Aa,Aa,e,zm _ n F0 (by obtain rfl|rfl:=hn<;>omega) (by obtain rfl|rfl:=hn<;>omega),hg]
 rw[Px,EX];obtain rfl|rfl:=hs
 ·rw[Abl Bau];refine key 16 (.inl rfl) ?_;have e:Ec (Ad last:Int) (4:Int).toNat=last.toInt*16:=by
   rw[Fo];show wrap64 (last.toInt*2^4)=_;rw[Cq]<;>omega
  rw[gs,e,Fo,Ci,OR]
  show Int32.ofInt ((last.toInt*16-last.toInt).fdiv 16)=_;congr 2;omega
 ·rw[Abo Bat];refine key 32 (.inr rfl) ?_;have e:Ec (Ad last:Int) (5:Int).toNat=last.toInt*32:=by
   rw[Fo];show wrap64 (last.toInt*2^5)=_;rw[Cq]<;>omega
  rw[gs,e,Fo,Ci,OR]
  show Int32.ofInt ((last.toInt*32-last.toInt).fdiv 32)=_;congr 2;omega
theorem Ai9(h:Cp bits)(hF:OkF (sB bits) t p)(last y:Int32):
  Vk bits last (sB bits) t p y=some (y+gF (sB bits) t p+gs (shB bits) last,bits,y+gF (sB bits) t p+gs (shB bits) last,sB bits,K9 t p y,(y+gF (sB bits) t p)::p.take 15):=by
 have hb:Yf bits last (sB bits) t p=some (Ad (gs (shB bits) last):Int):=by
  rw[Yf];obtain rfl|rfl|rfl:=h
  ·rw[Abo Bat,rT 4 (.inl rfl),Aa];rfl
  ·rw[Abl Bau,rT 5 (.inr rfl),Aa];rfl
  ·rw[Abl Bau,rT 5 (.inr rfl),Aa];rfl
 rw[Vk,Ag0 hF,Aa];simp only;rw[hb,Aa,nJ,Aa]
theorem Aw3(h:Cp bits)(t:LX):VE bits t=some (bits,0,sB bits,t,List.replicate 16 0,0):=by
 obtain rfl|rfl|rfl:=h<;>rfl
def aJ(n:UInt32):Int32:=if n.toNat %2=0 then Int32.ofInt ((n.toNat/2:Nat):Int)else Int32.ofInt (-((n.toNat/2:Nat):Int)-1)
theorem Aag(a b:Int32):(Yj a b).toBitVec=a.toBitVec^^^b.toBitVec:=by
 show(Int32.ofInt ((BitVec.ofInt 32 a.toBitVec.toInt^^^BitVec.ofInt 32 b.toBitVec.toInt).toNat:Int)).toBitVec=_;rw[BitVec.ofInt_toInt,BitVec.ofInt_toInt,Int32.toBitVec_ofInt,BitVec.ofInt_natCast,BitVec.ofNat_toNat,BitVec.setWidth_eq]
theorem Aw2(m:Nat)(h:m<2147483648):Yj (Int32.ofInt (m:Int)) (Int32.ofInt (-1))=Int32.ofInt (-(m:Int)-1):=by
 apply Int32.toBitVec_inj.1;have e1:(Int32.ofInt (-1)).toBitVec=BitVec.allOnes 32:=F7
 rw[Aag,e1,BitVec.xor_allOnes,Int32.toBitVec_ofInt,Int32.toBitVec_ofInt];apply BitVec.eq_of_toNat_eq;rw[BitVec.toNat_not,Axn,Axn];omega
theorem Alm(n:UInt32):Xf n=some (aJ n):=by
 have hn:=n.toNat_lt;have e1:(Ad (Cn n (GI.toZ (1:UInt64)).toNat):Int32)=Int32.ofInt ((n.toNat/2:Nat):Int):=by
  show Int32.ofInt ((Cn n 1).toNat:Int)=_;rw[VK]
 have e2:(Ad (Er n (1:UInt32)):Int32)=Int32.ofInt ((n.toNat %2:Nat):Int):=by
  show Int32.ofInt ((Er n (1:UInt32)).toNat:Int)=_;rw[uf,UInt32.toNat_and]
  show Int32.ofInt ((n.toNat&&&1:Nat):Int)=_;rw[Nat.and_one_is_mod]
 rw[Xf,e1,e2,aJ];congr 1;by_cases h:n.toNat %2=0
 ·have e3:nH (Int32.ofInt ((n.toNat %2:Nat):Int))=Int32.ofInt 0:=by rw[h];decide
  rw[Abo h,e3];apply Int32.toBitVec_inj.1;rw[Aag,show(Int32.ofInt 0).toBitVec=0#32 from rfl,BitVec.xor_zero]
 ·have e3:nH (Int32.ofInt ((n.toNat %2:Nat):Int))=Int32.ofInt (-1):=by rw[show n.toNat %2=1 by omega];decide
  rw[Abl h,e3,Aw2 _ F0]
theorem Api(n:UInt32):DL n=some (aJ n):=by
 have hn:=n.toNat_lt;have e1:geq (CH n (2:UInt32)) (0:UInt32)=decide (n.toNat %2=0):=by
  rw[T7,oo,Aks];simp only[Auy,<-UInt32.toNat_inj,UInt32.toNat_mod,Adf];rfl
 rw[DL,e1,aJ];by_cases h:n.toNat %2=0
 ·rw[Abo (by simpa using h),Abo h,qo];rfl
 ·have e2:(Ad n:Int)=(n.toNat:Int):=Abu n;rw[Abl (by simpa using h),Abl h,e2,Aj,Acg,Cq F0 F0,LN,Int.tdiv_eq_ediv,OR];congr 2;rw[Abo (.inr F0),Cq F0 F0];omega
theorem Baa{p:Prop}(h:p:=by rw[Ax,Ac];simp;omega):p:=h
end Go.Pl
namespace Go.Pl
open Go Go.Lv
theorem tq{c:Prop} [Decidable c](h:c):Jv (decide c)=some ():=by rw[Axk h];rfl
def unV(f:Nat->Int32)(ch:Nat):Nat->Int32
 |0=>if 1<ch then f (ch-1)+Cy (f (ch-2)) (2:Int32)else f (ch-1)
 |j+1=>unV f ch j-f (ch-2-j)
def zG(ch:Nat)(m:LX):LX:=(List.range m.length).map λk=>unV (λi=>m.getD (k-k %ch+i) 0) ch (ch-1-k %ch)
theorem iD(ch:Nat)(m:LX):(zG ch m).length=m.length:=by simp[zG]
theorem vN{ch:Nat}{m:LX}{a i:Nat}(ha:a %ch=0)(hi:i<ch)(h:a+i<m.length):(zG ch m).getD (a+i) 0=unV (λi=>m.getD (a+i) 0) ch (ch-1-i):=by
 have hb:(a+i) %ch=i:=by rw[Nat.add_mod,ha,Axt,Nat.mod_mod,Adl hi]
 rw[Nj (by rw[iD];exact h)];simp only[zG,Azb,Ay8,hb];rw[show a+i-i=a by omega]
section
variable (ch:Nat) (m:LX)
theorem Akw(h1:1<=ch)(h6:ch<=6)(hm:m.length %ch=0)(hl2:m.length<=4000):WK (ch:Int) m=some 0:=by
 rw[WK,Abl Bah,Abl Baa,Dj Baf,Aa,Abl];rw[Ao,Hu,Ac,<-Int.ofNat_tmod,hm];simp
theorem wD(bk:Int->LX->Option (LX×Int))(at':Nat)(h1:1<=ch)(h6:ch<=6)(hm:at' %ch=0)(hl:at'+ch<=m.length)(hl2:m.length<=4000):∀(i q:Nat),i<=ch-1->i<q->
  Xd bk (ch:Int) (at':Int) q ((i:Int)-1) (eK (λk=>decide (k<at'\/ (at'+i<=k/\k<at'+ch))) (zG ch m) m)=bk ((at'+ch:Nat):Int) (eK (λk=>decide (k<at'+ch)) (zG ch m) m)
 |0,q+1,hi,_=>by
  have e4:Ae (at':Int) (ch:Int)=((at'+ch:Nat):Int):=by rw[Aj];omega
  rw[Xd,NT,Abl Bal,ZG,oG,e4];congr 1;apply BK;intro k _;rw[Aks];simp;omega
 |i+1,q+1,hi,hq=>by
  have hlen:=iD ch m;have e2:Ae (at':Int) (ch:Int)-(at':Int)=(ch:Int):=by rw[Aj];omega
  have e3:Ae (i:Int) 1=((i+1:Nat):Int):=by rw[Aj];omega
  have hv:((zG ch m).getD (at'+(i+1)) 0-m.getD (at'+i) 0)=(zG ch m).getD (at'+i) 0:=by
   rw[vN hm F0 F0,vN hm F0 F0,show ch-1-i=(ch-1-(i+1))+1 by omega,unV,show ch-2-(ch-1-(i+1))=i by omega]
  rw[Xd,NT,show((i+1:Nat):Int)-1=(i:Int) by omega,Abo Bal,e2,e3,tq F0,Aa,tq F0,Aa,
   show(at':Int)+((i+1:Nat):Int)=((at'+(i+1):Nat):Int) by omega,show(at':Int)+(i:Int)=((at'+i:Nat):Int) by omega,
   TR F0,Aa,TR F0,Aa,Aa,Abo F9,Abl F9,xZ,hv,pF F0,Aa,Ci]
  have ih:=wD bk at' h1 h6 hm hl hl2 i q F0 F0;rw[<-ih];congr 1;apply BK;intro k _;rw[Aks];simp;omega
theorem zn{at' ch n:Nat}(ha:at' %ch=0)(hm:n %ch=0)(h:at'<n):at'+ch<=n:=by
 have d1:=Nat.div_add_mod at' ch;have d2:=Nat.div_add_mod n ch;rw[ha,Axs]at d1;rw[hm,Axs]at d2;have hlt:at'/ch<n/ch:=by
  rcases Azd (at'/ch) (n/ch)with h'|h'
  ·exact h'
  ·have:=Nat.mul_le_mul_left ch h';omega
 have:=Nat.mul_le_mul_left ch (show at'/ch+1<=n/ch from hlt);rw[Nat.mul_add]at this;omega
theorem M3(h1:1<=ch)(h6:ch<=6)(hm:m.length %ch=0)(hl2:m.length<=4000):∀(j at' q:Nat),at' %ch=0->at'<=m.length->m.length-at'<=j->j<q->
  Ro (ch:Int) q (at':Int) (eK (λk=>decide (k<at')) (zG ch m) m)=some (zG ch m,0)
 |j,at',q+1,ha,hle,hj,hq=>by
  have hlen:=iD ch m;have hl:Ac (eK (λk=>decide (k<at')) (zG ch m) m)=(m.length:Int):=by rw[Ac,ZP,hlen]
  rw[Ro,YB,hl];by_cases h:at'<m.length
  ·have hb:=zn ha hm h;obtain⟨j,rfl⟩:∃k,j=k+1:=⟨j-1,F0⟩;have e1:Am (Ae (at':Int) (ch:Int)-(at':Int)) 1=((ch-1:Nat):Int):=by rw[Aj,Ci];omega
   have e2:Ae (at':Int) (ch:Int)-(at':Int)=(ch:Int):=by rw[Aj];omega
   have e4:Ae (at':Int) (ch:Int)=((at'+ch:Nat):Int):=by rw[Aj];omega
   have hi:=wD ch m (Ro (ch:Int) q) at' h1 h6 ha hb hl2 (ch-1) Ar F0 Az9;have hrest:=M3 h1 h6 hm hl2 j (at'+ch) q (by rw[Azy,ha]) hb F0 F0;have hstart:ZN (Ro (ch:Int) q) (ch:Int) (at':Int) (eK (λk=>decide (k<at'\/ (at'+(ch-1)<=k/\k<at'+ch))) (zG ch m) m)=some (zG ch m,0):=by
    have e6:Am ((ch-1:Nat):Int) 1=((ch-1:Nat):Int)-1:=Ci;rw[ZN,XS,YG,e1,e6];exact Axr hi hrest
   rw[Abo Az8,show iW (m.length:Int) (at':Int) (Ae (at':Int) (ch:Int))=some () by rw[e4,iW,tq];omega,Aa,e1,e2];have hlast:=vN (m:=m) ha (show ch-1<ch by omega) F0;rw[show ch-1-(ch-1)=0 by omega,unV]at hlast;by_cases hc:1<ch
   ·have e5:Am ((ch-1:Nat):Int) 1=((ch-2:Nat):Int):=by rw[Ci];omega
    rw[Abo hc]at hlast;rw[Abo Bad,tq F0,Aa,e5,tq F0,Aa,show(at':Int)+((ch-1:Nat):Int)=((at'+(ch-1):Nat):Int) by omega,show(at':Int)+((ch-2:Nat):Int)=((at'+(ch-2):Nat):Int) by omega,
     TR F0,Aa,TR F0,Aa,Aa,Abl Bab,Abl Bab,VL,<-hlast,pF F0,Aa]
    rw[<-hstart];congr 1;apply BK;intro k _;rw[Aks];simp;omega
   ·have hc1:ch=1:=F0
    rw[Abl Bad,<-hstart];congr 1;rw[Abl hc]at hlast;apply Azp;intro k hk;by_cases hk2:k=at'
    ·subst hk2;rw[Abl Bab,Abo F9];rw[show k+(ch-1)=k by omega]at hlast;exact hlast.symm
    ·by_cases hk3:k<at'
     ·rw[Abo F9,Abo F9]
     ·rw[Abl F9,Abl F9]
  ·rw[Abl Az8,oU (λk hk=>by simp;omega)];rfl
theorem Aps(h1:1<=ch)(h6:ch<=6)(hm:m.length %ch=0)(hl2:m.length<=4000):nW (ch:Int) m=some (zG ch m,0):=by
 have hlen:=iD ch m;have h:=M3 ch m h1 h6 hm hl2 m.length 0 Ar Bab F0 F0 Az9;rw[nW,gK,Akw ch m h1 h6 hm hl2,Aa,Abl Bac,Em,Cr F9,Aa,Aa,Ass,oN];rw[nB hlen.symm (λk _=>by simp)]at h;exact h
end
def sF(f:Nat->Int32)(ch:Nat):LX:=(List.range ch).map λi=>unV f ch (ch-1-i)
theorem WB(f:Nat->Int32)(ch:Nat):(sF f ch).length=ch:=by simp[sF]
theorem pJ(f:Nat->Int32){ch i:Nat}(h:i<ch):(sF f ch).getD i 0=unV f ch (ch-1-i):=by
 rw[Nj (by rw[WB];exact h)];simp[sF]
theorem Amm(a b:Int32):Cx (Am (Ad a:Int) (Ad b:Int))=some (a-b):=by
 have:=FA a;have:=FA b;rw[Fo,Fo,Ci,vL,Int32.ofInt_sub,Avd,Avd]
theorem Aig(a b:Int32):Cx (Ae (Ad a:Int) (Cy (Ad b:Int) (2:Int)))=some (a+Cy b (2:Int32)):=by
 have:=FA a;have hb:=FA b;have hd: -2147483648<=b.toInt.tdiv 2/\b.toInt.tdiv 2<=2147483648:=by
  rw[Int.tdiv_eq_ediv,show Int.sign 2=1 from rfl];by_cases h:0<=b.toInt\/2∣b.toInt
  ·rw[Abo h];omega
  ·rw[Abl h];omega
 have e:Cy b (2:Int32)=Int32.ofInt (b.toInt.tdiv 2):=rfl;rw[Fo,Fo,LN,Cq F0 F0,Aj,vL,Int32.ofInt_add,Avd,e]
theorem nR(seg z:LX)(ch:Nat)(h6:ch<=6)(hs:seg.length=ch)(hz:z.length=ch):∀(i q:Nat),i+1<=ch->i<q->
  Hq seg q ((i:Int)-1) (eK (λk=>decide (i<=k)) (sF (λi=>seg.getD i 0) ch) z)=some (sF (λi=>seg.getD i 0) ch)
 |0,q+1,hi,_=>by
  rw[Hq,Qq,Abl Bal,oU (λk hk=>by simp)];rfl
 |i+1,q+1,hi,hq=>by
  have hlen:=WB (λi=>seg.getD i 0) ch;have e3:Ae (i:Int) 1=((i+1:Nat):Int):=by rw[Aj];omega
  have hv:(sF (λi=>seg.getD i 0) ch).getD (i+1) 0-seg.getD i 0=(sF (λi=>seg.getD i 0) ch).getD i 0:=by
   rw[pJ _ F0,pJ _ F0,show ch-1-i=(ch-1-(i+1))+1 by omega,unV,show ch-2-(ch-1-(i+1))=i by omega]
  rw[Hq,Qq,show((i+1:Nat):Int)-1=(i:Int) by omega,Abo Bal,e3,TR F0,Aa,g32 F0,Aa,Aa,Abo Bab,Amm,Aa,TR F0,Aa,hv,pF F0,Aa,Ci];have ih:=nR seg z ch h6 hs hz i q F0 F0;rw[<-ih];congr 1;apply BK;intro k _;rw[Aks];simp;omega
theorem Aaj{l:LX}{i:Nat}(v:Int32)(h:i<l.length):(l.set i v).getD i 0=v:=by
 rw[Nj (by rw[Axp];exact h)];simp
theorem Abs(seg:LX)(ch:Nat)(h1:1<=ch)(h6:ch<=6)(hs:seg.length=ch):Wh seg=some (sF (λi=>seg.getD i 0) ch):=by
 have hlen:=WB (λi=>seg.getD i 0) ch;have hzl:(List.replicate ch (0:Int32)).length=ch:=by simp
 have e1:Am (Ac seg) 1=((ch-1:Nat):Int):=by rw[Ac,hs,Ci];omega
 have e2:Am (Ac seg) 2=((ch-1:Nat):Int)-1:=by rw[Ac,hs,Ci];omega
 have hlast:=pJ (λi=>seg.getD i 0) (show ch-1<ch by omega);rw[show ch-1-(ch-1)=0 by omega,unV]at hlast;have hend:∀z:LX,z.length=ch->z.getD (ch-1) 0=(sF (λi=>seg.getD i 0) ch).getD (ch-1) 0->Qi seg z=some (sF (λi=>seg.getD i 0) ch):=by
  intro z hz hzl;have h:=nR seg z ch h6 hs hz (ch-1) Ar F0 Az9;have e:eK (λk=>decide (ch-1<=k)) (sF (λi=>seg.getD i 0) ch) z=z:=by
   apply Av9 (by rw[ZP,hlen,hz]);intro k k1 k2;rw[BM];by_cases hk:ch-1<=k
   ·obtain rfl:k=ch-1:=F0
    rw[Abo Bab,<-hzl,Nj k2]
   ·rw[Abl (by simpa using hk),Nj k2]
  rw[e]at h;rw[Qi,CD,e2];exact h
 rw[Wh,BC,Ac,hs,D1,Aa,Dj Ba0,Aa];rw[Ac,hs]at e1;rw[Ac,hs]at e2;have hz1:(List.replicate (Int.toNat (ch:Int)) (0:Int32)).length=ch:=by simp
 have hs1:=g32 (l:=seg) (k:=ch-1) F0;rw[e1,hs1,Aa,g32 F0,Aa,Ye _ F0,Aa];by_cases hc:1<ch
 ·rw[Abo hc]at hlast;have e3:((ch-1:Nat):Int)-1=((ch-2:Nat):Int):=F0
  have hs2:=g32 (l:=seg) (k:=ch-2) F0;rw[Abo Bad,Aa,e2,e3,hs2,Aa,Aig,Aa,g32 (by rw[Axp];omega),Aa,Ye _ (by rw[Axp];omega),Aa];refine hend _ Bab ?_;rw[hlast,Aaj _ (by rw[Axp];omega)]
 ·rw[Abl hc]at hlast;rw[Abl Bad];refine hend _ Bab ?_;rw[hlast,Aaj _ F0]
theorem Aqu(ch:Nat)(m:LX)(h1:1<=ch)(h6:ch<=6)(hm:m.length %ch=0)(hl2:m.length<=4000):Rj (ch:Int) m=some 0:=by
 rw[Rj,Abl Bah,Abl Baa,Dj Baf,Aa,Abl];rw[Ax,Hu,Ac,<-Int.ofNat_tmod,hm];simp
theorem sW(ch:Nat)(m:LX)(h1:1<=ch)(h6:ch<=6)(hm:m.length %ch=0)(hl2:m.length<=4000):∀(j at' q:Nat),at' %ch=0->at'<=m.length->m.length-at'<=j->j<q->
  Oq (ch:Int) m q (at':Int) ((zG ch m).take at')=some (zG ch m,0)
 |j,at',q+1,ha,hle,hj,hq=>by
  have hlen:=iD ch m;rw[Oq,LA];by_cases h:at'<m.length
  ·have hb:=zn ha hm h;have e4:Ae (at':Int) (ch:Int)=((at'+ch:Nat):Int):=by rw[Aj];omega
   have hrest:=sW ch m h1 h6 hm hl2 (j-1) (at'+ch) q (by rw[Azy,ha]) hb F0 F0;have hseg:((m.take (at'+ch)).drop at').length=ch:=by simp;omega
   have htl:((zG ch m).take at').length=at':=by simp[hlen];omega
   rw[Abo F5,e4,DD,Aa,show((at'+ch:Nat):Int).toNat=at'+ch from rfl,show(at':Int).toNat=at' from rfl,Abs _ ch h1 h6 hseg,Aa,Cr (by rw[htl,WB];omega),Aa];have e:(zG ch m).take at'++sF (λi=>((m.take (at'+ch)).drop at').getD i 0) ch=(zG ch m).take (at'+ch):=by
    apply Av9 (by rw[Abq,htl,WB,Agw,hlen];omega);intro k k1 k2;rw[Agw,hlen]at k2;rw[List.getElem_append,List.getElem_take];by_cases hk:k<at'
    ·rw[dif_pos (by rw[htl];exact hk),List.getElem_take]
    ·rw[dif_neg (by rw[htl];exact hk)];have hu:=vN (m:=m) ha (show k-at'<ch by omega) F0;rw[show at'+(k-at')=k by omega,Nj F0]at hu;have hx:∀n,n<=ch->unV (λi=>((m.take (at'+ch)).drop at').getD i 0) ch n=unV (λi=>m.getD (at'+i) 0) ch n:=by
      have hf:∀i,i<ch-> ((m.take (at'+ch)).drop at').getD i 0=m.getD (at'+i) 0:=by
       intro i hi;rw[Nj F0,Nj F0];simp
      intro n
      induction n with
      |zero=>
       intro _;rw[unV,unV,hf _ F0];split
       ·rw[hf _ F0]
       ·rfl
      |succ n ih=>intro hn;rw[unV,unV,ih F0,hf _ F0]
     have hy:=pJ (λi=>((m.take (at'+ch)).drop at').getD i 0) (show k-at'<ch by omega);rw[Nj (by rw[WB];omega)]at hy;rw[hu,<-hx _ F0,<-hy];congr 1;rw[htl]
   rw[e];exact hrest
  ·rw[Abl F5,Axo F0];rfl
theorem Ah4(ch:Nat)(m:LX)(h1:1<=ch)(h6:ch<=6)(hm:m.length %ch=0)(hl2:m.length<=4000):DM (ch:Int) m=some (zG ch m,0):=by
 have h:=sW ch m h1 h6 hm hl2 m.length 0 Ar Bab F0 F0 Az9;rw[DM,JJ,Aqu ch m h1 h6 hm hl2,Aa,Abl Bac];exact h
def pre{α:Type}(ch c:Nat)(f:α->Nat->α)(a0:α):Nat->α
 |0=>a0
 |m+1=>if m %ch=c then f (pre ch c f a0 m) m else pre ch c f a0 m
theorem Agh{α:Type}(ch c:Nat)(f:α->Nat->α)(a0:α):∀m,m<=c->c<ch->pre ch c f a0 m=a0
 |0,_,_=>rfl
 |m+1,h,h2=>by rw[pre,Abl (by rw[Adl F0];omega),Agh ch c f a0 m F0 h2]
theorem ku{α:Type}(ch c i:Nat)(f:α->Nat->α)(a0:α)(hi:i %ch=c)(hc:c<ch):∀j,j<ch->pre ch c f a0 (i+1+j)=pre ch c f a0 (i+1)
 |0,_=>rfl
 |j+1,h=>by
  have hne:(i+1+j) %ch≠c:=by
   intro e;have h1:(i+(1+j)) %ch=i %ch:=by rw[hi,<-e];congr 1;omega
   have h2:(1+j) %ch=0:=by
    have h3:=Nat.sub_mod_eq_zero_of_mod_eq h1;rwa [Axw]at h3
   rw[Adl F0]at h2;omega
  rw[show i+1+(j+1)=(i+1+j)+1 by omega,pre,Abl hne,ku ch c i f a0 hi hc j F0]
theorem Ak2{α:Type}(ch c i:Nat)(f:α->Nat->α)(a0:α)(hi:i %ch=c)(hc:c<ch):pre ch c f a0 (i+ch)=f (pre ch c f a0 i) i:=by
 have h:=ku ch c i f a0 hi hc (ch-1) F0;rw[show i+1+(ch-1)=i+ch by omega]at h;rw[h,pre,Abo hi]
abbrev CS:=Int32×LX×LX
def Ajw(bits:Int)(s:CS)(y:Int32):Int32:=y+gF (sB bits) s.2.1 s.2.2+gs (shB bits) s.1
def Afe(bits:Int)(s:CS)(y:Int32):CS:=(Ajw bits s y,K9 s.2.1 s.2.2 y,(y+gF (sB bits) s.2.1 s.2.2)::s.2.2.take 15)
def cst(bits:Int)(ch:Nat)(t:LX)(v:LU)(c:Nat):Nat->CS:=pre ch c (λs i=>Afe bits s (aJ (v.getD i 0))) (0,t,List.replicate 16 0)
def OkC(bits:Int)(s:CS):Prop:=OkF (sB bits) s.2.1 s.2.2
theorem Ads(bits:Int)(ch:Nat){t:LX}(ht:t.length=16)(v:LU)(c:Nat):∀m,OkC bits (cst bits ch t v c m)
 |0=>⟨Awf bits,ht,by simp[cst,pre]⟩
 |m+1=>by
  have ih:=Ads bits ch ht v c m;rw[cst,pre];split
  ·exact Aka ih _ _
  ·exact ih
def vJ(bits:Int)(ch:Nat)(t:LX)(v:LU):LX:=(List.range v.length).map λi=>Ajw bits (cst bits ch t v (i %ch) i) (aJ (v.getD i 0))
theorem iJ(bits:Int)(ch:Nat)(t:LX)(v:LU):(vJ bits ch t v).length=v.length:=by simp[vJ]
theorem Afy(bits:Int)(ch:Nat)(t:LX)(v:LU){i:Nat}(h:i<v.length):(vJ bits ch t v).getD i 0=Ajw bits (cst bits ch t v (i %ch) i) (aJ (v.getD i 0)):=by
 rw[Nj (by rw[iJ];exact h)];simp[vJ]
abbrev CL:=Int×Int32×(Int×LX×LX×Unit)×Unit
def toC(bits:Int)(s:CS):CL:=(bits,s.1,(sB bits,s.2.1,s.2.2,()),())
def cts(bits:Int)(ch:Nat)(t:LX)(v:LU)(i:Nat):List CL:=(List.range 6).map λc=>toC bits (cst bits ch t v c i)
theorem Arp{bits:Int}{ch:Nat}{t:LX}{v:LU}{i c:Nat}(h:c<6):Ak (cts bits ch t v i) (c:Int)=some (toC bits (cst bits ch t v c i)):=by
 rw[Cf (by simp[cts];exact h)];simp[cts]
theorem qw(bits:Int)(ch:Nat)(t:LX)(v:LU)(c m:Nat):cst bits ch t v c (m+1)=if m %ch=c then Afe bits (cst bits ch t v c m) (aJ (v.getD m 0))else cst bits ch t v c m:=rfl
theorem Aq6{bits:Int}{ch:Nat}{t:LX}{v:LU}{i c:Nat}(h:c<6)(hc:i %ch=c):Lz (cts bits ch t v i) (c:Int) (toC bits (Afe bits (cst bits ch t v c i) (aJ (v.getD i 0))))=some (cts bits ch t v (i+1)):=by
 rw[Ye _ (by simp[cts];exact h)];congr 1;apply Av9 (by simp[cts]);intro k h1 h2;rw[Azr];simp only[cts,Azb,Ay8];by_cases hk:c=k
 ·subst hk;rw[Abo rfl,qw,Abo hc]
 ·rw[Abl hk,qw,Abl F0]
section
variable {bits:Int} {ch:Nat} {t:LX} {v:LU}
theorem ni(hb:Cp bits)(ht:t.length=16)(h1:1<=ch)(h6:ch<=6)(hv:v.length<=4000):∀(j i q:Nat),i+j=v.length->j<q->
  Is v (ch:Int) bits q (i:Int) (cts bits ch t v i) ((vJ bits ch t v).take i)=Lp (ch:Int) bits (vJ bits ch t v)
 |0,i,q+1,hi,_=>by
  rw[Is,Ln,Abl F5,Axo (by rw[iJ];omega)]
 |j+1,i,q+1,hi,hq=>by
  have hlen:=iJ bits ch t v;have hc:i %ch<6:=Aob (Axu _ F0) h6;have hok:=Ads bits ch ht v (i %ch) i;have hs:=Aq6 (bits:=bits) (ch:=ch) (t:=t) (v:=v) (i:=i) hc rfl;have hx:=Afy bits ch t v (i:=i) F0;have hcb:=Ahk hb hok (cst bits ch t v (i %ch) i).1 (aJ (v.getD i 0));have ih:=ni hb ht h1 h6 hv j (i+1) q F0 F0;rw[ON F0,<-Nj F0,hx]at ih;rw[Is,Ln,Abo F5,E4 F0,Aa,Dj Baf,Aa,wO,Arp hc,Aa,Aa,Alm,Aa];refine Axr (congrArg (λo=>Option.bind o _) hcb) ?_;rw[Aa];simp only;rw[Yd,NB,Abl Bac,wO];refine Axr (congrArg (λo=>Option.bind o _) hs) ?_;rw[Aa,Cr F9,Aa,Aj];exact ih
theorem Ai3(hb:Cp bits)(ht:t.length=16)(h1:1<=ch)(h6:ch<=6)(hv:v.length<=4000):Se (ch:Int) bits t v=Lp (ch:Int) bits (vJ bits ch t v):=by
 have h:=ni hb ht h1 h6 hv v.length 0 Ar F0 Az9;have e:Ar=(Ar-7)+1+1+1+1+1+1+1:=by have:=Aq;omega
 have hs:Yh v (ch:Int) bits t 0 (List.replicate 6 ((0:Int),(0:Int32),((0:Int),(List.replicate 16 (0:Int32)),(List.replicate 16 (0:Int32)),()),()))=NO v (ch:Int) bits (cts bits ch t v 0):=by
  rw[Yh,e];obtain rfl|rfl|rfl:=hb<;>rfl
 rw[Se,AP,hs];exact h
theorem N5(bk:Int->LX->Option LX)(hb:Cp bits)(ht:t.length=16)(h1:1<=ch)(h6:ch<=6)(hv:v.length<=4000)(z:LX)(c:Nat)(hc:c<ch):∀(j i q:Nat),i %ch=c->v.length-i<=j->i<=5000->j<q->
  Kz bk v (ch:Int) bits t (c:Int) q (i:Int) (eK (λk=>decide (k %ch<c\/ (k %ch=c/\k<i))) (vJ bits ch t v) z) bits (cst bits ch t v c i).1 (sB bits) (cst bits ch t v c i).2.1 (cst bits ch t v c i).2.2=
   bk ((c+1:Nat):Int) (eK (λk=>decide (k %ch<c+1)) (vJ bits ch t v) z)
 |j,i,q+1,hi,hj,hi5,hq=>by
  have hlen:=iJ bits ch t v;rw[Kz,BP];by_cases h:i<v.length
  ·have hok:=Ads bits ch ht v c i;have hst:=Ai9 hb hok (cst bits ch t v c i).1 (aJ (v.getD i 0));have hx:=Afy bits ch t v (i:=i) h;rw[hi]at hx;have ih:=N5 bk hb ht h1 h6 hv z c hc (j-1) (i+ch) q (by rw[Azy];exact hi) F0 F0 F0;have Asp:cst bits ch t v c (i+ch)=Afe bits (cst bits ch t v c i) (aJ (v.getD i 0)):=Ak2 ch c i _ _ hi hc;rw[Asp]at ih;have hset:=pF (p:=λk=>decide (k %ch<c\/ (k %ch=c/\k<i))) (a:=vJ bits ch t v) (b:=z) (k:=i) F0;rw[hx]at hset;have Abn:eK (λj=>decide (j %ch<c\/ (j %ch=c/\j<i))||decide (j=i)) (vJ bits ch t v) z=eK (λk=>decide (k %ch<c\/ (k %ch=c/\k<i+ch))) (vJ bits ch t v) z:=by
    apply BK;intro k _;rw[Aks];simp only[At9,Adf];constructor
    ·rintro((h1|h1)|h1)
     ·exact .inl h1
     ·exact .inr ⟨h1.1,F0⟩
     ·subst h1;exact .inr ⟨hi,F0⟩
    ·rintro(h1|⟨h1,h2⟩)
     ·exact .inl (.inl h1)
     ·by_cases h3:k<i
      ·exact .inl (.inr ⟨h1,h3⟩)
      ·refine .inr ?_;have h4:(i+(k-i)) %ch=i %ch:=by rw[show i+(k-i)=k by omega,h1,hi]
       have h5:=Nat.sub_mod_eq_zero_of_mod_eq h4;rw[Axw,Adl F0]at h5;omega
   rw[Abn]at hset;rw[Abo F5,E4 h,Aa,Api,Aa];refine Axr (congrArg (λo=>Option.bind o _) hst) ?_;rw[Aa];simp only;rw[BY,BQ,TR F0,Aa];refine Axr (congrArg (λo=>Option.bind o _) hset) ?_;rw[Aa,AX,BI,Aj];exact ih
  ·rw[Abl F5,BE,BU,Aj];have Abn:eK (λk=>decide (k %ch<c\/ (k %ch=c/\k<i))) (vJ bits ch t v) z=eK (λk=>decide (k %ch<c+1)) (vJ bits ch t v) z:=by
    apply BK;intro k hk;rw[Aks];simp only[Adf];omega
   rw[Abn];rfl
theorem P5(hb:Cp bits)(ht:t.length=16)(h1:1<=ch)(h6:ch<=6)(hv:v.length<=4000)(z:LX):∀(j c q:Nat),c+j=ch->j<q->
  Fm v (ch:Int) bits t q (c:Int) (eK (λk=>decide (k %ch<c)) (vJ bits ch t v) z)=Qg (ch:Int) bits (vJ bits ch t v)
 |0,c,q+1,hc,_=>by
  rw[Fm,Qh,Abl Az8,oU (λk hk=>by have:=Axu k (show 0<ch by omega);simp;omega)]
 |j+1,c,q+1,hc,hq=>by
  have ih:=P5 hb ht h1 h6 hv z j (c+1) q F0 F0;have hin:=N5 (Fm v (ch:Int) bits t q) hb ht h1 h6 hv z c F0 v.length c Ar (Adl F0) F0 F0 Az9;have h0:cst bits ch t v c c=(0,t,List.replicate 16 0):=Agh ch c _ _ c (An1 _) F0;rw[h0]at hin;have Abn:eK (λk=>decide (k %ch<c\/ (k %ch=c/\k<c))) (vJ bits ch t v) z=eK (λk=>decide (k %ch<c)) (vJ bits ch t v) z:=by
   apply BK;intro k hk;have:=Nat.mod_le k ch;rw[Aks];simp only[Adf];omega
  rw[Abn]at hin;rw[Fm,Qh,Abo Az8,Aw3 hb,Aa];simp only;rw[BT];exact Axr hin ih
theorem Aii(hb:Cp bits)(ht:t.length=16)(h1:1<=ch)(h6:ch<=6)(hv:v.length<=4000)(hm:v.length %ch=0):Pu (ch:Int) bits t v=some (zG ch (vJ bits ch t v)):=by
 have hlen:=iJ bits ch t v;have h:=P5 hb ht h1 h6 hv (List.replicate v.length 0) ch 0 Ar F0 Az9;rw[nB (by rw[hlen];simp) (λk _=>by simp)]at h;rw[Pu,DH,Ac,D1,Aa,Dj Ba0,Aa,CE];refine Axr h ?_;rw[Qg,BR,Ah4 ch _ h1 h6 (by rw[hlen];exact hm) F0,Aa]
end
def hB(bits:Int):Int:=if bits=8 then 128 else if bits=16 then 32768 else 8388608
theorem Akv{bits:Int}(h:Cp bits):LD bits=some (Int32.ofInt (-(hB bits)),Int32.ofInt (hB bits-1),0):=by
 obtain rfl|rfl|rfl:=h<;>decide
theorem tG{bits:Int}(h:Cp bits):Uz bits=some (hB bits):=by
 obtain rfl|rfl|rfl:=h<;>rfl
theorem kV(bits:Int):0<hB bits/\hB bits<=8388608:=by
 unfold hB;split; · omega
 ·split<;>omega
theorem zI{bits:Int}(h:Cp bits)(l:LX)(hl:l.length<=4000):∀(j i q:Nat),i+j=l.length->j<q->
  Qe (Int32.ofInt (-(hB bits))) (Int32.ofInt (hB bits-1)) l q (i:Int)=Bs l (hB bits) q (i:Int)
 |0,i,q+1,hi,_=>by
  rw[Qe,CY,Bs,Ey,Abl F5,Abl F5];rfl
 |j+1,i,q+1,hi,hq=>by
  have hh:=kV bits;have ih:=zI h l hl j (i+1) q F0 F0;have e1:(Int32.ofInt (-(hB bits))).toInt= -(hB bits):=by rw[Ay3,Azz (by show -(4294967296/2:Int)<= _;omega) (by show _<(4294967296+1)/2;omega)]
  have e2:(Int32.ofInt (hB bits-1)).toInt=hB bits-1:=by rw[Ay3,Azz (by show -(4294967296/2:Int)<= _;omega) (by show _<(4294967296+1)/2;omega)]
  rw[Qe,CY,Bs,Ey,Abo F5,Abo F5,g32 F0,Aa,Aa,Aa,Fo,Acg,Cq F0 F0,Aj,W8,Ach,e1,e2,Af,Dz];generalize(l.getD i 0).toInt=X;by_cases h1:X< -(hB bits)
  ·rw[Abo F9,Abo F9]
  ·rw[Abl (c:=decide (X<0-hB bits)=true) F9];by_cases h2:hB bits<=X
   ·rw[Abo F9,Abo F9]
   ·rw[Abl F9,Abl F9];exact ih
theorem C3{bits:Int}(h:Cp bits)(l:LX)(hl:l.length<=4000):Vu bits l=Bn bits l:=by
 have hh:=kV bits;rw[Vu,QU,Akv h,Aa,Bn,Jn,tG h,Aa];simp only;rw[Abl Bac,Abl Baa,Abl Bag,Abl Baa];exact zI h l hl l.length 0 Ar F0 Az9
theorem Ady{bits:Int}(h:Cp bits)(l:LX)(hl:l.length<=4000):∃e,Bn bits l=some e:=by
 have hh:=kV bits;have key:∀(j i q:Nat),i+j=l.length->j<q->∃e,Bs l (hB bits) q (i:Int)=some e:=by
  intro j
  induction j with
  |zero=>
   intro i q hi hq;obtain⟨q,rfl⟩:∃k,q=k+1:=⟨q-1,F0⟩;rw[Bs,Ey,Abl F5];exact⟨_,rfl⟩
  |succ j ih=>
   intro i q hi hq;obtain⟨q,rfl⟩:∃k,q=k+1:=⟨q-1,F0⟩;rw[Bs,Ey,Abo F5,g32 F0,Aa,Aa,Aj];split
   ·exact⟨_,rfl⟩
   ·split
    ·exact⟨_,rfl⟩
    ·exact ih (i+1) q F0 F0
 obtain⟨e,he⟩:=key l.length 0 Ar F0 Az9;rw[Bn,Jn,tG h,Aa,Abl Bag,Abl Baa];exact⟨e,he⟩
theorem oD{bits:Int}{ch:Nat}{t:LX}{v:LU}(hb:Cp bits)(ht:t.length=16)(h1:1<=ch)(h6:ch<=6)(hv:v.length<=4000)(hm:v.length %ch=0):
  ∃l e,Pu (ch:Int) bits t v=some l/\Yi (ch:Int) bits l=some (if e≠0 then([],e)else(l,0))/\Se (ch:Int) bits t v=some (if e≠0 then([],e)else(l,0))/\Bn bits l=some e/\l.length=v.length:=by
 have hlen:=iJ bits ch t v;have hul:=iD ch (vJ bits ch t v);obtain⟨e,he⟩:=Ady hb (zG ch (vJ bits ch t v)) F0;refine⟨zG ch (vJ bits ch t v),e,Aii hb ht h1 h6 hv hm,?_,?_,he,F0⟩
 ·rw[Yi,he,Aa];by_cases h:e=0
  ·rw[Abl (by rw[Ao];simpa using h),Abl (by simpa using h)]
  ·rw[Abo (by rw[Ao];simpa using h),Abo h]
 ·rw[Ai3 hb ht h1 h6 hv,Lp,MT,Aps ch _ h1 h6 (by rw[hlen];exact hm) F0,Aa];simp only;rw[Abl Bac,C3 hb _ F0,he,Aa];by_cases h:e=0
  ·rw[Abl (by rw[Ao];simpa using h),Abl (by simpa using h)]
  ·rw[Abo (by rw[Ao];simpa using h),Abo h]
def eC(s:Nat):Nat:=(s/2)^^^ (if s %2=1 then 3988292384 else 0)
theorem D8{s:Nat}(h:s<4294967296):eC s<4294967296:=by
 unfold eC;exact Avf (n:=32) F9 (by split<;>decide)
theorem vk(x y:Nat):(x^^^y)/2=(x/2)^^^ (y/2):=by
 have:=Nat.shiftRight_xor_distrib (a:=x) (b:=y) (i:=1);simpa [Nat.shiftRight_eq_div_pow]using this
theorem Ah8(x y:Nat):eC (x^^^y)=eC x^^^eC y:=by
 have h:(x^^^y) %2=(x %2+y %2) %2:=by
  have:=Nat.xor_mod_two_eq_one (a:=x) (b:=y);have h1:(x^^^y) %2<2:=Axu _ F0;omega
 simp only[eC,vk,h];have hx:x %2=0\/x %2=1:=F0
 have hy:y %2=0\/y %2=1:=F0
 rcases hx with hx|hx<;>rcases hy with hy|hy<;>simp only[hx,hy]<;>simp
 ·rw[Axb]
 ·rw[Axb,Az2 (y/2),Axb,Az2 3988292384 (y/2)]
 ·rw[Axb,Az2 3988292384,Axb,Nat.xor_self];simp
def Xo:Nat->Nat->Nat
 |0,s=>s
 |k+1,s=>Xo k (eC s)
theorem O8:∀(k x y:Nat),Xo k (x^^^y)=Xo k x^^^Xo k y
 |0,_,_=>rfl
 |k+1,x,y=>by rw[Xo,Ah8,O8 k];rfl
theorem M5:∀(k h:Nat),Xo k (2^k*h)=h
 |0,h=>by simp[Xo]
 |k+1,h=>by
  have:eC (2^(k+1)*h)=2^k*h:=by
   rw[As2,Aso (2^k) 2,Axl,eC,Abl F0,Nat.mul_div_cancel_left _ F0];simp
  rw[Xo,this,M5 k]
theorem wX:∀(k:Nat) {s:Nat},s<4294967296->Xo k s<4294967296
 |0,_,h=>h
 |k+1,_,h=>wX k (D8 h)
def tL(s c:Nat):Nat:=Xo 8 (s^^^c)
theorem wS{s c:Nat}(h:s<4294967296)(hc:c<256):tL s c<4294967296:=wX 8 (Avf (n:=32) (by simpa using h) F9)
theorem uy{s c:Nat}(hc:c<256):tL s c=(s/256)^^^Xo 8 ((s %256)^^^c):=by
 have h:s=(2^8*(s/256))^^^ (s %256):=by
  have h1:s %256<2^8:=by simpa using Axu s (by omega:256>0)
  have:=Avh h1 (s/256);have h2:2^8*(s/256)|||s %256=(2^8*(s/256))^^^ (s %256):=by
   apply Nat.eq_of_testBit_eq;intro i;rw[Nat.testBit_or,Nat.testBit_xor];by_cases hi:i<8
   ·have:(2^8*(s/256)).testBit i=false:=by rw[Nat.testBit_two_pow_mul];simp;omega
    rw[this];simp
   ·have:(s %256).testBit i=false:=Nat.testBit_lt_two_pow (Aob h1 (Ajg F0 F0));rw[this];simp
  omega
 rw[tL]
 conv=>lhs;rw[h]
 rw[Axb,O8,M5]
def Ahl(s:Nat)(l:LB):Nat:=l.foldl (λs c=>tL s c.toNat) s
def Hi(b:LB):UInt32:=4294967295-UInt32.ofNat (Ahl 4294967295 b)
theorem Ape(s:UInt32)(c:Nat)(hc:c<256):ES s (Ad (CH (UInt8.ofNat c) (2:UInt8)):Int)=some (UInt32.ofNat (s.toNat/2^^^ (if(s.toNat^^^c) %2=1 then 3988292384 else 0))):=by
 have h1:(Ad (CH (UInt8.ofNat c) (2:UInt8)):Int)=((c %2:Nat):Int):=by
  rw[OO,Arc,UInt8.toNat_mod,Ao0];show((c %256 %2:Nat):Int)=_;omega
 have h2:geq (CH s (2:UInt32)) (1:UInt32)=decide (s.toNat %2=1):=by
  rw[T7,oo,Aks];simp only[Auy,Adf];rw[<-UInt32.toNat_inj,UInt32.toNat_mod];rfl
 have h3:Cy s (2:UInt32)=UInt32.ofNat (s.toNat/2):=by
  apply UInt32.toNat_inj.1;rw[qo,UInt32.toNat_div,Aod]
  show s.toNat/2=_;have:=s.toNat_lt;omega
 have h4:Yj (Cy s (2:UInt32)) (3988292384:UInt32)=UInt32.ofNat (s.toNat/2^^^3988292384):=by
  apply UInt32.toNat_inj.1;rw[h3,mY,UInt32.toNat_xor,Aod,Aod];have:=s.toNat_lt;rw[Adl (a:=s.toNat/2) F0,Adl]
  ·rfl
  ·exact Avf (n:=32) F0 F7
 have hx:(s.toNat^^^c) %2=(s.toNat %2+c %2) %2:=by
  have:=Nat.xor_mod_two_eq_one (a:=s.toNat) (b:=c);have h1:(s.toNat^^^c) %2<2:=Axu _ F0;omega
 have hs:s.toNat %2=0\/s.toNat %2=1:=F0
 have hc2:c %2=0\/c %2=1:=F0
 rw[ES,IZ,h1,h2,hx];rcases hs with hs|hs<;>rcases hc2 with hc2|hc2<;>simp[hs,hc2,Bb,JK,KD,mY,h3]
theorem tE:∀(j i q:Nat) (s:UInt32) (c:Nat),i+j=8->j<q->c<2^j->Kr q s (UInt8.ofNat c) (i:Int)=some (UInt32.ofNat (Xo j (s.toNat^^^c)))
 |0,i,q+1,s,c,hi,_,hc=>by
  obtain rfl:i=8:=F0
  obtain rfl:c=0:=by simpa using hc
  rw[Kr,Wi,Abl Baj,LH,KO,Xo];simp
 |j+1,i,q+1,s,c,hi,hq,hc=>by
  have hc8:c<256:=Aob hc (show 2^(j+1)<=2^8 from Ajg F0 F0);rw[Kr,Wi,Abo Az8,Ape s c hc8,Aa,Aj];have e:Cy (UInt8.ofNat c) (2:UInt8)=UInt8.ofNat (c/2):=by
   apply UInt8.toNat_inj.1;rw[Aqv,UInt8.toNat_div,Ao0,Ao0]
   show c %256/2=_;omega
  rw[e];have h:=tE j (i+1) q (UInt32.ofNat (s.toNat/2^^^ (if(s.toNat^^^c) %2=1 then 3988292384 else 0))) (c/2) F0 F0 (by rw[As2]at hc;omega);rw[show((i:Int)+1)=((i+1:Nat):Int) by omega,h,Aod,Xo];congr 3;have:=s.toNat_lt;rw[Adl,eC,vk,Axb,Axb,Az2 (c/2)];exact Avf (n:=32) F0 (by split<;>decide)
theorem Aqs(s:UInt32)(c:UInt8):TN s c=some (UInt32.ofNat (tL s.toNat c.toNat)):=by
 have h:=tE 8 0 Ar s c.toNat F0 Az9 (by simpa using c.toNat_lt);rw[UInt8.ofNat_toNat]at h;exact h
theorem jP(b:LB)(hb:b.length<4611686018427387904):∀(j i q:Nat) (s:UInt32),i+j=b.length->j<q->Ik b q s (i:Int)=some (UInt32.ofNat (Ahl s.toNat (b.drop i)))
 |0,i,q+1,s,hi,_=>by
  rw[Ik,Rg,Abl F5,show i=b.length by omega,Axj];simp[FO,DW,Ahl]
 |j+1,i,q+1,s,hi,hq=>by
  have hlt:i<b.length:=F0
  rw[Ik,Rg,Abo F5,Cf hlt,Aa,Aqs,Aa,Aj];have h:=jP b hb j (i+1) q (UInt32.ofNat (tL s.toNat b[i].toNat)) F0 F0;rw[show((i:Int)+1)=((i+1:Nat):Int) by omega,h,drop_cons hlt,Aod,Adl (wS s.toNat_lt b[i].toNat_lt)];rfl
theorem Aj0(b:LB)(hb:b.length<4611686018427387904):Sg b=some (Hi b):=by
 have h:=jP b hb b.length 0 Ar 4294967295 F0 Az9;rw[Sg,MU,DR,EK,show((0:Int))=((0:Nat):Int)from rfl,h,Aa,qg];rfl
theorem Are(c:UInt32):Yj (Cn c (GI.toZ (1:UInt64)).toNat) (Bv (3988292384:UInt32) (Er c (1:UInt32)))=UInt32.ofNat (eC c.toNat):=by
 apply UInt32.toNat_inj.1;have e:(GI.toZ (1:UInt64)).toNat=1:=rfl;have h1:(Cn c 1).toNat=c.toNat/2:=by rw[VK]
 have h2:(Bv (3988292384:UInt32) (Er c (1:UInt32))).toNat=if c.toNat %2=1 then 3988292384 else 0:=by
  rw[Am2,uf,UInt32.toNat_mul,UInt32.toNat_and]
  show 3988292384*(c.toNat&&&1) %4294967296=_;rw[Nat.and_one_is_mod];have:c.toNat %2=0\/c.toNat %2=1:=F0
  rcases this with h|h<;>simp[h]
 rw[e,mY,UInt32.toNat_xor,h1,h2,Aod,Adl (D8 c.toNat_lt)];rfl
theorem mo(Mp:Int->LU->Option (UInt32×Int))(s:UInt32)(b:LB)(x:Int)(t:LU):∀(j i q:Nat) (c:UInt32),i+j=8->j<q->
  Qc Mp s b x t q c (i:Int)=DQ Mp s b x (UInt32.ofNat (Xo j c.toNat)) t
 |0,i,q+1,c,hi,_=>by
  obtain rfl:i=8:=F0
  rw[Qc,DF,Abl Baj,Xo,UInt32.ofNat_toNat]
 |j+1,i,q+1,c,hi,hq=>by
  rw[Qc,DF,Abo Az8,Are,Aj,show((i:Int)+1)=((i+1:Nat):Int) by omega,mo Mp s b x t j (i+1) q _ F0 F0,Aod,Adl (D8 c.toNat_lt)];rfl
def tbl(n:Nat):LU:=(List.range n).map λi=>UInt32.ofNat (Xo 8 i)
theorem Agj(s:UInt32)(b:LB):∀(j i q:Nat),i+j=256->j<q->Mt s b q (i:Int) (tbl i++List.replicate j 0)=QF s b (tbl 256)
 |0,i,q+1,hi,_=>by
  obtain rfl:i=256:=F0
  rw[Mt,EZ,Abl Baj];simp
 |j+1,i,q+1,hi,hq=>by
  have hlen:(tbl i++List.replicate (j+1) 0).length=i+(j+1):=by simp[tbl]
  rw[Mt,EZ,Abo Az8,PC];have h:=mo (Mt s b q) s b (i:Int) (tbl i++List.replicate (j+1) 0) 8 0 Ar (Ad (i:Int)) F0 Az9;rw[show((0:Int))=((0:Nat):Int)from rfl,h,DQ,eN,Cf (by rw[hlen];omega),Aa,Ye _ (by rw[hlen];omega),Aa,fV,dE,Aj];have e:(Ad (i:Int):UInt32).toNat=i:=by rw[Q3,Aod,Adl F0]
  rw[e,Axc,gR (by simp[tbl])];have h2:=Agj s b j (i+1) q F0 F0;have h3:tbl (i+1)=tbl i++[UInt32.ofNat (Xo 8 i)]:=by simp[tbl,List.range_succ]
  rw[h3]at h2;rw[show((i:Int)+1)=((i+1:Nat):Int) by omega,<-h2];simp
theorem Ap0{i:Nat}(h:i<256):Ak (tbl 256) (i:Int)=some (UInt32.ofNat (Xo 8 i)):=by
 rw[Cf (by simpa [tbl]using h)];simp[tbl]
theorem Ann(s:UInt32)(c:UInt8):Ak (tbl 256) (GI.toZ (Yj (Ad s:UInt8) c))=some (UInt32.ofNat (Xo 8 ((s.toNat %256)^^^c.toNat))):=by
 have e:GI.toZ (Yj (Ad s:UInt8) c)=(((s.toNat %256)^^^c.toNat:Nat):Int):=by
  rw[AU,Aem,UInt8.toNat_xor,lR,Ao0]
 rw[e,Ap0];exact Avf (n:=8) F9 (by simpa using c.toNat_lt)
theorem Ah5(s:UInt32)(c:UInt8):Yj (Cn s (GI.toZ (8:UInt64)).toNat) (UInt32.ofNat (Xo 8 ((s.toNat %256)^^^c.toNat)))=UInt32.ofNat (tL s.toNat c.toNat):=by
 apply UInt32.toNat_inj.1;have hlt:Xo 8 ((s.toNat %256)^^^c.toNat)<4294967296:=wX 8 (Avf (n:=32) F9 (by have:=c.toNat_lt;simp;omega));have e:(GI.toZ (8:UInt64)).toNat=8:=rfl;rw[e,mY,UInt32.toNat_xor,VK,Aod,Aod,Adl hlt,Adl (wS s.toNat_lt c.toNat_lt),uy c.toNat_lt]
theorem zw(b:LB)(hb:b.length<4611686018427387904):∀(j i q:Nat) (s:UInt32),i+j=b.length->j<q->Qk b (tbl 256) q s (i:Int)=some (UInt32.ofNat (Ahl s.toNat (b.drop i)),0)
 |0,i,q+1,s,hi,_=>by
  rw[Qk,EY,Abl F5,show i=b.length by omega,Axj];simp[PR,dV,Ahl]
 |j+1,i,q+1,s,hi,hq=>by
  have hlt:i<b.length:=F0
  rw[Qk,EY,Abo F5,Cf hlt,Aa,Ann,Aa,Aa,Ah5,Aj];have h:=zw b hb j (i+1) q (UInt32.ofNat (tL s.toNat b[i].toNat)) F0 F0;rw[show((i:Int)+1)=((i+1:Nat):Int) by omega,h,drop_cons hlt,Aod,Adl (wS s.toNat_lt b[i].toNat_lt)];rfl
theorem Ao5(s:UInt32)(b:LB)(hb:b.length<=100000):ZW s b=some (UInt32.ofNat (Ahl s.toNat b),0):=by
 have h:=Agj s b 256 0 Ar F0 Az9;have h2:=zw b F0 b.length 0 Ar s F0 Az9;rw[ZW,UQ,Abl Baa,dJ];refine Axr h ?_;rw[QF,PW,dW,QC,QJ];exact h2
theorem Ako(a:UInt32):B3 a=4294967295-a:=by
 have h:=a.toNat_lt;have e:B3 a=UInt32.ofNat (BitVec.ofInt 32 4294967295^^^BitVec.ofInt 32 (a.toNat:Int)).toNat:=Eu _;apply UInt32.toNat_inj.1;rw[e,Aod,UInt32.toNat_sub_of_le _ _ (by rw[UInt32.le_iff_toNat_le];show a.toNat<=4294967295;omega)];have h1:BitVec.ofInt 32 (a.toNat:Int)=a.toBitVec:=Z4 a;have h2:(BitVec.ofInt 32 4294967295:BitVec 32)=BitVec.allOnes 32:=F7
 rw[h1,h2,BitVec.allOnes_xor,BitVec.toNat_not];show(4294967296-1-a.toNat) %4294967296=4294967295-a.toNat;omega
theorem Aco(b:LB)(hb:b.length<=100000):Wu b=some (Hi b,0):=by
 rw[Wu,Ao5 _ _ hb,Aa];simp only[Ao,Ako];rfl
theorem Aed:∀{l m:LB},l.length=m.length->El l=El m->l=m
 |[],[],_,_=>rfl
 |x::l,y::m,h,e=>by
  simp only[El]at e;have hx:=x.toNat_lt;have hy:=y.toNat_lt;have h1:x=y:=UInt8.toNat_inj.1 F0;rw[h1,Aed (l:=l) (m:=m) (by simpa using h) F0]
theorem Y2:∀(w n:Nat),El (FU n w)=n %256^w
 |0,n=>by simp[FU,El,Nat.mod_one]
 |w+1,n=>by
  rw[FU,El,Y2 w (n/256),Ao0,show(256:Nat)^(w+1)=256*256^w by rw[As2,Aso],Nat.mod_mul]
def Ui(b:LB):Int:=
 if b.length<5 then 24 else if 41254<b.length then 4 else if(Hi (b.take (b.length-4))).toNat≠El (b.drop (b.length-4))then 22 else 0
theorem zi(b:LB):EB b=some (if Ui b≠0 then([],Ui b)else(b.take (b.length-4),0)):=by
 rw[EB];by_cases h1:b.length<5
 ·have hS:Ui b=24:=by rw[Ui,Abo h1]
  rw[Abo F5,hS];rfl
 rw[Abl F5];by_cases h2:41254<b.length
 ·have hS:Ui b=4:=by rw[Ui,Abl h1,Abo h2]
  rw[Abo Baa,hS];rfl
 have e4:Am (Ac b) 4=((b.length-4:Nat):Int):=by rw[Ac,Ci];omega
 have hd:(b.drop (b.length-4)).length=4:=by simp;omega
 rw[Abl Baa,e4,Cw,Aa,show((b.length-4:Nat):Int).toNat=b.length-4 from rfl,Aco _ F9,Aa];simp only;rw[Abl Bac,Cz,Aa,show((b.length-4:Nat):Int).toNat=b.length-4 from rfl,Aak _ F0 F0,Aa];have hne:Bg (jR (b.drop (b.length-4))) (Ad (Hi (b.take (b.length-4))):UInt64)=decide ((Hi (b.take (b.length-4))).toNat≠El (b.drop (b.length-4))):=by
  have hlt:=(Hi (b.take (b.length-4))).toNat_lt;rw[NU,Aks];simp only[Azg,ne_eq,<-Aza,Adf];rw[UC F0,Iz,Ajj,Adl F0];exact⟨λh e=>h e.symm,λh e=>h e.symm⟩
 simp only;rw[hne,Aa];by_cases h3:(Hi (b.take (b.length-4))).toNat≠El (b.drop (b.length-4))
 ·have hS:Ui b=22:=by rw[Ui,Abl h1,Abl h2,Abo h3]
  rw[Abo (by simp[h3]),hS];rfl
 ·have hS:Ui b=0:=by rw[Ui,Abl h1,Abl h2,Abl h3]
  rw[Abl (by rw[Avx h3];decide),hS];rfl
theorem Aie(b:LB)(hb:b.length<=1000000):Xz b=some (b++FU (Hi b).toNat 4):=by
 have h:∀k:Nat,(Ad (Cn (Hi b) k):UInt8)=UInt8.ofNat ((Hi b).toNat/2^k):=by
  intro k;rw[lR,VK]
 have h0:(Ad (Hi b):UInt8)=UInt8.ofNat (Hi b).toNat:=lR _;have h1:=h 8;have h2:=h 16;have h3:=h 24;rw[Xz,Aj0 b F0,Aa,Cr F9,Aa,Cr F9,Aa,h0,show(GI.toZ (8:UInt64)).toNat=8 from rfl,show(GI.toZ (16:UInt64)).toNat=16 from rfl,show(GI.toZ (24:UInt64)).toNat=24 from rfl,h1,h2,h3];simp only[FU,Ayu,Ass]
theorem xQ(b:LB):Pv b=some (Ui b):=by
 rw[Pv];by_cases h1:b.length<5
 ·rw[Abo F5,Ui,Abo h1]
 rw[Abl F5];by_cases h2:41254<b.length
 ·rw[Abo Baa,Ui,Abl h1,Abo h2]
 have e4:Am (Ac b) 4=((b.length-4:Nat):Int):=by rw[Ac,Ci];omega
 have hd:(b.drop (b.length-4)).length=4:=by simp;omega
 rw[Abl Baa,e4,Cw,Aa,show((b.length-4:Nat):Int).toNat=b.length-4 from rfl,Aie _ F9,Aa];have hlt:=(Hi (b.take (b.length-4))).toNat_lt;have hiff:(b.take (b.length-4)++FU (Hi (b.take (b.length-4))).toNat 4 !=b)=decide ((Hi (b.take (b.length-4))).toNat≠El (b.drop (b.length-4))):=by
  rw[Aks];simp only[Azg,ne_eq,Adf];constructor
  ·intro h e;apply h;have:FU (Hi (b.take (b.length-4))).toNat 4=b.drop (b.length-4):=Aed (by rw[On,hd]) (by rw[Y2,Adl F0,e]);rw[this,Azj]
  ·intro h e;apply h;have hx:FU (Hi (b.take (b.length-4))).toNat 4=b.drop (b.length-4):=by
    have e2:b.take (b.length-4)++FU (Hi (b.take (b.length-4))).toNat 4=b.take (b.length-4)++b.drop (b.length-4):=by rw[e,Azj]
    exact List.append_cancel_left e2
   rw[<-hx,Y2,Adl F0]
 rw[hiff];by_cases h3:(Hi (b.take (b.length-4))).toNat≠El (b.drop (b.length-4))
 ·rw[Abo (by simp[h3]),Ui,Abl h1,Abl h2,Abo h3]
 ·rw[Abl (by rw[Avx h3];decide),Ui,Abl h1,Abl h2,Abl h3]
theorem Aa2{b:LB}(h:Ui b=0):5<=b.length/\b.length<=41254:=by
 unfold Ui at h;split at h
 ·simp at h
 ·split at h
  ·simp at h
  ·omega
theorem Aea{c:Nat}(h1:1<=c)(h6:c<=6):Cy (4000:Int) (c:Int)=((4000/c:Nat):Int):=by
 have:c=1\/c=2\/c=3\/c=4\/c=5\/c=6:=F0
 rcases this with rfl|rfl|rfl|rfl|rfl|rfl<;>rfl
theorem Aop(p:LB)(h:p.length<=41250):okB p (8*p.length):=⟨F0,F0,λk h1 h2=>by omega⟩
theorem JR{bits:Int}{ch n:Nat}{t:LX}(b:LB)(hb:Cp bits)(ht:t.length=16)(h1:1<=ch)(h6:ch<=6)(n1:1<=n)(n2:n<=4000/ch):
  ∃l e,Mq (ch:Int) bits t (n:Int) b=some (l,e)/\Ev (ch:Int) bits t (n:Int) b=some (l,e)/\ (e=0->Bn bits l=some 0/\l.length<=4000/\l.length=n*ch)/\ (e≠0->l=[]):=by
 have hn:n*ch<=4000:=by
  have:=Ad9 ch n2;have h2:=Awm 4000 ch;omega
 have hq4:=Aea h1 h6;generalize 4000/ch=mm at*
 have hck:Tf (ch:Int) bits=some 0:=by
  have hr:∃x y,LD bits=some (x,y,0):=⟨_,_,Akv hb⟩;obtain⟨x,y,hr⟩:=hr;rw[Tf,hr,Aa];simp only;rw[Abl (by simp[Ao,Af,Ax];omega)]
 have hh:=kV bits;have Ad6:Nd (ch:Int) bits (n:Int)=some 0:=by
  rw[Nd,AO,Abl Bah,tG hb,Aa,Abl Bag,Aa,Abl (by simp[Ao,Af];omega),Dj Baf,Aa,hq4,Abl Bad]
 rw[Mq,Ev,Ry,hck,Ad6,Aa,Aa,Abl Bac,Abl Az8,Dj Baf,Aa,hq4,Abl Bad,Abl Bac,zi,xQ];by_cases hs:Ui b≠0
 ·rw[Abo hs];simp only[Aa];rw[Abo (by rw[Ao];simpa using hs),Abo (by rw[Ao];simpa using hs)];exact⟨[],Ui b,rfl,rfl,λe=>absurd e hs,λ_=>rfl⟩
 have hs0:Ui b=0:=by simpa using hs
 have hlen:=Aa2 hs0;have e4:Am (Ac b) 4=((b.length-4:Nat):Int):=by rw[Ac,Ci];omega
 rw[Abl hs,hs0];simp only[Aa];rw[Abl Bac,Abl Bac,e4,Cw,Aa,show((b.length-4:Nat):Int).toNat=b.length-4 from rfl];have hpl:(b.take (b.length-4)).length=b.length-4:=by simp
 generalize b.take (b.length-4)=p at*
 have e8:Bv (8:Int) (Ac p)=((8*p.length:Nat):Int):=by rw[Ac,Ii];omega
 have hp:=Aop p F0;have hv:=values_eq hp h1 h6 hn;have hr:=Afd (N:=8*p.length) (p:=p) rfl F0 h1 h6 hn;have hat:=vC (ch:=ch) (p:=p) (N:=8*p.length) (n*ch) 0 [] F0;rw[Z5,Abl Baa,Gm,Cr F9,Aa,Aa,Aa,Ass,e8];simp only;rw[Abl Bac,hv,hr,Aa,Aa];generalize Xh ch p (8*p.length) (n*ch) 0 []=V at*
 obtain⟨v,at',e⟩:=V;simp only at*
 by_cases he:e≠0
 ·rw[Abo he,Abo he];simp only;rw[Abo (by rw[Ao];simpa using he),Ib,Io,Abo (by rw[Ao];simpa using he)];exact⟨[],e,rfl,rfl,λh=>absurd h he,λ_=>rfl⟩
 have he0:e=0:=by simpa using he
 have hvl:=hat.2.2 he0;simp only[List.length_nil,Axt]at hvl;rw[Abl he,Abl he];simp only;rw[Abl Bac,Ci,show((8*p.length:Nat):Int)-(at':Int)=((8*p.length-at':Nat):Int) by omega,Ib,Io];by_cases h7:7<8*p.length-at'
 ·have hE:(if 7<8*p.length-at'\/Ct p at' (8*p.length-at')≠0 then(12:Int)else 0)=12:=Abo (.inl h7);rw[Abo Bae,hE,Abo F7];exact⟨[],12,rfl,rfl,λh=>absurd h F7,λ_=>rfl⟩
 rw[Abl Bae,sH hp at' _ F0,Abl F0,Aa];have hz:Bg (Vj p at' (8*p.length-at')) (0:UInt64)=decide (Ct p at' (8*p.length-at')≠0):=by
  rw[NU,Aks];simp only[Azg,ne_eq,<-Aza,Adf];rw[FJ p _ _ F0];rfl
 simp only;rw[hz];by_cases hv0:Ct p at' (8*p.length-at')≠0
 ·have hE:(if 7<8*p.length-at'\/Ct p at' (8*p.length-at')≠0 then(12:Int)else 0)=12:=Abo (.inr hv0);rw[Abo (by simp[hv0]),hE,Abo F7];exact⟨[],12,rfl,rfl,λh=>absurd h F7,λ_=>rfl⟩
 have hm:v.length %ch=0:=by rw[hvl];exact Ayf n ch
 obtain⟨l,e,g1,g2,g3,g4,g5⟩:=oD (v:=v) hb ht h1 h6 F0 hm;have hE:(if 7<8*p.length-at'\/Ct p at' (8*p.length-at')≠0 then(12:Int)else 0)=0:=Abl F0;rw[Abl (by rw[Avx hv0];decide),hE,Abl F7,g1,g3,Aa,Aa,g2];by_cases hl:e≠0
 ·rw[Abo hl];exact⟨[],e,rfl,rfl,λh=>absurd h hl,λ_=>rfl⟩
 ·rw[Abl hl];have hl0:e=0:=by simpa using hl
  exact⟨l,0,rfl,rfl,λ_=>⟨by rw[g4,hl0],F0,F0⟩,λe=>absurd rfl e⟩
def mxV(f:Nat->Int32)(ch i:Nat):Int32:=if i+1<ch then f (i+1)-f i else if 1<ch then f (ch-1)-Cy (f (ch-1)-f (ch-2)) (2:Int32)else f (ch-1)
def mx(ch:Nat)(x:LX):LX:=(List.range x.length).map λk=>mxV (λi=>x.getD (k-k %ch+i) 0) ch (k %ch)
def Aws(x:Int32):UInt32:=UInt32.ofNat (if 0<=x.toInt then 2*x.toInt.toNat else 2*(-x.toInt-1).toNat+1)
def Ax5(bits:Int)(s:CS)(x:Int32):Int32:=x-gs (shB bits) s.1-gF (sB bits) s.2.1 s.2.2
def evl(bits:Int)(ch:Nat)(t m:LX):Nat->LU
 |0=>[]
 |i+1=>evl bits ch t m i++[Aws (Ax5 bits (cst bits ch t (evl bits ch t m i) (i %ch) i) (m.getD i 0))]
theorem Baq{p:Prop}(h:p:=by rw[Abq];omega):p:=h
end Go.Pl
namespace Go.Pl
open Go Go.Lv
variable{c d:List Bool}{a s:Nat}{p:Prop}
def tb(l:List Bool)(k:Nat):Nat:=if l.getD k false=true then 1 else 0
theorem Aoo(b:Bool)(l:List Bool):tb (b::l) 0=if b=true then 1 else 0:=rfl
theorem Ap3(b:Bool)(l:List Bool)(k:Nat):tb (b::l) (k+1)=tb l k:=by simp[tb]
theorem Aqd{a b:List Bool}{k:Nat}(h:k<a.length):tb (a++b) k=tb a k:=by
 rw[tb,tb,List.getD_eq_getElem?_getD,List.getD_eq_getElem?_getD,List.getElem?_append_left h]
theorem Apc(a b:List Bool)(k:Nat):tb (a++b) (a.length+k)=tb b k:=by
 rw[tb,tb,List.getD_eq_getElem?_getD,List.getD_eq_getElem?_getD,List.getElem?_append_right F0,Axw]
def At(p:LB)(a:Nat)(c:List Bool):Prop:=∀i,i<c.length->Km p (a+i)=tb c i
theorem At.left{p:LB}(h:At p a (c++d)):At p a c:=λi hi=>by
 rw[h i Baq,Aqd hi]
theorem At.right{p:LB}(h:At p a (c++d)):At p (a+c.length) d:=λi hi=>by
 rw[Aue,h (c.length+i) Baq,Apc]
theorem At.cons{p:LB}{b:Bool}(h:At p a (b::c)):Km p a=(if b=true then 1 else 0)/\At p (a+1) c:=by
 have h0:=h 0 Bab;rw[Axs,Aoo]at h0;refine⟨h0,λi hi=>?_⟩;have:=h (i+1) F9;rw[Ap3]at this;rw[show a+1+i=a+(i+1) by omega,this]
def Aef:Nat->Nat->List Bool
 |_,0=>[]
 |v,n+1=>decide (v %2=1)::Aef (v/2) n
def Avt(l v:Nat):List Bool:=if 48<=v/2^l then List.replicate 48 true++Aef v 32 else List.replicate (v/2^l) true++(false::Aef (v %2^l) l)
def Awt(k l:Nat)(v:UInt32):List Bool:=if v.toNat<2^k then false::Aef v.toNat k else true::Avt l (v.toNat-2^k)
def bv:List Bool->Nat
 |[]=>0
 |b::r=>(if b=true then 1 else 0)+2*bv r
def Awk(c:List Bool):LB:=(List.range ((c.length+7)/8)).map λj=>UInt8.ofNat (bv ((c.drop (8*j)).take 8))
def Awz(ch:Nat)(V:LU):Nat->List Bool
 |0=>[]
 |i+1=>Awz ch V i++Awt (now ch (V.take i)).1 (now ch (V.take i)).2.1 (V.getD i 0)
def P64:Nat:=4823603603198064275
def MH(s:Nat):Nat:=(2*s %18446744073709551616)^^^ (s/9223372036854775808*P64)
theorem XG(h:s<18446744073709551616):MH s<18446744073709551616:=by
 have h1:s/9223372036854775808=0\/s/9223372036854775808=1:=F0
 exact Avf (n:=64) (Axu _ F7) (by rcases h1 with e|e<;>rw[e]<;>decide)
theorem Agn(x y:Nat):(x^^^y)/9223372036854775808=(x/9223372036854775808)^^^ (y/9223372036854775808):=by
 have:=Nat.shiftRight_xor_distrib (a:=x) (b:=y) (i:=63);simpa [Nat.shiftRight_eq_div_pow]using this
theorem Afj(x y:Nat):2*(x^^^y) %18446744073709551616=(2*x %18446744073709551616)^^^ (2*y %18446744073709551616):=by
 have h1:=Nat.shiftLeft_xor_distrib (a:=x) (b:=y) (i:=1);have h2:=Nat.xor_mod_two_pow (a:=2*x) (b:=2*y) (n:=64);have e:2*(x^^^y)=(2*x)^^^ (2*y):=by simpa [Nat.shiftLeft_eq,Aso]using h1
 rw[e];exact h2
theorem Ap8{b:Nat}(ha:a=0\/a=1)(hb:b=0\/b=1)(p:Nat):(a^^^b)*p=(a*p)^^^ (b*p):=by
 rcases ha with rfl|rfl<;>rcases hb with rfl|rfl<;>simp
theorem Ax3(a b c d:Nat):(a^^^b)^^^ (c^^^d)=(a^^^c)^^^ (b^^^d):=by
 rw[Axb,Axb,<-Axb b c d,Az2 b c,Axb c b d]
theorem Acl{x y:Nat}(hx:x<18446744073709551616)(hy:y<18446744073709551616):MH (x^^^y)=MH x^^^MH y:=by
 rw[MH,MH,MH,Afj,Agn,Ap8 F0 F0,Ax3]
def Nx:Nat->Nat->Nat
 |0,s=>s
 |k+1,s=>Nx k (MH s)
theorem qH:∀(k:Nat) {s:Nat},s<18446744073709551616->Nx k s<18446744073709551616
 |0,_,h=>h
 |k+1,_,h=>qH k (XG h)
theorem zB:∀(k:Nat) {x y:Nat},x<18446744073709551616->y<18446744073709551616->Nx k (x^^^y)=Nx k x^^^Nx k y
 |0,_,_,_,_=>rfl
 |k+1,x,y,hx,hy=>by rw[Nx,Acl hx hy,zB k (XG hx) (XG hy)];rfl
theorem wE:∀(k h:Nat),2^k*h<18446744073709551616->Nx k h=2^k*h
 |0,h,_=>by simp[Nx]
 |k+1,h,hl=>by
  have hpos:0<2^k:=Axx F0;rw[As2,Axl]at hl;have h2:2*h<18446744073709551616:=Axa (Nat.le_mul_of_pos_left _ hpos) hl;have:MH h=2*h:=by rw[MH,Adl h2,show h/9223372036854775808=0 by omega];simp
  rw[Nx,this,wE k _ hl,As2,Axl]
def fU(s c:Nat):Nat:=Nx 8 (s^^^ (c*72057594037927936))
theorem c56{c:Nat}(hc:c<256):c*72057594037927936<18446744073709551616:=F0
theorem rL{c:Nat}(h:s<18446744073709551616)(hc:c<256):fU s c<18446744073709551616:=qH 8 (Avf (n:=64) h (c56 hc))
theorem Apu(s:Nat):s=(s/72057594037927936*72057594037927936)^^^ (s %72057594037927936):=by
 have h1:s %72057594037927936<2^56:=Axu _ F7;have:=Avh h1 (s/72057594037927936);have h2:2^56*(s/72057594037927936)|||s %72057594037927936=(2^56*(s/72057594037927936))^^^ (s %72057594037927936):=by
  apply Nat.eq_of_testBit_eq;intro i;rw[Nat.testBit_or,Nat.testBit_xor];by_cases hi:i<56
  ·have:(2^56*(s/72057594037927936)).testBit i=false:=by rw[Nat.testBit_two_pow_mul];simp;omega
   rw[this];simp
  ·have:(s %72057594037927936).testBit i=false:=Nat.testBit_lt_two_pow (Aob h1 (Ajg F0 F0));rw[this];simp
 rw[Aso (s/72057594037927936)]
 show s=(2^56*(s/72057594037927936))^^^ _;rw[<-h2,<-this];have:=Nat.div_add_mod s 72057594037927936
 show s=72057594037927936*_+_;omega
theorem Ahb(a c:Nat):(a^^^c)*72057594037927936=(a*72057594037927936)^^^ (c*72057594037927936):=by
 have h1:=Nat.shiftLeft_xor_distrib (a:=a) (b:=c) (i:=56);simpa [Nat.shiftLeft_eq]using h1
theorem T6{c:Nat}(h:s<18446744073709551616)(hc:c<256):fU s c=(256*s %18446744073709551616)^^^Nx 8 (((s/72057594037927936)^^^c)*72057594037927936):=by
 have hs:s/72057594037927936<2^8:=by show _<256;omega
 have hx:(s/72057594037927936)^^^c<256:=Avf (n:=8) hs (by simpa using hc);have hl:s %72057594037927936<72057594037927936:=Axu _ F7;rw[fU]
 conv=>lhs;rw[Apu s]
 rw[Az2 (s/72057594037927936*72057594037927936),Axb,<-Ahb,zB 8 F0 (c56 hx),wE 8 _ (by show 256*_<_;omega)];congr 1
 show 256*(s %72057594037927936)=_;omega
def yB(s:Nat)(l:LB):Nat:=l.foldl (λs c=>fU s c.toNat) s
theorem I3{n:Nat}(h:n<18446744073709551616):(UInt64.ofNat n).toNat=n:=by rw[Ajj];exact Adl h
theorem As8(s:UInt64)(bit:Nat)(hb:bit=0\/bit=1):EU s (bit:Int)=some (UInt64.ofNat ((2*s.toNat %18446744073709551616)^^^ (((s.toNat/9223372036854775808)^^^bit)*P64))):=by
 have hs:=s.toNat_lt;have ht:s.toNat/9223372036854775808=0\/s.toNat/9223372036854775808=1:=F0
 have e1:(Bv s (2:UInt64)).toNat=2*s.toNat %18446744073709551616:=by
  rw[KC,UInt64.toNat_mul];show s.toNat*2 %_=_;rw[Aso]
 have hlt:2*s.toNat %18446744073709551616<18446744073709551616:=Axu _ F7;have ey:Yj (Bv s (2:UInt64)) (4823603603198064275:UInt64)=UInt64.ofNat ((2*s.toNat %18446744073709551616)^^^P64):=by
  apply UInt64.toNat_inj.1;rw[wN,UInt64.toNat_xor,e1,I3 (Avf (n:=64) hlt F7)];rfl
 have en:Bv s (2:UInt64)=UInt64.ofNat (2*s.toNat %18446744073709551616):=by
  apply UInt64.toNat_inj.1;rw[e1,I3 hlt]
 have eg:Lk s (9223372036854775808:UInt64)=decide (s.toNat/9223372036854775808=1):=by
  rw[Aon,decide_eq_decide]
  show 9223372036854775808<=s.toNat↔_;omega
 have hp:∀b:Bool,Vf s b=some (if b=true then UInt64.ofNat ((2*s.toNat %18446744073709551616)^^^P64)else UInt64.ofNat (2*s.toNat %18446744073709551616)):=by
  intro b;rw[Vf,KQ,ey,en];cases b<;>rfl
 rw[EU,JV,hp,hp,eg];rcases hb with rfl|rfl<;>rcases ht with h|h<;>rw[h]<;>simp[Bb]
theorem uD(c:UInt8):∀(j q:Nat) (s:UInt64),j<=8->j<q->Ks c q s ((2^j/2:Nat):Int)=some (UInt64.ofNat (Nx j (s.toNat^^^ (c.toNat %2^j*2^(64-j)))))
 |0,q+1,s,_,_=>by
  rw[Ks,Wn,Abl Bax,JB,KV];simp[Nx,Nat.mod_one]
 |j+1,q+1,s,hj,hq=>by
  have hc:=c.toNat_lt;have hs:=s.toNat_lt;have hj2:2^j<=2^7:=Ajg F0 F0;have hpos:0<2^j:=Axx F0;have e1:2^(j+1)/2=2^j:=by rw[As2];omega
  have e2:Cy ((2^j:Nat):Int) 2=((2^j/2:Nat):Int):=by
   generalize 2^j=K at*
   rw[LN,Avv F0,Cq F0 F0];omega
  have e3:Hu (Cy (Ad c:Int) ((2^j:Nat):Int)) (2:Int)=((c.toNat/2^j %2:Nat):Int):=by
   have hX:=Aud c.toNat (2^j);rw[OO,LN,<-Int.ofNat_tdiv];generalize c.toNat/2^j=X at*
   rw[Cq F0 F0,Hu,Ayi F0];omega
  have hbit:c.toNat/2^j %2=0\/c.toNat/2^j %2=1:=F0
  rw[Ks,Wn,e1,Abo (by rw[Ax,Adf];omega),Dj (by rw[Ao,Azg];omega),Aa,e3,As8 s _ hbit,Aa,e2,uD c j q _ F0 F0];congr 2;rw[Nx];congr 1;have hx:c.toNat %2^(j+1)*2^(64-(j+1))=(c.toNat/2^j %2)*9223372036854775808+c.toNat %2^j*2^(63-j):=by
   have h63:(9223372036854775808:Nat)=2^j*2^(63-j):=by rw[<-Azo,show j+(63-j)=63 by omega]
   rw[Nat.mod_pow_succ,h63,show 64-(j+1)=63-j by omega,Asn,Az0,Axl,Nat.mul_left_comm]
  have hr:c.toNat %2^j<2^j:=Axu _ hpos;have Ba9:c.toNat %2^j*2^(63-j)<9223372036854775808:=by
   have h63:(9223372036854775808:Nat)=2^j*2^(63-j):=by rw[<-Azo,show j+(63-j)=63 by omega]
   rw[h63];exact Nat.mul_lt_mul_of_pos_right hr (Axx F0)
  have h64:c.toNat %2^j*2^(64-j)=2*(c.toNat %2^j*2^(63-j)):=by
   rw[show 64-j=(63-j)+1 by omega,As2,<-Axl,Aso]
  rw[hx,h64];generalize c.toNat %2^j*2^(63-j)=R at*
  generalize c.toNat/2^j %2=b at*
  have ht:s.toNat/9223372036854775808=0\/s.toNat/9223372036854775808=1:=F0
  have hp:((s.toNat/9223372036854775808^^^b)*P64)<18446744073709551616:=by
   rcases ht with h|h<;>rcases hbit with h2|h2<;>rw[h,h2]<;>decide
  rw[I3 (Avf (n:=64) (Axu _ F7) hp),MH,Afj,Agn,show(b*9223372036854775808+R)/9223372036854775808=b by omega,show 2*(b*9223372036854775808+R) %18446744073709551616=2*R by omega,Axb,Axb,Az2 (2*R)]
theorem Atg(c:UInt8)(s:UInt64):SH s c=some (UInt64.ofNat (fU s.toNat c.toNat)):=by
 have h:=uD c 8 Ar s (An1 _) Az9;have hc:=c.toNat_lt;rw[Adl (show c.toNat<2^8 by simpa using hc)]at h;exact h
theorem jZ(b:LB)(hb:b.length<4611686018427387904):∀(j i q:Nat) (s:UInt64),i+j=b.length->j<q->Ij b q s (i:Int)=some (UInt64.ofNat (yB s.toNat (b.drop i)))
 |0,i,q+1,s,hi,_=>by
  rw[Ij,Rn,Abl F5,show i=b.length by omega,Axj];simp[EH,EJ,yB]
 |j+1,i,q+1,s,hi,hq=>by
  have hlt:i<b.length:=F0
  have hc:=b[i].toNat_lt;rw[Ij,Rn,Abo F5,Cf hlt,Aa,Atg,Aa,Aj];have h:=jZ b hb j (i+1) q (UInt64.ofNat (fU s.toNat b[i].toNat)) F0 F0;rw[show((i:Int)+1)=((i+1:Nat):Int) by omega,h,drop_cons hlt,I3 (rL s.toNat_lt (by simpa using hc))];rfl
def BA(b:LB):UInt64:=UInt64.ofNat (yB 0 b)
theorem zu(b:LB)(hb:b.length<=100000):Xw 0 b=some (BA b):=
 jZ b F0 b.length 0 Ar 0 F0 Az9
theorem Acp(c:UInt64):Yj (Ec c (GI.toZ (1:UInt64)).toNat) (Bv (4823603603198064275:UInt64) (Cn c (GI.toZ (63:UInt64)).toNat))=UInt64.ofNat (MH c.toNat):=by
 have hc:=c.toNat_lt;apply UInt64.toNat_inj.1;have h1:(Ec c (GI.toZ (1:UInt64)).toNat).toNat=2*c.toNat %18446744073709551616:=by
  rw[show(GI.toZ (1:UInt64)).toNat=1 from rfl,XL,Aso]
 have h2:(Bv (4823603603198064275:UInt64) (Cn c (GI.toZ (63:UInt64)).toNat)).toNat=c.toNat/9223372036854775808*P64:=by
  rw[show(GI.toZ (63:UInt64)).toNat=63 from rfl,KC,UInt64.toNat_mul,KZ]
  show 4823603603198064275*(c.toNat/9223372036854775808) %18446744073709551616=_;have h1:c.toNat/9223372036854775808=0\/c.toNat/9223372036854775808=1:=F0
  rcases h1 with e|e<;>rw[e]<;>decide
 rw[wN,UInt64.toNat_xor,h1,h2,I3 (XG hc)];rfl
theorem sY(Mp:Int->LQ->Option (UInt64×Int))(s:UInt64)(b:LB)(x:Int)(t:LQ):∀(j i q:Nat) (c:UInt64),i+j=8->j<q->
  Qr Mp s b x t q c (i:Int)=DG Mp s b x (UInt64.ofNat (Nx j c.toNat)) t
 |0,i,q+1,c,hi,_=>by
  obtain rfl:i=8:=F0
  rw[Qr,CQ,Abl Baj,Nx,UInt64.ofNat_toNat]
 |j+1,i,q+1,c,hi,hq=>by
  rw[Qr,CQ,Abo Az8,Acp,Aj,show((i:Int)+1)=((i+1:Nat):Int) by omega,sY Mp s b x t j (i+1) q _ F0 F0,I3 (XG c.toNat_lt)];rfl
def TY(n:Nat):LQ:=(List.range n).map λi=>UInt64.ofNat (Nx 8 (i*72057594037927936))
theorem yI(s:UInt64)(b:LB):∀(j i q:Nat),i+j=256->j<q->Nc s b q (i:Int) (TY i++List.replicate j 0)=QN s b (TY 256)
 |0,i,q+1,hi,_=>by
  obtain rfl:i=256:=F0
  rw[Nc,DU,Abl Baj];simp
 |j+1,i,q+1,hi,hq=>by
  have hlen:(TY i++List.replicate (j+1) 0).length=i+(j+1):=by simp[TY]
  rw[Nc,DU,Abo Az8,RQ];have h:=sY (Nc s b q) s b (i:Int) (TY i++List.replicate (j+1) 0) 8 0 Ar (Ec (Ad (i:Int):UInt64) (GI.toZ (56:UInt64)).toNat) F0 Az9;rw[show((0:Int))=((0:Nat):Int)from rfl,h,DG,dF,Cf (by rw[hlen];omega),Aa,Ye _ (by rw[hlen];omega),Aa,dP,cW,Aj];have e:(Ec (Ad (i:Int):UInt64) (GI.toZ (56:UInt64)).toNat).toNat=i*72057594037927936:=by
   rw[XL,Xi,I3 F0]
   show i*72057594037927936 %18446744073709551616=_;omega
  rw[e,Axc,gR (by simp[TY])];have h2:=yI s b j (i+1) q F0 F0;have h3:TY (i+1)=TY i++[UInt64.ofNat (Nx 8 (i*72057594037927936))]:=by simp[TY,List.range_succ]
  rw[h3]at h2;rw[show((i:Int)+1)=((i+1:Nat):Int) by omega,<-h2];simp
theorem Aif{i:Nat}(h:i<256):Ak (TY 256) (i:Int)=some (UInt64.ofNat (Nx 8 (i*72057594037927936))):=by
 rw[Cf (by simpa [TY]using h)];simp[TY]
theorem Abc(s:UInt64)(c:UInt8):Ak (TY 256) (GI.toZ (Yj (Ad (Cn s (GI.toZ (56:UInt64)).toNat):UInt8) c))=some (UInt64.ofNat (Nx 8 (((s.toNat/72057594037927936)^^^c.toNat)*72057594037927936))):=by
 have hs:=s.toNat_lt;have e:GI.toZ (Yj (Ad (Cn s (GI.toZ (56:UInt64)).toNat):UInt8) c)=(((s.toNat/72057594037927936)^^^c.toNat:Nat):Int):=by
  have e2:((Ad (Cn s (GI.toZ (56:UInt64)).toNat):UInt8)).toNat=s.toNat/72057594037927936:=by
   rw[ZO,Ao0,KZ]
   show s.toNat/72057594037927936 %256=_;omega
  rw[AU,Aem,UInt8.toNat_xor,e2]
 rw[e,Aif];exact Avf (n:=8) (by show _<256;omega) (by simpa using c.toNat_lt)
theorem T8(s:UInt64)(c:UInt8):Yj (Ec s (GI.toZ (8:UInt64)).toNat) (UInt64.ofNat (Nx 8 (((s.toNat/72057594037927936)^^^c.toNat)*72057594037927936)))=UInt64.ofNat (fU s.toNat c.toNat):=by
 have hs:=s.toNat_lt;have hc:c.toNat<256:=by simpa using c.toNat_lt
 apply UInt64.toNat_inj.1;have hlt:Nx 8 (((s.toNat/72057594037927936)^^^c.toNat)*72057594037927936)<18446744073709551616:=qH 8 (c56 (Avf (n:=8) (by show _<256;omega) (by simpa using c.toNat_lt)));have e:(GI.toZ (8:UInt64)).toNat=8:=rfl;rw[e,wN,UInt64.toNat_xor,XL,I3 hlt,I3 (rL hs hc),T6 hs hc,Aso s.toNat]
theorem tB(b:LB)(s0:UInt64)(hb:b.length<4611686018427387904):∀(j i q:Nat) (s:UInt64),i+j=b.length->j<q->Qj b s0 (TY 256) q s (i:Int)=some (UInt64.ofNat (yB s.toNat (b.drop i)),0)
 |0,i,q+1,s,hi,_=>by
  rw[Qj,DS,Abl F5,show i=b.length by omega,Axj];simp[QT,dC,eU,eS,yB]
 |j+1,i,q+1,s,hi,hq=>by
  have hlt:i<b.length:=F0
  have hc:=b[i].toNat_lt;rw[Qj,DS,Abo F5,Cf hlt,Aa,Abc,Aa,Aa,T8,Aj];have h:=tB b s0 hb j (i+1) q (UInt64.ofNat (fU s.toNat b[i].toNat)) F0 F0;rw[show((i:Int)+1)=((i+1:Nat):Int) by omega,h,drop_cons hlt,I3 (rL s.toNat_lt (by simpa using hc))];rfl
theorem Aah(b:LB)(hb:b.length<=100000):VU b=some (BA b,0):=by
 have h:=yI 0 b 256 0 Ar F0 Az9;have h2:=tB b 0 F0 b.length 0 Ar 0 F0 Az9;have hn:ZQ 0 b=some (BA b,0):=by
  rw[ZQ,UW,Abl Baa,eD];refine Axr h ?_;rw[QN,PF,PO];exact h2
 rw[VU,hn,Aa]
theorem Ahi(p:LB)(hp:p.length<=64):EG p=some (FU (BA p).toNat 8,0):=by
 rw[EG,rJ,Abl Baa,Aah p F0,Aa,Aa];simp only;have h:=C7 (BA p) 8 F0 F0 (by simpa using(BA p).toNat_lt);rw[Abl Bac];exact congrArg (λo=>Option.bind o λx:LB×Int=>some (x.1,x.2)) h
theorem K1(p:LB)(hp:p.length<=64):Oy p=some (FU (BA p).toNat 8):=by
 have h:=zY (BA p) 8 F0;rw[Oy,TI,zu p F0,Aa,Aa];exact congrArg (λo=>Option.bind o λl=>some l) h
def s8(n:Nat):Int32:=Int32.ofInt (if n<128 then(n:Int)else(n:Int)-256)
def TG(d:UInt64)(n:Nat):LX:=(List.range n).map λi=>s8 (d.toNat/256^i %256)
theorem WH(d:UInt64)(n:Nat):(TG d n).length=n:=by simp[TG]
theorem D6(d:UInt64)(n:Nat):TG d (n+1)=TG d n++[s8 (d.toNat/256^n %256)]:=by simp[TG,List.range_succ]
theorem bm8(z:Nat):(z:Int).bmod Int8.size=if z %256<128 then((z %256:Nat):Int)else((z %256:Nat):Int)-256:=by
 rw[show Int8.size=256 from rfl,Int.bmod_def];split<;>split<;>omega
theorem Afk(d:UInt64):∀(j i q:Nat),i+j=8->j<q->IA d q (i:Int) (TG d i++List.replicate (16-i) 0)=some (TG d 8++List.replicate 8 0)
 |0,i,q+1,hi,_=>by
  obtain rfl:i=8:=F0
  rw[IA,aF,Abl Baj];rfl
 |j+1,i,q+1,hi,hq=>by
  have hlen:(TG d i++List.replicate (16-i) 0).length=16:=by simp[WH];omega
  have ih:=Afk d j (i+1) q F0 F0;have e8:Bv (8:Int) (i:Int)=((8*i:Nat):Int):=by rw[Ii];omega
  have ev:(Ad (Ad (Cn d (GI.toZ (((8*i:Nat):Int))).toNat):Int8):Int32)=s8 (d.toNat/256^i %256):=by
   have e1:(Cn d (GI.toZ (((8*i:Nat):Int))).toNat).toNat=d.toNat/256^i:=by
    rw[show(GI.toZ (((8*i:Nat):Int))).toNat=8*i from rfl,KZ,Nat.pow_mul]
   show Int32.ofInt (Int8.ofInt ((Cn d (GI.toZ (((8*i:Nat):Int))).toNat).toNat:Int)).toInt=_;rw[e1,s8,Int8.toInt_ofInt,bm8]
  rw[IA,aF,Abo Az8,e8,Dj Bae,Aa,ev,Cf,Aa,Ye _ F0,Aa,Aj,show 16-i=(15-i)+1 by omega,Axc,gR (WH d i)];rw[D6,show 16-(i+1)=15-i by omega,Aoc]at ih;exact ih
theorem Akp(d:UInt64):∀(j i q:Nat) (e:UInt64),i+j=8->j<q->e.toNat=d.toNat/256^i->Kk q e (i:Int) (TG d i++List.replicate (16-i) 0)=some (TG d 8++List.replicate 8 0)
 |0,i,q+1,e,hi,_,he=>by
  obtain rfl:i=8:=F0
  rw[Kk,Zy,Abl Baj];rfl
 |j+1,i,q+1,e,hi,hq,he=>by
  have hlen:(TG d i++List.replicate (16-i) 0).length=16:=by simp[WH];omega
  have hq2:(Cy e (256:UInt64)).toNat=d.toNat/256^(i+1):=by
   rw[pC,Azq,he,As2,<-Ayu];rfl
  have ih:=Akp d j (i+1) q (Cy e (256:UInt64)) F0 F0 hq2;have ev:(Ad (CH e (256:UInt64)):Int32)=Int32.ofInt ((d.toNat/256^i %256:Nat):Int):=by
   show Int32.ofInt ((CH e (256:UInt64)).toNat:Int)=_;rw[qb,UInt64.toNat_mod,he];rfl
  have hz:d.toNat/256^i %256<256:=Axu _ F0;have et:(Int32.ofInt ((d.toNat/256^i %256:Nat):Int)).toInt=((d.toNat/256^i %256:Nat):Int):=by
   rw[Ay3,Azz (by show -(4294967296/2:Int)<= _;omega) (by show _<(4294967296+1)/2;omega)]
  have hp8:∀x:Int32,x=s8 (d.toNat/256^i %256)->AG (Kk q) e (i:Int) (TG d i++List.replicate (16-i) 0) x=some (TG d 8++List.replicate 8 0):=by
   intro x hx;rw[AG,QQ,hx,Cf,Aa,Ye _ F0,Aa,Aj,show 16-i=(15-i)+1 by omega,Axc,gR (WH d i)];rw[D6,show 16-(i+1)=15-i by omega,Aoc]at ih;exact ih
  rw[Kk,Zy,Abo Az8,ev,Ach,et,show(127:Int32).toInt=127 from rfl];by_cases h:d.toNat/256^i %256<128
  ·rw[Abl (by simp only[Adf];omega)];exact hp8 _ (by rw[s8,Abo h])
  ·rw[Abo (by simp only[Adf];omega)];refine hp8 _ ?_;rw[s8,Abl h,xZ,Int32.ofInt_sub];rfl
def Yc(p:LB):LX:=TG (BA p) 8++List.replicate 8 0
theorem Vw(p:LB):(Yc p).length=16:=by simp[Yc,WH]
theorem P4(p:LB)(hp:p.length<=64):Qv p=some (Yc p,0):=by
 have h:=Afk (BA p) 8 0 Ar F0 Az9;have h2:S6 (BA p)=some (Yc p):=h;rw[Qv,Abl Baa,Aah p F0,Aa];simp only;rw[Abl Bac,h2,Aa]
theorem fE(p:LB)(hp:p.length<=64):Uh p=some (Yc p,0):=by
 have h:=Akp (BA p) 8 0 Ar (BA p) F0 Az9 Bab;have h2:aV (BA p)=some (Yc p):=h;rw[Uh,Abl Baa,WR,TH,Abl Baa,zu p F0,Aa,Aa,Aa];simp only;rw[h2,Aa]
def u8(z:Int):UInt8:=UInt8.ofNat (z %256).toNat
theorem S3(z:Int):u8 (z %256)=u8 z:=by rw[u8,u8];congr 2;omega
def wB(bits:Int):Nat:=if bits=8 then 1 else if bits=16 then 2 else 3
theorem Am5{bits:Int}(h:Cp bits):Cy bits 8=(wB bits:Int):=by obtain rfl|rfl|rfl:=h<;>rfl
theorem L8(bits:Int):1<=wB bits/\wB bits<=3:=by
 unfold wB;split; · omega
 ·split<;>omega
def HK(bits:Int)(x:Int):LB:=if bits=8 then [u8 (x+128)]else if bits=16 then [u8 x,u8 (x/256)]else [u8 x,u8 (x/256),u8 (x/65536)]
theorem kr(bits x:Int):(HK bits x).length<=3:=by
 unfold HK;split; · simp
 ·split<;>simp
theorem Alk(x:Int32)(k:Nat)(hk:k<=32):(Ad (Cn x k):UInt8)=u8 (x.toInt.fdiv (2^k)):=by
 have h:=FA x;have e:Cn x k=Int32.ofInt (x.toInt.fdiv (2^k)):=by
  show Int32.ofInt (x.toInt.fdiv (2^min k 32))=_;rw[Au2 hk]
 have hb: -2147483648<=x.toInt.fdiv (2^k)/\x.toInt.fdiv (2^k)<2147483648:=by
  have hpos:(0:Int)<2^k:=Int.pow_pos F0;rw[Asz _ F0];constructor
  ·refine(Int.le_ediv_iff_mul_le hpos).2 ?_;have:(1:Int)<=2^k:=F0
   have h2: -2147483648*(2^k:Int)<= -2147483648*1:=Int.mul_le_mul_of_nonpos_left F0 this;omega
  ·refine Int.ediv_lt_of_lt_mul hpos ?_;have:(1:Int)<=2^k:=F0
   have h2:(2147483648:Int)*1<=2147483648*2^k:=Int.mul_le_mul_of_nonneg_left this F0;omega
 show UInt8.ofNat ((Cn x k).toInt %256).toNat=_;rw[e,Ay3,Azz (by show -(4294967296/2:Int)<= _;omega) (by show _<(4294967296+1)/2;omega)];rfl
section
variable (bk:Int->LB->Option (LB×Int)) (l:LX)
theorem vA{bits:Int}(h:Cp bits)(c:Int32)(x:Int)(i q:Nat)(acc:LB)(hi:i<wB bits)(ha:acc.length<=100000):
  Ja bk bits l c x (q+1) (i:Int) acc=Ja bk bits l c x q ((i+1:Nat):Int) (acc++[u8 (c.toInt.fdiv (2^(8*i)))]):=by
 have hw:=L8 bits;have e8:Bv (8:Int) (i:Int)=((8*i:Nat):Int):=by rw[Ii];omega
 rw[Ja,Zl,Am5 h,Abo Az8,e8,Dj Bae,Aa,show(GI.toZ (((8*i:Nat):Int))).toNat=8*i from rfl,Alk _ _ F0,Cr F9,Aa,Aj];rfl
theorem Acm{bits:Int}(h:Cp bits)(c:Int32)(x:Int)(q:Nat)(acc:LB):Ja bk bits l c x (q+1) ((wB bits:Nat):Int) acc=bk (Ae x 1) acc:=by
 rw[Ja,Zl,Am5 h,Abl Baj,LZ,bC]
theorem Ate{bits:Int}(h:Cp bits)(c:Int32)(x:Int)(acc:LB)(ha:acc.length<=90000)(hr: -(hB bits)<=c.toInt/\c.toInt<hB bits):
  Og bk bits l x acc (if bits=8 then Ae c (128:Int32)else c)=bk (Ae x 1) (acc++HK bits c.toInt):=by
 have e:Ar=(Ar-4)+1+1+1+1:=by have:=Aq;omega
 have hc:=FA c;rw[Og,LJ,MP,e];have g0:=λ(c:Int32) q acc ha=>vA bk l h c x 0 q acc (by have:=L8 bits;omega) ha;obtain rfl|rfl|rfl:=h
 ·have hh:hB 8=128:=rfl;rw[hh]at hr;have e1:(Ae c (128:Int32)).toInt=c.toInt+128:=by
   show(Int32.ofInt (c.toInt+(128:Int32).toInt)).toInt=_;rw[show(128:Int32).toInt=128 from rfl,Ay3,Azz (by show -(4294967296/2:Int)<= _;omega) (by show _<(4294967296+1)/2;omega)]
  have g1:=Acm bk l (bits:=8) (.inl rfl) (Ae c (128:Int32)) x (Ar-4+1+1);rw[Abo rfl,show(0:Int)=((0:Nat):Int)from rfl,g0 _ _ _ F0];refine Axr (g1 _) ?_;rw[e1,HK,Abo rfl]
  show bk _ (acc++[u8 ((c.toInt+128).fdiv 1)])=_;rw[Int.fdiv_one]
 ·have g1:=λq acc ha=>vA bk l (bits:=16) (.inr (.inl rfl)) c x 1 q acc F7 ha;have g2:=Acm bk l (bits:=16) (.inr (.inl rfl)) c x (Ar-4+1);rw[Abl F7,show(0:Int)=((0:Nat):Int)from rfl,g0 _ _ _ F0,g1 _ _ F9];refine Axr (g2 _) ?_;rw[HK,Abl F7,Abo rfl,Aoc]
  show bk _ (acc++[u8 (c.toInt.fdiv 1),u8 (c.toInt.fdiv 256)])=_;rw[Int.fdiv_one,Asz _ F0]
 ·have g1:=λq acc ha=>vA bk l (bits:=24) (.inr (.inr rfl)) c x 1 q acc F7 ha;have g2:=λq acc ha=>vA bk l (bits:=24) (.inr (.inr rfl)) c x 2 q acc F7 ha;have g3:=Acm bk l (bits:=24) (.inr (.inr rfl)) c x (Ar-4);rw[Abl F7,show(0:Int)=((0:Nat):Int)from rfl,g0 _ _ _ F0,g1 _ _ F9,g2 _ _ F9];refine Axr (g3 _) ?_;rw[HK,Abl F7,Abl F7,Aoc,Aoc]
  show bk _ (acc++[u8 (c.toInt.fdiv 1),u8 (c.toInt.fdiv 256),u8 (c.toInt.fdiv 65536)])=_;rw[Int.fdiv_one,Asz _ F0,Asz _ F0]
end
def Gl(bits:Int)(l:LX):LB:=l.flatMap λx=>HK bits x.toInt
theorem IF(bits:Int):∀l:LX,(Gl bits l).length<=3*l.length
 |[]=>by simp[Gl]
 |x::l=>by
  have h1:=IF bits l;have h2:=kr bits x.toInt;simp only[Gl,List.flatMap_cons,Abq,As0]at*
  omega
def inR(bits:Int)(l:LX):Prop:=∀x∈l, -(hB bits)<=x.toInt/\x.toInt<hB bits
theorem Aep{bits:Int}(h:Cp bits)(l:LX)(hl:l.length<=4000)(hr:inR bits l):∀(j i q:Nat),i+j=l.length->j<q->Ge bits l q (i:Int) (Gl bits (l.take i))=some (Gl bits l,0)
 |0,i,q+1,hi,_=>by
  rw[Ge,Zp,Abl F5,Axo F0];rfl
 |j+1,i,q+1,hi,hq=>by
  have hlt:i<l.length:=F0
  have ih:=Aep h l hl hr j (i+1) q F0 F0;have hlen:=IF bits (l.take i);have hx:=hr l[i] (Ao8 _);have h1:=Ate (Ge bits l q) l h l[i] (i:Int) (Gl bits (l.take i)) (by rw[Agw]at hlen;omega) hx;rw[Ge,Zp,Abo F5,Cf hlt,Aa];have e:(if(geq bits (8:Int))=true then Og (Ge bits l q) bits l (i:Int) (Gl bits (l.take i)) (Ae l[i] (128:Int32))else Og (Ge bits l q) bits l (i:Int) (Gl bits (l.take i)) l[i])=Og (Ge bits l q) bits l (i:Int) (Gl bits (l.take i)) (if bits=8 then Ae l[i] (128:Int32)else l[i]):=by
   by_cases h8:bits=8
   ·rw[Abo (by rw[Bb];simpa using h8),Abo h8]
   ·rw[Abl (by rw[Bb];simpa using h8),Abl h8]
  rw[e,h1,Aj];rw[ON hlt]at ih;have e2:Gl bits (l.take i++[l[i]])=Gl bits (l.take i)++HK bits l[i].toInt:=by unfold Gl;rw[List.flatMap_append,List.flatMap_singleton]
  rw[e2]at ih;exact ih
theorem sC{bits:Int}(h:Cp bits){l:LX}(hl:l.length<=4000)(hc:Bn bits l=some 0):inR bits l:=by
 have hh:=kV bits;have key:∀(j i q:Nat),i+j=l.length->j<q->Bs l (hB bits) q (i:Int)=some 0->∀k,i<=k-> (hk:k<l.length)-> -(hB bits)<=l[k].toInt/\l[k].toInt<hB bits:=by
  intro j
  induction j with
  |zero=>intro i q hi hq _ k h1 h2;omega
  |succ j ih=>
   intro i q hi hq hs k h1 h2;obtain⟨q,rfl⟩:∃k,q=k+1:=⟨q-1,F0⟩;rw[Bs,Ey,Abo F5,Cf,Aa,Aa,Fo,Acg,Cq F0 F0,Aj,Af,Dz]at hs;by_cases g1:l[i].toInt<0-hB bits
   ·rw[Abo (by simpa using g1)]at hs;simp at hs
   ·rw[Abl (by simpa using g1)]at hs;by_cases g2:hB bits<=l[i].toInt
    ·rw[Abo (by simpa using g2)]at hs;simp at hs
    ·rw[Abl (by simpa using g2)]at hs;by_cases hk:k=i
     ·subst hk;omega
     ·exact ih (i+1) q F0 F0 hs k F0 h2
 rw[Bn,Jn,tG h,Aa,Abl Bag,Abl Baa]at hc;have:=key l.length 0 Ar F0 Az9 hc;intro x hx;obtain⟨k,hk,rfl⟩:=List.getElem_of_mem hx;exact this k F0 hk
theorem lN{bits:Int}(h:Cp bits){l:LX}(hl:l.length<=4000)(hc:Bn bits l=some 0):Ra bits l=some (Gl bits l,0):=by
 have h1:=Aep h l hl (sC h hl hc) l.length 0 Ar F0 Az9;rw[Ra,QV,C3 h l hl,hc,Aa,Abl Bac];exact h1
theorem Aog{bits:Int}(h:Cp bits)(x:Int32)(hr: -(hB bits)<=x.toInt/\x.toInt<hB bits):HC bits x=some (HK bits x.toInt):=by
 have hx:=FA x;have gu:∀z:Int,(Ad z:UInt8)=u8 z:=λz=>rfl;have hq:∀n:Int,0<=n->n<=20000000->Cy n (256:Int)=n/256/\Cy n (65536:Int)=n/65536:=by
  intro n h1 h2;constructor<;>(rw[LN,Avv h1,Cq F0 F0])
 have hm:∀n:Int,0<=n->Hu n (256:Int)=n %256:=λn h1=>by rw[Hu,Ayi h1]
 rw[HC,NG,Fo];obtain rfl|rfl|rfl:=h
 ·rw[Abo Bat,Aj,gu,HK,Abo rfl]
 ·have hh:hB 16=32768:=rfl;rw[hh]at hr;have hp:∀n:Int,0<=n->n<=70000->u8 n=u8 x.toInt->u8 (n/256)=u8 (x.toInt/256)->Lr 16 n=some (HK 16 x.toInt):=by
   intro n h1 h2 h3 h4;rw[Lr,Yg,Abl Bau,hm n h1,(hq n h1 F0).1,hm _ F0,gu,gu,S3,S3,h3,h4,HK,Abl F7,Abo rfl]
  rw[Abl Bau];by_cases hn:x.toInt<0
  ·rw[Abo (by rw[Af];simpa using hn),tG (.inr (.inl rfl)),Aa,hh,Ii,Aj];refine hp _ F0 F0 ?_ ?_
   ·rw[u8,u8];congr 2;omega
   ·rw[u8,u8];congr 2;omega
  ·rw[Abl (by rw[Af];simpa using hn)];exact hp _ F0 F0 rfl rfl
 ·have hh:hB 24=8388608:=rfl;rw[hh]at hr;have hp:∀n:Int,0<=n->n<=16777215->u8 n=u8 x.toInt->u8 (n/256)=u8 (x.toInt/256)->u8 (n/65536)=u8 (x.toInt/65536)->Lr 24 n=some (HK 24 x.toInt):=by
   intro n h1 h2 h3 h4 h5;rw[Lr,Yg,Abo Bat,hm n h1,(hq n h1 F0).1,(hq n h1 F0).2,hm _ F0,gu,gu,gu,S3,S3,h3,h4,h5,Cr Bab,Aa,HK,Abl F7,Abl F7];rfl
  rw[Abl Bau];by_cases hn:x.toInt<0
  ·rw[Abo (by rw[Af];simpa using hn),tG (.inr (.inr rfl)),Aa,hh,Ii,Aj];refine hp _ F0 F0 ?_ ?_ ?_
   ·rw[u8,u8];congr 2;omega
   ·rw[u8,u8];congr 2;omega
   ·rw[u8,u8];congr 2;omega
  ·rw[Abl (by rw[Af];simpa using hn)];exact hp _ F0 F0 rfl rfl rfl
theorem Aei{bits:Int}(h:Cp bits)(l:LX)(hl:l.length<=4000)(hr:inR bits l):∀(j i q:Nat),i+j=l.length->j<q->Jp bits l q (i:Int) (Gl bits (l.take i))=some (Gl bits l,0)
 |0,i,q+1,hi,_=>by
  rw[Jp,Tr,Abl F5,Axo F0];rfl
 |j+1,i,q+1,hi,hq=>by
  have hlt:i<l.length:=F0
  have ih:=Aei h l hl hr j (i+1) q F0 F0;have hlen:=IF bits (l.take i);have hol:=kr bits l[i].toInt;rw[Agw]at hlen;have e2:Gl bits (l.take i++[l[i]])=Gl bits (l.take i)++HK bits l[i].toInt:=by unfold Gl;rw[List.flatMap_append,List.flatMap_singleton]
  rw[ON hlt,e2]at ih;rw[Jp,Tr,Abo F5,Cf hlt,Aa,Aog h _ (hr l[i] (Ao8 _)),Aa,Cr,Aa,Aj];exact ih
theorem VZ{bits:Int}(h:Cp bits){l:LX}(hl:l.length<=4000)(hc:Bn bits l=some 0):Rh bits l=some (Gl bits l,0):=by
 have h1:=Aei h l hl (sC h hl hc) l.length 0 Ar F0 Az9;rw[Rh,GR,hc,Aa,Abl Bac];exact h1
theorem Ba2(h:p:=by rw[Dz,Ac,Ac];simp;omega):p:=h
theorem Ba3(h:p:=by rw[Aj]<;>omega):p:=h
end Go.Pl
namespace Go.Pl
open Go Go.Lv
variable{b:LB}{p:Prop}
def UO:LB->Nat->Int×Int
 |[],n=>((n:Int),0)
 |c::r,n=>if 128<=c.toNat then(0,12)else UO r (128*n+c.toNat)
theorem Agl:∀(l:LB) (n k:Nat),n<128^k->0<= (UO l n).1/\ (UO l n).1<((128^(k+l.length):Nat):Int)
 |[],n,k,h=>by simp[UO];exact_mod_cast h
 |c::r,n,k,h=>by
  rw[UO];split
  ·have:0<128^(k+(c::r).length):=Axx F0;exact⟨Int.le_refl _,by simp only;exact_mod_cast this⟩
  ·have:=Agl r (128*n+c.toNat) (k+1) (by rw[As2];omega);rw[As0,show k+(r.length+1)=k+1+r.length by omega];exact this
theorem or7(n c:Nat)(hn:n<268435456)(hc:c<128):uR (Ec (n:Int) (GI.toZ (7:UInt64)).toNat) (c:Int)=((128*n+c:Nat):Int):=by
 have e:(GI.toZ (7:UInt64)).toNat=7:=rfl;have h1:Ec (n:Int) 7=((2^7*n:Nat):Int):=by
  have:Ec (n:Int) 7=wrap64 ((n:Int)*2^7):=rfl;rw[this,Cq F0 F0];omega
 rw[e,h1];have h2:uR ((2^7*n:Nat):Int) (c:Int)=wrap64 ((BitVec.ofInt 64 ((2^7*n:Nat):Int)|||BitVec.ofInt 64 (c:Int)).toNat:Int):=rfl;rw[h2,BitVec.toNat_or,Axn,Axn];have h3:(((2^7*n:Nat):Int) %((2^64:Nat):Int)).toNat=2^7*n:=F0
 have h4:((c:Int) %((2^64:Nat):Int)).toNat=c:=F0
 rw[h3,h4,<-Avh (by simpa using hc),Cq F0 F0]
theorem Af8(b:LB)(hb:b.length=4):∀(j i q n:Nat),i+j=4->j<q->n<128^i->Mk b q (n:Int) (i:Int)=some (UO (b.drop i) n)
 |0,i,q+1,n,hi,_,_=>by
  rw[Mk,Wx,Abl F5,show b.drop i=[] by simp;omega];rfl
 |j+1,i,q+1,n,hi,hq,hn=>by
  have hlt:i<b.length:=F0
  have hn2:n<268435456:=Aob hn (show 128^i<=128^4 from Ajg F0 F0);rw[Mk,Wx,Abo F5,Cf hlt,Aa,drop_cons hlt,UO,Anj];by_cases hc:128<=b[i].toNat
  ·rw[Abo F9,Abo hc]
  ·rw[Abl F9,Abl hc,OO,or7 n _ hn2 F0,Aj];exact Af8 b hb j (i+1) q _ F0 F0 (by rw[As2];omega)
theorem Anf(b:LB)(hb:b.length=4):∀(j i q n:Nat),i+j=4->j<q->n<128^i->Js b q (n:Int) (i:Int)=some (UO (b.drop i) n)
 |0,i,q+1,n,hi,_,_=>by
  rw[Js,Tt,Abl Az8,show b.drop i=[] by simp;omega];rfl
 |j+1,i,q+1,n,hi,hq,hn=>by
  have hlt:i<b.length:=F0
  have hn2:n<268435456:=Aob hn (show 128^i<=128^4 from Ajg F0 F0);rw[Js,Tt,Abo Az8,Cf hlt,Aa,drop_cons hlt,UO,Ali];have h128:(128:UInt8).toNat=128:=rfl;by_cases hc:128<=b[i].toNat
  ·rw[Abo (by simpa using hc),Abo hc]
  ·have h3:=b[i].toNat_lt;rw[Abl (by simpa using hc),Abl hc,Aa,OO,Ii,Aj,Aj];have:=Anf b hb j (i+1) q (128*n+b[i].toNat) F0 F0 (by rw[As2];omega);rw[<-this];rfl
theorem Ack(b:LB)(hb:b.length=4):IK b=some (UO b 0):=by
 have h:=Af8 b hb 4 0 Ar 0 F0 Az9 Bab;rw[IK,ID,Abl (by rw[Ao,Ac];simp;omega),VJ];exact h
theorem Aix(b:LB)(hb:b.length=4):AI b=some (UO b 0):=by
 have h:=Anf b hb 4 0 Ar 0 F0 Az9 Bab;rw[AI,GU,Abl (by rw[Ao,Ac];simp;omega),GB];exact h
theorem Ab5(hb:b.length=4):0<= (UO b 0).1/\ (UO b 0).1<268435456:=by
 have:=Agl b 0 0 Bab;rw[hb]at this;simpa using this
theorem YW(s p:LB):Le s p=some (decide (p.length<=s.length/\s.take p.length=p)):=by
 rw[Le];by_cases h:p.length<=s.length
 ·rw[Abo Ba2,show Ac p=(p.length:Int)from rfl,Cw,Aa,Jb,Aa,Ajr];congr 1;rw[Aks];simp[h]
 ·rw[Abl Ba2];simp[h]
def VR(b:LB)(n:Int):Int×Int:=
 if 4000<n then(0,4)else if(b.length:Int)<n then(0,24)else
 if b.getD 5 0=16/\ (b.take n.toNat).drop (n-10).toNat≠ [51,68,73]++part b 3 7 then(0,12)else(n,0)
def tQ(b:LB)(r:Int):Int×Int:=VR b (r+10+(if b.getD 5 0=16 then 10 else 0))
def Xm(b:LB):Int×Int:=
 if ¬(3<=b.length/\b.take 3=[73,68,51])then(0,6)else if b.length<10 then(0,24)else
 if(UO (part b 6 4) 0).2≠0\/b.getD 4 0≠0\/ ¬((b.getD 5 0=0/\2<= (b.getD 3 0).toNat/\ (b.getD 3 0).toNat<=4)\/ (b.getD 5 0=16/\b.getD 3 0=4))then(0,12)else
 tQ b (UO (part b 6 4) 0).1
theorem kO{i:Nat}(h:i<b.length):Ak b (i:Int)=some (b.getD i 0):=by
 rw[Cf h];simp[List.getD_eq_getElem?_getD,h]
theorem Ot(a w:Nat)(h:a+w<=b.length:=by omega):Bi b (a:Int) ((a+w:Nat):Int)=some (part b a w):=by
 rw[DD];rfl
theorem Apx(b:LB)(r:Int)(h10:10<=b.length)(h0:0<=r)(h1:r<268435456):Vm b r=some (tQ b r):=by
 have g5:Ak b (5:Int)=some (b.getD 5 0):=kO (i:=5) F0;have key:∀n:Int,10<=n->n<268435500->Va b n=some (VR b n):=by
  intro n hn hn2;rw[Va,KF,VR];by_cases c1:4000<n
  ·rw[Abo (by rw[Ax];simpa using c1),Abo c1]
  ·rw[Abl (by rw[Ax];simpa using c1),Abl c1];by_cases c2:(b.length:Int)<n
   ·rw[Abo (by rw[Af,Ac];simpa using c2),Abo c2]
   ·have e3:Bi b (3:Int) (10:Int)=some (part b 3 7):=Ot 3 7;rw[Abl (by rw[Af,Ac];simpa using c2),Abl c2,g5,Aa];by_cases c3:b.getD 5 0=16
    ·rw[Abo (by rw[UP];simpa using c3),Ci,DD,Aa,e3,Aa,Cr (by rw[Dr];simp),Aa];by_cases c4:(b.take n.toNat).drop (n-10).toNat=[51,68,73]++part b 3 7
     ·rw[Abl (by simpa using c4),Abl (by intro h;exact h.2 c4)]
     ·rw[Abo (by simpa using c4),Abo ⟨c3,c4⟩]
    ·rw[Abl (by rw[UP];simpa using c3),Abl (λh=>c3 h.1)]
 rw[Vm,JI,g5,Aa,tQ];by_cases c3:b.getD 5 0=16
 ·rw[Abo (by rw[UP];simpa using c3),Aj Ba3 Ba3,Aj,key _ F0 F0,Abo c3,show 10+r+10=r+10+10 by omega]
 ·rw[Abl (by rw[UP];simpa using c3),Aj,key _ F0 F0,Abl c3,show 10+r=r+10+0 by omega]
theorem Amn(b:LB)(hb:b.length<4611686018427387904):DI b=some (Xm b):=by
 rw[DI,JM,Xm];by_cases h3:3<=b.length
 ·rw[Abl F5,Cw,Aa];by_cases hp:b.take 3=[73,68,51]
  ·rw[Abl (by simpa using hp),Abl (by simp[h3,hp]),LC,JS];by_cases h10:b.length<10
   ·rw[Abo F5,Abo h10]
   ·have e6:Bi b (6:Int) (10:Int)=some (part b 6 4):=Ot 6 4;have g3:Ak b (3:Int)=some (b.getD 3 0):=kO (i:=3) F0;have g4:Ak b (4:Int)=some (b.getD 4 0):=kO (i:=4) F0;have g5:Ak b (5:Int)=some (b.getD 5 0):=kO (i:=5) F0;obtain⟨v1,v2⟩:=Ab5 (b:=part b 6 4) (Dr);rw[Abl F5,Abl h10,e6,Aa,Aix _ (Dr),Aa];have ht:=Apx b (UO (part b 6 4) 0).1 F0 v1 v2;generalize UO (part b 6 4) 0=v at*
    obtain⟨v,e⟩:=v;simp only at ht v1 v2⊢;simp only[Aa,g3,g4,g5,ht];generalize b.getD 3 0=x at*
    generalize b.getD 4 0=y at*
    generalize b.getD 5 0=z at*
    simp only[Ac2,At1,Anj,Ao];by_cases he:e=0<;>by_cases hy:y=0<;>by_cases hz:z=0<;>by_cases hz2:z=16<;>by_cases hx:x=4<;>by_cases hx2:x.toNat<2<;>by_cases hx4:4<x.toNat<;>simp_all<;>(rw[Abl F0,Abl F0])
  ·rw[Abo (by simpa using hp),Abo (by simp[hp])]
 ·rw[Abo F5,Abo (by simp[h3])]
theorem K6(b:LB)(n:Int)(h10:10<=b.length)(hn:10<=n)(hn2:n<268435500):LR b (b.getD 5 0) n=some (VR b n):=by
 rw[LR,aR];by_cases c1:4000<n
 ·rw[Abo (by rw[Ax];simpa using c1),VR,Abo c1]
 ·rw[Abl (by rw[Ax];simpa using c1)];by_cases c2:(b.length:Int)<n
  ·rw[Abo (by rw[Af,Ac];simpa using c2),VR,Abl c1,Abo c2]
  ·have e3:Bi b (3:Int) (10:Int)=some (part b 3 7):=Ot 3 7;rw[Abl (by rw[Af,Ac];simpa using c2)];by_cases c3:b.getD 5 0=16
   ·have hl:((b.take n.toNat).drop (n-10).toNat).length=10:=by simp;omega
    have ht:VR b n=if(b.take n.toNat).drop (n-10).toNat≠ [51,68,73]++part b 3 7 then(0,12)else(n,0):=by rw[VR,Abl c1,Abl c2];simp only[c3,true_and]
    rw[Abo (by rw[UP];simpa using c3),Ci,DD,Aa,ht];generalize(b.take n.toNat).drop (n-10).toNat=f at*
    rw[Cw,Aa,Cz,Aa,e3,Aa,Jb,Aa];have hf:f=f.take 3++f.drop 3:=(Azj 3 f).symm;by_cases c4:f=[51,68,73]++part b 3 7
    ·subst c4;simp
    ·by_cases c5:f.take 3=[51,68,73]
     ·have:f.drop 3≠part b 3 7:=λh=>c4 (by rw[hf,c5,h]);simp only[Ax0,Ass]at c4;simp[c4,c5,this]
     ·simp only[Ax0,Ass]at c4;simp[c4,c5]
   ·rw[Abl (by rw[UP];simpa using c3),VR,Abl c1,Abl c2,Abl (λh=>c3 h.1)]
theorem Aly(b:LB)(r:Int)(h10:10<=b.length)(h0:0<=r)(h1:r<268435456):MO b r (b.getD 5 0)=some (tQ b r):=by
 rw[MO,bA,tQ];by_cases c3:b.getD 5 0=16
 ·rw[Abo (by rw[UP];simpa using c3),Aj Ba3 Ba3,Aj,K6 b _ h10 F0 F0,Abo c3]
 ·rw[Abl (by rw[UP];simpa using c3),Aj,K6 b _ h10 F0 F0,Abl c3];simp
theorem Ait(b:LB)(hb:b.length<4611686018427387904):NR b=some (Xm b):=by
 rw[NR,Zm,YW,Aa];by_cases hp:3<=b.length/\b.take 3=[73,68,51]
 ·rw[Abl (by simpa using hp)];by_cases h10:b.length<10
  ·rw[Abo F5,Xm,Abl (λh=>h hp),Abo h10]
  ·have e6:Bi b (6:Int) (10:Int)=some (part b 6 4):=Ot 6 4;have g3:Ak b (3:Int)=some (b.getD 3 0):=kO (i:=3) F0;have g4:Ak b (4:Int)=some (b.getD 4 0):=kO (i:=4) F0;have g5:Ak b (5:Int)=some (b.getD 5 0):=kO (i:=5) F0;obtain⟨v1,v2⟩:=Ab5 (b:=part b 6 4) (Dr);have ht:=Aly b (UO (part b 6 4) 0).1 F0 v1 v2;rw[Abl F5,g3,Aa,g5,Aa,LW,MN,e6,Aa,Ack _ (Dr),Aa,Xm,Abl (λh=>h hp),Abl h10];generalize UO (part b 6 4) 0=v at*
   obtain⟨v,e⟩:=v;simp only at ht v1 v2⊢;simp only[Aa,g4,LK,aI];generalize b.getD 3 0=x at*
   generalize b.getD 4 0=y at*
   generalize b.getD 5 0=z at*
   simp only[Ac2,Auv,UP,Ali,Ao];have e2:(2:UInt8).toNat=2:=rfl;have e4:(4:UInt8).toNat=4:=rfl;by_cases he:e=0<;>by_cases hy:y=0<;>by_cases hz:z=0<;>by_cases hz2:z=16<;>by_cases hx:x=4<;>by_cases hx2:2<=x.toNat<;>by_cases hx4:x.toNat<=4<;>simp_all
 ·rw[Abo (by rw[Apy,Auo];exact hp),Xm,Abo hp]
theorem Anw{n:Int}(h:Xm b=(n,0)):10<=n/\n<=b.length/\n<=4000:=by
 unfold Xm at h;split at h; · simp at h
 split at h; · simp at h
 split at h; · simp at h
 rename_i h10 _;obtain⟨v1,v2⟩:=Ab5 (b:=part b 6 4) (Dr);unfold tQ at h;generalize hm:(UO (part b 6 4) 0).1+10+(if b.getD 5 0=16 then 10 else 0)=m at h;unfold VR at h;split at h; · simp at h
 split at h; · simp at h
 split at h; · simp at h
 simp only[Afp,Az6]at h;subst h;refine⟨?_,F0,F0⟩;rw[<-hm];split<;>omega
theorem Baz(h:p:=by rw[Af,Ac];simp):p:=h
theorem Bak(h:p:=by rw[Dr];omega):p:=h
theorem Bav(h:p:=by simp[On]):p:=h
end Go.Pl
namespace Go.Pl
open Go Go.Lv
def vH:LB:=[65,80,69,84,65,71,69,88]
def Od(n m fl:Nat):LB:=vH++FU 2000 4++FU (n+32) 4++FU m 4++FU fl 4++List.replicate 8 0
theorem UB{n:Nat}(h:n<18446744073709551616):(UInt64.ofNat n).toNat=n:=by rw[Ajj,Adl h]
theorem iL(n m:Int)(fl:UInt64)(c:UInt64)(i q:Nat)(acc:LB)(hi:i<6)(hc:Ak ([(2000:UInt64),(Ad (Ae n (32:Int)):UInt64),(Ad m:UInt64),fl,(0:UInt64),(0:UInt64)]:LQ) (i:Int)=some c)(h:c.toNat<4294967296)(ha:acc.length<=1000000):
  AV n m fl (q+1) (i:Int) acc=AV n m fl q ((i+1:Nat):Int) (acc++FU c.toNat 4):=by
 have hb:=C7 c 4 F0 F0 (by simpa using h);rw[AV,YZ,Abo F5,hc,Aa,Aa,show((4:Int))=((4:Nat):Int)from rfl,hb,Aa];simp only;rw[Cr (by rw[On];omega),Aa,Aj];rfl
theorem wW(n m:Nat)(fl:UInt64)(hn:n<=3000)(hm:m<=1000)(hf:fl.toNat<4294967296):gZ (n:Int) (m:Int) fl=some (Od n m fl.toNat):=by
 have e1:(Ad (Ae (n:Int) (32:Int)):UInt64).toNat=n+32:=by rw[Aj,show(n:Int)+32=((n+32:Nat):Int) by omega,Xi,UB F0]
 have e2:(Ad (m:Int):UInt64).toNat=m:=by rw[Xi,UB F0]
 have hF:Ar=(Ar-7)+1+1+1+1+1+1+1:=by have:=Aq;omega
 rw[gZ,mC,xM,hF];rw[show((0:Int))=((0:Nat):Int)from rfl,iL n m fl 2000 0 _ _ F0 rfl F7 Bab,iL n m fl _ 1 _ _ F0 rfl (by rw[e1];omega) Bav,iL n m fl _ 2 _ _ F0 rfl (by rw[e2];omega) Bav,
  iL n m fl fl 3 _ _ F0 rfl hf Bav,iL n m fl 0 4 _ _ F0 rfl F7 Bav,iL n m fl 0 5 _ _ F0 rfl F7 Bav,e1,e2]
 rw[AV,YZ,Abl Baz,lJ,C2,Od];have z:FU (0:UInt64).toNat 4++FU (0:UInt64).toNat 4=List.replicate 8 0:=F7
 have z2:FU (2000:UInt64).toNat 4=FU 2000 4:=rfl;rw[Aoc _ (FU (0:UInt64).toNat 4),z,z2];rfl
theorem pT(n m:Nat)(fl:UInt64)(hn:n<=3000)(hm:m<=1000)(hf:fl.toNat<4294967296):Qn (n:Int) (m:Int) fl=some (Od n m fl.toNat):=by
 have e1:(Ad (Ae (n:Int) (32:Int)):UInt64).toNat=n+32:=by rw[Aj,show(n:Int)+32=((n+32:Nat):Int) by omega,Xi,UB F0]
 have e2:(Ad (m:Int):UInt64).toNat=m:=by rw[Xi,UB F0]
 have w:∀c:UInt64,Ed c 4=some (FU c.toNat 4):=λc=>zY c 4 F0;have z2:FU (2000:UInt64).toNat 4=FU 2000 4:=rfl;rw[Qn];simp only[w,e1,e2,Aa];rw[Cr Bav,Aa,Cr Bav,Aa,Cr Bav,Aa,Cr Bav,Aa,D1,Aa,Cr Bav,Aa,z2];rfl
theorem OL{b:LB}{a w k:Nat}(h:a+w<=k):part (b.take k) a w=part b a w:=by rw[part,part,List.take_take,Au2 h]
def CG(b:LB):Bool:=decide (El (part b 12 4)<32\/3032<El (part b 12 4)\/1000<El (part b 16 4))
theorem Am8(b:LB)(h:20<=b.length):(((Ch (jR (part b 12 4)) (32:UInt64))||(Dw (jR (part b 12 4)) (3032:UInt64)))||(Dw (jR (part b 16 4)) (1000:UInt64)))=CG b:=by
 rw[vM,TD,TD,UC Bak,UC Bak,CG];show((decide (El (part b 12 4)<32)||decide (3032<El (part b 12 4)))||decide (1000<El (part b 16 4)))=_;simp[Bool.or_assoc]
theorem qX(b:LB)(h:20<=b.length)(hb:CG b=false):Am (Ad (jR (part b 12 4)):Int) (32:Int)=((El (part b 12 4)-32:Nat):Int)/\ (Ad (jR (part b 16 4)):Int)=((El (part b 16 4):Nat):Int)/\El (part b 12 4)-32<=3000/\El (part b 16 4)<=1000:=by
 simp only[CG,Auo]at hb;refine⟨?_,IW Bak,F0,F0⟩;rw[IW Bak,Ci];omega
theorem ZE(b:LB)(fl:UInt64)(h:20<=b.length)(hl:b.length<4611686018427387904)(hf:fl.toNat<4294967296):
  OP b fl=some (if CG b=true then(0,0,false)else(((El (part b 12 4)-32:Nat):Int),((El (part b 16 4):Nat):Int),b==Od (El (part b 12 4)-32) (El (part b 16 4)) fl.toNat)):=by
 have a1:WN b 12 4=some (jR (part b 12 4),0):=M2 b 12 4 F0 F0 F0 hl;have a2:WN b 16 4=some (jR (part b 16 4),0):=M2 b 16 4 F0 F0 F0 hl;rw[OP,a1,Aa];simp only;rw[a2,Aa];simp only;rw[Am8 b h];cases hb:CG b with
 |true=>rfl
 |false=>
  obtain⟨i1,i2,i3,i4⟩:=qX b h hb;rw[i1,i2,wW _ _ _ i3 i4 hf];rfl
theorem lq(b:LB)(h:20<=b.length)(hl:b.length<4611686018427387904):
  Uc b=some (if CG b=true then(0,0,false)else(((El (part b 12 4)-32:Nat):Int),((El (part b 16 4):Nat):Int),true)):=by
 have a1:Bi b 12 16=some (part b 12 4):=Ot 12 4;have a2:Bi b 16 20=some (part b 16 4):=Ot 16 4;rw[Uc,a1,Aa,Aab _ Bak,Aa,a2,Aa,Aab _ Bak,Aa,Am8 b h];cases hb:CG b with
 |true=>rfl
 |false=>
  obtain⟨i1,i2,i3,i4⟩:=qX b h hb;rw[i1,i2];rfl
def Jd(b:LB):Int×Int:=
 if ¬(8<=b.length/\b.take 8=vH)then(0,6)else if b.length<32 then(0,24)else
 if CG b=true\/b.take 32≠Od (El (part b 12 4)-32) (El (part b 16 4)) 2684354560 then(0,12)else
 if b.length<El (part b 12 4)+32 then(0,24)else
 if(b.take (El (part b 12 4)+32)).drop (El (part b 12 4))≠Od (El (part b 12 4)-32) (El (part b 16 4)) 2147483648 then(0,12)else(((El (part b 12 4)+32:Nat):Int),0)
theorem su(b:LB):CG (b.take 32)=CG b:=by rw[CG,CG,OL F0,OL F0]
section
variable {b:LB}
theorem fa1(h:¬(8<=b.length/\b.take 8=vH)):Jd b=(0,6):=by rw[Jd,Abo h]
theorem fa2(h:8<=b.length/\b.take 8=vH)(h2:b.length<32):Jd b=(0,24):=by rw[Jd,Abl (λh'=>h' h),Abo h2]
variable (h:8<=b.length/\b.take 8=vH) (h2:¬b.length<32)
include h h2
theorem fa3(h3:CG b=true):Jd b=(0,12):=by rw[Jd,Abl (λh'=>h' h),Abl h2,Abo (.inl h3)]
theorem fa4(h4:b.take 32≠Od (El (part b 12 4)-32) (El (part b 16 4)) 2684354560):Jd b=(0,12):=by rw[Jd,Abl (λh'=>h' h),Abl h2,Abo (.inr h4)]
variable (h3:CG b=false) (h4:b.take 32=Od (El (part b 12 4)-32) (El (part b 16 4)) 2684354560)
include h3 h4
theorem fa5(h5:b.length<El (part b 12 4)+32):Jd b=(0,24):=by
 rw[Jd,Abl (λh'=>h' h),Abl h2,Abl (λh'=>h'.elim (λe=>by rw[h3]at e;cases e) λe=>e h4),Abo h5]
theorem fa6(h5:¬b.length<El (part b 12 4)+32)(h6:(b.take (El (part b 12 4)+32)).drop (El (part b 12 4))≠Od (El (part b 12 4)-32) (El (part b 16 4)) 2147483648):Jd b=(0,12):=by
 rw[Jd,Abl (λh'=>h' h),Abl h2,Abl (λh'=>h'.elim (λe=>by rw[h3]at e;cases e) λe=>e h4),Abl h5,Abo h6]
theorem fa7(h5:¬b.length<El (part b 12 4)+32)(h6:(b.take (El (part b 12 4)+32)).drop (El (part b 12 4))=Od (El (part b 12 4)-32) (El (part b 16 4)) 2147483648):Jd b=(((El (part b 12 4)+32:Nat):Int),0):=by
 rw[Jd,Abl (λh'=>h' h),Abl h2,Abl (λh'=>h'.elim (λe=>by rw[h3]at e;cases e) λe=>e h4),Abl h5,Abl (λh'=>h' h6)]
end
theorem Acd(b:LB)(hl:b.length<4611686018427387904):iA b=some (Jd b):=by
 rw[iA,YW,Aa];by_cases hp:8<=b.length/\b.take 8=vH
 ·rw[Abl (by simpa [vH]using hp)];by_cases h32:b.length<32
  ·rw[Abo F5,fa2 hp h32]
  ·have t:=ZE (b.take 32) 2684354560 F9 F9 F7;rw[su,OL F0,OL F0]at t;rw[Abl F5,Cw,Aa,show(32:Int).toNat=32 from rfl,t,Aa];cases hb:CG b with
   |true=>rw[fa3 hp h32 hb];simp
   |false=>
    obtain⟨i1,i2,i3,i4⟩:=qX b F0 hb;have i5:32<=El (part b 12 4):=by simp only[CG,Auo]at hb;omega
    simp only[Asf,Axv,false_or];by_cases c1:b.take 32=Od (El (part b 12 4)-32) (El (part b 16 4)) 2684354560
    ·have c1':b.take 32=Od (El (part b 12 4)-32) (El (part b 16 4)) (2684354560:UInt64).toNat:=c1;rw[Abl (by simpa using c1'),Aj];have e1:((El (part b 12 4)-32:Nat):Int)+64=((El (part b 12 4)+32:Nat):Int):=F0
     rw[e1];by_cases c2:b.length<El (part b 12 4)+32
     ·rw[Abo F5,fa5 hp h32 hb c1 c2]
     ·rw[Abl F5,Ci,DD,Aa,wW _ _ _ i3 i4 F7,Aa,Jb,Aa];rw[show(((El (part b 12 4)+32:Nat):Int)).toNat=El (part b 12 4)+32 by omega,show(((El (part b 12 4)+32:Nat):Int)-32).toNat=El (part b 12 4) by omega];by_cases c3:(b.take (El (part b 12 4)+32)).drop (El (part b 12 4))=Od (El (part b 12 4)-32) (El (part b 16 4)) 2147483648
      ·have c3':(b.take (El (part b 12 4)+32)).drop (El (part b 12 4))=Od (El (part b 12 4)-32) (El (part b 16 4)) (2147483648:UInt64).toNat:=c3;rw[Abl (by simpa using c3'),fa7 hp h32 hb c1 c2 c3]
      ·have c3':¬(b.take (El (part b 12 4)+32)).drop (El (part b 12 4))=Od (El (part b 12 4)-32) (El (part b 16 4)) (2147483648:UInt64).toNat:=c3;rw[Abo (by simpa using c3'),fa6 hp h32 hb c1 c2 c3]
    ·have c1':¬b.take 32=Od (El (part b 12 4)-32) (El (part b 16 4)) (2684354560:UInt64).toNat:=c1;rw[Abo (by simpa using c1'),fa4 hp h32 c1]
 ·rw[Abo (by rw[Apy,Auo];exact hp),fa1 hp]
theorem Ahp(b:LB)(hl:b.length<4611686018427387904):AE b=some (Jd b):=by
 rw[AE,FZ];by_cases h8:8<=b.length
 ·rw[Abl F5,Cw,Aa,show(8:Int).toNat=8 from rfl];by_cases ha:b.take 8=vH
  ·have hp:=And.intro h8 ha;rw[Abl (by simpa [vH]using ha),GM,GD];by_cases h32:b.length<32
   ·rw[Abo F5,fa2 hp h32]
   ·have t:=lq (b.take 32) F9 F9;rw[su,OL F0,OL F0]at t;rw[Abl F5,Cw,Aa,show(32:Int).toNat=32 from rfl,t,Aa];cases hb:CG b with
    |true=>rw[fa3 hp h32 hb];simp
    |false=>
     obtain⟨i1,i2,i3,i4⟩:=qX b F0 hb;have i5:32<=El (part b 12 4):=by simp only[CG,Auo]at hb;omega
     simp only[Asf,Axv,false_or,Aa,Azi];rw[Ul,pT _ _ _ i3 i4 F7,Aa,Aa];by_cases c1:b.take 32=Od (El (part b 12 4)-32) (El (part b 16 4)) 2684354560
     ·have c1':b.take 32=Od (El (part b 12 4)-32) (El (part b 16 4)) (2684354560:UInt64).toNat:=c1;rw[Abl (by simpa using c1'),HA,GN,Aj];have e1:64+((El (part b 12 4)-32:Nat):Int)=((El (part b 12 4)+32:Nat):Int):=F0
      rw[e1];by_cases c2:b.length<El (part b 12 4)+32
      ·rw[Abo F5,fa5 hp h32 hb c1 c2]
      ·rw[Abl F5,Ci,DD,Aa,Lb,Abo rfl,pT _ _ _ i3 i4 F7,Aa,Aa];rw[show(((El (part b 12 4)+32:Nat):Int)).toNat=El (part b 12 4)+32 by omega,show(((El (part b 12 4)+32:Nat):Int)-32).toNat=El (part b 12 4) by omega];by_cases c3:(b.take (El (part b 12 4)+32)).drop (El (part b 12 4))=Od (El (part b 12 4)-32) (El (part b 16 4)) 2147483648
       ·have c3':(b.take (El (part b 12 4)+32)).drop (El (part b 12 4))=Od (El (part b 12 4)-32) (El (part b 16 4)) (2147483648:UInt64).toNat:=c3;rw[Abl (by simpa using c3'),fa7 hp h32 hb c1 c2 c3]
       ·have c3':¬(b.take (El (part b 12 4)+32)).drop (El (part b 12 4))=Od (El (part b 12 4)-32) (El (part b 16 4)) (2147483648:UInt64).toNat:=c3;rw[Abo (by simpa using c3'),fa6 hp h32 hb c1 c2 c3]
     ·have c1':¬b.take 32=Od (El (part b 12 4)-32) (El (part b 16 4)) (2684354560:UInt64).toNat:=c1;rw[Abo (by simpa using c1'),fa4 hp h32 c1]
  ·rw[Abo (by simpa [vH]using ha),fa1 (λh=>ha h.2)]
 ·rw[Abo F5,fa1 (λh=>h8 h.1)]
theorem Ai0{b:LB}{n:Int}(h:Jd b=(n,0)):64<=n/\n<=b.length:=by
 unfold Jd at h;split at h; · simp at h
 split at h; · simp at h
 split at h; · simp at h
 rename_i hb;split at h; · simp at h
 split at h; · simp at h
 simp only[Afp,Az6]at h;have hb':¬CG b=true:=λe=>hb (.inl e);simp only[CG,Adf]at hb';omega
def Ck(b:LB):Int×Int:=if(Xm b).2≠6 then Xm b else Jd b
theorem size_eq(b:LB)(hl:b.length<4611686018427387904):Vs b=some (Ck b):=by
 rw[Vs,Ait b hl,Aa,Acd b hl];by_cases h:(Xm b).2=6
 ·simp[Ck,h,Ao]
 ·simp[Ck,h,Ao]
theorem fN{b:LB}{n:Int}(h:Ck b=(n,0)):10<=n/\n<=b.length:=by
 unfold Ck at h;split at h
 ·have:=Anw h;omega
 ·have:=Ai0 h;omega
def Cb(b:LB):Nat->Nat->LI×Int
 |0,_=>([],6)
 |j+1,p=>if(Ck (b.drop p)).2=6 then([],0)else if(Ck (b.drop p)).2≠0 then([],(Ck (b.drop p)).2)else
  if 4000<(p:Int)+(Ck (b.drop p)).1 then([],4)else
  if(Cb b j (p+(Ck (b.drop p)).1.toNat)).2=0 then((Ck (b.drop p)).1::(Cb b j (p+(Ck (b.drop p)).1.toNat)).1,0)else([],(Cb b j (p+(Ck (b.drop p)).1.toNat)).2)
theorem iN(b:LB):∀(j p:Nat),p<=b.length->p<=4000-> (Cb b j p).2=0-> (∀x∈(Cb b j p).1,10<=x)/\ (p:Int)+(Cb b j p).1.sum<=b.length/\ (p:Int)+(Cb b j p).1.sum<=4000
 |0,p,_,_,h=>by simp[Cb]at h
 |j+1,p,hp,hq,h=>by
  rw[Cb]at h⊢;split at h
  ·rename_i h6;rw[Abo h6];simp;omega
  ·rename_i h6;split at h
   ·rename_i h0;exact absurd h h0
   ·rename_i h0;rw[Abl h6,Abl h0];have hz:Ck (b.drop p)=((Ck (b.drop p)).1,0):=by rw[Prod.ext_iff];exact⟨rfl,Classical.not_not.1 h0⟩
    have hs:=fN hz;rw[Ae7]at hs;split at h
    ·simp at h
    ·rename_i h4;rw[Abl h4];split at h
     ·rename_i h00;rw[Abo h00];obtain⟨i1,i2,i3⟩:=iN b j _ F0 F0 h00;refine⟨λx hx=>?_,?_,?_⟩
      ·rcases List.mem_cons.1 hx with rfl|hx
       ·exact hs.1
       ·exact i1 x hx
      ·simp only[Au9];omega
      ·simp only[Au9];omega
     ·rename_i h00;exact absurd h h00
def I6(b:LB)(j p:Nat):Int×Int:=if(Cb b j p).2=0 then((p:Int)+(Cb b j p).1.sum,0)else(0,(Cb b j p).2)
theorem B6(b:LB)(hl:b.length<4611686018427387904):∀(j p q:Nat),p<=b.length->p<=4000->b.length-p<j->j<=q->Te b q (p:Int)=some (I6 b j p)
 |0,p,q,_,_,h,_=>by omega
 |j+1,p,q,hp,hp4,hj,hq=>by
  obtain⟨q,rfl⟩:∃k,q=k+1:=⟨q-1,F0⟩;rw[Te,Cz,Aa,Ajr,size_eq _ F9,Aa,Bb,Bb,Ao,I6];by_cases h6:(Ck (b.drop p)).2=6
  ·rw[Abo (by simpa using h6)];have:Cb b (j+1) p=([],0):=by rw[Cb,Abo h6]
   rw[this];simp
  ·rw[Abl (by simpa using h6)];by_cases h0:(Ck (b.drop p)).2=0
   ·have hz:Ck (b.drop p)=((Ck (b.drop p)).1,0):=by rw[Prod.ext_iff];exact⟨rfl,h0⟩
    have hs:=fN hz;rw[Ae7]at hs;rw[Aj,Ax];by_cases h4:4000<(p:Int)+(Ck (b.drop p)).1
    ·rw[Abo (by simp[h0];omega)];have:Cb b (j+1) p=([],4):=by rw[Cb,Abl h6,Abl (λh=>h h0),Abo h4]
     rw[this];simp
    ·rw[Abl (by simp[h0];omega),Abl (by simpa using h0)];have ih:=B6 b hl j (p+(Ck (b.drop p)).1.toNat) q F0 F0 F0 F0;rw[show(p:Int)+(Ck (b.drop p)).1=((p+(Ck (b.drop p)).1.toNat:Nat):Int) by omega,ih,I6];have:Cb b (j+1) p=if(Cb b j (p+(Ck (b.drop p)).1.toNat)).2=0 then((Ck (b.drop p)).1::(Cb b j (p+(Ck (b.drop p)).1.toNat)).1,0)else([],(Cb b j (p+(Ck (b.drop p)).1.toNat)).2):=by
      rw[Cb,Abl h6,Abl (λh=>h h0),Abl h4]
     rw[this];by_cases hr:(Cb b j (p+(Ck (b.drop p)).1.toNat)).2=0
     ·simp only[hr,Az5,Au9];congr 2;omega
     ·simp only[hr,Axv]
   ·rw[Abl (by simp[h0]),Abo (by simpa using h0)];have:Cb b (j+1) p=([],(Ck (b.drop p)).2):=by rw[Cb,Abl h6,Abo h0]
    rw[this];simp[h0]
def Ake(b:LB)(j p:Nat)(xs:LI):LI×Int:=if(Cb b j p).2=0 then(xs++(Cb b j p).1,0)else([],(Cb b j p).2)
theorem Akj(bk:Int->LI->Option (LI×Int))(b:LB)(p:Nat)(hp:p<=b.length)(xs:LI)(hx:xs.length<=4000)(hl:b.length<4611686018427387904):Tx (Nr bk b) b (p:Int) xs=Nr bk b (p:Int) xs (Ck (b.drop p)).1 (Ck (b.drop p)).2:=by
 have hf:=Ahp (b.drop p) F9;rw[Tx,Cz,Aa,Ajr,Amn _ F9,Aa];by_cases h:(Xm (b.drop p)).2=6
 ·simp[Ck,h,Bb,hf]
 ·simp[Ck,h,Bb]
theorem P2(b:LB)(hl:b.length<4611686018427387904):∀(j p q:Nat) (xs:LI),p<=b.length->p<=4000->b.length-p<j->j<=q->xs.length<=p->Nh b q (p:Int) xs=some (Ake b j p xs)
 |0,p,q,_,_,_,h,_,_=>by omega
 |j+1,p,q,xs,hp,hp4,hj,hq,hx=>by
  obtain⟨q,rfl⟩:∃k,q=k+1:=⟨q-1,F0⟩;rw[Nh,Akj _ b p hp xs F0 hl,Nr,GL,Bb,Ao,Ake];by_cases h6:(Ck (b.drop p)).2=6
  ·rw[Abo (by simpa using h6)];have:Cb b (j+1) p=([],0):=by rw[Cb,Abo h6]
   rw[this];simp
  ·rw[Abl (by simpa using h6)];by_cases h0:(Ck (b.drop p)).2=0
   ·have hz:Ck (b.drop p)=((Ck (b.drop p)).1,0):=by rw[Prod.ext_iff];exact⟨rfl,h0⟩
    have hs:=fN hz;rw[Ae7]at hs;rw[Abl (by simpa using h0),Aj,Ax];by_cases h4:4000<(p:Int)+(Ck (b.drop p)).1
    ·rw[Abo F9];have:Cb b (j+1) p=([],4):=by rw[Cb,Abl h6,Abl (λh=>h h0),Abo h4]
     rw[this];simp
    ·rw[Abl F9,Cr F9,Aa];have ih:=P2 b hl j (p+(Ck (b.drop p)).1.toNat) q (xs++[(Ck (b.drop p)).1]) F0 F0 F0 F0 F9;rw[show(p:Int)+(Ck (b.drop p)).1=((p+(Ck (b.drop p)).1.toNat:Nat):Int) by omega,ih,Ake];have:Cb b (j+1) p=if(Cb b j (p+(Ck (b.drop p)).1.toNat)).2=0 then((Ck (b.drop p)).1::(Cb b j (p+(Ck (b.drop p)).1.toNat)).1,0)else([],(Cb b j (p+(Ck (b.drop p)).1.toNat)).2):=by
      rw[Cb,Abl h6,Abl (λh=>h h0),Abl h4]
     rw[this];by_cases hr:(Cb b j (p+(Ck (b.drop p)).1.toNat)).2=0
     ·simp only[hr,Az5];simp
     ·simp only[hr,Axv]
   ·rw[Abo (by simpa using h0)];have:Cb b (j+1) p=([],(Ck (b.drop p)).2):=by rw[Cb,Abl h6,Abo h0]
    rw[this];simp[h0]
theorem vG:∀{l:LI},(∀x∈l,10<=x)->0<=l.sum/\ (l.length:Int)<=l.sum
 |[],_=>by simp
 |x::l,h=>by
  have h1:=h x Ave;have h2:=vG (l:=l) λy hy=>h y (Aqg _ hy);simp only[Au9,As0];omega
theorem wI(r:Int)(l:LI)(hl:l.length<=4000)(hx:∀x∈l,10<=x):∀(j i q:Nat) (n:Int),i+j=l.length->j<q->0<=n->n+(l.drop i).sum<=4000->Jl r l q n (i:Int)=some (n+(l.drop i).sum,r)
 |0,i,q+1,n,hi,_,_,_=>by
  rw[Jl,Th,Abl F5,show i=l.length by omega,Axj];simp[GZ,FY]
 |j+1,i,q+1,n,hi,hq,hn,hs=>by
  have hlt:i<l.length:=F0
  rw[drop_cons hlt,Au9]at hs⊢;have h1:=hx l[i] (Ao8 hlt);have h2:=vG (l:=l.drop (i+1)) λy hy=>hx y (List.mem_of_mem_drop hy);rw[Jl,Th,Abo F5,Cf hlt,Aa,Aa,Aj,Aj];have ih:=wI r l hl hx j (i+1) q (n+l[i]) F0 F0 F0 F0;rw[show((i:Int)+1)=((i+1:Nat):Int) by omega,ih];congr 2;omega
def Da(b:LB):Int×Int:=I6 b (b.length+1) 0
theorem PD(b:LB)(hl:b.length<4611686018427387904):Iy b=some (Da b):=by
 have:=B6 b hl (b.length+1) 0 Ar F0 F0 F0 Az9;exact this
theorem YU(b:LB)(hl:b.length<4611686018427387904):Nf b=some (Da b):=by
 have h:=P2 b hl (b.length+1) 0 Ar [] F0 F0 F0 Az9 Bab;have h':PN b=some (Ake b (b.length+1) 0 []):=h;rw[Nf,GJ,h',Aa,Da,I6,Ake];have ho:=iN b (b.length+1) 0 F0 F0;by_cases h0:(Cb b (b.length+1) 0).2=0
 ·obtain⟨i1,i2,i3⟩:=ho h0;have hp:=vG i1;simp only[h0,Az5,Ass];have:=wI 0 (Cb b (b.length+1) 0).1 F0 i1 (Cb b (b.length+1) 0).1.length 0 Ar 0 F0 Az9 F0 (by simpa using i3);simpa [Tj]using this
 ·simp only[h0,Axv];have:=wI (Cb b (b.length+1) 0).2 [] Bab Bab 0 0 Ar 0 Bab Az9 F0 Bab;simpa [Tj]using this
theorem OM{b:LB}(h:(Da b).2=0):0<= (Da b).1/\ (Da b).1<=b.length/\ (Da b).1<=4000:=by
 unfold Da I6 at h⊢;split at h
 ·rename_i h0;rw[Abo h0];obtain⟨i1,i2,i3⟩:=iN b (b.length+1) 0 F0 F0 h0;have hp:=vG i1;exact⟨by simp;omega,i2,i3⟩
 ·rename_i h0;exact absurd h h0
theorem Bam{p:Prop}(h:p:=by rw[Af,Ac,Ac];simp;omega):p:=h
end Go.Pl
namespace Go.Pl
open Go Go.Lv
def As(r:Nat):Nat:=max 1 (256*r/245)
theorem La(r:Nat):1<=As r:=Nat.le_max_left _ _
theorem zD{r:Nat}(h:r<=1048576):As r<=1100000:=by unfold As;omega
theorem zl{r:Nat}(h:r<=1048576):bW (1:Int) (Cy (Bv (256:Int) (r:Int)) (245:Int))=(As r:Int):=by
 rw[Ii,LN,Avv F0,Cq F0 F0,Z2,As];omega
def Al(g n:Nat):LI:=List.replicate ((n-1)/g) (g:Int)++[((n-(n-1)/g*g:Nat):Int)]
theorem tD(g n:Nat):(Al g n).length=(n-1)/g+1:=by simp[Al]
theorem J5{g n:Nat}(h:n<=g)(h1:1<=n):Al g n=[(n:Int)]:=by
 rw[Al,Axg F0];simp
theorem Abb{g n:Nat}(hg:1<=g)(h:g<n):Al g n=(g:Int)::Al g (n-g):=by
 have e:(n-1)/g=(n-g-1)/g+1:=by rw[<-Nat.add_div_right _ F0];congr 1;omega
 rw[Al,Al,e,Axc,Ax0];congr 4;have:=Awm (n-g-1) g;rw[Asn,Nat.one_mul];omega
theorem mW{g n:Nat}(hg:1<=g)(h1:1<=n):(n+g-1)/g=(n-1)/g+1:=by
 rw[<-Nat.add_div_right _ F0];congr 1;omega
theorem K0{r:Nat}(h1:1<=r)(h:r<=1048576):CJ (r:Int)=some ((As r:Int),0):=by
 rw[CJ,Abl Bah,zl h]
theorem Alg{r:Nat}(h:r<=1048576):Up (r:Int)=some (As r:Int):=by rw[Up,zl h]
theorem yO{r n:Nat}(h1:1<=r)(h:r<=1048576)(n1:1<=n)(n2:n<=4000):Ta (r:Int) (n:Int)=some (if 1000<(n-1)/As r+1 then(0,4)else((((n-1)/As r+1:Nat):Int),0)):=by
 have hp:=La r;have hl:=zD h;have e:Cy (Am (Ae (n:Int) (As r:Int)) (1:Int)) (As r:Int)=(((n-1)/As r+1:Nat):Int):=by
  have:(n+As r-1)/As r<=n+As r-1:=Aud _ _;rw[Aj,Ci,LN,Avv F0,show(n:Int)+(As r:Int)-1=((n+As r-1:Nat):Int) by omega,<-Int.natCast_ediv,mW hp n1];rw[mW hp n1]at this;generalize(n-1)/As r=k at*
  exact Cq F0 F0
 rw[Ta,K0 h1 h,Aa];simp only;rw[Abl Bac,Abl Bah,Dj Baf,Aa,e];by_cases hk:1000<(n-1)/As r+1
 ·rw[Abo Bad,Abo hk]
 ·rw[Abl Bad,Abl hk]
theorem C4{r:Nat}(h:r<=1048576):∀(j n q:Nat) (acc:LI),n<=4000->n<=j->j<q->acc.length+n<=10000->Ez (r:Int) q (n:Int) acc=some (acc++(if n=0 then []else Al (As r) n))
 |0,n,q+1,acc,hn,hj,hq,ha=>by
  obtain rfl:n=0:=F0
  rw[Ez,Jq,Abl Bax];simp[Ns,Nk]
 |j+1,n,q+1,acc,hn,hj,hq,ha=>by
  have hp:=La r;have hl:=zD h;by_cases h0:n=0
  ·subst h0;rw[Ez,Jq,Abl Bax];simp[Ns,Nk]
  ·rw[Ez,Jq,Abo Bad,Alg h,Aa,Cr F9,Aa,Aa,Ci,HF];by_cases hs:n<=As r
   ·rw[show min (n:Int) (As r:Int)=(n:Int) by omega,Abl h0,J5 hs F0];have hz:∃k,q=k+1:=⟨q-1,F0⟩;obtain⟨q,rfl⟩:=hz;rw[Ez,Jq,Abl Bad];simp[Ns,Nk]
   ·rw[show min (n:Int) (As r:Int)=(As r:Int) by omega,show(n:Int)-(As r:Int)=((n-As r:Nat):Int) by omega,C4 h j (n-As r) q _ F0 F0 F0 F9,Abl F0,Abl h0,Abb hp (show As r<n by omega)];simp
theorem oJ{r n:Nat}(h:r<=1048576)(n1:1<=n)(n2:n<=4000):Ke (r:Int) (n:Int)=some (Al (As r) n):=by
 have:=C4 h n n Ar [] n2 (An1 _) Az9 F9;rw[Ke,GH,FX,this,Abl F0];rfl
theorem mul_one(m:Nat)(h:m<=100000):IX (1:UInt64) (UInt64.ofNat m)=some (0,UInt64.ofNat m):=by
 have y1:(UInt64.ofNat m).toNat=m:=UB F0;have s1:Cn (1:UInt64) (GI.toZ (32:UInt64)).toNat=0:=F7
 have s2:Cn (UInt64.ofNat m) (GI.toZ (32:UInt64)).toNat=0:=by
  apply UInt64.toNat_inj.1;rw[KZ,y1];exact Axg (Axa h F7)
 have s0:Cn (0:UInt64) (GI.toZ (32:UInt64)).toNat=0:=F7
 have a1:Er (1:UInt64) (4294967295:UInt64)=1:=F7
 have a0:Er (0:UInt64) (4294967295:UInt64)=0:=F7
 have a2:Er (UInt64.ofNat m) (4294967295:UInt64)=UInt64.ofNat m:=by
  apply UInt64.toNat_inj.1;rw[zW,UInt64.toNat_and,y1]
  show m&&& (2^32-1)=m;rw[Ay6,Adl F0]
 have m1:∀x:UInt64,Bv 1 x=x:=λx=>by rw[KC,UInt64.one_mul]
 have m0:∀x:UInt64,Bv 0 x=0:=λx=>by rw[KC,UInt64.zero_mul]
 have p0:∀x:UInt64,Ae 0 x=x:=λx=>by rw[KI,UInt64.zero_add]
 have p1:∀x:UInt64,Ae x 0=x:=λx=>by rw[KI,UInt64.add_zero]
 rw[IX,MB];simp only[s1,s2,a1,a2,m1,m0,p0,p1,s0,a0,Aa]
theorem sX(v:Int)(m:Nat)(hm:m<=100000):∀(j n q:Nat),1<=n->n<=m->m-n<=j->j<q->Es q (n:Int) (List.replicate n v++List.replicate (m-n) 0)=some (List.replicate m v)
 |j,n,q+1,hn,hnm,hj,hq=>by
  have hlen:Ac (List.replicate n v++List.replicate (m-n) 0)=(m:Int):=by simp[Ac];omega
  rw[Es,He,hlen];by_cases h:n<m
  ·obtain⟨j,rfl⟩:∃k,j=k+1:=⟨j-1,F0⟩;rw[Abo Az8];have v1:iW (m:Int) (n:Int) (m:Int)=some ():=by rw[iW,Dj];simp;omega
   have v2:iW (m:Int) (0:Int) (n:Int)=some ():=by rw[iW,Dj];simp;omega
   have e1:WG (List.replicate n v++List.replicate (m-n) 0) (0:Int) ((n:Int)-0)=List.replicate n v:=by
    simp[WG]
   rw[v1,Aa,v2,Aa,e1];have e2:QZ ((m:Int)-(n:Int)) (List.replicate n v).length=((min n (m-n):Nat):Int):=by
    rw[QZ,List.length_replicate];split<;>omega
   have e3:Vh (List.replicate n v++List.replicate (m-n) 0) (n:Int) ((m:Int)-(n:Int)) (List.replicate n v)=List.replicate (n+min n (m-n)) v++List.replicate (m-(n+min n (m-n))) 0:=by
    have t1:((m:Int)-(n:Int)).toNat=m-n:=F0
    have t2:(List.replicate n v++List.replicate (m-n) (0:Int)).take n=List.replicate n v:=by simp
    rw[Vh,t1,Ajr,t2,List.take_replicate,List.length_replicate,<-Aoc,List.replicate_append_replicate,List.drop_append,List.length_replicate,Nat.min_comm (m-n) n];simp only[List.drop_replicate];rw[show n-(n+min n (m-n))=0 by omega,List.replicate_zero,Ass,show m-n-(n+min n (m-n)-n)=m-(n+min n (m-n)) by omega]
   rw[e2,e3,Aj,show(n:Int)+((min n (m-n):Nat):Int)=((n+min n (m-n):Nat):Int) by omega];exact sX v m hm j (n+min n (m-n)) q F0 F0 F0 F0
  ·rw[Abl Az8];obtain rfl:n=m:=F0
   simp[Je,Nu]
theorem Ai4(v:Int)(m:Nat)(hm:m<=100000):Nq [v] (m:Int)=some (List.replicate m v):=by
 have y1:(UInt64.ofNat m).toNat=m:=UB F0;have c1:(Ad (Ac [v]):UInt64)=1:=by rfl
 have c2:(Ad (m:Int):UInt64)=UInt64.ofNat m:=Xi m;have c3:(Ad (UInt64.ofNat m):Int)=(m:Int):=by rw[sE F0,y1]
 rw[Nq,Pj,Abl Baj,Zg,Pe,c1,c2,mul_one m hm,Aa];simp only;rw[Abl (by rw[TD,TD,y1];simp;show m<=9223372036854775807;omega),Zb,Pm,c3,D1,Aa,Dj Ba0,Aa,Zf,Ajr];by_cases h0:m=0
 ·subst h0;have hF:Ar=(Ar-1)+1:=by have:=Aq;omega
  rw[hF,Es,He];simp[Ac,E9,QZ,Af,Je,Nu]
 ·have:=sX v m hm m 1 Ar F0 F0 F0 Az9;have e1:QZ (Ac (List.replicate m (0:Int))) [v].length=((1:Nat):Int):=by simp[QZ,Ac];omega
  have e2:E9 (List.replicate m (0:Int)) [v]=List.replicate 1 v++List.replicate (m-1) 0:=by
   obtain⟨k,rfl⟩:∃k,m=k+1:=⟨m-1,F0⟩;simp[E9]
  rw[e1,e2,this]
theorem Aio(l m:LI)(h:l.length+m.length<=1000000):Ni [l,m]=some (l++m):=by
 have hF:Ar=(Ar-3)+1+1+1:=by have:=Aq;omega
 rw[Ni,Ph,Yw];have g0:Ak [l,m] (0:Int)=some l:=rfl;have g1:Ak [l,m] (1:Int)=some m:=rfl;have l2:Ac [l,m]=2:=rfl;have h3:Nz [l,m] []=some (l++m):=by
  rw[Nz,Nv,Ny,hF,Ee,Gq,l2,Abo F7,g0,Aa,Cr F9,Aa,Ass,show Ae (0:Int) 1=1 by decide,
   Ee,Gq,l2,Abo F7,g1,Aa,Cr,Aa,show Ae (1:Int) 1=2 by decide,Ee,Gq,l2,Abl F7]
  rfl
 rw[hF,Ep,Hb,l2,Abo F7,g0,Aa,Aj Bao Bao,Abl Baz,show Ae (0:Int) 1=1 by decide,
  Ep,Hb,l2,Abo F7,g1,Aa,Aj Bao Bao,Abl Bam,show Ae (1:Int) 1=2 by decide,
  Ep,Hb,l2,Abl F7,Xl,Oa,Abl Bam,Xn,Nw]
 have z:Am (0:Int) 0=0:=F7
 have n0:(0:Int)+Ac l+Ac m=((l.length+m.length:Nat):Int):=by simp[Ac]
 rw[z,n0,Ci,Int.sub_zero];by_cases hp:0<l.length+m.length
 ·rw[Abo Bad,show iW (0:Int) 0 0=some ()from rfl,Aa,D1,Aa,Cr F9,Aa];rw[show iW (Ac ([]++List.replicate ((l.length+m.length:Nat):Int).toNat (0:Int))) 0 0=some () by rw[iW,Dj];simp[Ac];omega,Aa];simp only[WG,Int.sub_self,Int.toNat_zero,Ay4];exact h3
 ·rw[Abl Bad];exact h3
theorem Anh{r n:Nat}(h1:1<=r)(h:r<=1048576)(n1:1<=n)(n2:n<=4000)(hk:(n-1)/As r+1<=1000):Vo (r:Int) (n:Int)=some (Al (As r) n,0):=by
 have hp:=La r;have hl:=zD h;have hd:=Awm (n-1) (As r);rw[Vo,yO h1 h n1 n2,Abl F0,Aa];simp only;rw[Abl Bac,K0 h1 h,Aa];simp only;rw[Al];generalize(n-1)/As r=k at*
 have e1:Am ((k+1:Nat):Int) 1=(k:Int):=by rw[Ci];omega
 have e2:(k:Int)*(As r:Int)=((k*As r:Nat):Int):=by simp
 rw[e1,Ai4 _ _ F0,Aa,Ii (by rw[e2];omega) (by rw[e2];omega),e2,Ci,QL,Aio _ _ F9,Aa,Aa,show(n:Int)-((k*As r:Nat):Int)=((n-k*As r:Nat):Int) by omega]
def Jw(f c w r n:Nat):Bool:=decide ((f=1\/f=2)/\ (1<=c/\c<=6)/\ (w=8\/w=16\/w=24)/\ (1<=r/\r<=1048576)/\1<=n)
def LV(c r n:Nat):Bool:=decide (n<=4000/c/\ (n-1)/As r+1<=1000)
theorem dA(f c w r n:Nat):Pd (f:Int) (c:Int) (w:Int) (r:Int) (n:Int)=some (Jw f c w r n):=by
 have e2:Qp (f:Int) (c:Int) (w:Int) (r:Int) (n:Int)=some (decide ((f=1\/f=2)/\ (1<=c/\c<=6)/\ (1<=r/\r<=1048576)/\1<=n)):=by
  rw[Qp,HO];congr 1;rw[Aks];simp only[Bb,Ax,ND,Abp,At9,Auy,Adf];omega
 have g:∀k:Nat,geq (w:Int) (k:Int)=decide (w=k):=λk=>by rw[Bb,Aks];simp;omega
 have g8:geq (w:Int) (8:Int)=decide (w=8):=g 8;have g16:geq (w:Int) (16:Int)=decide (w=16):=g 16;have g24:geq (w:Int) (24:Int)=decide (w=24):=g 24;rw[Pd,HJ,e2,g8,g16,g24,Jw];by_cases h8:w=8
 ·subst h8;simp
 ·by_cases h16:w=16
  ·subst h16;simp
  ·by_cases h24:w=24
   ·subst h24;simp
   ·simp[h8,h16,h24]
theorem mI(f c w r n:Nat):It (f:Int) (c:Int) (w:Int) (r:Int) (n:Int)=some (Jw f c w r n):=by
 rw[It,Jw];simp only[Bb,Dz,ND,Abp,At9,Auy,Adf,Azk];split
 ·rename_i h;congr 1;rw[Aks];simp only[Abp,At9,Auy,Adf];omega
 ·rename_i h;congr 1;symm;rw[Auo];omega
theorem Asm{c:Nat}(h:1<=c):Cy (4000:Int) (c:Int)=((4000/c:Nat):Int):=by
 have:4000/c<=4000:=Aud _ _;rw[LN,Avv F0,show(4000:Int)=((4000:Nat):Int)from rfl,<-Int.natCast_ediv];generalize 4000/c=k at*
 exact Cq F0 F0
theorem qW{f c w r n:Nat}(h:Jw f c w r n=true):KU (f:Int) (c:Int) (w:Int) (r:Int) (n:Int)=some (LV c r n):=by
 simp only[Jw,Adf]at h;have hd:4000/c<=4000:=Aud _ _;rw[KU,Dj Baf,Aa,Asm F0,LV];generalize 4000/c=m at*
 by_cases h1:n<=m
 ·rw[Abl Bad,yO F0 F0 F0 F0,Aa];generalize(n-1)/As r+1=k;by_cases h2:1000<k
  ·rw[Abo h2];simp[Bb,ND];omega
  ·rw[Abl h2];simp[Bb,ND,h1];omega
 ·rw[Abo Bad];simp[h1]
theorem H2{f c w r n:Nat}(h:Jw f c w r n=true):Uw (f:Int) (c:Int) (w:Int) (r:Int) (n:Int)=some (!LV c r n):=by
 simp only[Jw,Adf]at h;have hd:4000/c<=4000:=Aud _ _;rw[Uw,Dj Baf,Aa,Asm F0,LV];generalize 4000/c=m at*
 by_cases h1:n<=m
 ·rw[Abl Bad,oJ F0 F0 F0,Aa,Ac,tD];generalize(n-1)/As r+1=k;congr 1;rw[Ax,Aks];simp only[Adf,Apy,Auo];omega
 ·rw[Abo Bad];simp[h1]
def aW:LB:=[84,84,65,49]
def f0(b:LB):Nat:=El (part b 4 2)
def f1(b:LB):Nat:=El (part b 6 2)
def f2(b:LB):Nat:=El (part b 8 2)
def f3(b:LB):Nat:=El (part b 10 4)
def f4(b:LB):Nat:=El (part b 14 4)
abbrev H6:=Int×Int×Int×Int×Int×Int
def Ek(b:LB):H6:=
 if b.take (min 4 b.length)≠aW.take (min 4 b.length)then(0,0,0,0,0,12)else if b.length<22 then(0,0,0,0,0,24)else
 if(Hi (b.take 18)).toNat≠El (part b 18 4)then(0,0,0,0,0,22)else
 if Jw (f0 b) (f1 b) (f2 b) (f3 b) (f4 b)=false then(0,0,0,0,0,12)else
 if LV (f1 b) (f3 b) (f4 b)=false then(0,0,0,0,0,4)else((f0 b:Int),(f1 b:Int),(f2 b:Int),(f3 b:Int),(f4 b:Int),0)
section
variable {b:LB}
theorem rs1(h:b.take (min 4 b.length)≠aW.take (min 4 b.length)):Ek b=(0,0,0,0,0,12):=by rw[Ek,Abo h]
variable (h:b.take (min 4 b.length)=aW.take (min 4 b.length))
include h
theorem rs2(h2:b.length<22):Ek b=(0,0,0,0,0,24):=by rw[Ek,Abl (λe=>e h),Abo h2]
variable (h2:¬b.length<22)
include h2
theorem rs3(h3:(Hi (b.take 18)).toNat≠El (part b 18 4)):Ek b=(0,0,0,0,0,22):=by rw[Ek,Abl (λe=>e h),Abl h2,Abo h3]
variable (h3:(Hi (b.take 18)).toNat=El (part b 18 4))
include h3
theorem rs4(h4:Jw (f0 b) (f1 b) (f2 b) (f3 b) (f4 b)=false):Ek b=(0,0,0,0,0,12):=by rw[Ek,Abl (λe=>e h),Abl h2,Abl (λe=>e h3),Abo h4]
variable (h4:Jw (f0 b) (f1 b) (f2 b) (f3 b) (f4 b)=true)
include h4
theorem rs5(h5:LV (f1 b) (f3 b) (f4 b)=false):Ek b=(0,0,0,0,0,4):=by rw[Ek,Abl (λe=>e h),Abl h2,Abl (λe=>e h3),Abl (by rw[h4];simp),Abo h5]
theorem rs6(h5:LV (f1 b) (f3 b) (f4 b)=true):Ek b=((f0 b:Int),(f1 b:Int),(f2 b:Int),(f3 b:Int),(f4 b:Int),0):=by rw[Ek,Abl (λe=>e h),Abl h2,Abl (λe=>e h3),Abl (by rw[h4];simp),Abl (by rw[h5];simp)]
end
theorem Ajx(b:LB)(h2:¬b.length<22):Bg (Ad (Hi (b.take 18)):UInt64) (jR (part b 18 4))=decide ((Hi (b.take 18)).toNat≠El (part b 18 4)):=by
 rw[NU,Iz,Aks];simp only[Azg,ne_eq,Adf];rw[<-Aza,UB (by have:=(Hi (b.take 18)).toNat_lt;omega),UC Bak]
theorem cY(b:LB)(a w:Nat)(i q:Nat)(l:LI)(hi:i<5)(hl:l.length=5)(hw:Ak ([2,2,2,4,4]:LI) (i:Int)=some (w:Int))(h1:1<=w)(h4:w<=4)(ha:a+w<=b.length)(hb:b.length<4611686018427387904):
  Ms b (q+1) (a:Int) (i:Int) l=Ms b q ((a+w:Nat):Int) ((i+1:Nat):Int) (l.set i (El (part b a w):Int)):=by
 rw[Ms,DC,Abo Az8,hw,Aa,M2 b a w h1 F0 ha hb,Aa];simp only;rw[Cf,Aa,Ye _ F0,Aa,IW (by rw[Dr ha];omega),Aj,Aj];rfl
theorem Alc(b:LB)(h22:¬b.length<22)(hb:b.length<4611686018427387904):QA b 4 0 (List.replicate 5 0)=DB [(f0 b:Int),(f1 b:Int),(f2 b:Int),(f3 b:Int),(f4 b:Int)]:=by
 have hF:Ar=(Ar-6)+1+1+1+1+1+1:=by have:=Aq;omega
 rw[QA,hF,show(4:Int)=((4:Nat):Int)from rfl,show(0:Int)=((0:Nat):Int)from rfl];rw[cY b 4 2 0 _ _ F0 Bab rfl F0 F0 F0 hb,cY b 6 2 1 _ _ F0 Bab rfl F0 F0 F0 hb,cY b 8 2 2 _ _ F0 Bab rfl F0 F0 F0 hb,
  cY b 10 4 3 _ _ F0 Bab rfl F0 F0 F0 hb,cY b 14 4 4 _ _ F0 Bab rfl F0 F0 F0 hb,Ms,DC,Abl Baj]
 rfl
theorem Ayd(b:LB):Ia [84,84,65,49] (b.take (min 4 b.length))=some (decide (b.take (min 4 b.length)=aW.take (min 4 b.length))):=by
 have hl:(b.take (min 4 b.length)).length=min 4 b.length:=by rw[Agw];omega
 rw[Ia,Gi,Abo (by rw[Dz,Ac,Ac,hl];simp;omega),Ac,hl,Cw F0 F9,Aa,Aa,Ajr];congr 1;rw[Aks];rw[Adf,Auy];exact eq_comm
theorem Awj(b:LB):Ej (4:Int) (Ac b)=((min 4 b.length:Nat):Int):=by rw[HF,Ac];omega
theorem rN(b:LB)(hb:b.length<4611686018427387904):Mh b=some (Ek b):=by
 rw[Mh,RB,Awj,Cw,Aa,Ajr,Ayd,Aa];by_cases h:b.take (min 4 b.length)=aW.take (min 4 b.length)
 ·rw[Abl (by simpa using h)];by_cases h2:b.length<22
  ·rw[Abo F5,rs2 h h2]
  ·have a1:WN b 18 4=some (jR (part b 18 4),0):=M2 b 18 4 F0 F0 F0 hb;rw[Abl F5,a1,Aa];simp only;rw[Cw,Aa,show(18:Int).toNat=18 from rfl,Aco _ F9,Aa];simp only;rw[Ajx b h2];by_cases h3:(Hi (b.take 18)).toNat=El (part b 18 4)
   ·rw[Abl (by simpa using h3),Alc b h2 hb,DB,gC];rw[show Ak [(f0 b:Int),(f1 b:Int),(f2 b:Int),(f3 b:Int),(f4 b:Int)] 0=some (f0 b:Int)from rfl,show Ak [(f0 b:Int),(f1 b:Int),(f2 b:Int),(f3 b:Int),(f4 b:Int)] 1=some (f1 b:Int)from rfl,show Ak [(f0 b:Int),(f1 b:Int),(f2 b:Int),(f3 b:Int),(f4 b:Int)] 2=some (f2 b:Int)from rfl,
     show Ak [(f0 b:Int),(f1 b:Int),(f2 b:Int),(f3 b:Int),(f4 b:Int)] 3=some (f3 b:Int)from rfl,show Ak [(f0 b:Int),(f1 b:Int),(f2 b:Int),(f3 b:Int),(f4 b:Int)] 4=some (f4 b:Int)from rfl]
    simp only[Aa,dA];cases h4:Jw (f0 b) (f1 b) (f2 b) (f3 b) (f4 b)with
    |false=>rw[rs4 h h2 h3 h4];rfl
    |true=>
     rw[qW h4,Abl Bab,Aa];cases h5:LV (f1 b) (f3 b) (f4 b)with
     |false=>rw[rs5 h h2 h3 h4 h5];rfl
     |true=>rw[rs6 h h2 h3 h4 h5];rfl
   ·rw[Abo (by simpa using h3),rs3 h h2 h3]
 ·rw[Abo (by simpa using h),rs1 h]
theorem wV(b:LB)(hb:b.length<4611686018427387904):Ox b=some (Ek b):=by
 rw[Ox,JN,Awj,Cw,Aa,Ajr,Cw F0 F9,Aa,Ajr];by_cases h:b.take (min 4 b.length)=aW.take (min 4 b.length)
 ·rw[Abl (by rw[h];simp[aW]),KN,JQ];by_cases h2:b.length<22
  ·rw[Abo F5,rs2 h h2]
  ·have a1:Bi b 18 22=some (part b 18 4):=Ot 18 4;have c1:Bi b 4 6=some (part b 4 2):=Ot 4 2;have c2:Bi b 6 8=some (part b 6 2):=Ot 6 2;have c3:Bi b 8 10=some (part b 8 2):=Ot 8 2;have c4:Bi b 10 14=some (part b 10 4):=Ot 10 4;have c5:Bi b 14 18=some (part b 14 4):=Ot 14 4;have hs:Bg (jR (part b 18 4)) (Ad (Hi (b.take 18)):UInt64)=decide ((Hi (b.take 18)).toNat≠El (part b 18 4)):=by
    rw[<-Ajx b h2,NU,NU,Aks];simp only[Azg,ne_eq];exact not_congr eq_comm
   have lp:∀a w,a+w<=b.length->Dl (part b a w)=some (jR (part b a w)):=λa w h=>Aab _ (by rw[Dr h];omega);rw[Abl F5,a1,Aa,Cw,Aa,show(18:Int).toNat=18 from rfl,lp _ _ F0,Aa,Aj0 _ F9,Aa,hs];by_cases h3:(Hi (b.take 18)).toNat=El (part b 18 4)
   ·rw[Abl (by simpa using h3),KR,KA,c1,Aa,c2,Aa,c3,Aa,c4,Aa,c5,Aa,lp _ _ F0,Aa,lp _ _ F0,Aa,lp _ _ F0,Aa,lp _ _ F0,Aa,lp _ _ F0,Aa,
     KK,JZ,IW Bak,IW Bak,IW Bak,IW Bak,IW Bak]
    rw[show El (part b 4 2)=f0 b from rfl,show El (part b 6 2)=f1 b from rfl,show El (part b 8 2)=f2 b from rfl,show El (part b 10 4)=f3 b from rfl,show El (part b 14 4)=f4 b from rfl,mI,Aa];cases h4:Jw (f0 b) (f1 b) (f2 b) (f3 b) (f4 b)with
    |false=>rw[rs4 h h2 h3 h4];rfl
    |true=>
     rw[H2 h4,Abl Bab,Aa];cases h5:LV (f1 b) (f3 b) (f4 b)with
     |false=>rw[rs5 h h2 h3 h4 h5];rfl
     |true=>rw[rs6 h h2 h3 h4 h5];rfl
   ·rw[Abo (by simpa using h3),rs3 h h2 h3]
 ·rw[Abo (by simpa [aW]using h),rs1 h]
theorem Aac{b:LB}(h:(Ek b).2.2.2.2.2=0):Ek b=((f0 b:Int),(f1 b:Int),(f2 b:Int),(f3 b:Int),(f4 b:Int),0)/\22<=b.length/\Jw (f0 b) (f1 b) (f2 b) (f3 b) (f4 b)=true/\LV (f1 b) (f3 b) (f4 b)=true:=by
 unfold Ek at h⊢;split at h; · simp at h
 rename_i c1;rw[Abl c1];split at h; · simp at h
 rename_i c2;rw[Abl c2];split at h; · simp at h
 rename_i c3;rw[Abl c3];split at h; · simp at h
 rename_i c4;rw[Abl c4];split at h; · simp at h
 rename_i c5;rw[Abl c5];exact⟨rfl,F0,by simpa using c4,by simpa using c5⟩
theorem vg{f c w r n:Nat}(h:Jw f c w r n=true)(h2:LV c r n=true):Dh (f:Int) (c:Int) (w:Int) (r:Int) (n:Int)=some (Al (As r) n,0):=by
 have hc:Rb (f:Int) (c:Int) (w:Int) (r:Int) (n:Int)=some 0:=by
  rw[Rb,dA,Aa,h,Abl Bab,qW h,Aa,h2];rfl
 have hd:4000/c<=4000:=Aud _ _;simp only[Jw,Adf]at h;simp only[LV,Adf]at h2;rw[Dh,hc,Aa,Abl Bac,Anh F0 F0 F0 F0 h2.2];rfl
def okL:LI->Int->Bool
 |[],_=>true
 |x::l,left=>decide (5<=x/\x<=left)&&okL l (left-x)
theorem Akq:∀l:LI,(∀x∈l,5<=x)->0<=l.sum
 |[],_=>by simp
 |x::l,h=>by
  have h1:=h x Ave;have h2:=Akq l λy hy=>h y (Aqg _ hy);rw[Au9];omega
theorem OB:∀(l:LI) (left:Int),0<=left-> (okL l left=true↔(∀x∈l,5<=x)/\l.sum<=left)
 |[],left,h=>by simp[okL];exact h
 |x::l,left,h=>by
  rw[okL,Abp,Adf,Au9];by_cases hx:5<=x/\x<=left
  ·rw[OB l (left-x) F0];constructor
   ·rintro⟨_,h1,h2⟩;exact⟨λy hy=>(List.mem_cons.1 hy).elim (λe=>e▸hx.1) (h1 y),F0⟩
   ·rintro⟨h1,h2⟩;exact⟨hx,λy hy=>h1 y (Aqg _ hy),F0⟩
  ·constructor
   ·rintro⟨h1,_⟩;exact absurd h1 hx
   ·rintro⟨h1,h2⟩;have h3:=h1 x Ave;have:0<=l.sum:=Akq l λy hy=>h1 y (Aqg _ hy);omega
theorem D4(l:LI)(hl:l.length<=1000):∀(j i q:Nat) (left:Int),i+j=l.length->j<q->0<=left->left<=100000->Ql l q left (i:Int)=some (if okL (l.drop i) left=true then 0 else 8)
 |0,i,q+1,left,hi,_,_,_=>by
  rw[Ql,FK,Abl F5,show i=l.length by omega,Axj];rfl
 |j+1,i,q+1,left,hi,hq,h0,h1=>by
  have hlt:i<l.length:=F0
  rw[Ql,FK,Abo F5,Cf hlt,Aa,drop_cons hlt];by_cases h:5<=l[i]/\l[i]<=left
  ·rw[Abl Bah,Ci,Aj];have ih:=D4 l hl j (i+1) q (left-l[i]) F0 F0 F0 F0;rw[show((i:Int)+1)=((i+1:Nat):Int) by omega,ih];simp[okL,h]
  ·rw[Abo Bah];have:okL (l[i]::l.drop (i+1)) left=false:=by rw[okL,Avx h];rfl
   rw[this];rfl
def AK(l:LI):Bool:=decide (1<=l.length/\l.length<=1000)&&okL l 100000
theorem jv(l:LI)(hl:l.length<=1000):Pb l=some (if AK l=true then 0 else 8):=by
 rw[Pb,EP,AK];by_cases h:1<=l.length
 ·rw[Abl (by rw[Bb,Ax,Ac];simp;constructor;(intro e;subst e;simp at h);omega),eY];have:=D4 l hl l.length 0 Ar 100000 F0 Az9 F0 F0;rw[Aze]at this;rw[Axk (show 1<=l.length/\l.length<=1000 from⟨h,hl⟩),Axq];exact this
 ·have:l=[]:=by
   cases l with
   |nil=>rfl
   |cons _ _=>simp at h
  subst this;rfl
theorem P0(l:LI)(hl:l.length<=1000):∀(j i q:Nat) (s:Int),i+j=l.length->j<q->0<=s->s<=100000*(i:Int)->Jt l q s (i:Int)=some (if(∀x∈l.drop i,5<=x/\x<=100000)/\s+(l.drop i).sum<=100000 then 0 else 8)
 |0,i,q+1,s,hi,_,_,_=>by
  rw[Jt,Tu,Abl F5,show i=l.length by omega,Axj,EN,FC];by_cases h:s<=100000
  ·rw[Abl Bad,Abo F9]
  ·rw[Abo Bad,Abl F9]
 |j+1,i,q+1,s,hi,hq,h0,h1=>by
  have hlt:i<l.length:=F0
  rw[Jt,Tu,Abo F5,Cf hlt,Aa,drop_cons hlt];by_cases h5:l[i]<5
  ·rw[Abo (by rw[Af];simpa using h5),Abl (λh=>by have:=(h.1 l[i] Ave).1;omega)]
  ·rw[Abl (by rw[Af];simpa using h5),Aa];by_cases h6:100000<l[i]
   ·rw[Abo (by rw[Ax];simpa using h6),Abl (λh=>by have:=(h.1 l[i] Ave).2;omega)]
   ·rw[Abl (by rw[Ax];simpa using h6),GO,GK,Cf hlt,Aa,Aj,Aj];have ih:=P0 l hl j (i+1) q (s+l[i]) F0 F0 F0 F0;rw[show((i:Int)+1)=((i+1:Nat):Int) by omega,ih];have e:((∀x∈l.drop (i+1),5<=x/\x<=100000)/\s+l[i]+(l.drop (i+1)).sum<=100000)↔((∀x∈l[i]::l.drop (i+1),5<=x/\x<=100000)/\s+(l[i]::l.drop (i+1)).sum<=100000):=by
     rw[Au9,List.forall_mem_cons,Int.add_assoc];constructor
     ·rintro⟨a,b⟩;exact⟨⟨F0,a⟩,b⟩
     ·rintro⟨⟨_,a⟩,b⟩;exact⟨a,b⟩
    simp only[e]
theorem S0:∀{l:LI},(∀x∈l,5<=x)->∀x∈l,x<=l.sum
 |[],_,x,hx=>by simp at hx
 |y::l,h,x,hx=>by
  have h1:=h y Ave;have h2:=Akq l λz hz=>h z (Aqg _ hz);rw[Au9];rcases List.mem_cons.1 hx with rfl|hx
  ·omega
  ·have:=S0 (l:=l) (λz hz=>h z (Aqg _ hz)) x hx;omega
theorem Aa1(l:LI)(hl:l.length<=1000):Hj l=some (if AK l=true then 0 else 8):=by
 rw[Hj,Ti,AK];by_cases h:1<=l.length
 ·have:=P0 l hl l.length 0 Ar 0 F0 Az9 F0 F0;rw[Abl (by rw[Af,Ax,Ac];simp;omega),GX];refine Axr this ?_;rw[Aze,Axk (show 1<=l.length/\l.length<=1000 from⟨h,hl⟩),Axq];have e:((∀x∈l,5<=x/\x<=100000)/\0+l.sum<=100000)↔okL l 100000=true:=by
   rw[OB l 100000 F0,Int.zero_add];constructor
   ·rintro⟨a,b⟩;exact⟨λx hx=>(a x hx).1,b⟩
   ·rintro⟨a,b⟩;exact⟨λx hx=>⟨a x hx,Int.le_trans (S0 a x hx) b⟩,b⟩
  simp only[e]
 ·have:l=[]:=by
   cases l with
   |nil=>rfl
   |cons _ _=>simp at h
  subst this;rfl
theorem cR(l:LI):Pb l=some (if AK l=true then 0 else 8):=by
 by_cases hl:l.length<=1000
 ·exact jv l hl
 ·rw[Pb,EP,Abo Baa,AK,Avx F0];rfl
theorem UN(l:LI):Hj l=some (if AK l=true then 0 else 8):=by
 by_cases hl:l.length<=1000
 ·exact Aa1 l hl
 ·rw[Hj,Ti,Abo Baa,AK,Avx F0];rfl
theorem Ade(l:LI)(hl:l.length<=1000)(hx:∀x∈l,0<=x/\x<4294967296):Pb l=some (if AK l=true then 0 else 8):=cR l
theorem Ahh(l:LI)(hl:l.length<=1000)(hx:∀x∈l,0<=x/\x<4294967296):Hj l=some (if AK l=true then 0 else 8):=UN l
def OH(b:LB)(n:Nat):LI:=(List.range n).map λi=>(El (part b (4*i) 4):Int)
theorem JX(b:LB)(n:Nat):(OH b n).length=n:=by simp[OH]
theorem M9(b:LB)(n:Nat):OH b (n+1)=OH b n++[(El (part b (4*n) 4):Int)]:=by simp[OH,List.range_succ]
theorem Aeg(b:LB)(n:Nat)(h:4*n<=b.length):∀x∈OH b n,0<=x/\x<4294967296:=by
 intro x hx;simp only[OH,List.mem_map,List.mem_range]at hx;obtain⟨i,hi,rfl⟩:=hx;have:=Afv (l:=part b (4*i) 4) Bak;omega
def If(b:LB)(n:Nat):LI×Int:=
 if ¬(1<=n/\n<=1000)then([],2)else if b.length<4*n+4 then([],24)else if(Hi (b.take (4*n))).toNat≠El (part b (4*n) 4)then([],22)else
 if AK (OH b n)=true then(OH b n,0)else([],12)
theorem Afm{b:LB}{n:Nat}(h:1<=n/\n<=1000)(h2:¬b.length<4*n+4):Bg (Ad (Hi (b.take (4*n))):UInt64) (jR (part b (4*n) 4))=decide ((Hi (b.take (4*n))).toNat≠El (part b (4*n) 4)):=by
 rw[NU,Iz,Aks];simp only[Azg,ne_eq,Adf];rw[<-Aza,UB (by have:=(Hi (b.take (4*n))).toNat_lt;omega),UC Bak]
section
variable {b:LB} {n:Nat}
theorem ss1(h:¬(1<=n/\n<=1000)):If b n=([],2):=by rw[If,Abo h]
variable (h:1<=n/\n<=1000)
include h
theorem ss2(h2:b.length<4*n+4):If b n=([],24):=by rw[If,Abl (λe=>e h),Abo h2]
variable (h2:¬b.length<4*n+4)
include h2
theorem ss3(h3:(Hi (b.take (4*n))).toNat≠El (part b (4*n) 4)):If b n=([],22):=by rw[If,Abl (λe=>e h),Abl h2,Abo h3]
theorem ss4(h3:(Hi (b.take (4*n))).toNat=El (part b (4*n) 4)):If b n=if AK (OH b n)=true then(OH b n,0)else([],12):=by rw[If,Abl (λe=>e h),Abl h2,Abl (λe=>e h3)]
end
theorem O5(b:LB)(l8:LI)(n:Nat)(hn:n<=1000)(h8:l8.length=n)(hb:4*n+4<=b.length)(hb2:b.length<4611686018427387904):∀(j i q:Nat),i+j=n->j<q->Sp b l8 q (i:Int) (OH b i++List.replicate j 0)=IG (OH b n)
 |0,i,q+1,hi,_=>by
  obtain rfl:i=n:=F0
  rw[Sp,IJ,Abl F5];simp
 |j+1,i,q+1,hi,hq=>by
  have hlen:(OH b i++List.replicate (j+1) 0).length=i+(j+1):=by simp[JX]
  have ha:=M2 b (4*i) 4 F0 F0 F0 hb2;rw[Sp,IJ,Abo F5,Ii,show(4:Int)*(i:Int)=((4*i:Nat):Int) by omega,show(4:Int)=((4:Nat):Int)from rfl,ha,Aa];simp only;rw[Cf (by rw[hlen];omega),Aa,Ye _ (by rw[hlen];omega),Aa,IW Bak,Aj,Axc,gR (JX _ _)];have ih:=O5 b l8 n hn h8 hb hb2 j (i+1) q F0 F0;rw[M9]at ih;rw[show((i:Int)+1)=((i+1:Nat):Int) by omega,<-ih];simp
theorem R5(b:LB)(n:Nat)(hb:b.length<=100100):HV b (n:Int)=some (If b n):=by
 rw[HV,VB];by_cases h:1<=n/\n<=1000
 ·rw[Abl Bah,Ii,Aj];by_cases h2:b.length<4*n+4
  ·rw[Abo F5,ss2 h h2]
  ·have ha:WN b (4*(n:Int)) 4=some (jR (part b (4*n) 4),0):=by
    rw[show(4:Int)*(n:Int)=((4*n:Nat):Int) by omega];exact M2 b (4*n) 4 F0 F0 F0 F0
   rw[Abl F5,ha,Aa];simp only;rw[Cw,Aa,show(4*(n:Int)).toNat=4*n by omega,Aco _ F9,Aa];simp only;rw[Afm h h2];by_cases h3:(Hi (b.take (4*n))).toNat=El (part b (4*n) 4)
   ·have hlp:=O5 b (List.replicate n 0) n F0 Bab F0 F0 n 0 Ar F0 Az9;rw[Abl (by simpa using h3),D1,Aa,Dj Ba0,Aa,jT,Ajr];refine Axr (hlp) ?_;rw[IG,kL,Ade _ (by rw[JX];omega) (Aeg b n F0),Aa,ss4 h h2 h3];cases AK (OH b n)<;>rfl
   ·rw[Abo (by simpa using h3),ss3 h h2 h3]
 ·rw[Abo Bah,ss1 h]
theorem jX(b:LB)(n:Nat)(hn:n<=1000)(hb:4*n+4<=b.length)(hb2:b.length<4611686018427387904):∀(j i q:Nat),i+j=n->j<q->Kq b (n:Int) q (i:Int) (OH b i)=Vz (OH b n)
 |0,i,q+1,hi,_=>by
  obtain rfl:i=n:=F0
  rw[Kq,Vr,Abl Baj]
 |j+1,i,q+1,hi,hq=>by
  have hc:Bi b ((4:Int)*(i:Int)) ((4:Int)*(i:Int)+4)=some (part b (4*i) 4):=by
   rw[show(4:Int)*(i:Int)=((4*i:Nat):Int) by omega];exact Ot (4*i) 4
  rw[Kq,Vr,Abo Az8,Ii,Aj,hc,Aa,Aab _ Bak,Aa,Cr (by rw[JX];simp;omega),Aa,
   IW Bak,Aj,<-M9]
  exact jX b n hn hb hb2 j (i+1) q F0 F0
theorem Am3(b:LB)(n:Nat)(hb:b.length<=100100):Uu b (n:Int)=some (If b n):=by
 rw[Uu,JE];by_cases h:1<=n/\n<=1000
 ·rw[Abl Bah,Ii,Aj];by_cases h2:b.length<4*n+4
  ·rw[Abo F5,ss2 h h2]
  ·have hc:Bi b ((4:Int)*(n:Int)) ((4:Int)*(n:Int)+4)=some (part b (4*n) 4):=by
    rw[show(4:Int)*(n:Int)=((4*n:Nat):Int) by omega];exact Ot (4*n) 4
   have hs:Bg (jR (part b (4*n) 4)) (Ad (Hi (b.take (4*n))):UInt64)=decide ((Hi (b.take (4*n))).toNat≠El (part b (4*n) 4)):=by
    rw[<-Afm h h2,NU,NU,Aks];simp only[Azg,ne_eq];exact not_congr eq_comm
   rw[Abl F5,hc,Aa,Cw,Aa,show(4*(n:Int)).toNat=4*n by omega,Aab _ Bak,Aa,Aj0 _ F9,Aa,hs];by_cases h3:(Hi (b.take (4*n))).toNat=El (part b (4*n) 4)
   ·have hlp:=jX b n F0 F0 F0 n 0 Ar F0 Az9;rw[Abl (by simpa using h3),JP,JD,KT];refine Axr hlp ?_;rw[Vz,KG,Ahh _ (by rw[JX];omega) (Aeg b n F0),Aa,ss4 h h2 h3];cases AK (OH b n)<;>rfl
   ·rw[Abo (by simpa using h3),ss3 h h2 h3]
 ·rw[Abo Bah,ss1 h]
theorem ql{b:LB}{n:Nat}(h:(If b n).2=0):If b n=(OH b n,0)/\1<=n/\n<=1000/\4*n+4<=b.length/\ (∀x∈OH b n,5<=x)/\ (OH b n).sum<=100000:=by
 unfold If at h⊢;split at h; · simp at h
 rename_i c1;rw[Abl c1];split at h; · simp at h
 rename_i c2;rw[Abl c2];split at h; · simp at h
 rename_i c3;rw[Abl c3];split at h
 ·rename_i c4;rw[Abo c4];have c4':=c4;rw[AK,Abp,OB _ _ F0]at c4';exact⟨rfl,F0,F0,F0,c4'.2.1,c4'.2.2⟩
 ·simp at h
def Tc(b:LB):LB:=b.drop (Da b).1.toNat
theorem Adp(A K:Nat)(h:A<=200000)(hk:K<=1000):Ae (Ae (A:Int) (Bv 4 (K:Int))) 4=((A+4*K+4:Nat):Int):=by
 rw[Ii,Aj (a:=(A:Int)) F0 F0,Aj];omega
structure Opn (b p:LB) (f c w r n A:Nat) (l:LI):Prop where
 prog:Aap b p=some ((f:Int),(c:Int),(w:Int),(r:Int),(n:Int),(A:Int),l,0)
 ref:iY b p=some ((f:Int),(c:Int),(w:Int),(r:Int),(n:Int),(A:Int),l,0)
 pass:p.length<=64
 file:b.length<=100000
 shape:Jw f c w r n=true
 fit:LV c r n=true
 len:l.length=(Al (As r) n).length
 some1:1<=l.length/\l.length<=1000
 five:∀x∈l,5<=x
 sum:l.sum<=100000
 at':A<=b.length
 tag:(Da b).2=0
 head:Ek (Tc b)=((f:Int),(c:Int),(w:Int),(r:Int),(n:Int),0)
 tab:If (b.drop ((Da b).1.toNat+22+(if f=2 then 8 else 0))) l.length=(l,0)
 pos:A=(Da b).1.toNat+22+(if f=2 then 8 else 0)+4*l.length+4
theorem Q8(l:LI)(i:Nat):(l.take i).sum+(l.drop i).sum=l.sum:=by
 conv=>rhs;rw[<-Azj i l,List.sum_append]
theorem AB{l:LI}(h5:∀x∈l,5<=x)(i:Nat):0<= (l.take i).sum/\ (l.take i).sum<=l.sum:=by
 have h1:=Akq (l.take i) λx hx=>h5 x (Azc hx);have h2:=Akq (l.drop i) λx hx=>h5 x (List.mem_of_mem_drop hx);have:=Q8 l i;omega
theorem Yx{l:LI}{i:Nat}(h:i<l.length):(l.take (i+1)).sum=(l.take i).sum+l[i]:=by
 rw[ON h,List.sum_append];simp
section
variable {l:LI} (hl:l.length<=1000) (h5:∀x∈l,5<=x) (hs:l.sum<=100000)
include hl h5 hs
theorem zO(f c w r n A:Int)(hA:0<=A)(hA2:A<=200000)(k:Nat)(hk:k<=l.length):∀(j i q:Nat),i+j=k->j<q->Jr (k:Int) f c w r n A l q (A+(l.take i).sum) (i:Int)=some (A+(l.take k).sum)
 |0,i,q+1,hi,_=>by
  rw[Jr,Tm,Abl Az8,show i=k by omega];rfl
 |j+1,i,q+1,hi,hq=>by
  have hlt:i<l.length:=F0
  have ih:=zO f c w r n A hA hA2 k hk j (i+1) q F0 F0;have b1:=AB h5 i;have b2:=AB h5 (i+1);have e:=Yx hlt;rw[e,<-Int.add_assoc]at ih;rw[Jr,Tm,Abo Az8,Cf hlt,Aa,Aj,Aj];exact ih
theorem Ag7(f c w r n A:Int)(hA:0<=A)(hA2:A<=200000)(k:Nat)(hk:k<=l.length):OX f c w r n A l (k:Int)=some (A+(l.take k).sum):=by
 have h:=zO hl h5 hs f c w r n A hA hA2 k hk k 0 Ar F0 Az9;rw[Ay4,Az3,Int.add_zero]at h;exact h
end
theorem Zu{g n:Nat}(hg:1<=g)(hn:1<=n){x:Int}(h:x∈Al g n):∃m:Nat,x=m/\1<=m/\m<=n:=by
 have hmul:=Awm (n-1) g;rw[Al,List.mem_append]at h;rcases h with h|h
 ·rw[List.mem_replicate]at h;have h1:1<= (n-1)/g:=Nat.pos_of_ne_zero h.1;have:=Ad9 g h1;exact⟨g,h.2,hg,F0⟩
 ·rw[List.mem_singleton]at h;exact⟨_,h,F0,F0⟩
theorem VM{f c w r n:Nat}(h:Jw f c w r n=true):(1<=c/\c<=6)/\Cp (w:Int)/\ (1<=r/\r<=1048576)/\1<=n/\ (f=1\/f=2):=by
 simp only[Jw,Adf]at h;refine⟨h.2.1,?_,h.2.2.2.1,h.2.2.2.2,h.1⟩;rcases h.2.2.1 with rfl|rfl|rfl
 ·exact .inl rfl
 ·exact .inr (.inl rfl)
 ·exact .inr (.inr rfl)
theorem Ban{p:Prop}(h:p:=by rw[Agw];omega):p:=h
end Go.Pl
namespace Go.Pl
open Go Go.Lv
variable{e:Int}{l:LI}{x:LX}{n f c w r A k m:Nat}
theorem Atb(n m:Nat):Od n m 0≠Od n m 2147483648:=by
 intro h;simp[Od,FU,vH]at h
def Cj(b:LB):LB:=b.drop (b.length-32)
theorem tu{b:LB}(h:32<=b.length):(Cj b).length=32:=by rw[Cj,Ae7];omega
def GW(t:LB):Nat:=El (part t 12 4)-32
def yZ(t:LB):Nat:=El (part t 16 4)
def Vx(b:LB):Int×Int:=
 if ¬(32<=b.length/\ (Cj b).take 8=vH)then(0,6)else if CG (Cj b)=true then(0,12)else
 if Cj b=Od (GW (Cj b)) (yZ (Cj b)) 0 then(if b.length<GW (Cj b)+32 then(0,24)else(((GW (Cj b)+32:Nat):Int),0))else
 if Cj b≠Od (GW (Cj b)) (yZ (Cj b)) 2147483648 then(0,12)else
 if b.length<GW (Cj b)+64 then(0,24)else
 if(b.take (b.length-(GW (Cj b)+64)+32)).drop (b.length-(GW (Cj b)+64))≠Od (GW (Cj b)) (yZ (Cj b)) 2684354560 then(0,12)else(((GW (Cj b)+64:Nat):Int),0)
section
variable {b:LB}
theorem ba1(h:¬(32<=b.length/\ (Cj b).take 8=vH)):Vx b=(0,6):=by rw[Vx,Abo h]
variable (h:32<=b.length/\ (Cj b).take 8=vH)
include h
theorem ba2(h2:CG (Cj b)=true):Vx b=(0,12):=by rw[Vx,Abl (λh'=>h' h),Abo h2]
variable (h2:CG (Cj b)=false)
include h2
theorem ba3(h3:Cj b=Od (GW (Cj b)) (yZ (Cj b)) 0):Vx b=if b.length<GW (Cj b)+32 then(0,24)else(((GW (Cj b)+32:Nat):Int),0):=by
 rw[Vx,Abl (λh'=>h' h),Abl (by rw[h2];simp),Abo h3]
variable (h3:Cj b≠Od (GW (Cj b)) (yZ (Cj b)) 0)
include h3
theorem ba4(h4:Cj b≠Od (GW (Cj b)) (yZ (Cj b)) 2147483648):Vx b=(0,12):=by
 rw[Vx,Abl (λh'=>h' h),Abl (by rw[h2];simp),Abl h3,Abo h4]
variable (h4:Cj b=Od (GW (Cj b)) (yZ (Cj b)) 2147483648)
include h4
theorem ba5(h5:b.length<GW (Cj b)+64):Vx b=(0,24):=by
 rw[Vx,Abl (λh'=>h' h),Abl (by rw[h2];simp),Abl h3,Abl (λe=>e h4),Abo h5]
theorem ba6(h5:¬b.length<GW (Cj b)+64):Vx b=if(b.take (b.length-(GW (Cj b)+64)+32)).drop (b.length-(GW (Cj b)+64))≠Od (GW (Cj b)) (yZ (Cj b)) 2684354560 then(0,12)else(((GW (Cj b)+64:Nat):Int),0):=by
 rw[Vx,Abl (λh'=>h' h),Abl (by rw[h2];simp),Abl h3,Abl (λe=>e h4),Abl h5]
end
theorem sj{b:LB}{n:Int}(h:Vx b=(n,0)):32<=n/\n<=b.length:=by
 unfold Vx at h;split at h; · simp at h
 rename_i h32;split at h; · simp at h
 split at h
 ·split at h; · simp at h
  simp only[Afp,Az6]at h;omega
 split at h; · simp at h
 split at h; · simp at h
 split at h; · simp at h
 simp only[Afp,Az6]at h;omega
theorem Aho{b:LB}(h:(Vx b).2≠0):(Vx b).1=0:=by
 revert h
 unfold Vx;split; · simp
 split; · simp
 split
 ·split<;>simp
 split; · simp
 split; · simp
 split<;>simp
theorem Amc{b:LB}(h:32<=b.length)(hl:b.length<4611686018427387904):Am (Ac b) 32=((b.length-32:Nat):Int)/\Bi b ((b.length-32:Nat):Int) (Ac b)=some (Cj b):=by
 refine⟨by rw[Ac,Ci];omega,?_⟩;rw[Cz];rfl
theorem Aje(b:LB)(hl:b.length<4611686018427387904):nQ b=some (Vx b):=by
 rw[nQ,tM];by_cases h32:32<=b.length
 ·obtain⟨e1,e2⟩:=Amc h32 hl;have hl3:=tu h32;rw[Abl (by rw[e1,Af];simp),e1,e2,Aa,YW,Aa];by_cases hp:(Cj b).take 8=vH
  ·have h:=And.intro h32 hp;rw[Abl (by simpa [vH,hl3]using hp),sI,tW,e1,e2,Aa,ZE _ 0 F0 F0 F7,Aa];cases hb:CG (Cj b)with
   |true=>
    rw[ba2 h hb];simp only[Az5,Asf,Axv];rw[Aa,ZE _ 2147483648 F0 F0 F7,Aa,hb];rfl
   |false=>
    obtain⟨i1,i2,i3,i4⟩:=qX (Cj b) F0 hb;have eI:El (part (Cj b) 12 4)-32=GW (Cj b):=rfl;have eM:El (part (Cj b) 16 4)=yZ (Cj b):=rfl;simp only[Asf,Axv];rw[eI]at i3;rw[eM]at i4;rw[eI,eM];by_cases c1:Cj b=Od (GW (Cj b)) (yZ (Cj b)) 0
    ·have c1':Cj b=Od (GW (Cj b)) (yZ (Cj b)) (0:UInt64).toNat:=c1;rw[Abo (by simpa using c1'),ba3 h hb c1];by_cases c2:b.length<GW (Cj b)+32
     ·rw[Abo Az8,Abo c2]
     ·rw[Abl Az8,Abl c2,Aj];rfl
    ·have c1':¬Cj b=Od (GW (Cj b)) (yZ (Cj b)) (0:UInt64).toNat:=c1;rw[Abl (by simpa using c1'),Aa,ZE _ 2147483648 F0 F0 F7,Aa,hb];simp only[Asf,Axv];rw[eI,eM];by_cases c2:Cj b=Od (GW (Cj b)) (yZ (Cj b)) 2147483648
     ·have c2':Cj b=Od (GW (Cj b)) (yZ (Cj b)) (2147483648:UInt64).toNat:=c2;rw[Abl (by simpa using c2'),Aj];by_cases c3:b.length<GW (Cj b)+64
      ·rw[Abo F5,ba5 h hb c1 c2 c3]
      ·rw[Abl F5,Ac,Ci,Aj,DD,Aa,wW _ _ _ i3 i4 F7,Aa,Jb,Aa,ba6 h hb c1 c2 c3];rw[show((b.length:Int)-(((GW (Cj b):Nat):Int)+64)).toNat=b.length-(GW (Cj b)+64) by omega,show((b.length:Int)-(((GW (Cj b):Nat):Int)+64)+32).toNat=b.length-(GW (Cj b)+64)+32 by omega];have e7:(2684354560:UInt64).toNat=2684354560:=rfl;rw[e7];by_cases c4:(b.take (b.length-(GW (Cj b)+64)+32)).drop (b.length-(GW (Cj b)+64))=Od (GW (Cj b)) (yZ (Cj b)) 2684354560
       ·rw[Abl (by simpa using c4),Abl (λe=>e c4)];rfl
       ·rw[Abo (by simpa using c4),Abo c4]
     ·have c2':¬Cj b=Od (GW (Cj b)) (yZ (Cj b)) (2147483648:UInt64).toNat:=c2;rw[Abo (by simpa using c2'),ba4 h hb c1 c2]
  ·rw[Abo (by rw[Apy,Auo];intro h;exact hp h.2),ba1 (λh=>hp h.2)]
 ·rw[Abo (by rw[Ac,Ci,Af];simp;omega),ba1 (λh=>h32 h.1)]
theorem Aqw{b:LB}(h:32<=b.length):(b.take (b.length-32+8)).drop (b.length-32)=(Cj b).take 8:=by
 rw[Cj,List.take_drop]
theorem Anl(b:LB)(hl:b.length<4611686018427387904):DK b=some (Vx b):=by
 rw[DK,JA];by_cases h32:32<=b.length
 ·obtain⟨e1,e2⟩:=Amc h32 hl;have hl3:=tu h32;rw[Abl F5,e1,Aj,DD,Aa,show((b.length-32:Nat):Int).toNat=b.length-32 from rfl,show(((b.length-32:Nat):Int)+8).toNat=b.length-32+8 by omega,Aqw h32];by_cases hp:(Cj b).take 8=vH
  ·have h:=And.intro h32 hp;rw[Abl (by simpa [vH]using hp),KS,KP,e1,e2,Aa,lq _ F0 F0,Aa];cases hb:CG (Cj b)with
   |true=>rw[ba2 h hb];rfl
   |false=>
    obtain⟨i1,i2,i3,i4⟩:=qX (Cj b) F0 hb;have eI:El (part (Cj b) 12 4)-32=GW (Cj b):=rfl;have eM:El (part (Cj b) 16 4)=yZ (Cj b):=rfl;simp only[Asf,Axv,Azi];rw[eI]at i3;rw[eM]at i4;rw[eI,eM,Lb,Abo rfl,pT _ _ _ i3 i4 F7,Aa,Aa];have e7:(2147483648:UInt64).toNat=2147483648:=rfl;have e8:(2684354560:UInt64).toNat=2684354560:=rfl;rw[e7];by_cases c2:Cj b=Od (GW (Cj b)) (yZ (Cj b)) 2147483648
    ·have c1:Cj b≠Od (GW (Cj b)) (yZ (Cj b)) 0:=λe=>Atb (GW (Cj b)) (yZ (Cj b)) (e.symm.trans c2);rw[Abl (by simpa using c2),Wa,Vl,Abo (by simpa using c2),Wj,Wm,Aj (a:=32) F0 F0,Aj];by_cases c3:b.length<GW (Cj b)+64
     ·rw[Abo F5,ba5 h hb c1 c2 c3]
     ·rw[Abl F5,Abo (by simpa using c2),Ac,Ci,Aj,DD,Aa,Ul,pT _ _ _ i3 i4 F7,Aa,Aa,ba6 h hb c1 c2 c3,e8];rw[show((b.length:Int)-(32+((GW (Cj b):Nat):Int)+32)).toNat=b.length-(GW (Cj b)+64) by omega,show((b.length:Int)-(32+((GW (Cj b):Nat):Int)+32)+32).toNat=b.length-(GW (Cj b)+64)+32 by omega];by_cases c4:(b.take (b.length-(GW (Cj b)+64)+32)).drop (b.length-(GW (Cj b)+64))=Od (GW (Cj b)) (yZ (Cj b)) 2684354560
      ·rw[Abl (by simpa using c4),Abl (λe=>e c4),show(32+((GW (Cj b):Nat):Int)+32)=((GW (Cj b)+64:Nat):Int) by omega]
      ·rw[Abo (by simpa using c4),Abo c4]
    ·rw[Abo (by simpa using c2),Lb,Abl Bab,pT _ _ _ i3 i4 F7,Aa,Aa];have e9:(0:UInt64).toNat=0:=rfl;rw[e9];by_cases c1:Cj b=Od (GW (Cj b)) (yZ (Cj b)) 0
     ·rw[Abl (by simpa using c1),Wa,Vl,Abl (by simpa using c2),Wj,Wm,Aj,ba3 h hb c1,Abl (c:=(Cj b==Od (GW (Cj b)) (yZ (Cj b)) 2147483648)=true) (by simpa using c2)];by_cases c3:b.length<GW (Cj b)+32
      ·rw[Abo F5,Abo c3]
      ·rw[Abl F5,Abl c3,show(32+((GW (Cj b):Nat):Int))=((GW (Cj b)+32:Nat):Int) by omega]
     ·rw[Abo (by simpa using c1),ba4 h hb c1 c2]
  ·rw[Abo (by simpa [vH]using hp),ba1 (λh=>hp h.2)]
 ·rw[Abo F5,ba1 (λh=>h32 h.1)]
def Y3:Nat->LB->Nat->Int×Int
 |0,_,_=>(0,38)
 |j+1,b,a=>if b=[]then((a:Int),0)else if(Vx b).2≠0 then(0,38)else Y3 j (b.take (b.length-(Vx b).1.toNat)) (a+1)
theorem ze:∀(j q a:Nat) (b:LB),b.length<j->j<=q->b.length<=4000->a+b.length<=4000->Sa q (a:Int) b=some (Y3 j b a)
 |0,_,_,_,h,_,_,_=>by omega
 |j+1,q+1,a,b,h,hq,h4,ha=>by
  rw[Sa,MM,Y3];by_cases hb:b=[]
  ·subst hb;rw[Abl F7,Abo rfl];rfl
  ·have hpos:0<b.length:=List.length_pos_iff.2 hb;rw[Abo Baa,Abl hb,Aje b F0,Aa];have hbad:=Aho (b:=b);have hok:=λn=>sj (b:=b) (n:=n);generalize Vx b=v at*
   obtain⟨n,e⟩:=v;simp only at hbad⊢;rw[HT,WY];by_cases he:e≠0
   ·rw[Abo he,hbad he,Abo F7]
   ·obtain⟨k1,k2⟩:=hok n (by rw[show e=0 by simpa using he]);rw[Abl he,Abl Bag,Ac,Ci,Cw,Aa,XD,XH,Aj];rw[show((b.length:Int)-n).toNat=b.length-n.toNat by omega];have ih:=ze j q (a+1) (b.take (b.length-n.toNat)) Ban F0 Ban Ban;rw[<-ih];rfl
theorem Ae5:∀(j q a:Nat) (b:LB),b.length<j->j<=q->b.length<=4000->a+b.length<=4000->Mf q b (a:Int)=some (Y3 j b a)
 |0,_,_,_,h,_,_,_=>by omega
 |j+1,q+1,a,b,h,hq,h4,ha=>by
  rw[Mf,FR,Y3];by_cases hb:b=[]
  ·subst hb;rw[Abl F7,Abo rfl];rfl
  ·have hpos:0<b.length:=List.length_pos_iff.2 hb;rw[Abo Baa,Abl hb,Anl b F0,Aa];have hok:=λn=>sj (b:=b) (n:=n);generalize Vx b=v at*
   obtain⟨n,e⟩:=v;simp only;by_cases he:e≠0
   ·rw[Abo he,Abo (by rw[Ao];simpa using he)]
   ·obtain⟨k1,k2⟩:=hok n (by rw[show e=0 by simpa using he]);rw[Abl he,Abl (by rw[Ao];simpa using he),Ac,Ci,Cw,Aa,Aj];rw[show((b.length:Int)-n).toNat=b.length-n.toNat by omega];have ih:=Ae5 j q (a+1) (b.take (b.length-n.toNat)) Ban F0 Ban Ban;rw[<-ih];rfl
def IU(b:LB):Int×Int:=if 4000<b.length then(0,38)else Y3 (b.length+1) b 0
theorem tJ(b:LB)(hl:b.length<4611686018427387904):DP b=some (IU b):=by
 rw[DP,MG,IU];by_cases h:4000<b.length
 ·rw[Abo Baa,Abo h]
 ·rw[Abl Baa,Abl h];exact ze _ Ar 0 b F0 Az9 F0 F0
theorem Adt(b:LB)(hl:b.length<4611686018427387904):Xy b=some (IU b):=by
 rw[Xy,CZ,IU];by_cases h:4000<b.length
 ·rw[Abo Baa,Abo h]
 ·rw[Abl Baa,Abl h];exact Ae5 _ Ar 0 b F0 Az9 F0 F0
theorem Am4{a b:Nat}(h:a<9223372036854775808:=by omega):Cy (a:Int) (b:Int)=((a/b:Nat):Int):=by
 have:a/b<=a:=Aud _ _;rw[LN,Avv F0,<-Int.natCast_ediv];generalize a/b=k at*
 exact Cq F0 F0
theorem qD{bits:Int}(h:Cp bits)(x:Int):(HK bits x).length=wB bits:=by
 obtain rfl|rfl|rfl:=h<;>rfl
theorem SL{bits:Int}(h:Cp bits):∀l:LX,(Gl bits l).length=l.length*wB bits
 |[]=>by simp[Gl]
 |x::l=>by
  have h1:=SL h l;have h2:=qD h x.toInt;simp only[Gl,List.flatMap_cons,Abq,As0,Ax8]at*
  omega
def Ams(b:LB)(A:Nat)(l:LI)(k:Nat):LB:=(b.take ((A:Int)+(l.take (k+1)).sum).toNat).drop ((A:Int)+(l.take k).sum).toNat
structure Gts (b p:LB) (f c w r n A:Nat) (l:LI) (k m:Nat) (x:LX) (s:LB) (e:Int):Prop where
 mom:Ak (Al (As r) n) (k:Int)=some (m:Int)
 pos:1<=m/\m*c<=4000
 got:Qo b p (f:Int) (c:Int) (w:Int) (r:Int) (n:Int) (A:Int) l (k:Int)=some (s,e)
 none':e≠0->s=[]/\x=[]
 some':e=0->s=Gl (w:Int) x/\x.length=m*c/\Bn (w:Int) x=some 0/\Ra (w:Int) x=some (s,0)/\ (A:Int)+(l.take (k+1)).sum<=b.length
 way:((b.length:Int)<(A:Int)+(l.take (k+1)).sum/\e=24)\/ ((A:Int)+(l.take (k+1)).sum<=b.length/\Mq (c:Int) (w:Int) (Yc p) (m:Int) (Ams b A l k)=some (x,e)/\Ev (c:Int) (w:Int) (Yc p) (m:Int) (Ams b A l k)=some (x,e))
theorem Ag3{b p:LB}(o:Opn b p f c w r n A l)(k:Nat)(hk:k<l.length):∃m x s e,Gts b p f c w r n A l k m x s e:=by
 obtain⟨hc,hw,hr,hn,_⟩:=VM o.shape;have hfit:n<=4000/c:=by have:=o.fit;simp only[LV,Adf]at this;exact this.1
 have hn4:n<=4000:=by have:=Aud 4000 c;omega
 have hA:=o.at';have As5:=o.file;have hlen:=o.len;have b1:=AB o.five k;have b2:=AB o.five (k+1);have e:=Yx hk;have h5:=o.five l[k] (Ao8 _);have hsum:=o.sum;have hs1:=o.some1;have hkf:k<(Al (As r) n).length:=F0
 obtain⟨m,hm,m1,m2⟩:=Zu (La r) hn (Ao8 hkf);have Asa:Ak (Al (As r) n) (k:Int)=some (m:Int):=by rw[Cf hkf,hm]
 have hpos:1<=m/\m*c<=4000:=by
  refine⟨m1,?_⟩;have:=Ad9 c (Azh m2 hfit);have:=Awm 4000 c;omega
 have hR:Qo b p (f:Int) (c:Int) (w:Int) (r:Int) (n:Int) (A:Int) l (k:Int)=Qo b p (f:Int) (c:Int) (w:Int) (r:Int) (n:Int) (A:Int) l (k:Int):=rfl
 conv at hR=>rhs;rw[Qo,NA,Ag7 hs1.2 o.five o.sum _ _ _ _ _ (A:Int) F0 F0 k F0,Aa,Cf hk,Aa,Ci (by rw[Ac];omega) (by rw[Ac];omega)]
 by_cases hto:(b.length:Int)<(A:Int)+(l.take (k+1)).sum
 ·rw[Abo (by rw[Af,Ac,Adf];omega)]at hR;exact⟨m,[],[],24,Asa,hpos,hR,λ_=>⟨rfl,rfl⟩,λh=>by simp at h, .inl ⟨hto,rfl⟩⟩
 ·rw[Abl (by rw[Af,Ac,Adf];omega),fE p o.pass,oJ hr.2 hn hn4]at hR;simp only[Aa]at hR;rw[Aj (a:=(A:Int)+(l.take k).sum) (b:=l[k]) F0 F0,Int.add_assoc,<-e,Asa]at hR;simp only[Aa]at hR;rw[DD,Aa]at hR;obtain⟨x,er,g1,g2,g3,g4⟩:=JR (ch:=c) (n:=m) (t:=Yc p) (Ams b A l k) hw (Vw p) hc.1 hc.2 m1 F0;rw[show(b.take ((A:Int)+(l.take (k+1)).sum).toNat).drop ((A:Int)+(l.take k).sum).toNat=Ams b A l k from rfl,g2,Aa]at hR;simp only at hR;rw[NC,NI]at hR;by_cases her:er=0
  ·obtain⟨g5,g6,g7⟩:=g3 her;rw[Abl (by rw[Ao];simpa using her),VZ hw g6 g5,Aa]at hR;subst her;exact⟨m,x,_,0,Asa,hpos,hR,λh=>absurd rfl h,λ_=>⟨rfl,g7,g5,lN hw g6 g5,F0⟩, .inr ⟨F0,g1,g2⟩⟩
  ·rw[Abo (by rw[Ao];simpa using her)]at hR;exact⟨m,x,_,er,Asa,hpos,hR,λh=>⟨rfl,g4 h⟩,λh=>absurd h her, .inr ⟨F0,g1,g2⟩⟩
theorem Gts.lens{b p:LB}{s:LB}(hw:Cp (w:Int))(g:Gts b p f c w r n A l k m x s e):s.length<=12000/\x.length<=4000/\ (e=0->s.length=m*c*wB (w:Int)):=by
 by_cases he:e=0
 ·obtain⟨h1,h2,_⟩:=g.some' he;have h3:=IF (w:Int) x;have h4:=SL hw x;have h5:=g.pos;rw[<-h1]at h3 h4;refine⟨F0,F0,λ_=>by rw[h4,h2]⟩
 ·obtain⟨h1,h2⟩:=g.none' he;exact⟨by simp[h1],by simp[h2],λh=>absurd h he⟩
def Aqf(b p:LB)(f c w r n A:Nat)(l:LI)(k:Nat):LB×Int:=(Qo b p (f:Int) (c:Int) (w:Int) (r:Int) (n:Int) (A:Int) l (k:Int)).getD ([],0)
theorem Gts.eq{b p:LB}{s:LB}(g:Gts b p f c w r n A l k m x s e):Aqf b p f c w r n A l k=(s,e):=by rw[Aqf,g.got];rfl
def Awp(b:LB)(A:Nat)(l:LI):Int:=(IU (b.drop ((A:Int)+l.sum).toNat)).2
def iX(b:LB)(k:Nat):Nat:=(b.getD k 0).toNat
def sx(n:Nat)(b:LB)(a:Nat):Int:=
 if n=1 then(iX b a:Int)-128 else
 if n=2 then(if iX b a+256*iX b (a+1)<32768 then(iX b a+256*iX b (a+1):Nat)else((iX b a+256*iX b (a+1):Nat):Int)-65536)else
 (if iX b a+256*iX b (a+1)+65536*iX b (a+2)<8388608 then(iX b a+256*iX b (a+1)+65536*iX b (a+2):Nat)else((iX b a+256*iX b (a+1)+65536*iX b (a+2):Nat):Int)-16777216)
def sxs(n m:Nat)(b:LB):LX:=(List.range m).map λx=>Int32.ofInt (sx n b (x*n))
theorem Aqi(n m:Nat)(b:LB):(sxs n m b).length=m:=by simp[sxs]
theorem sx2(b:LB)(a:Nat):sx 2 b a=if iX b a+256*iX b (a+1)<32768 then((iX b a+256*iX b (a+1):Nat):Int)else((iX b a+256*iX b (a+1):Nat):Int)-65536:=rfl
theorem sx3(b:LB)(a:Nat):sx 3 b a=if iX b a+256*iX b (a+1)+65536*iX b (a+2)<8388608 then((iX b a+256*iX b (a+1)+65536*iX b (a+2):Nat):Int)else((iX b a+256*iX b (a+1)+65536*iX b (a+2):Nat):Int)-16777216:=rfl
variable (b:LB)
end Go.Pl
namespace Go.Pl
open Go Go.Lv
variable{bits:Int}{c w:Nat}
theorem Auk(hc:c<=6)(hw:Cp (w:Int)):Cy (Bv (c:Int) (w:Int)) 8=((c*wB (w:Int):Nat):Int):=by
 have h:w=8\/w=16\/w=24:=by unfold Cp at hw;omega
 have:c=0\/c=1\/c=2\/c=3\/c=4\/c=5\/c=6:=F0
 rcases h with rfl|rfl|rfl<;>rcases this with rfl|rfl|rfl|rfl|rfl|rfl|rfl<;>rfl
theorem Atq(hw:Cp (w:Int)):8*wB (w:Int)=w/\w<=24:=by
 have h:w=8\/w=16\/w=24:=by unfold Cp at hw;omega
 rcases h with rfl|rfl|rfl<;>exact⟨rfl,F0⟩
theorem Au4{t:Nat}(ht:t<=4000)(hc:c<=6)(hw:Cp (w:Int)):Cy (Bv (Bv (t:Int) (c:Int)) (w:Int)) 8=((t*(c*wB (w:Int)):Nat):Int):=by
 obtain⟨h1,h2⟩:=Atq hw;have e1:(t:Int)*(c:Int)=((t*c:Nat):Int):=by simp
 have b1:t*c<=4000*6:=Av2 ht hc;have b2:t*c*w<=24000*24:=Av2 b1 h2;rw[Ii (a:=(t:Int)) (by rw[e1];omega) (by rw[e1];omega),e1,Ii Bap Bap,<-Avg,show(8:Int)=((8:Nat):Int)from rfl,Am4];congr 1;generalize wB (w:Int)=W at*
 subst h1;rw[Nat.mul_left_comm,Nat.mul_div_cancel_left _ F0,Axl]
def smF(w:Nat)(y:LB×Int):LX:=if y.2≠0 then []else sxs (wB (w:Int)) (y.1.length/wB (w:Int)) y.1
theorem rF(z:Int):(u8 z).toNat=(z %256).toNat:=by
 have:(z %256).toNat<256:=F0
 rw[u8,Ao0,Adl F0]
theorem wH{bits:Int}(h:Cp bits):∀(l:LX) (i j:Nat),i<l.length->j<wB bits-> (Gl bits l).getD (i*wB bits+j) 0=(HK bits (l.getD i 0).toInt).getD j 0
 |[],i,j,hi,_=>by simp at hi
 |x::l,0,j,_,hj=>by
  have h1:=qD h x.toInt;have e:Gl bits (x::l)=HK bits x.toInt++Gl bits l:=by simp[Gl]
  rw[e,Nat.zero_mul,Axt,List.getD_eq_getElem?_getD,List.getD_eq_getElem?_getD,List.getElem?_append_left F0];rfl
 |x::l,i+1,j,hi,hj=>by
  have h1:=qD h x.toInt;have e:Gl bits (x::l)=HK bits x.toInt++Gl bits l:=by simp[Gl]
  have ih:=wH h l i j (by simpa using hi) hj;have e2:(i+1)*wB bits+j=(HK bits x.toInt).length+(i*wB bits+j):=by rw[Asn,Nat.one_mul,h1];omega
  rw[e,e2,List.getD_eq_getElem?_getD,List.getElem?_append_right F0,Axw,<-List.getD_eq_getElem?_getD,ih];rfl
theorem Ar3(h:Cp bits)(l:LX)(hr:inR bits l)(i:Nat)(hi:i<l.length):Int32.ofInt (sx (wB bits) (Gl bits l) (i*wB bits))=l.getD i 0:=by
 have hm:l.getD i 0∈l:=by rw[List.getD_eq_getElem?_getD,List.getElem?_eq_getElem hi];exact Ao8 hi
 have hv:=hr _ hm;have g:∀j,j<wB bits->iX (Gl bits l) (i*wB bits+j)=((HK bits (l.getD i 0).toInt).getD j 0).toNat:=λj hj=>by rw[iX,wH h l i j hi hj]
 generalize l.getD i 0=x at*
 have key:sx (wB bits) (Gl bits l) (i*wB bits)=x.toInt:=by
  generalize hA:i*wB bits=a at*
  obtain rfl|rfl|rfl:=h
  ·have g0:=g 0 F7;have e1:(HK 8 x.toInt).getD 0 0=u8 (x.toInt+128):=rfl;rw[Axs,e1,rF]at g0;simp only[hB]at hv;simp at hv;have e2:wB 8=1:=rfl;rw[e2,sx,Abo rfl,g0];omega
  ·have g0:=g 0 F7;have g1:=g 1 F7;have e0:(HK 16 x.toInt).getD 0 0=u8 x.toInt:=rfl;have e1:(HK 16 x.toInt).getD 1 0=u8 (x.toInt/256):=rfl;rw[Axs,e0,rF]at g0;rw[e1,rF]at g1;simp only[hB]at hv;simp at hv;have e2:wB 16=2:=rfl;rw[e2,sx2,g0,g1];split<;>omega
  ·have g0:=g 0 F7;have g1:=g 1 F7;have g2:=g 2 F7;have e0:(HK 24 x.toInt).getD 0 0=u8 x.toInt:=rfl;have e1:(HK 24 x.toInt).getD 1 0=u8 (x.toInt/256):=rfl;have e3:(HK 24 x.toInt).getD 2 0=u8 (x.toInt/65536):=rfl;rw[Axs,e0,rF]at g0;rw[e1,rF]at g1;rw[e3,rF]at g2;simp only[hB]at hv;simp at hv;have e2:wB 24=3:=rfl;rw[e2,sx3,g0,g1,g2];split<;>omega
 rw[key];simp
theorem Am6(h:Cp bits)(l:LX)(hr:inR bits l):sxs (wB bits) l.length (Gl bits l)=l:=by
 refine Av9 (Aqi _ _ _) λi h1 h2=>?_;have:=Ar3 h l hr i h2;simp only[sxs,Azb,Ay8];rw[this,List.getD_eq_getElem?_getD,List.getElem?_eq_getElem h2];rfl
theorem Gts.vJ{b p:LB}{f r n A:Nat}{l:LI}{k m:Nat}{x:LX}{s:LB}{e:Int}(hw:Cp (w:Int))(g:Gts b p f c w r n A l k m x s e):smF w (s,e)=x:=by
 have hwb:=L8 (w:Int);by_cases he:e=0
 ·obtain⟨h1,h2,h3,_⟩:=g.some' he;have h4:=g.pos;have h5:=SL hw x;rw[smF,Abl (by simpa using he)];simp only;rw[h1,h5,Nat.mul_div_cancel _ F0];exact Am6 hw x (sC hw F0 h3)
 ·rw[smF,Abo he,(g.none' he).2]
theorem Bai{p:Prop}(h:p:=by rw[Ae7];omega):p:=h
end Go.Pl
namespace Go.Pl
open Go Go.Lv
variable{e bits:Int}
abbrev C5:=Int×Int×Int×LX×Int
def Axy(e:Int):C5:=(0,0,0,[],e)
theorem qz{seg p:LB}(hs:seg.length=8)(hp:p.length<=64):Xg seg p=some (seg==FU (BA p).toNat 8,0):=by
 rw[Xg,Ahi p hp,Aa];simp only;rw[Abl (by rw[Ao,Ao,Ac,Ac,On,hs];simp),Jb,Aa]
def Aom(X:Nat->LX)(E:Nat->Int)(be:Int):Nat->Nat->LX->LX×Int
 |0,_,acc=>if be≠0 then([],38)else(acc,0)
 |j+1,k,acc=>if E k≠0 then([],E k)else Aom X E be j (k+1) (acc++X k)
def qj(c w r:Nat)(y:LX×Int):C5:=if y.2≠0 then Axy y.2 else((c:Int),(w:Int),(r:Int),y.1,0)
section
variable {b p:LB} {f c w r n A:Nat} {l:LI} (o:Opn b p f c w r n A l)
include o
theorem rS(a1 a2 a3 a4:Int):∀(j k q:Nat) (acc:LX),k+j=l.length->j<q-> (k=l.length-> (A:Int)+l.sum<=b.length)->acc.length<=4000*k->
  DE b l (f:Int) (c:Int) (w:Int) (r:Int) (n:Int) a1 a2 a3 (A:Int) a4 (Yc p) (Al (As r) n) q ((A:Int)+(l.take k).sum) (k:Int) acc=
   some (qj c w r (Aom (λk=>smF w (Aqf b p f c w r n A l k)) (λk=>(Aqf b p f c w r n A l k).2) (Awp b A l) j k acc))
 |0,k,q+1,acc,hk,_,hfit,_=>by
  have hA:=o.at';have As5:=o.file;have hs1:=o.some1;have hsum:=o.sum;have b1:=AB o.five l.length;have hf:=hfit F0;obtain rfl:k=l.length:=F0
  rw[Ayh]at b1⊢;rw[DE,QW,Abl Baz,eB,cT,Cz,Aa,tJ _ Bai,Aa,Aom,Awp];generalize IU (b.drop ((A:Int)+l.sum).toNat)=v;obtain⟨v1,v2⟩:=v;simp only;by_cases hv:v2≠0
  ·rw[Abo hv,Abo (by rw[Ao];simpa using hv),qj,Abo Bab];rfl
  ·rw[Abl hv,Abl (by rw[Ao];simpa using hv),qj,Abl Bab]
 |j+1,k,q+1,acc,hk,hq,hfit,hacc=>by
  have hA:=o.at';have As5:=o.file;have hs1:=o.some1;have hsum:=o.sum;have b1:=AB o.five k;have b2:=AB o.five (k+1);have hkl:k<l.length:=F0
  have e2:=Yx hkl;have h5:=o.five l[k] (Ao8 _);obtain⟨m,x,s,e,g⟩:=Ag3 o k hkl;obtain⟨hc,hw,hr,hn,_⟩:=VM o.shape;have hl:=g.lens hw;rw[DE,QW,Abo F5,Cf hkl,Aa,Aa,Aj (a:=(A:Int)+(l.take k).sum) F0 F0,Int.add_assoc,<-e2,Ac,Aom,g.eq];simp only;rcases g.way with⟨h1,h2⟩|⟨h1,h2,_⟩
  ·rw[Abo (by rw[Af,Adf];omega),Abo (by rw[h2];simp),h2,qj,Abo Bab];rfl
  ·rw[Abl (by rw[Af,Adf];omega),g.mom];simp only[Aa];rw[DD,Aa,show(b.take ((A:Int)+(l.take (k+1)).sum).toNat).drop ((A:Int)+(l.take k).sum).toNat=Ams b A l k from rfl,h2,Aa];simp only;rw[dZ,dY];by_cases he:e≠0
   ·rw[Abo (by rw[Ao];simpa using he),Abo he,qj,Abo he];rfl
   ·have he0:e=0:=by simpa using he
    have As6:=(g.some' he0).2.2.2.2;rw[Abl (by rw[Ao];simpa using he),Abl he,g.vJ hw,Cr,Aa,Aj (a:=(A:Int)+(l.take k).sum) F0 F0,Int.add_assoc,<-e2,Aj];exact rS a1 a2 a3 a4 j (k+1) q (acc++x) F0 F0 (λh=>by rw[h,Ayh]at As6;exact As6) Baq
end
def qA(b:LB):LI:=Al (As (f3 (Tc b))) (f4 (Tc b))
theorem zS{c r n:Nat}(h:LV c r n=true):1<= (Al (As r) n).length/\ (Al (As r) n).length<=1000:=by
 simp only[LV,Adf]at h;rw[tD];exact⟨Nat.le_add_left _ _,h.2⟩
theorem Aej(g:Nat):∀K:Nat,(List.replicate K (g:Int)).sum=((K*g:Nat):Int)
 |0=>by simp
 |K+1=>by
  rw[Axc,Au9,Aej g K,Ax8];omega
theorem eP{g n:Nat}(hn:1<=n):(Al g n).sum=(n:Int):=by
 have h:=Awm (n-1) g;rw[Al,List.sum_append,Aej];simp only[Au9,Az3];omega
theorem Adn:∀{l:LI},(∀x∈l,0<=x)->0<=l.sum
 |[],_=>by simp
 |x::l,h=>by
  have h1:=h x Ave;have h2:=Adn (l:=l) λy hy=>h y (Aqg _ hy);rw[Au9];omega
theorem iE{l:LI}(h:∀x∈l,0<=x)(i:Nat):0<= (l.take i).sum/\ (l.take i).sum<=l.sum:=by
 have h1:=Adn (l:=l.take i) λx hx=>h x (Azc hx);have h2:=Adn (l:=l.drop i) λx hx=>h x (List.mem_of_mem_drop hx);have:=Q8 l i;omega
def CC(c w:Nat)(fr:LI)(k:Nat):Int:=(((fr.take k).sum.toNat*(c*wB (w:Int)):Nat):Int)
section
variable {f c w r n:Nat} (h1:Jw f c w r n=true) (h2:LV c r n=true)
include h1 h2
theorem QY:(∀x∈Al (As r) n,0<=x)/\ (Al (As r) n).sum=(n:Int)/\n<=4000:=by
 obtain⟨hc,hw,hr,hn,_⟩:=VM h1;have hfit:n<=4000/c:=by simp only[LV,Adf]at h2;exact h2.1
 have hn4:n<=4000:=by have:=Aud 4000 c;omega
 refine⟨λx hx=>?_,eP hn,hn4⟩;obtain⟨m,rfl,_⟩:=Zu (La r) hn hx;omega
end
theorem Acv(C W:Nat)(fr:LI):CC C W fr 0=0:=by rw[CC,Ay4,Az3];simp
theorem Acs(C W:Nat){fr:LI}(hp:∀z∈fr,0<=z){A m:Nat}(hA:A<fr.length)(hm:fr[A]=(m:Int)):CC C W fr (A+1)=CC C W fr A+((m*C*wB (W:Int):Nat):Int):=by
 have hs:0<= (fr.take A).sum:=by
  have:∀l:LI,(∀z∈l,0<=z)->0<=l.sum:=by
   intro l
   induction l with
   |nil=>intro _;simp
   |cons a l ih=>intro h;rw[Au9];have:=h a Bab;have:=ih (λz hz=>h z (by simp[hz]));omega
  exact this _ λz hz=>hp z (Azc hz)
 have e:(fr.take (A+1)).sum=(fr.take A).sum+m:=by rw[ON hA,List.sum_append,Au9,Az3,hm];omega
 rw[CC,CC,e];have:((fr.take A).sum+(m:Int)).toNat=(fr.take A).sum.toNat+m:=F0
 rw[this,Asn,Axl m];omega
def Ax2(bits:Int)(ch:Nat)(t x:LX):LU:=evl bits ch t (mx ch x) x.length
def Awd(bits:Int)(ch:Nat)(t x:LX):LB:=Awk (Awz ch (Ax2 bits ch t x) x.length)
def iQ(bits:Int)(ch:Nat)(t x:LX):LB:=Awd bits ch t x++FU (Hi (Awd bits ch t x)).toNat 4
theorem Apv{n:Nat}(h:n<2^64):(UInt64.ofNat n).toNat=n:=by rw[Ajj];exact Adl h
structure ClipOk (c w r n:Nat) (x:LX):Prop where
 ch:1<=c/\c<=6
 bits:Cp (w:Int)
 rate:1<=r/\r<=1048576
 cnt:1<=n/\n<=4000/c
 len:x.length=n*c
 fr:(n-1)/As r+1<=1000
 rng:inR (w:Int) x
theorem ClipOk.le{c w r n:Nat}{x:LX}(h:ClipOk c w r n x):n<=4000/\n*c<=4000/\1<=x.length/\x.length<=4000:=by
 have h1:=Ad9 c h.cnt.2;have h2:=Awm 4000 c;have h3:=Aud 4000 c;have h4:=Nat.mul_pos h.cnt.1 h.ch.1;have h5:=h.len;have:=h.cnt;omega
theorem ClipOk.w3{c w r n:Nat}{x:LX}(h:ClipOk c w r n x):w=8\/w=16\/w=24:=by
 have:=h.bits;unfold Cp at this;omega
theorem ClipOk.shape{c w r n:Nat}{x:LX}(h:ClipOk c w r n x)(f:Nat)(hf:f=1\/f=2):Jw f c w r n=true:=by
 have:=h.w3;have:=h.ch;have:=h.rate;have:=h.cnt;simp only[Jw,Adf];omega
theorem ClipOk.fit{c w r n:Nat}{x:LX}(h:ClipOk c w r n x):LV c r n=true:=by
 have:=h.cnt;have:=h.fr;simp only[LV,Adf];omega
def Aw8(f c w r n:Nat):LB:=aW++FU f 2++FU c 2++FU w 2++FU r 4++FU n 4
def Ayc(f c w r n:Nat):LB:=Aw8 f c w r n++FU (Hi (Aw8 f c w r n)).toNat 4
theorem Asp(b f g h k:Int)(m v w q:Nat)(a:LB)(hm:m<5)(hv:Ak ([b,f,g,h,k]:LI) (m:Int)=some (v:Int))(hw:Ak ([2,2,2,4,4]:LI) (m:Int)=some (w:Int))(h1:1<=w)(h8:w<=8)(hlt:v<256^w)(h64:v<18446744073709551616)(ha:a.length<=100):
  Of b f g h k (q+1) (m:Int) a=Of b f g h k q ((m+1:Nat):Int) (a++FU v w):=by
 have e64:(UInt64.ofNat v).toNat=v:=Apv F0;have hi1:Ae (m:Int) 1=((m+1:Nat):Int):=by rw[Aj];omega
 rw[Of,ML,Abo Az8,hv,Aa,hw,Aa,Xi,C7 _ w h1 h8 (by rw[e64];exact hlt),Aa];simp only;rw[Cr (by rw[On];omega),Aa,hi1,e64]
def Avk(l:LI):LB:=l.flatMap λx=>FU x.toNat 4
def Aya(l:LI):LB:=Avk l++FU (Hi (Avk l)).toNat 4
def QH(c:Nat):LX->LI->List LX
 |_,[]=>[]
 |x,m::l=>x.take (m.toNat*c)::QH c (x.drop (m.toNat*c)) l
theorem mM(c:Nat):∀(l:LI) (x:LX),(QH c x l).length=l.length
 |[],x=>rfl
 |m::l,x=>by rw[QH,As0,As0,mM c l]
theorem kP(c:Nat)(h1:1<=c):∀(l:LI) (x:LX),(∀m∈l,1<=m)->x.length=l.sum.toNat*c->∀y∈QH c x l,1<=y.length/\y.length<=x.length/\y.length %c=0/\∀v∈y,v∈x
 |[],x,_,_=>λy hy=>by simp[QH]at hy
 |m::l,x,hm,hx=>by
  have hm1:=hm m Ave;have hl:0<=l.sum:=by
   have:∀l:LI,(∀m∈l,1<=m)->0<=l.sum:=by
    intro l
    induction l with
    |nil=>intro _;simp
    |cons a l ih=>intro h;have:=ih (λm hm=>h m (Aqg _ hm));have:=h a Ave;rw[Au9];omega
   exact this l λm hm'=>hm m (Aqg _ hm')
  rw[Au9,show(m+l.sum).toNat=m.toNat+l.sum.toNat by omega,Asn]at hx;have hpos:1<=m.toNat*c:=Nat.mul_pos F0 h1;intro y hy;rw[QH,List.mem_cons]at hy;rcases hy with rfl|hy
  ·have hlen:(x.take (m.toNat*c)).length=m.toNat*c:=by rw[Agw];omega
   rw[hlen];exact⟨hpos,F0,Ayf _ _,λv hv=>Azc hv⟩
  ·obtain⟨a1,a2,a3,a4⟩:=kP c h1 l (x.drop (m.toNat*c)) (λm hm'=>hm m (Aqg _ hm')) Bai y hy;rw[Ae7]at a2;exact⟨a1,F0,a3,λv hv=>List.mem_of_mem_drop (a4 v hv)⟩
def D5(fs:List LB):LI:=fs.map λf=>(f.length:Int)
theorem xS(fs:List LB):(D5 fs).length=fs.length:=by rw[D5,List.length_map]
def Av1(p:LB):Nat:=if p=[]then 1 else 2
def Ax4(p:LB):LB:=if p=[]then []else FU (BA p).toNat 8
def Z1(c r n:Nat)(x:LX):List LX:=QH c x (Al (As r) n)
def frs(c w r n:Nat)(x:LX)(p:LB):List LB:=(Z1 c r n x).map (iQ (w:Int) c (Yc p))
theorem TU{g n:Nat}(hg:1<=g)(h1:1<=n):∀m∈Al g n,1<=m:=by
 intro m hm;rw[Al,List.mem_append,List.mem_replicate,List.mem_singleton]at hm;have h:=Awm (n-1) g;rcases hm with⟨_,rfl⟩|rfl
 ·omega
 ·omega
section
variable {c w r n:Nat} {x:LX} (h:ClipOk c w r n x)
include h
theorem ClipOk.sum:(Al (As r) n).sum=(n:Int):=eP h.cnt.1
omit h in
theorem Anm:(Z1 c r n x).length=(Al (As r) n).length:=mM _ _ _
theorem Am9:∀y∈Z1 c r n x,1<=y.length/\y.length<=4000/\y.length %c=0/\inR (w:Int) y:=by
 intro y hy;obtain⟨a1,a2,a3,a4⟩:=kP c h.ch.1 _ _ (TU (La r) h.cnt.1) (by rw[h.sum,h.len,Ajr]) y hy;have:=h.le;exact⟨a1,F0,a3,λv hv=>h.rng v (a4 v hv)⟩
omit h in
theorem Ar1(p:LB):(frs c w r n x p).length=(Al (As r) n).length:=by rw[frs,List.length_map];exact mM _ _ _
omit h in
omit h in
end
theorem tC:∀{l:LI},(∀x∈l,0<=x)->∀k,0<= (l.take k).sum
 |[],_,k=>by simp
 |x::l,h,0=>by simp
 |x::l,h,k+1=>by
  have:=tC (l:=l) (λy hy=>h y (Aqg _ hy)) k;have:=h x Ave;rw[List.take_succ_cons,Au9];omega
theorem yT(c:Nat)(h1:1<=c):∀(l:LI) (x:LX),(∀m∈l,1<=m)->x.length=l.sum.toNat*c->∀(k:Nat) (hk:k<l.length) (hk':k<(QH c x l).length),(QH c x l)[k].length=l[k].toNat*c
 |[],x,_,_=>λk hk=>absurd hk (Azx _)
 |m::l,x,hm,hx=>by
  have hm1:=hm m Ave;have hl:0<=l.sum:=by
   have:=tC (l:=l) (λy hy=>by have:=hm y (Aqg _ hy);omega) l.length;rw[Ayh]at this;exact this
  rw[Au9,show(m+l.sum).toNat=m.toNat+l.sum.toNat by omega,Asn]at hx;intro k hk hk';cases k with
  |zero=>simp only[QH,List.getElem_cons_zero,Agw];omega
  |succ k=>
   simp only[QH,List.getElem_cons_succ];exact yT c h1 l (x.drop (m.toNat*c)) (λm hm'=>hm m (Aqg _ hm')) Bai k (by simpa using hk) _
structure FileOf (c w r n:Nat) (x:LX) (p:LB) (T:Nat) (fs:List LB) (z b:LB):Prop where
 clip:ClipOk c w r n x
 pass:p.length<=64
 front:Da b=((T:Int),0)
 le:b.length<=100000
 lens:D5 fs=D5 (frs c w r n x p)
 form:b.drop T=Ayc (Av1 p) c w r n++(Ax4 p++(Aya (D5 (frs c w r n x p))++(fs.flatten++z)))
section
variable {c w r n:Nat} {x:LX} {p:LB} {T:Nat} {fs:List LB} {z b:LB} (h:FileOf c w r n x p T fs z b)
include h
theorem FileOf.cnt:fs.length=(frs c w r n x p).length:=by
 have:=congrArg List.length h.lens;rw[xS,xS]at this;exact this
theorem FileOf.mom{k:Nat}(hk:k<fs.length):∃(m:Nat) (hk':k<(Z1 c r n x).length),Ak (Al (As r) n) (k:Int)=some (m:Int)/\1<=m/\m<=4000/c/\ ((Z1 c r n x)[k]).length=m*c/\inR (w:Int) (Z1 c r n x)[k]/\ (frs c w r n x p)[k]'(by rw[<-h.cnt];exact hk)=iQ (w:Int) c (Yc p) (Z1 c r n x)[k]:=by
 have hc:=h.clip;have hlen:fs.length=(Al (As r) n).length:=by rw[h.cnt];exact Ar1 p
 have hkf:k<(Al (As r) n).length:=F0
 have hk':k<(Z1 c r n x).length:=by rw[Anm];exact hkf
 have hm1:=TU (La r) hc.cnt.1 _ (Ao8 hkf);obtain⟨m,hm⟩:=Anr (show 0<= (Al (As r) n)[k] by omega);have hg:=yT c hc.ch.1 _ x (TU (La r) hc.cnt.1) (by rw[hc.sum,hc.len,Ajr]) k hkf hk';rw[hm,Ajr]at hg;have hmem:=Am9 hc _ (Ao8 hk');have hx:=kP c hc.ch.1 _ x (TU (La r) hc.cnt.1) (by rw[hc.sum,hc.len,Ajr]) _ (Ao8 hk');have hg':((Z1 c r n x)[k]).length=m*c:=hg;refine⟨m,hk',by rw[Cf hkf,hm],F0,?_,hg',hmem.2.2.2,?_⟩
 ·have h1:=hx.2.1;have h2:m*c<=n*c:=by rw[<-hg',<-hc.len];exact h1
  have h3:m<=n:=Nat.le_of_mul_le_mul_right h2 hc.ch.1;exact Azh h3 hc.cnt.2
 ·simp only[frs,Azb]
end
def Cd(e:Int):Prop:=e=0\/e=4\/e=12\/e=16\/e=22\/e=24\/e=26\/e=38
instance(e:Int):Decidable (Cd e):=by unfold Cd;infer_instance
theorem Cd.nn(h:Cd e):0<=e:=by unfold Cd at h;omega
theorem Ata(p:LB)(N a k:Nat):Cd (SJ p N a k).2.2:=by
 unfold SJ
 repeat' split
 all_goals first|decide|exact .inl rfl
theorem Au0(p:LB)(N a k l:Nat):Cd (YK p N a k l).2.2:=by
 have h:=Ata p N (a+1) l;unfold YK
 repeat' split
 all_goals first|exact h|decide|exact .inl rfl
theorem Aes(ch:Nat)(p:LB)(N:Nat):∀(j a:Nat) (out:LU),Cd (Xh ch p N j a out).2.2
 |0,a,out=>by rw[Xh];exact .inl rfl
 |j+1,a,out=>by
  rw[Xh];split
  ·exact Au0 ..
  ·exact Aes ch p N j _ _
theorem Aj9(b:LB):Cd (Ui b):=by
 unfold Ui
 repeat' split
 all_goals first|decide|exact .inl rfl
theorem Q1(a:LX)(b:Int):∀(q:Nat) (i e:Int),Bs a b q i=some e->Cd e
 |0,_,_,h=>by rw[Bs]at h;cases h
 |q+1,i,e,h=>by
  rw[Bs,Ey]at h;split at h
  ·cases hg:Ak a i with
   |none=>rw[hg]at h;cases h
   |some g=>
    rw[hg,Aa]at h;split at h
    ·cases h;decide
    ·rw[Aa]at h;split at h
     ·cases h;decide
     ·exact Q1 a b q _ e h
  ·cases h;decide
theorem Ab9{a:LX}(hb:Cp bits)(h:Bn bits a=some e):Cd e:=by
 rw[Bn,Jn]at h;rw[tG hb,Aa,Abl (by have:=kV bits;rw[Bb];simp;omega)]at h;split at h
 ·cases h;decide
 ·exact Q1 a _ _ _ e h
theorem O6{ch n:Nat}{t:LX}{b:LB}(hb:Cp bits)(ht:t.length=16)(h1:1<=ch)(h6:ch<=6)(n1:1<=n)(n2:n<=4000/ch){l:LX}
  (h:Ev (ch:Int) bits t (n:Int) b=some (l,e)):Cd e:=by
 have hn:n*ch<=4000:=by
  have:=Ad9 ch n2;have h2:=Awm 4000 ch;omega
 have hq4:=Aea h1 h6;generalize 4000/ch=mm at*
 have hh:=kV bits;have Ad6:Nd (ch:Int) bits (n:Int)=some 0:=by
  rw[Nd,AO,Abl Bah,tG hb,Aa,Abl Bag,Aa,Abl (by simp[Ao,Af];omega),Dj Baf,Aa,hq4,Abl Bad]
 rw[Ev,Ry,Ad6,Aa,Abl Bac,xQ,Aa]at h;by_cases hs:Ui b≠0
 ·rw[Abo (by rw[Ao];simpa using hs)]at h;simp only[Aa]at h;cases h;exact Aj9 b
 have hs0:Ui b=0:=by simpa using hs
 have hlen:=Aa2 hs0;have e4:Am (Ac b) 4=((b.length-4:Nat):Int):=by rw[Ac,Ci];omega
 rw[Abl (by rw[Ao,hs0];simp),e4,Cw,Aa,show((b.length-4:Nat):Int).toNat=b.length-4 from rfl]at h;have hpl:(b.take (b.length-4)).length=b.length-4:=by simp
 generalize b.take (b.length-4)=p at*
 have hr:=Afd (N:=8*p.length) (p:=p) rfl F0 h1 h6 hn;have hV:=Aes ch p (8*p.length) (n*ch) 0 [];have hat:=vC (ch:=ch) (p:=p) (N:=8*p.length) (n*ch) 0 [] F0;rw[hr,Aa]at h;generalize Xh ch p (8*p.length) (n*ch) 0 []=V at*
 obtain⟨v,at',er⟩:=V;simp only at*
 by_cases he:er≠0
 ·rw[Abo he]at h;simp only at h;rw[Ib,Io,Abo (by rw[Ao];simpa using he)]at h;cases h;exact hV
 have he0:er=0:=by simpa using he
 have hvl:=hat.2.2 he0;simp only[List.length_nil,Axt]at hvl;rw[Abl he]at h;simp only at h;rw[Ib,Io]at h;split at h
 ·cases h;decide
 ·rw[Abl F7]at h;have hm:v.length %ch=0:=by rw[hvl];exact Ayf n ch
  obtain⟨l',e',g1,g2,g3,g4,g5⟩:=oD (v:=v) hb ht h1 h6 F0 hm;rw[g1,Aa,g2,Aa]at h;have:=Ab9 hb g4;by_cases hl:e'≠0
  ·rw[Abo hl]at h;cases h;exact this
  ·rw[Abl hl]at h;cases h;decide
theorem M0{ch n:Nat}{t:LX}{b:LB}(hb:Cp bits)(ht:t.length=16)(h1:1<=ch)(h6:ch<=6)(n1:1<=n)(n2:n<=4000/ch){l:LX}
  (h:Ev (ch:Int) bits t (n:Int) b=some (l,e)):0<=e:=(O6 hb ht h1 h6 n1 n2 h).nn
def shI(f c w r n:Int):Bool:=decide ((f=1\/f=2)/\ (1<=c/\c<=6)/\ (w=8\/w=16\/w=24)/\ (1<=r/\r<=1048576)/\1<=n)
theorem Am1(f c w r n:Int):Pd f c w r n=some (shI f c w r n):=by
 have e2:Qp f c w r n=some (decide ((f=1\/f=2)/\ (1<=c/\c<=6)/\ (1<=r/\r<=1048576)/\1<=n)):=by
  rw[Qp,HO];congr 1;rw[Aks];simp only[Bb,Ax,ND,Abp,At9,Auy,Adf];omega
 have g:∀k:Int,geq w k=decide (w=k):=λk=>by rw[Bb,Aks];simp
 rw[Pd,HJ,e2,g,g,g,shI];by_cases h8:w=8
 ·subst h8;simp
 ·by_cases h16:w=16
  ·subst h16;simp
  ·by_cases h24:w=24
   ·subst h24;simp
   ·simp[h8,h16,h24]
theorem Ari(f c w r n:Int):It f c w r n=some (shI f c w r n):=by
 rw[It,shI];simp only[Bb,Dz,ND,Abp,At9,Auy,Adf,Azk];split
 ·rename_i h;congr 1;rw[Aks];simp only[Abp,At9,Auy,Adf];omega
 ·rename_i h;congr 1;symm;rw[Auo];omega
structure HdI (f c w r n:Int) (F C W R N:Nat):Prop where
 ef:f=F
 ec:c=C
 ew:w=W
 er:r=R
 en:n=N
 shape:Jw F C W R N=true
 fit:LV C R N=true
theorem Ai6(f c w r n:Int):(∃F C W R N:Nat,HdI f c w r n F C W R N)\/ (Ki f c w r n=some 8/\Dh f c w r n=some ([],8)):=by
 by_cases h:shI f c w r n=true
 ·have h':=h;simp only[shI,Adf]at h';obtain⟨F,rfl⟩:=Anr (show 0<=f by omega);obtain⟨C,rfl⟩:=Anr (show 0<=c by omega);obtain⟨W,rfl⟩:=Anr (show 0<=w by omega);obtain⟨R,rfl⟩:=Anr (show 0<=r by omega);obtain⟨N,rfl⟩:=Anr (show 0<=n by omega);have hs:Jw F C W R N=true:=by simp only[Jw,Adf];omega
  by_cases hf:LV C R N=true
  ·exact .inl ⟨F,C,W,R,N,rfl,rfl,rfl,rfl,rfl,hs,hf⟩
  ·have hf':LV C R N=false:=by simpa using hf
   refine .inr ⟨?_,?_⟩
   ·rw[Ki,mI,Aa,hs,Abl Bab,H2 hs,Aa,hf'];rfl
   ·rw[Dh,Rb,dA,Aa,hs,Abl Bab,qW hs,Aa,hf'];rfl
 ·have h':shI f c w r n=false:=by simpa using h
  refine .inr ⟨?_,?_⟩
  ·rw[Ki,Ari,Aa,h'];rfl
  ·rw[Dh,Rb,Am1,Aa,h'];rfl
theorem HdI.check{f c w r n:Int}{F C W R N:Nat}(h:HdI f c w r n F C W R N):Ki f c w r n=some 0:=by
 obtain⟨rfl,rfl,rfl,rfl,rfl,hs,hf⟩:=h;rw[Ki,mI,Aa,hs,Abl Bab,H2 hs,Aa,hf];rfl
theorem HdI.qA{f c w r n:Int}{F C W R N:Nat}(h:HdI f c w r n F C W R N):Dh f c w r n=some (Al (As R) N,0):=by
 obtain⟨rfl,rfl,rfl,rfl,rfl,hs,hf⟩:=h;exact vg hs hf
theorem HdI.num{f c w r n:Int}{F C W R N:Nat}(h:HdI f c w r n F C W R N):(F=1\/F=2)/\ (1<=C/\C<=6)/\ (W=8\/W=16\/W=24)/\ (1<=R/\R<=1048576)/\1<=N/\N<=4000/C/\N<=4000/\ (N-1)/As R+1<=1000:=by
 obtain⟨rfl,rfl,rfl,rfl,rfl,hs,hf⟩:=h;simp only[Jw,Adf]at hs;simp only[LV,Adf]at hf;have hd:4000/C<=4000:=Aud _ _;omega
theorem HdI.Acu{f c w r n:Int}{F C W R N:Nat}(h:HdI f c w r n F C W R N):Fw f c w r n=some (Al (As R) N):=by
 have hn:=h.num;obtain⟨rfl,rfl,rfl,rfl,rfl,hs,hf⟩:=h;rw[Fw,oJ F0 F0 F0];rfl
section
variable {f c w r n:Nat} (h1:Jw f c w r n=true) (h2:LV c r n=true)
include h1 h2
theorem M6(k:Nat)(hk:k<= (Al (As r) n).length):∀(j i q:Nat),i+j=k->j<q->Kt (k:Int) (f:Int) (c:Int) (w:Int) (r:Int) (n:Int) (Al (As r) n) q (((Al (As r) n).take i).sum) (i:Int)=some (CC c w (Al (As r) n) k)
 |0,i,q+1,hi,_=>by
  obtain⟨hc,hw,hr,hn,_⟩:=VM h1;obtain⟨g1,g2,g3⟩:=QY h1 h2;have b:=iE g1 i;obtain rfl:i=k:=F0
  have hb:((Al (As r) n).take i).sum.toNat*(c*wB (w:Int))<=4000*(6*3):=Av2 F0 (Av2 hc.2 (L8 (w:Int)).2);rw[Kt,Vp,Abl Baj,JC,KH,Hm,Aa];simp only;rw[NF,Auk hc.2 hw,Aa,CC];have e:((Al (As r) n).take i).sum=((((Al (As r) n).take i).sum.toNat:Nat):Int):=F0
  rw[e,Ii Bap Bap,<-Avg];rfl
 |j+1,i,q+1,hi,hq=>by
  obtain⟨g1,g2,g3⟩:=QY h1 h2;have hK:=zS h2;have hlt:i<(Al (As r) n).length:=F0
  have b1:=iE g1 i;have b2:=iE g1 (i+1);have e:=Yx hlt;have ih:=M6 k hk j (i+1) q F0 F0;rw[e]at ih;rw[Kt,Vp,Abo Az8,Cf hlt,Aa,Aa,Aj,Aj];exact ih
theorem mh(k:Nat)(hk:k<= (Al (As r) n).length):Ut (f:Int) (c:Int) (w:Int) (r:Int) (n:Int) (k:Int)=some (CC c w (Al (As r) n) k):=by
 have hK:=zS h2;obtain⟨g1,g2,g3⟩:=QY h1 h2;obtain⟨hc,hw,hr,hn,_⟩:=VM h1;have h:=M6 h1 h2 k hk k 0 Ar F0 Az9;rw[Ay4,Az3]at h;rw[Ut,JW,Fw,oJ hr.2 hn g3,Aa,Aa];exact h
theorem Aca{i:Nat}(hlt:i<(Al (As r) n).length):Ae (CC c w (Al (As r) n) i) (Cy (Bv (Bv ((Al (As r) n)[i]) (c:Int)) (w:Int)) 8)=CC c w (Al (As r) n) (i+1):=by
 obtain⟨hc,hw,hr,hn,_⟩:=VM h1;obtain⟨g1,g2,g3⟩:=QY h1 h2;have b1:=iE g1 i;have b2:=iE g1 (i+1);have e:=Yx hlt;have h0:=g1 _ (Ao8 hlt);have e2:(Al (As r) n)[i]=(((Al (As r) n)[i].toNat:Nat):Int):=F0
 have hb:((Al (As r) n).take (i+1)).sum.toNat*(c*wB (w:Int))<=4000*(6*3):=Av2 F0 (Av2 hc.2 (L8 (w:Int)).2);rw[e2,Au4 F0 hc.2 hw,CC,CC];have e3:((Al (As r) n).take (i+1)).sum.toNat=((Al (As r) n).take i).sum.toNat+(Al (As r) n)[i].toNat:=F0
 rw[e3,Asn]at hb⊢;rw[Aj];omega
theorem N2(a:Nat)(ha:a<= (Al (As r) n).length)(o p:LB)(m:LI)(a':Int)(N:LB)(u:Bool)(v:Int):∀(j i q:Nat),i+j=a->j<q->
  Oe ((Al (As r) n).take a) o p (f:Int) (c:Int) (w:Int) (r:Int) (n:Int) m a' N u v q (CC c w (Al (As r) n) i) (i:Int)=some (pV (Ac N) (CC c w (Al (As r) n) a))
 |0,i,q+1,hi,_=>by
  obtain rfl:i=a:=F0
  rw[Oe,Zk,Abl (by rw[Af,Ac,Agw];simp;omega),MF,aL]
 |j+1,i,q+1,hi,hq=>by
  have hK:=zS h2;have hlt:i<(Al (As r) n).length:=F0
  have hlt2:i<((Al (As r) n).take a).length:=by rw[Agw];omega
  have ih:=N2 a ha o p m a' N u v j (i+1) q F0 F0;rw[Oe,Zk,Abo F5,Cf hlt2,Aa,List.getElem_take,Aca h1 h2 hlt,Aj];exact ih
end
theorem Bar{p:Prop}(h:p:=by simp[Ao,Af,Ax,Ac];omega):p:=h
end Go.Pl
namespace Go.Pl
open Go Go.Lv
variable{s p q:LB}{α:Type}
theorem vI(l:List α):geq (Ac l) 0=decide (l=[]):=by
 cases l with
 |nil=>rfl
 |cons x l=>rw[Bb,Ac,As0,Avx Bab,beq_eq_false_iff_ne];omega
theorem T4(l:List α):Dw (Ac l) 0=decide (l≠ []):=by
 cases l with
 |nil=>rfl
 |cons x l=>rw[Ax,Ac,As0,Axk Bab];simp
inductive FitD (o:LB) (f c w r n:Int) (g:LI) (a:Int) (x:LB):Prop
 |new:f=0->c=0->w=0->r=0->n=0->g=[]->a=0->x=[]->FitD o f c w r n g a x
 |head (F C W R N:Nat):HdI f c w r n F C W R N-> (o==([]:LB))=decide (F=1)->g=[]->a=0->x=[]->FitD o f c w r n g a x
 |tab (F C W R N A:Nat):HdI f c w r n F C W R N-> (o==([]:LB))=decide (F=1)->AK g=true->g.length=(Al (As R) N).length->a=A->A<=g.length->FitD o f c w r n g a x
theorem Ac3(f c w r n:Int)(o:LB):Mw f c w r n o=Dq f c w r n o:=rfl
theorem Abv(o p:LB)(f c w r n:Int)(g:LI)(a:Int)(x:LB)(u:Bool)(v:Int):
  (Ws o p f c w r n g a x u v=some false/\Kg o p f c w r n g a x u v=some false)\/
  (Ws o p f c w r n g a x u v=some true/\Kg o p f c w r n g a x u v=Cc o p f c w r n g a x u v/\FitD o f c w r n g a x):=by
 rw[Ws,MK,Kg,Tw];by_cases hz:f=0/\c=0/\w=0/\r=0/\n=0
 ·obtain⟨rfl,rfl,rfl,rfl,rfl⟩:=hz;rw[Abo F7,Abo F7,vI,vI,T4,T4];by_cases h:g=[]/\a=0/\x=[]
  ·obtain⟨rfl,rfl,rfl⟩:=h;exact .inr ⟨rfl,by rw[Abl F7], .new rfl rfl rfl rfl rfl rfl rfl rfl⟩
  ·refine .inl ⟨?_,?_⟩
   ·congr 1;rw[Bool.eq_false_iff];intro e;simp only[Abp,Adf,Bb,Auy]at e;exact h ⟨e.1.1,e.1.2,e.2⟩
   ·rw[Abo];simp only[At9,Adf,Ao,Azg];by_cases e1:g=[]
    ·by_cases e2:a=0
     ·exact .inr λe3=>h ⟨e1,e2,e3⟩
     ·exact .inl (.inr e2)
    ·exact .inl (.inl e1)
 ·have hz2:¬(((geq f 0)&&((geq c 0)&&((geq w 0)&&((geq r 0)&&((geq n 0)&&true)))))=true):=by
   simp only[Abp,Bb,Auy,Az6];exact hz
  rw[Abl hz2,Abl hz2];rcases Ai6 f c w r n with⟨F,C,W,R,N,h⟩|⟨e1,e2⟩
  ·rw[h.qA,h.check,Aa,Aa,Ac3];simp only;rw[Abl F7,Abl F7,Dq];have hf:geq f 1=decide (F=1):=by rw[h.ef,Bb,Aks];simp;omega
   rw[hf];by_cases hp:(o==([]:LB))=decide (F=1)
   ·rw[Abl (by rw[hp];simp),Aa,Aa,Abl F7,Abl F7,bB,ME,Np,Nl,vI,vI,T4];by_cases hg:g=[]
    ·subst hg;rw[Abo Bab,Abo Bab];by_cases h':a=0/\x=[]
     ·obtain⟨rfl,rfl⟩:=h';exact .inr ⟨rfl,by rw[Abl F7], .head F C W R N h hp rfl rfl rfl⟩
     ·refine .inl ⟨?_,?_⟩
      ·congr 1;rw[Bool.eq_false_iff];intro e;simp only[Abp,Adf,Bb,Auy]at e;exact h' e
      ·rw[Abo];simp only[At9,Adf,Ao,Azg];by_cases e2:a=0
       ·exact .inr λe3=>h' ⟨e2,e3⟩
       ·exact .inl e2
    ·rw[Abl (by simpa using hg),Abl (by simpa using hg),cR,UN,Aa,Aa];by_cases ht:AK g=true
     ·rw[Abo ht,h.Acu];simp only[Aa];by_cases hl:g.length=(Al (As R) N).length/\0<=a/\a<=g.length
      ·obtain⟨hl,ha0,ha1⟩:=hl;obtain⟨A,rfl⟩:=Anr ha0;have hA:A<= (Al (As R) N).length:=F0
       rw[Abl Bar,Abl F7,Abl Bar,Cw,Aa,bD];have hh:=h;clear hf;obtain⟨rfl,rfl,rfl,rfl,rfl,hs,hf⟩:=hh;have hlp:=N2 hs hf A hA o p g (A:Int) x u v A 0 Ar F0 (by have:=Aq;have:=zS hf;omega);have h0:CC C W (Al (As R) N) 0=0:=by rw[CC,Ay4,Az3];simp
       rw[h0,show((0:Nat):Int)=0 from rfl]at hlp;rw[show((A:Int)).toNat=A from rfl,hlp,mh hs hf A hA,Aa];by_cases hx:(x.length:Int)<=CC C W (Al (As R) N) A
       ·refine .inr ⟨?_,?_, .tab F C W R N A h hp ht hl rfl F0⟩
        ·rw[ND,Ac,Axk hx]
        ·rw[Abl Baa]
       ·refine .inl ⟨?_,?_⟩
        ·rw[ND,Ac,Avx hx]
        ·rw[Abo Baa]
      ·refine .inl ⟨?_,?_⟩
       ·rw[Abo Bar]
       ·rw[Abl F7,Abo Bar]
     ·refine .inl ⟨?_,?_⟩
      ·rw[Abl ht,Abo (by simp[Ao])]
      ·rw[Abl ht,Abo F7,Abo Bab]
   ·rw[Abo (by simpa using hp),Aa,Aa,Abo F7,Abo F7];exact .inl ⟨rfl,rfl⟩
  ·rw[e1,e2,Aa,Aa];simp only;rw[Abo F7,Abo F7];exact .inl ⟨rfl,rfl⟩
theorem All(b:LB)(n:Int):Cd (VR b n).2:=by
 unfold VR
 repeat' split
 all_goals first|decide|exact .inl rfl
theorem Aki(b:LB):(Xm b).2=6\/Cd (Xm b).2:=by
 unfold Xm tQ
 repeat' split
 all_goals first|exact .inl rfl|exact .inr (All _ _)|exact .inr F7
theorem Ag2(b:LB):(Jd b).2=6\/Cd (Jd b).2:=by
 unfold Jd
 repeat' split
 all_goals first|exact .inl rfl|exact .inr (.inl rfl)|exact .inr F7
theorem Al0(b:LB):(Ck b).2=6\/Cd (Ck b).2:=by
 unfold Ck;split
 ·exact Aki b
 ·exact Ag2 b
theorem K4(b:LB):∀(j p:Nat),p<=b.length->b.length<j+p->Cd (Cb b j p).2
 |0,p,h1,h2=>by omega
 |j+1,p,h1,h2=>by
  rw[Cb];split
  ·exact .inl rfl
  ·rename_i h6;split
   ·exact(Al0 _).resolve_left h6
   ·rename_i h0;split
    ·exact(by decide:Cd 4)
    ·have hz:Ck (b.drop p)=((Ck (b.drop p)).1,0):=by rw[Prod.ext_iff];exact⟨rfl,by simpa using h0⟩
     obtain⟨k1,k2⟩:=fN hz;rw[Ae7]at k2;split
     ·exact .inl rfl
     ·exact K4 b j _ F0 F0
theorem qQ(b:LB):Cd (Da b).2:=by
 unfold Da I6;split
 ·exact .inl rfl
 ·exact K4 b _ _ F0 F0
theorem M4(b:LB):0<= (Da b).2:=(qQ b).nn
theorem G5(b:LB):Cd (Ek b).2.2.2.2.2:=by
 unfold Ek
 repeat' split
 all_goals first|decide|exact .inl rfl
theorem Aal(b:LB):0<= (Ek b).2.2.2.2.2:=(G5 b).nn
theorem Ant(b:LB){n:Nat}(h:1<=n/\n<=1000):Cd (If b n).2:=by
 unfold If;rw[Abl (λe=>e h)]
 repeat' split
 all_goals first|decide|exact .inl rfl
theorem Aas(b:LB)(n:Nat):0<= (If b n).2:=by
 unfold If
 repeat' split
 all_goals simp
def H7:LB:=[73,68,51]
def I2:LB:=[65,80,69,84,65,71,69,88]
def Qy(b s:LB):Bool:=decide (b.length<s.length)&&(b==s.take b.length)
theorem Q6(b s:LB):Py b s=some (Qy b s):=by
 rw[Py,Qy];by_cases h:b.length<s.length
 ·rw[Abo Bam,Ac,Cw,Aa,Axk h,Axq];rfl
 ·rw[Abl Bam,Avx h];rfl
theorem Ame(b s:LB)(h:b.length<s.length):Ia s b=some (Qy b s):=by
 rw[Ia,Gi,Abo Ba2,Ac,Cw,Aa,Aa,Qy,Axk h,Axq,Ajr];congr 1;rw[Aks,Auy,Auy];exact eq_comm
theorem gV{b:LB}(h:¬b.length<s.length):Qy b s=false:=by rw[Qy,Avx h];rfl
theorem Alw(b:LB):Pc b=some (Qy b H7||Qy b I2):=by
 obtain⟨q,hq⟩:∃q,Ar=q+3:=⟨Ar-3,by have:=Aq;omega⟩;have l3:Iw b (q+1) 2=some false:=by rw[Iw,Sd,Abl F7];rfl
 have l2:Iw b (q+2) 1=some (Qy b I2):=by
  rw[Iw,Sd,Abo F7,show Ak ([([73,68,51]:LB),([65,80,69,84,65,71,69,88]:LB)]:List LB) 1=some I2 from rfl,Aa,show Ae (1:Int) 1=2 from rfl];by_cases h:b.length<I2.length
  ·rw[Abo Bam,Ame b I2 h,Aa];by_cases hb:Qy b I2=true
   ·rw[Abo hb,hb]
   ·rw[Abl hb,l3];simpa using hb
  ·rw[Abl Bam,l3,gV h]
 rw[Pc,MI,aS,hq,Iw,Sd,Abo F7,show Ak ([([73,68,51]:LB),([65,80,69,84,65,71,69,88]:LB)]:List LB) 0=some H7 from rfl,Aa,show Ae (0:Int) 1=1 from rfl];by_cases h:b.length<H7.length
 ·rw[Abo Bam,Ame b H7 h,Aa];by_cases hb:Qy b H7=true
  ·rw[Abo hb,hb];rfl
  ·rw[Abl hb,l2,Bool.eq_false_iff.2 hb];rfl
 ·rw[Abl Bam,l2,gV h];rfl
def om(b:LB):Int×Int×Int×Int×Int×Int×Int:=
 if(Da b).2=24 then(0,0,0,0,0,0, -1)else if(Da b).2≠0 then(0,0,0,0,0,0,(Da b).2)else
 if(Qy (Tc b) H7||Qy (Tc b) I2)=true then(0,0,0,0,0,0, -1)else
 if(Ek (Tc b)).2.2.2.2.2=24 then(0,0,0,0,0,0, -1)else((Da b).1+22,(Ek (Tc b)).1,(Ek (Tc b)).2.1,(Ek (Tc b)).2.2.1,(Ek (Tc b)).2.2.2.1,(Ek (Tc b)).2.2.2.2.1,(Ek (Tc b)).2.2.2.2.2)
theorem Zw(b:LB)(hb:b.length<=100000):Wd b=some (om b):=by
 rw[Wd,AZ,YU b F0,Aa,om];have hok:=OM (b:=b);simp only;by_cases h1:(Da b).2=24
 ·rw[Abo (by rw[Bb];simpa using h1),Abo h1]
 rw[Abl (by rw[Bb];simpa using h1),Abl h1];by_cases h2:(Da b).2≠0
 ·rw[Abo (by rw[Ao];simpa using h2),Abo h2]
 have h0:(Da b).2=0:=by simpa using h2
 obtain⟨k1,k2,k3⟩:=hok h0;rw[Abl (by rw[Ao,h0];simp),Abl h2,Cz,Aa,Q6,Aa,show b.drop (Da b).1.toNat=Tc b from rfl,show([73,68,51]:LB)=H7 from rfl,show([65,80,69,84,65,71,69,88]:LB)=I2 from rfl];by_cases h3:Qy (Tc b) H7=true
 ·rw[Abo h3,h3,Bool.true_or,Abo rfl]
 rw[Abl h3,Q6,Aa,Bool.eq_false_iff.2 h3,Bool.false_or];by_cases h4:Qy (Tc b) I2=true
 ·rw[Abo h4,Abo h4]
 have hl:(Tc b).length<=b.length:=by rw[Tc,Ae7];omega
 rw[Abl h4,Abl h4,AW,BJ,wV _ F0,Aa];simp only;by_cases h5:(Ek (Tc b)).2.2.2.2.2=24
 ·rw[Abo (by rw[Bb];simpa using h5),Abo h5]
 ·rw[Abl (by rw[Bb];simpa using h5),Abl h5,Aj]
theorem Ls{n:Nat}(h:n<=p.length):(p++q).take n=p.take n:=by rw[Ay9 h]
theorem nF{i:Nat}(h:i<p.length):(p++q).getD i 0=p.getD i 0:=by
 rw[List.getD_eq_getElem?_getD,List.getElem?_append_left h,<-List.getD_eq_getElem?_getD]
theorem Pa{a w:Nat}(h:a+w<=p.length:=by omega):part (p++q) a w=part p a w:=by rw[part,Ls h,part]
theorem Aj7(h:Qy p s=false)(hl:p.length<s.length):(p++q).take s.length≠s:=by
 intro e;rw[Qy,Axk hl,Axq]at h;have h1:p=s.take p.length:=by
  have:=congrArg (List.take p.length) e;rw[List.take_take,Au2 F0,Ls (An1 _),Ayh]at this;exact this
 rw[<-h1]at h;simp at h
theorem K7(q:LB)(h:(Xm p).2≠24)(h6:Qy p H7=false):Xm (p++q)=Xm p:=by
 unfold Xm at h⊢;by_cases h3:3<=p.length/\p.take 3=[73,68,51]
 ·have h3':3<= (p++q).length/\ (p++q).take 3=[73,68,51]:=⟨by rw[Abq];omega,by rw[Ls h3.1];exact h3.2⟩;have n1:¬ ¬(3<=p.length/\p.take 3=[73,68,51]):=λf=>f h3;have n2:¬ ¬(3<= (p++q).length/\ (p++q).take 3=[73,68,51]):=λf=>f h3';rw[Abl n1]at h;rw[Abl n1,Abl n2];by_cases h10:p.length<10
  ·rw[Abo h10]at h;exact absurd rfl h
  ·have h10':¬(p++q).length<10:=by rw[Abq];omega
   rw[Abl h10]at h;rw[Abl h10,Abl h10',Pa,nF F0,nF F0,nF F0];split
   ·rfl
   ·rename_i hc;rw[Abl hc]at h;unfold tQ VR at h⊢;rw[nF F0];generalize(UO (part p 6 4) 0).1+10+(if p.getD 5 0=16 then 10 else 0)=n at h⊢;by_cases c1:4000<n
    ·rw[Abo c1,Abo c1]
    ·rw[Abl c1]at h;rw[Abl c1,Abl c1];by_cases c2:(p.length:Int)<n
     ·rw[Abo c2]at h;exact absurd rfl h
     ·have c2':¬((p++q).length:Int)<n:=by rw[Abq];omega
      rw[Abl c2,Abl c2',Ls F0,Pa]
 ·rw[Abo h3,Abo];rintro⟨_,h5⟩;by_cases hl:3<=p.length
  ·rw[Ls hl]at h5;exact h3 ⟨hl,h5⟩
  ·exact Aj7 h6 (by simp[H7];omega) h5
theorem Acf(q:LB)(h:(Jd p).2≠24)(h6:Qy p I2=false):Jd (p++q)=Jd p:=by
 unfold Jd at h⊢;by_cases h3:8<=p.length/\p.take 8=vH
 ·have h3':8<= (p++q).length/\ (p++q).take 8=vH:=⟨by rw[Abq];omega,by rw[Ls h3.1];exact h3.2⟩;have n1:¬ ¬(8<=p.length/\p.take 8=vH):=λf=>f h3;have n2:¬ ¬(8<= (p++q).length/\ (p++q).take 8=vH):=λf=>f h3';rw[Abl n1]at h;rw[Abl n1,Abl n2];by_cases h10:p.length<32
  ·rw[Abo h10]at h;exact absurd rfl h
  ·have h10':¬(p++q).length<32:=by rw[Abq];omega
   have eb:CG (p++q)=CG p:=by rw[CG,CG,Pa,Pa]
   rw[Abl h10]at h;rw[Abl h10,Abl h10',Pa,Pa,eb,Ls (n:=32) F0];split
   ·rfl
   ·rename_i hc;rw[Abl hc]at h;by_cases c2:p.length<El (part p 12 4)+32
    ·rw[Abo c2]at h;exact absurd rfl h
    ·have c2':¬(p++q).length<El (part p 12 4)+32:=by rw[Abq];omega
     rw[Abl c2,Abl c2',Ls F0]
 ·rw[Abo h3,Abo];rintro⟨_,h5⟩;by_cases hl:8<=p.length
  ·rw[Ls hl]at h5;exact h3 ⟨hl,h5⟩
  ·exact Aj7 h6 (by simp[I2];omega) h5
theorem pZ(q:LB)(h:(Ck p).2≠24)(h6:(Ck p).2=6->Qy p H7=false/\Qy p I2=false):Ck (p++q)=Ck p:=by
 have Avc:∀s:LB,s.length<=p.length->Qy p s=false:=λs hs=>gV F0;unfold Ck at h h6⊢;by_cases hT:(Xm p).2≠6
 ·rw[Abo hT]at h⊢;have h3:Qy p H7=false:=by
   refine Avc _ ?_;unfold Xm at hT;by_cases h3:3<=p.length/\p.take 3=[73,68,51]
   ·simp[H7];omega
   ·rw[Abo h3]at hT;exact absurd rfl hT
  rw[K7 q h h3,Abo hT]
 ·rw[Abl hT]at h h6⊢;have hb:Qy p H7=false/\Qy p I2=false:=by
   by_cases hA:(Jd p).2=6
   ·exact h6 hA
   ·unfold Jd at hA;by_cases h3:8<=p.length/\p.take 8=vH
    ·exact⟨Avc _ (by simp[H7];omega),Avc _ (by simp[I2];omega)⟩
    ·rw[Abo h3]at hA;exact absurd rfl hA
  have hT':¬(Xm (p++q)).2≠6:=by
   rw[K7 q (by simp only[ne_eq,Classical.not_not]at hT;rw[hT];decide) hb.1];exact hT
  rw[Abl hT',Acf q h hb.2]
theorem xO{p:LB}(q:LB):∀(j s j':Nat),s<=p.length->p.length-s<j->p.length+q.length-s<j'-> (Cb p j s).2≠24->
  ((Cb p j s).2=0->Qy (p.drop (s+(Cb p j s).1.sum.toNat)) H7=false/\Qy (p.drop (s+(Cb p j s).1.sum.toNat)) I2=false)->Cb (p++q) j' s=Cb p j s
 |0,s,j',_,hj,_,_,_=>absurd hj (Azx _)
 |j+1,s,0,_,_,hj,_,_=>absurd hj (Azx _)
 |j+1,s,j'+1,hs,hj,hj',h,hb=>by
  have ed:(p++q).drop s=p.drop s++q:=Aw7 hs;rw[Cb]at h hb⊢;rw[Cb,ed];by_cases h6:(Ck (p.drop s)).2=6
  ·rw[Abo h6]at h hb⊢;have hb':=hb rfl;simp only[Az3,Int.toNat_zero,Axs]at hb';rw[pZ q (by rw[h6];decide) (λ_=>hb'),Abo h6]
  ·rw[Abl h6]at h hb⊢;by_cases h0:(Ck (p.drop s)).2≠0
   ·rw[Abo h0]at h⊢;rw[pZ q h (λe=>absurd e h6),Abl h6,Abo h0]
   ·rw[Abl h0]at h hb⊢;have h0':(Ck (p.drop s)).2=0:=by simpa using h0
    have e1:Ck (p.drop s++q)=Ck (p.drop s):=pZ q (by rw[h0'];decide) (λe=>absurd e h6);rw[e1,Abl h6,Abl h0];have hok:=fN (b:=p.drop s) (n:=(Ck (p.drop s)).1) (by rw[<-h0']);rw[Ae7]at hok;by_cases hm:4000<(s:Int)+(Ck (p.drop s)).1
    ·rw[Abo hm,Abo hm]
    ·rw[Abl hm]at h hb⊢;rw[Abl hm];have hl1:s+(Ck (p.drop s)).1.toNat<=p.length:=F0
     have ih:=xO (p:=p) q j (s+(Ck (p.drop s)).1.toNat) j' hl1 F0 F0;by_cases hr:(Cb p j (s+(Ck (p.drop s)).1.toNat)).2=0
     ·rw[Abo hr]at hb⊢;have hle1:s+(Ck (p.drop s)).1.toNat<=p.length:=F0
      have hle2:s+(Ck (p.drop s)).1.toNat<=4000:=F0
      have hi:=(iN p j (s+(Ck (p.drop s)).1.toNat) hle1 hle2 hr).1;have hsum:(0:Int)<= (Cb p j (s+(Ck (p.drop s)).1.toNat)).1.sum:=by
       have:∀l:LI,(∀x∈l,10<=x)->0<=l.sum:=by
        intro l
        induction l with
        |nil=>intro _;simp
        |cons a l ih=>intro h;rw[Au9];have:=h a Bab;have:=ih (λx hx=>h x (by simp[hx]));omega
       exact this _ hi
      rw[ih (by rw[hr];decide) (λ_=>by
       have:=hb rfl;simp only[Au9]at this;rw[show s+((Ck (p.drop s)).1+(Cb p j (s+(Ck (p.drop s)).1.toNat)).1.sum).toNat=s+(Ck (p.drop s)).1.toNat+(Cb p j (s+(Ck (p.drop s)).1.toNat)).1.sum.toNat by omega]at this;exact this),Abo hr]
     ·rw[Abl hr]at h⊢;rw[ih h (λe=>absurd e hr),Abl hr]
theorem vW(q:LB)(h:(Da p).2≠24)(hb:(Da p).2=0->Qy (Tc p) H7=false/\Qy (Tc p) I2=false):Da (p++q)=Da p:=by
 have key:Cb (p++q) ((p++q).length+1) 0=Cb p (p.length+1) 0:=by
  refine xO q (p.length+1) 0 ((p++q).length+1) (Nat.zero_le _) F0 Baq ?_ ?_
  ·unfold Da I6 at h;by_cases h0:(Cb p (p.length+1) 0).2=0
   ·rw[h0];decide
   ·rw[Abl h0]at h;exact h
  ·intro h0;have e:Da p=(((0:Nat):Int)+(Cb p (p.length+1) 0).1.sum,0):=by unfold Da I6;rw[Abo h0]
   have:=hb (by rw[e]);rw[Tc,e]at this;simpa using this
 unfold Da I6;rw[key]
theorem Air(q:LB)(h:(Ek p).2.2.2.2.2≠24):Ek (p++q)=Ek p:=by
 unfold Ek at h⊢;by_cases h1:p.take (min 4 p.length)≠aW.take (min 4 p.length)
 ·have h1':(p++q).take (min 4 (p++q).length)≠aW.take (min 4 (p++q).length):=by
   intro e;have hle:min 4 p.length<=min 4 (p++q).length:=by rw[Abq];omega
   have:=congrArg (List.take (min 4 p.length)) e;rw[List.take_take,List.take_take,Au2 hle,Ls F0]at this;exact h1 this
  rw[Abo h1,Abo h1']
 ·rw[Abl h1]at h;by_cases h2:p.length<22
  ·rw[Abo h2]at h;exact absurd rfl h
  ·have h2':¬(p++q).length<22:=by rw[Abq];omega
   have h1':¬(p++q).take (min 4 (p++q).length)≠aW.take (min 4 (p++q).length):=by
    rw[Au2 F0]at h1⊢;rw[Ls F0];exact h1
   have e0:f0 (p++q)=f0 p:=by unfold f0;rw[Pa]
   have e1:f1 (p++q)=f1 p:=by unfold f1;rw[Pa]
   have e2:f2 (p++q)=f2 p:=by unfold f2;rw[Pa]
   have e3:f3 (p++q)=f3 p:=by unfold f3;rw[Pa]
   have e4:f4 (p++q)=f4 p:=by unfold f4;rw[Pa]
   rw[Abl h1,Abl h1',Abl h2,Abl h2',e0,e1,e2,e3,e4,Ls F0,Pa]
theorem Apa(q:LB)(h:(om p).2.2.2.2.2.2≠ -1):om (p++q)=om p:=by
 unfold om at h⊢;by_cases h1:(Da p).2=24
 ·rw[Abo h1]at h;exact absurd rfl h
 rw[Abl h1]at h;by_cases h2:(Da p).2≠0
 ·rw[vW q h1 (λe=>absurd e h2),Abl h1,Abo h2,Abl h1,Abo h2]
 rw[Abl h2]at h;have h0:(Da p).2=0:=by simpa using h2
 by_cases h3:(Qy (Tc p) H7||Qy (Tc p) I2)=true
 ·rw[Abo h3]at h;exact absurd rfl h
 rw[Abl h3]at h;have h3f:Qy (Tc p) H7=false/\Qy (Tc p) I2=false:=by
  simp only[Bool.not_eq_true,Axz]at h3;exact h3
 have eF:=vW q h1 (λ_=>h3f);obtain⟨k1,k2,k3⟩:=OM h0;have eH:Tc (p++q)=Tc p++q:=by rw[Tc,eF,Tc,Aw7 F0]
 by_cases h5:(Ek (Tc p)).2.2.2.2.2=24
 ·rw[Abo h5]at h;exact absurd rfl h
 have eR:Ek (Tc p++q)=Ek (Tc p):=Air q h5;have beg:∀s:LB,Qy (Tc p) s=false-> (s=H7\/s=I2)->Qy (Tc p++q) s=false:=by
  intro s hs hk;by_cases hl:(Tc p++q).length<s.length
  ·have hp:(Tc p).length<s.length:=by rw[Abq]at hl;omega
   rw[Qy,Axk hp,Axq]at hs;rw[Qy,Axk hl,Axq];refine beq_eq_false_iff_ne.2 λe=>?_;have:=congrArg (List.take (Tc p).length) e;rw[Ls (An1 _),Ayh,List.take_take,Au2 Baq]at this;rw[<-this]at hs;simp at hs
  ·exact gV hl
 rw[eF,eH,eR,Abl h1,Abl h2,beg _ h3f.1 (.inl rfl),beg _ h3f.2 (.inr rfl),Abl F7,Abl h5,Abl h1,Abl h2,Abl h3]
theorem Aiq(q:LB)(n:Nat)(h:(If p n).2≠24):If (p++q) n=If p n:=by
 unfold If at h⊢;by_cases h1:1<=n/\n<=1000
 ·have n1:¬ ¬(1<=n/\n<=1000):=λf=>f h1;rw[Abl n1]at h;rw[Abl n1,Abl n1];by_cases h2:p.length<4*n+4
  ·rw[Abo h2]at h;exact absurd rfl h
  ·have h2':¬(p++q).length<4*n+4:=by rw[Abq];omega
   have et:OH (p++q) n=OH p n:=by
    unfold OH;refine Azp λi hi=>?_;rw[List.mem_range]at hi;rw[Pa]
   rw[Abl h2,Abl h2',Ls F0,Pa,et]
 ·rw[Abo h1,Abo h1]
def Ab3(g a:LB)(k p o u v:Int)(f:LI)(b:Int)(h:LB)(m:Bool)(n:Int):Option Int:=
if(geq k 0)then
(Iy a).bind λ(al,ba)=>
if(geq ba 24)then
Dy true 0
else
if(Bg ba 0)then
(Ah ba).bind λ(bx,bz)=>
Dy bx bz
else
(Bi a al (Ac a)).bind λda=>
(Pc da).bind λan=>
if an then
Dy true 0
else
(Bi a al (Ac a)).bind λdb=>
(Mh db).bind λ(ae,af,aa,ag,ab,bb)=>
if(geq bb 24)then
Dy true 0
else
if(Bg bb 0)then
(Ah bb).bind λ(dc,dd)=>
Dy dc dd
else
(
(Bi a (Ae al 22) (Ac a)).bind λak=>
(
Ug g ak ae af aa ag ab b m n f h))
else
if(geq (Ac f) 0)then
if(geq k 2)then
if(Ch (Ac a) 8)then
Ih true 0
else
Ue g a k p o u v b m n f h
else
Ir g a k p o u v b m n f h 0
else
if(Ch b (Ac f))then
(Ak f b).bind λ_=>
(Ak f b).bind λw=>
if(Ch (Ac a) w)then
Fh true 0
else
(Qv g).bind λ(ap,am)=>
if(Bg am 0)then
(Ah am).bind λ(de,df)=>
Fh de df
else
(Dh k p o u v).bind λ(ad,dg)=>
if((Bg dg 0)||(Lk b (Ac ad)))then
(Ah 8).bind λ(dh,di)=>
Fh dh di
else
CU w g a k p o u v b m n ap ad f h
else
if(Dw (Ac a) 4000)then
(Ah 38).bind λ(dj,bf)=>
Bk ((dj==true)&&((geq bf 0)&&true))
else
Ur
theorem lG(d:Bool)(e:Int):Dy d e=Bk (d&&geq e 0):=by
 rw[Dy,SE];cases d<;>simp
theorem G6(d:Bool)(e:Int):Ih d e=Bk (d&&geq e 0):=by
 rw[Ih,SZ];cases d<;>simp
theorem Ac6(d:Bool)(e:Int):Fh d e=Bk (d&&geq e 0):=by
 rw[Fh,SM];cases d<;>simp
theorem uj{o:LB}{f c w r n:Int}{g:LI}{a:Int}{x:LB}{u:Bool}{v:Int}{t1 t2:LB}{t3 t4 t5 t6 t7:Int}{t8:LI}{t9:Int}{t10:LB}{t11:Bool}{t12 e:Int}
  (h:Ag o p f c w r n g a x u v=some (t1,t2,t3,t4,t5,t6,t7,t8,t9,t10,t11,t12,e)):Cc o p f c w r n g a x u v=some (geq e (-1)):=by
 rw[Cc,Tz,h,Aa]
theorem eQ{e:Int}(h:0<=e):geq e (-1)=false:=by rw[Bb,beq_eq_false_iff_ne];omega
theorem Ahf(o p:LB)(c w r n:Int)(g:LI)(a:Int)(x:LB)(u:Bool)(v:Int)(hp:p.length<=100000):
  ∃B:Bool,Ab3 o p 0 c w r n g a x u v=Bk B/\Cc o p 0 c w r n g a x u v=some B:=by
 have hT:Ag o p 0 c w r n g a x u v=Ag o p 0 c w r n g a x u v:=rfl
 conv at hT=>rhs;rw[Ag,Bo,Abo F7,Zw p hp,Aa,om]
 have hfn:=M4 p;have hrn:=Aal (Tc p);rw[Ab3,Abo F7,PD p F0,Aa];have hok:=OM (b:=p);simp only at hT⊢;by_cases h1:(Da p).2=24
 ·rw[Abo h1]at hT;simp only at hT;rw[Abo F7]at hT;rw[Abo (by rw[Bb];simpa using h1),lG];exact⟨_,rfl,uj hT⟩
 rw[Abl h1]at hT;rw[Abl (by rw[Bb];simpa using h1)];by_cases h2:(Da p).2≠0
 ·rw[Abo h2]at hT;simp only at hT;rw[Abo (by rw[Ao];simpa using h2)]at hT;rw[Abo (by rw[Ao];simpa using h2),Ah,Aa];simp only;rw[lG];exact⟨_,rfl,(uj hT).trans (by rw[eQ hfn];rfl)⟩
 have h0:(Da p).2=0:=by simpa using h2
 obtain⟨k1,k2,k3⟩:=hok h0;have hl:(Tc p).length=p.length-(Da p).1.toNat:=by rw[Tc,Ae7]
 rw[Abl h2]at hT;rw[Abl (by rw[Ao,h0];simp),Cz,Aa,Aa,show p.drop (Da p).1.toNat=Tc p from rfl,Alw,Aa];by_cases h3:(Qy (Tc p) H7||Qy (Tc p) I2)=true
 ·rw[Abo h3]at hT⊢;simp only at hT;rw[Abo F7]at hT;rw[lG];exact⟨_,rfl,uj hT⟩
 rw[Abl h3]at hT⊢;rw[rN _ F0,Aa];by_cases h5:(Ek (Tc p)).2.2.2.2.2=24
 ·rw[Abo h5]at hT;simp only at hT;rw[Abo F7]at hT;rw[Abo (by rw[Bb];simpa using h5),lG];exact⟨_,rfl,uj hT⟩
 rw[Abl h5]at hT;rw[Abl (by rw[Bb];simpa using h5)];simp only at hT;by_cases h6:(Ek (Tc p)).2.2.2.2.2≠0
 ·rw[Abo (by rw[Ao];simpa using h6)]at hT⊢;rw[Ah,Aa];simp only;rw[lG];exact⟨_,rfl,(uj hT).trans (by rw[eQ hrn];rfl)⟩
 have h7:(Ek (Tc p)).2.2.2.2.2=0:=by simpa using h6
 have h22:=(Aac h7).2.1;rw[Abl (by rw[Ao,h7];simp),Cz,Aa,Fu,Ft,Dq]at hT;rw[Abl (by rw[Ao,h7];simp),Aj,Cz,Aa,Ug,UA,Mw];simp only;by_cases h8:((o==([]:LB)) !=geq (Ek (Tc p)).1 1)=true
 ·rw[Abo h8]at hT⊢;rw[Aa]at hT⊢;rw[Ah,Aa];simp only;rw[lG];exact⟨_,rfl,uj hT⟩
 ·rw[Abl h8]at hT⊢;rw[Aa]at hT⊢;rw[Ah,Aa];simp only;rw[lG];exact⟨_,rfl,uj hT⟩
section
variable {f c w r n:Int} {F C W R N:Nat} (hd:HdI f c w r n F C W R N)
include hd
theorem HdI.ne0:¬(geq f 0=true):=by
 have:=hd.num;rw[Bb,Auy,hd.ef];omega
theorem yL(o p:LB)(hp:p.length<=100000)(A:Nat)(hA:A<=p.length)(a:Int)(x:LB)(u:Bool)(v:Int):
  (Ir o p f c w r n a u v [] x (A:Int)=Bk (decide ((If (p.drop A) (Al (As R) N).length).2=24)))/\
  Dn p f c w r n (A:Int)=some (if(If (p.drop A) (Al (As R) N).length).2=24 then(0,[], -1)else((A:Int)+(4*((If (p.drop A) (Al (As R) N).length).1.length:Int)+4),(If (p.drop A) (Al (As R) N).length).1,(If (p.drop A) (Al (As R) N).length).2))/\
  ((If (p.drop A) (Al (As R) N).length).2=0-> (A:Int)+(4*((If (p.drop A) (Al (As R) N).length).1.length:Int)+4)<=p.length):=by
 have hs:=R5 (p.drop A) (Al (As R) N).length Bai;have hr:=Am3 (p.drop A) (Al (As R) N).length Bai;have hok:=ql (b:=p.drop A) (n:=(Al (As R) N).length);have hlen:(If (p.drop A) (Al (As R) N).length).1.length<=1000:=by
  unfold If
  repeat' split
  all_goals simp[JX]
  all_goals omega
 have hfit:(If (p.drop A) (Al (As R) N).length).2=0-> (A:Int)+(4*((If (p.drop A) (Al (As R) N).length).1.length:Int)+4)<=p.length:=by
  intro h0;obtain⟨k1,k2,k3,k4,_⟩:=hok h0;rw[k1];simp only[JX];rw[Ae7]at k4;omega
 refine⟨?_,?_,hfit⟩
 ·rw[Ir,SN,hd.qA,Aa];simp only;rw[Abl F7,Cz,Aa,Ajr,Ac,hs,Aa];generalize If (p.drop A) (Al (As R) N).length=z at*
  obtain⟨z1,z2⟩:=z;simp only at*
  by_cases h1:z2=24
  ·rw[Abo (by rw[Bb];simpa using h1),G6,Axk h1];rfl
  rw[Abl (by rw[Bb];simpa using h1),Avx h1];by_cases h2:z2≠0
  ·rw[Abo (by rw[Ao];simpa using h2),Ah,Aa];simp only;rw[G6];rfl
  ·have h0:z2=0:=by simpa using h2
   have:=hfit h0;rw[Abl (by rw[Ao,h0];simp),Ac,Adp A z1.length F0 F0,Cz,Aa,G6];rfl
 ·rw[Dn,FN,Cz,Aa,hd.Acu,Aa,Ac,Ajr,hr,Aa];generalize If (p.drop A) (Al (As R) N).length=z at*
  obtain⟨z1,z2⟩:=z;simp only at*
  rw[EL,FD];by_cases h1:z2=24
  ·rw[Abo (by rw[Bb];simpa using h1),Abo h1]
  ·rw[Abl (by rw[Bb];simpa using h1),Abl h1,Ac,Adp A z1.length F0 F0];congr 2
theorem Aoi(o p:LB)(ho:o.length<=64)(hp:p.length<=100000)(a:Int)(x:LB)(u:Bool)(v:Int):
  ∃B:Bool,Ab3 o p f c w r n [] a x u v=Bk B/\Cc o p f c w r n [] a x u v=some B:=by
 have hT:Ag o p f c w r n [] a x u v=Ag o p f c w r n [] a x u v:=rfl
 conv at hT=>rhs;rw[Ag,Bo,Abl hd.ne0,Bq,Bc,Abo F7,Ew,Im]
 rw[Ab3,Abl hd.ne0,Abo F7];have fin:∀A:Nat,A<=p.length->Ag o p f c w r n [] a x u v=(Dn p f c w r n (A:Int)).bind (λ(ag,ak,w1)=>
   if(Bg w1 0)then some (o,p,f,c,w,r,n,[],a,x,u,v,w1)else(Bi p ag (Ac p)).bind λal=>some (o,al,f,c,w,r,n,ak,a,x,u,v,0))->
   ∃B:Bool,Ir o p f c w r n a u v [] x (A:Int)=Bk B/\Cc o p f c w r n [] a x u v=some B:=by
  intro A hA hT;obtain⟨t1,t2,t3⟩:=yL hd o p hp A hA a x u v;have hnn:=Aas (p.drop A) (Al (As R) N).length;rw[t2,Aa]at hT;rw[t1];generalize If (p.drop A) (Al (As R) N).length=z at*
  obtain⟨z1,z2⟩:=z;simp only at*
  by_cases h1:z2=24
  ·rw[Abo h1]at hT;simp only at hT;rw[Abo F7]at hT;exact⟨_,rfl,(uj hT).trans (by rw[Axk h1];rfl)⟩
  rw[Abl h1]at hT;simp only at hT;by_cases h2:z2≠0
  ·rw[Abo (by rw[Ao];simpa using h2)]at hT;exact⟨_,rfl,(uj hT).trans (by rw[Avx h1,eQ hnn])⟩
  ·have h0:z2=0:=by simpa using h2
   have:=t3 h0;rw[Abl (by rw[Ao,h0];simp),Cz,Aa]at hT;exact⟨_,rfl,(uj hT).trans (by rw[Avx h1];rfl)⟩
 by_cases h2:geq f 2=true
 ·rw[Abo h2]at hT⊢;by_cases h8:p.length<8
  ·rw[Abo F5]at hT⊢;rw[Aa]at hT;simp only at hT;rw[Abo F7]at hT;rw[G6];exact⟨_,rfl,uj hT⟩
  ·rw[Abl F5]at hT⊢;have h8':(p.take 8).length=8:=by rw[Agw];omega
   rw[Cw,Aa,K1 o ho,Aa]at hT;rw[Ue,TS,Cw,Aa,show(8:Int).toNat=8 from rfl,qz h8' ho,Aa];rw[show(8:Int).toNat=8 from rfl]at hT;simp only;rw[TO,SS,Abl F7];by_cases he:(p.take 8==FU (BA o).toNat 8)=true
   ·rw[Abl (by rw[bne,he];decide)]at hT;rw[Abl (by rw[he];decide)];exact fin 8 F0 hT
   ·have he':(p.take 8==FU (BA o).toNat 8)=false:=by simpa using he
    rw[Abo (by rw[bne,he'];decide),Aa]at hT;simp only at hT;rw[Abo F7]at hT;rw[Abo (by rw[he'];decide),Ah,Aa];simp only;rw[G6];exact⟨_,rfl,uj hT⟩
 ·rw[Abl h2]at hT⊢;exact fin 0 F0 hT
end
theorem Ai1{f c w r n:Int}{F C W R N:Nat}(hd:HdI f c w r n F C W R N)(o p:LB)(ho:o.length<=64)(hp:p.length<=100000)(g:LI)(hg:AK g=true)(hl:g.length=(Al (As R) N).length)(A:Nat)(hA:A<=g.length)(x:LB)(hx:x.length<=14000000)(u:Bool)(v:Int):
  ∃B:Bool,Ab3 o p f c w r n g (A:Int) x u v=Bk B/\Cc o p f c w r n g (A:Int) x u v=some B:=by
 have hc:=hd.ec;subst hc;have hg':=hg;rw[AK,Abp,Adf,OB g 100000 F0]at hg';obtain⟨⟨g1,g2⟩,g5,g6⟩:=hg';have hT:Ag o p f (C:Int) w r n g (A:Int) x u v=Ag o p f (C:Int) w r n g (A:Int) x u v:=rfl
 conv at hT=>rhs;rw[Ag,Bo,Abl hd.ne0,Bq,Bc,Abl (by rw[Bb,Ac];simp;intro e;subst e;simp at g1)]
 rw[Ab3,Abl hd.ne0,Abl (by rw[Bb,Ac];simp;intro e;subst e;simp at g1)];by_cases hA2:A=g.length
 ·subst hA2;rw[Abo (by rw[Bb,Ac];simp)]at hT;rw[Abl Baz];by_cases h4:4000<p.length
  ·rw[Abo Baa]at hT⊢;rw[Ah,Aa];simp only;exact⟨_,rfl,uj hT⟩
  ·rw[Abl Baa]at hT⊢;rw[Ur,TK];exact⟨_,rfl,uj hT⟩
 ·have hlt:A<g.length:=F0
  have h5:=g5 g[A] (Ao8 hlt);have hsum:=S0 g5 g[A] (Ao8 hlt);rw[Abl (by rw[Bb,Ac];simp;omega),Cs,Gk,Cf hlt,Aa]at hT;rw[Abo F5,Cf hlt,Aa,Aa];by_cases hw:(p.length:Int)<g[A]
  ·rw[Abo (by rw[Af,Ac];simpa using hw)]at hT⊢;rw[Aa]at hT;simp only at hT;rw[Abo F7]at hT;rw[Ac6];exact⟨_,rfl,uj hT⟩
  rw[Abl (by rw[Af,Ac];simpa using hw)]at hT⊢;have SB:=hd.num;have hlt2:A<(Al (As R) N).length:=F0
  obtain⟨m,hm,m1,m2⟩:=Zu (La R) SB.2.2.2.2.1 (Ao8 hlt2);have hb:Cp w:=by rw[hd.ew];unfold Cp;omega
  obtain⟨xs,e,d1,d2,d3,d4⟩:=JR (bits:=w) (ch:=C) (n:=m) (t:=Yc o) (p.take g[A].toNat) hb (Vw o) SB.2.1.1 SB.2.1.2 m1 F0;have hnn:=M0 hb (Vw o) SB.2.1.1 SB.2.1.2 m1 F0 d2;rw[P4 o ho,Aa];simp only;rw[Abl F7,hd.qA,Aa];simp only;rw[Abl (by simp[Ao,Dz,Ac];omega),CU,ED,Cf hlt2,Aa,Cw,Aa,Aa,Yt,Aa];simp only;rw[hm,d1,Aa];simp only;rw[fE o ho,Aa]at hT;simp only at hT;rw[Cw,Aa,Hm,Aa]at hT;simp only at hT;rw[hd.Acu,Aa,Cf hlt2,Aa,Aa,hm]at hT;rw[d2,Aa]at hT;simp only at hT;rw[Gn,Gf]at hT;rw[FQ,Uv];by_cases he:e≠0
  ·rw[Abo (by rw[Ao];simpa using he)]at hT⊢;rw[Aa]at hT;simp only at hT;rw[Abo (by rw[Ao];simpa using he)]at hT;rw[Ah,Aa];simp only;rw[Ac6];exact⟨_,rfl,(uj hT).trans (by rw[eQ hnn];rfl)⟩
  ·have he0:e=0:=by simpa using he
   obtain⟨k1,k2,k3⟩:=d3 he0;have hbl:=IF w xs;rw[Abl (by rw[Ao,he0];simp)]at hT⊢;rw[VZ hb k2 k1,Aa,Aa]at hT;simp only at hT;rw[Abl F7,Cr F9,Aa,Ass,Cr,Aa,Aa,Cz,Aa]at hT;rw[lN hb k2 k1,Aa];simp only;rw[Abl F7,Cr,Aa,Cz,Aa,Ac6];exact⟨_,rfl,uj hT⟩
theorem wu(a:LI)(b:Int)(ha:a.length<=100):∀(j i q:Nat),i+j=a.length->j<q->∃r,Bt a b q (i:Int)=some r/\Lk r 0=(a.drop i).any λy=>b==y
 |0,i,q+1,hi,_=>by
  refine⟨-1,?_,?_⟩
  ·rw[Bt,Eb,Abl F5];rfl
  ·rw[show i=a.length by omega,Axj];rfl
 |j+1,i,q+1,hi,hq=>by
  have hlt:i<a.length:=F0
  obtain⟨r,h1,h2⟩:=wu a b ha j (i+1) q F0 F0;rw[Bt,Eb,Abo F5,Cf hlt,Aa,drop_cons hlt,List.any_cons];by_cases h:b=a[i]
  ·rw[Abo (by rw[Bb];simpa using h)];refine⟨_,rfl,?_⟩;rw[Dz,Axk F0,h];simp
  ·rw[Abl (by rw[Bb];simpa using h),Aj];refine⟨r,h1,?_⟩;rw[h2,beq_eq_false_iff_ne.2 h,Bool.false_or]
theorem Ald(v:Int):∃B:Bool,Pg v=some B/\Wc v=some B:=by
 obtain⟨r,h1,h2⟩:=wu [4,12,16,22,24,26,38] v F7 7 0 Ar rfl Az9;refine⟨_,?_,rfl⟩;rw[Pg,Ha,Ig,Hf,Mi];have h1':Bt [4,12,16,22,24,26,38] v Ar 0=some r:=h1;rw[h1',Aa,Aa,h2];simp only[Aze,List.any_cons,List.any_nil,Bool.or_false,Bb,Bool.or_assoc]
theorem lU(B:Bool):Bk B=some (if B=true then 0 else 8):=by
 rw[Bk,TW];cases B<;>rfl
theorem Aqk(a b:LB)(f g h k m:Int)(n:LI)(o:Int)(p:LB)(u:Bool)(v:Int)(hb:b.length<=16000000)(hn:n.length<=16000000)(hp:p.length<=16000000):
  Dg a b f g h k m n o p u v=some (a,b,f,g,h,k,m,n,o,p,u,v):=by
 rw[Dg,Hv,Cr F9,Aa,Aa,Hv,Cr F9,Aa,Aa,Ga,Cr F9,Aa,Aa];rfl
theorem pN(o p:LB)(f c w r n:Int)(g:LI)(a:Int)(x:LB)(u:Bool)(v:Int)(hp:p.length<=100000)(hg:g.length<=100000)(hx:x.length<=14000000):
  ∃E,Et o p f c w r n g a x u v=some E/\Db o p f c w r n g a x u v=some E:=by
 rw[Et,Xc,Db];by_cases ho:64<o.length
 ·rw[Abo Baa,Abo Baa];exact⟨8,rfl,rfl⟩
 have hO:¬(Dw (Ac o) 64=true):=by rw[Ax,Ac];simp;omega
 rw[Abl hO,Abl hO];by_cases hw:(geq v 0&& !u)=true
 ·rw[Abo hw,Abo hw,Aqk o p f c w r n g a x u v F0 F0 F0,Aa];simp only;rcases Abv o p f c w r n g a x u v with⟨e1,e2⟩|⟨e1,e2,hd⟩
  ·rw[e1,e2,Aa,Aa,Abl F7,Abo F7,lU];exact⟨8,rfl,rfl⟩
  ·rw[e1,e2,Aa,Abo rfl];have key:∃B:Bool,Ab3 o p f c w r n g a x u v=Bk B/\Cc o p f c w r n g a x u v=some B:=by
    cases hd with
    |new e1 e2 e3 e4 e5 e6 e7 e8=>subst e1;exact Ahf o p c w r n g a x u v hp
    |head F C W R N h hpw e6 e7 e8=>subst e6;exact Aoi h o p F0 hp a x u v
    |tab F C W R N A h hpw ht hl ea hA=>subst ea;exact Ai1 h o p F0 hp g ht hl A hA x hx u v
   obtain⟨B,k1,k2⟩:=key;rw[k2,Aa];refine⟨if B=true then 0 else 8,k1.trans (lU B),?_⟩;cases B<;>rfl
 ·rw[Abl hw,Abl hw];by_cases hl:(geq (Ac p) 0&&geq (Ac g) 0)=true
  ·rw[Abo hl,Abo hl];generalize(geq f 0&&(geq c 0&&(geq w 0&&(geq r 0&&(geq n 0&&true)))))=z;by_cases hz:((z&&geq a 0)&&pV (Ac x) 12000)=true
   ·rw[Abo hz];simp only[Abp,ND,Ac,Adf]at hz;obtain⟨⟨z1,z2⟩,z3⟩:=hz;have hN:¬((!(z&&geq a 0)||Dw (Ac x) 12000)=true):=by rw[z1,z2,Ax,Ac];simp;omega
    rw[Abl hN];by_cases hv:v=0
    ·have v1:geq v 0=true:=by rw[Bb];simpa using hv
     have v2:¬(Bg v 0=true):=by rw[Ao];simpa using hv
     rw[Abo v1,Abl v2,lU];exact⟨0,rfl,rfl⟩
    ·have v1:¬(geq v 0=true):=by rw[Bb];simpa using hv
     have v2:Bg v 0=true:=by rw[Ao];simpa using hv
     rw[Abl v1,Abo v2];obtain⟨B,k1,k2⟩:=Ald v;rw[k1,k2,Aa,Aa,lU,lU];cases u
     ·refine⟨if B=true then 0 else 8,Bab,?_⟩;cases B<;>rfl
     ·exact⟨8,rfl,rfl⟩
   ·rw[Abl hz,Abo,lU]
    ·exact⟨8,rfl,rfl⟩
    ·simp only[Abp,ND,Ac,Adf]at hz;simp only[At9,Apy,Ax,Ac,Adf];by_cases hz2:(z&&geq a 0)=true
     ·rw[Abp]at hz2;exact .inr (by have hq:¬((x.length:Int)<=12000):=λh=>hz ⟨hz2,h⟩;omega)
     ·exact .inl (by simpa using hz2)
  ·rw[Abl hl,Abl hl,Abl Bab,Abo Bab,lU];exact⟨8,rfl,rfl⟩
end Go.Pl
