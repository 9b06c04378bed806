/- A part of a proof (see the text that ends in Proof). No conditions. -/
import Derived.Test.YtheamkpclkijmaaGreatDoorMbPA
import Derived.KernelRfl
set_option linter.unusedVariables false
set_option linter.unusedSimpArgs false
namespace Go.Lv
variable{a b:Int}{l:List UInt8}{n:Nat}{α:Type}
theorem Aj(h: -9223372036854775808<=a+b:=by omega)(h':a+b<=9223372036854775807:=by omega):Ae a b=a+b:=by rw[Ara,Cr h h']
theorem Cf(h: -9223372036854775808<=a-b:=by omega)(h':a-b<=9223372036854775807:=by omega):Am a b=a-b:=by rw[Arm,Cr h h']
theorem Hs(h: -9223372036854775808<=a*b:=by omega)(h':a*b<=9223372036854775807:=by omega):Bo a b=a*b:=by rw[Ahj,Cr h h']
theorem NR(c:UInt8):(Ad c:Int)=(c.toNat:Int):=by rw[Ai6,Cr]<;>have:=c.toNat_lt<;>omega
theorem zf(c:UInt32):(Ad c:Int)=(c.toNat:Int):=by rw[Afp,Cr]<;>have:=c.toNat_lt<;>omega
theorem jK(c:UInt8):(Ad c:UInt64)=UInt64.ofNat c.toNat:=by simp only[Ad,AM,Hn]
theorem Ir(c:UInt32):(Ad c:UInt64)=UInt64.ofNat c.toNat:=by simp only[Ad,Wx,Hn]
theorem YD(c:UInt64):(Ad c:UInt8)=UInt8.ofNat c.toNat:=by simp only[Ad,Iy,Mp]
theorem jS(c:UInt32):(Ad c:UInt8)=UInt8.ofNat c.toNat:=by simp only[Ad,Wx,Mp]
theorem Xh(n:Nat):(Ad (n:Int):UInt64)=UInt64.ofNat n:=by simp only[Ad];exact Hn n
theorem J3(n:Nat):(Ad (n:Int):UInt32)=UInt32.ofNat n:=by simp only[Ad];exact Eu n
theorem Aip(n:Nat):(Ad (n:Int):UInt8)=UInt8.ofNat n:=by simp only[Ad];exact Mp n
theorem pW{c:UInt64}(h:c.toNat<9223372036854775808):(Ad c:Int)=(c.toNat:Int):=by rw[Afk,Cr]<;>omega
theorem Adk:C9=17179869184:=F4
theorem Ax:36893488147419103231<Ba:=F4
theorem Ch{l:List α}(h:n<l.length:=by omega):Ak l (n:Int)=some l[n]:=by simp[Ak,h]
theorem Yb{l:List α}(x:α)(h:n<l.length):Lp l (n:Int) x=some (l.set n x):=by simp[Lp,h]
theorem Zp{l:List α}(h:0<=a:=by omega)(h1:a<=b:=by omega)(h2:b<=l.length:=by omega):Bl l a b=some ((l.take b.toNat).drop a.toNat):=by rw[Bl,Aa8 ⟨h,h1,h2⟩]
theorem Dd{l:List α}(h:0<=a:=by omega)(h1:a<=l.length:=by omega):Bl l a (Ac l)=some (l.drop a.toNat):=by
 unfold Ac;rw[Zp h h1 (Int.le_refl _),Aly,Awh]
theorem Dc{l:List α}(h:0<=b:=by omega)(h1:b<=l.length:=by omega):Bl l 0 b=some (l.take b.toNat):=by rw[Zp (Int.le_refl _) h h1];rfl
theorem Cy{l m:List α}(h:l.length+m.length<=17179869184:=by omega):Dh l m=some (l++m):=by rw[Dh,Adk,Aa8 h]
theorem yS{n:Int}{z:α}(h:0<=n:=by omega)(h':n<=17179869184:=by omega):mkI n z=some (List.replicate n.toNat z):=by rw[mkI,Adk,Aa8 ⟨h,h'⟩]
theorem Dg{b:Bool}(h:b=true):Jm b=some ():=by rw[h];rfl
theorem Aa{β:Type}(a:α)(f:α->Option β):Option.bind (some a) f=f a:=rfl
theorem drop_cons{l:List α}(h:n<l.length):l.drop n=l[n]::l.drop (n+1):=List.drop_eq_getElem_cons h
theorem NQ{l:List α}(h:n<l.length):l.take (n+1)=l.take n++[l[n]]:=by rw[List.take_add_one,List.getElem?_eq_getElem h];rfl
def El:List UInt8->Nat
 |[]=>0
 |x::r=>x.toNat+256*El r
theorem Q7:∀l:List UInt8,El l<256^l.length
 |[]=>by simp[El]
 |x::r=>by
  have h:=Q7 r;have:=x.toNat_lt;simp only[El,Ar8,Asd];omega
theorem vO:∀l m:List UInt8,El (l++m)=El l+256^l.length*El m
 |[],m=>by simp[El]
 |x::r,m=>by
  simp only[El,Av5,vO r m,Ar8,Asd,Nat.mul_add];rw[Arn (256^r.length) 256,Avc];omega
def gW(l:List UInt8):UInt64:=UInt64.ofNat (El l)
theorem Al1(h:l.length<=8):El l<18446744073709551616:=by
 have h1:=Q7 l;have h2:256^l.length<=256^8:=Ahg F0 h;exact Anf h1 (by simpa using h2)
theorem Adu(h:l.length<=4):El l<4294967296:=by
 have h1:=Q7 l;have h2:256^l.length<=256^4:=Ahg F0 h;exact Anf h1 (by simpa using h2)
theorem SZ(h:l.length<=8):(gW l).toNat=El l:=by
 rw[gW,Ajw,Adn (Al1 h)]
theorem HY(h:l.length<=4):(Ad (gW l):Int)=(El l:Int):=by
 have:=Adu h;rw[pW]<;>rw[SZ F0];omega
def FD(n:Nat):Nat->List UInt8
 |0=>[]
 |w+1=>UInt8.ofNat n::FD (n/256) w
theorem Oj:∀(w n:Nat),(FD n w).length=w
 |0,_=>rfl
 |w+1,n=>by simp[FD,Oj w]
theorem Z8:∀(w n:Nat),FD n (w+1)=FD n w++[UInt8.ofNat (n/256^w)]
 |0,n=>by simp[FD]
 |w+1,n=>by
  rw[FD,Z8 w (n/256),FD];simp[Awv,Asd,Arn]
def Kf(p:List UInt8)(i:Nat):Nat:=(p.getD (i/8) 0).toNat/2^(i %8) %2
theorem Yv(p:List UInt8)(i:Nat):Kf p i<2:=Avu _ F0
def Cs(p:List UInt8):Nat->Nat->Nat
 |_,0=>0
 |a,n+1=>Kf p a+2*Cs p (a+1) n
theorem Rc(p:List UInt8):∀(n a:Nat),Cs p a n<2^n
 |0,_=>by simp[Cs]
 |n+1,a=>by
  have:=Rc p n (a+1);have:=Yv p a;rw[Cs,Asd];omega
theorem PJ(p:List UInt8):∀(m n a:Nat),Cs p a (m+n)=Cs p a m+2^m*Cs p (a+m) n
 |0,n,a=>by simp[Cs]
 |m+1,n,a=>by
  rw[show m+1+n=(m+n)+1 by omega,Cs,Cs,PJ p m n (a+1),show a+1+m=a+(m+1) by omega,Asd,Nat.mul_add,Arn (2^m) 2,Avc];omega
theorem jo(p:List UInt8)(a:Nat):Cs p a 1=Kf p a:=by simp[Cs]
theorem G0(p:List UInt8)(a n:Nat):Cs p a (n+1)=Cs p a n+2^n*Kf p (a+n):=by rw[PJ p n 1 a,jo]
theorem pP(p:List UInt8)(a:Nat):∀t:Nat,a %8+t<=8->Cs p a t=(p.getD (a/8) 0).toNat/2^(a %8) %2^t
 |0,_=>by simp[Cs,Nat.mod_one]
 |t+1,h=>by
  have h1:(a+t)/8=a/8:=F0
  have h2:(a+t) %8=a %8+t:=F0
  rw[G0,pP p a t F0,Kf,h1,h2,Nat.mod_pow_succ,Axf,Awv]
theorem E8{p:List UInt8}:∀(n a:Nat),(∀k,k<n->Kf p (a+k)=0)->Cs p a n=0
 |0,_,_=>rfl
 |n+1,a,h=>by
  have h0:=h 0 F0;rw[Cs,E8 n (a+1) λk hk=>by have:=h (k+1) F0;rwa [show a+1+k=a+(k+1) by omega]];rw[Avl]at h0;omega
def okB(p:List UInt8)(n:Nat):Prop:=n<=330000/\p.length=(n+7)/8/\∀k,n<=k->k<8*p.length->Kf p k=0
def GJ(p:List UInt8)(a n:Nat):List UInt8:=(List.range ((n+7)/8)).map λj=>UInt8.ofNat (Cs p (a+8*j) (min 8 (n-8*j)))
theorem Of(p:List UInt8)(a n:Nat):(GJ p a n).length=(n+7)/8:=by simp[GJ]
theorem Z3(p:List UInt8):∀(n a k:Nat),k<n->Cs p a n/2^k %2=Kf p (a+k)
 |n+1,a,0,_=>by have:=Yv p a;rw[Cs];simp;omega
 |n+1,a,k+1,h=>by
  have hb:=Yv p a;have e:(Kf p a+2*Cs p (a+1) n)/2=Cs p (a+1) n:=F0
  rw[Cs,Asd,Arn (2^k) 2,<-Awv,e,Z3 p n (a+1) k F0,show a+1+k=a+(k+1) by omega]
theorem Afq(p:List UInt8)(n a k:Nat)(h:n<=k):Cs p a n/2^k %2=0:=by
 have:=Rc p n a;rw[Ava (Anf this (Ahg F0 h))]
theorem Ah2(p:List UInt8)(a n k:Nat):Kf (GJ p a n) k=if k<n then Kf p (a+k)else 0:=by
 rw[Kf];by_cases hj:k/8<(n+7)/8
 ·have e:(GJ p a n).getD (k/8) 0=UInt8.ofNat (Cs p (a+8*(k/8)) (min 8 (n-8*(k/8)))):=by
   rw[List.getD_eq_getElem?_getD,List.getElem?_eq_getElem (by rw[Of];exact hj)];simp[GJ]
  have hlt:Cs p (a+8*(k/8)) (min 8 (n-8*(k/8)))<256:=by
   have:=Rc p (min 8 (n-8*(k/8))) (a+8*(k/8));have h2:2^(min 8 (n-8*(k/8)))<=2^8:=Ahg F0 F0;omega
  have hu:(UInt8.ofNat (Cs p (a+8*(k/8)) (min 8 (n-8*(k/8))))).toNat=Cs p (a+8*(k/8)) (min 8 (n-8*(k/8))):=by
   rw[Ap3];exact Adn hlt
  rw[e,hu];by_cases hk:k<n
  ·rw[Aa8 hk,Z3 p _ _ _ F0,show a+8*(k/8)+k %8=a+k by omega]
  ·rw[Aa2 hk,Afq p _ _ _ F0]
 ·have e:(GJ p a n).getD (k/8) 0=0:=by
   rw[List.getD_eq_getElem?_getD,List.getElem?_eq_none (by rw[Of];omega)];rfl
  rw[e,Aa2 F0];simp
theorem Aco(p:List UInt8)(a n:Nat)(h:n<=330000):okB (GJ p a n) n:=⟨h,Of p a n,λk hk _=>by rw[Ah2,Aa2 F0]⟩
end Go.Lv
namespace Go.Pl
open Go Go.Lv
variable{p:Prop}
theorem F2(h:p:=by rw[Af,Ac];simp;omega):p:=h
theorem F7(h:p:=by rw[Af];simp;omega):p:=h
theorem Ax2(h:p:=by rw[Dx];simp;omega):p:=h
theorem Ax4(h:p:=by rw[Ay];simp;omega):p:=h
theorem Ax5(h:p:=by simp[Af,Az];omega):p:=h
theorem Ayb(h:p:=by unfold Ac;omega):p:=h
theorem F9(h:p:=by have:=Ax;omega):p:=h
theorem Ax8(h:p:=by rw[Dx];simp):p:=h
theorem Ayn(h:p:=by rw[Ay];simp):p:=h
theorem Ayg(h:p:=by rw[Ay];rfl):p:=h
end Go.Pl
namespace Go.Pl
open Go Go.Lv
variable{i:Nat}{p:Prop}
theorem Ah9(b:LB)(hb:b.length<4611686018427387904):∀(j q:Nat),j<=b.length->j<q->My b q (gW (b.drop j)) ((j:Int)-1)=some (gW b)
 |0,q+1,_,_=>by
  rw[My,AL,Aa2 Ax8];simp[PR,OJ]
 |j+1,q+1,hj,hq=>by
  rw[My,AL,Aa8 Ax8,show((j+1:Nat):Int)-1=(j:Int) by omega,Ch,Aa,Cf];have h:Ae (Bo (256:UInt64) (gW (b.drop (j+1)))) (Ad b[j]:UInt64)=gW (b.drop j):=by
   rw[JO,JI,jK,drop_cons (n:=j) F0,gW,gW,El,UInt64.ofNat_add,UInt64.ofNat_mul];exact UInt64.add_comm _ _
  rw[h];exact Ah9 b hb j q F0 F0
theorem qc(b:LB)(hb:b.length<4611686018427387904):Dj b=some (gW b):=by
 have h:=Ah9 b hb b.length Ba (Ap4 _) F9;rw[Dj,PA,PC];have e:Am (Ac b) 1=(b.length:Int)-1:=Cf Ayb Ayb;rw[e,<-h,Avi];rfl
theorem Ajy{n c:UInt64}(hn:n.toNat<2^i)(hc:c.toNat*2^i<18446744073709551616):sK n (Dy c i)=UInt64.ofNat (n.toNat+c.toNat*2^i):=by
 rw[Apd];apply UInt64.toNat_inj.1;rw[UInt64.toNat_or,VX,Adn hc,Arn,Nat.or_comm,<-Atq hn,Ajw,Adn,Axq,Arn];have h:=Atq hn c.toNat;have h2:2^i*c.toNat+n.toNat<2^64:=by
  rw[h];exact Nat.or_lt_two_pow (by rw[Arn];simpa using hc) n.toNat_lt
 rw[Axq];first|exact h2|(rw[Arn];exact h2)
theorem J7(b:LB)(hb:b.length<=8):∀(j i q:Nat),i+j=b.length->j<q->AT b q (gW (b.take i)) (i:Int)=some (gW b,0)
 |0,i,q+1,hi,_=>by
  rw[AT,SC,Aa2 F2,show i=b.length by omega,Awh];rfl
 |j+1,i,q+1,hi,hq=>by
  have hlt:i<b.length:=F0
  rw[AT,SC,Aa8 F2,Ch hlt,Aa,Hs,Dg Ax2,Aa,Aj];have h:sK (gW (b.take i)) (Dy (Ad b[i]:UInt64) (GI.toZ ((8:Int)*(i:Int))).toNat)=gW (b.take (i+1)):=by
   have e:(GI.toZ ((8:Int)*(i:Int))).toNat=8*i:=by show((8:Int)*(i:Int)).toNat=_;omega
   have e2:(2:Nat)^(8*i)=256^i:=by rw[Nat.pow_mul]
   have h1:=Q7 (b.take i);rw[Alg,As0 F0]at h1;have h3:=b[i].toNat_lt;have hle:(256:Nat)^(i+1)<=256^8:=Ahg F0 F0;rw[Asd]at hle;have h4:(Ad b[i]:UInt64).toNat=b[i].toNat:=by rw[jK,Ajw];omega
   have h5:b[i].toNat*256^i<18446744073709551616:=by
    have:b[i].toNat*256^i<256*256^i:=Nat.mul_lt_mul_of_pos_right (by simpa using h3) (Av4 F0);simp at hle;omega
   rw[e,Ajy (by rw[SZ F6,e2];exact h1) (by rw[h4,e2];exact h5),SZ F6,h4,e2,NQ hlt];rw[gW,vO];simp only[El,Alg,As0 (Nat.le_of_lt hlt),Nat.mul_zero,Avl];rw[Arn]
  rw[h];exact J7 b hb j (i+1) q F0 F0
theorem qw(b:LB)(h1:1<=b.length)(h2:b.length<=8):bY b=some (gW b,0):=by
 have h:=J7 b h2 b.length 0 Ba F0 F9;rw[bY,eQ,Aa2 (by simp[Af,Az,Ac];omega),rN];exact h
def part(b:LB)(at' w:Nat):LB:=(b.take (at'+w)).drop at'
theorem Dq{b:LB}{a w:Nat}(h:a+w<=b.length:=by omega):(part b a w).length=w:=by simp[part];omega
theorem E3(b:LB)(a w:Nat)(h1:1<=w)(h2:w<=8)(h3:a+w<=b.length)(hb:b.length<4611686018427387904):VC b (a:Int) (w:Int)=some (gW (part b a w),0):=by
 rw[VC,Aa2 Ax5,Aa2 (by rw[Az,Cf Ayb Ayb,Ac];simp;omega),Aj,Zp,Aa];rw[show((a:Int)+(w:Int)).toNat=a+w by omega,show(a:Int).toNat=a by omega];rw[qw _ (by rw[show((b.take (a+w)).drop a).length=_ from Dq h3];exact h1) (by rw[show((b.take (a+w)).drop a).length=_ from Dq h3];exact h2),Aa];rfl
theorem qN(w:Nat)(hw:w<=1000):∀(j i q:Nat) (n:UInt64) (acc:LB),i+j=w->j<q->acc.length+j<=1000000->Hk (w:Int) q n (i:Int) acc=some (acc++FD n.toNat j)
 |0,i,q+1,n,acc,hi,_,_=>by
  rw[Hk,Qn,Aa2 F7];simp[AQ,BF,FD]
 |j+1,i,q+1,n,acc,hi,hq,ha=>by
  rw[Hk,Qn,Aa8 F7];have e:(Ad (BY n (256:UInt64)):UInt8)=UInt8.ofNat n.toNat:=by
   rw[YD,X5];apply UInt8.toNat_inj.1;rw[Ap3,Ap3,UInt64.toNat_mod]
   show n.toNat %256 %256=_;omega
  have e2:(Cx n (256:UInt64)).toNat=n.toNat/256:=by rw[nC,Axh];rfl
  rw[Cy F6,Aa,Aj,e];have h:=qN w hw j (i+1) q (Cx n 256) (acc++[UInt8.ofNat n.toNat]) F0 F0 F6;rw[e2]at h;rw[show((i:Int)+1)=((i+1:Nat):Int) by omega,h,FD];simp
theorem xT(n:UInt64)(w:Nat)(hw:w<=1000):Dz n (w:Int)=some (FD n.toNat w):=by
 rw[Dz,BN,BC];have h:=qN w hw w 0 Ba n [] F0 F9 F6;simpa using h
theorem eV{α:Type}{l m:List α}{x y:α}(h:l.length=i):(l++x::m).set i y=l++y::m:=by subst h;simp
theorem D4(n:UInt64)(l4:LB)(w:Nat)(hl:l4.length=w)(hw:w<=8):∀(j i q:Nat),i+j=w->j<q->BP n l4 q (i:Int) (FD n.toNat i++List.replicate j 0)=some (FD n.toNat w,0)
 |0,i,q+1,hi,_=>by
  rw[BP,RZ,Aa2 F2];obtain rfl:i=w:=F0
  simp[bE,rK]
 |j+1,i,q+1,hi,hq=>by
  have hlen:(FD n.toNat i++List.replicate (j+1) 0).length=i+(j+1):=by simp[Oj]
  rw[BP,RZ,Aa8 F2,Hs,Dg Ax2,Aa,Ch (by rw[hlen];omega),Aa,Yb _ (by rw[hlen];omega),Aa,Aj];have e:(Ad (Cq n (GI.toZ ((8:Int)*(i:Int))).toNat):UInt8)=UInt8.ofNat (n.toNat/256^i):=by
   have e:(GI.toZ ((8:Int)*(i:Int))).toNat=8*i:=by show((8:Int)*(i:Int)).toNat=_;omega
   rw[e,YD,KF,Nat.pow_mul]
  rw[e,Au9,eV (Oj _ _)];have h:=D4 n l4 w hl hw j (i+1) q F0 F0;rw[Z8]at h;simpa using h
theorem Apl(n:UInt64)(w:Nat)(h1:1<=w)(h2:w<=8)(h:n.toNat<256^w):tK n (w:Int)=some true:=by
 rw[tK];by_cases h8:w=8
 ·subst h8;rw[Aa8 Ayg]
 ·rw[Aa2 Ax4,Hs,Dg Ax2,Aa];have e:(GI.toZ ((8:Int)*(w:Int))).toNat=8*w:=by show((8:Int)*(w:Int)).toNat=_;omega
  rw[e,sY];have:Cq n (8*w)=0:=by
   apply UInt64.toNat_inj.1;rw[KF,Nat.pow_mul];exact Ava h
  rw[this];rfl
theorem yO(n:UInt64)(w:Nat)(h1:1<=w)(h2:w<=8)(h:n.toNat<256^w):Yn n (w:Int)=some (FD n.toNat w,0):=by
 rw[Yn,cW,Aa2 Ax5,Apl n w h1 h2 h,Aa,Aa2 Axz,yS,Aa,Dg Ayn,Aa,rL];have h:=D4 n (List.replicate (w:Int).toNat 0) w Axz h2 w 0 Ba F0 F9;simpa [FD]using h
theorem Ax1(h:p:=by rw[Az];simp;omega):p:=h
theorem Ax0(h:p:=by rw[Ao];simp):p:=h
end Go.Pl
namespace Go.Pl
open Go Go.Lv
variable{p:LB}
theorem kr(n:Nat)(h:n<4611686018427387904):Es (n:Int) (7:Int)=((n %8:Nat):Int):=by
 have e:Es (n:Int) (7:Int)=wrap64 ((BitVec.ofInt 64 (n:Int)&&&BitVec.ofInt 64 7).toNat:Int):=rfl;rw[e,BitVec.toNat_and,Ave,Ave];have h1:((n:Int) %((2^64:Nat):Int)).toNat=n:=F0
 have h2:((7:Int) %((2^64:Nat):Int)).toNat=2^3-1:=F4
 rw[h1,h2,Awy,Cr F0 F0]
theorem Ata(n:Nat):P6 (n:Int) (GI.toZ (3:UInt64)).toNat=((n/8:Nat):Int):=by
 have e:P6 (n:Int) (GI.toZ (3:UInt64)).toNat=(n:Int).fdiv 8:=rfl;rw[e,Ars _ F0];omega
theorem Aul{t:Nat}(h:t<=8):Am (Dy (1:UInt8) t) (1:UInt8)=UInt8.ofNat (2^t-1):=by
 have:t=0\/t=1\/t=2\/t=3\/t=4\/t=5\/t=6\/t=7\/t=8:=F0
 rcases this with rfl|rfl|rfl|rfl|rfl|rfl|rfl|rfl|rfl<;>decide
theorem bitsOf(c:UInt8)(off t:Nat)(h:t<=8):(Es (Cq c off) (Am (Dy (1:UInt8) t) (1:UInt8))).toNat=c.toNat/2^off %2^t:=by
 have hp:2^t<=2^8:=Ahg F0 h;rw[Aul h,Ame,UInt8.toNat_and,Ad9,Ap3,Adn (by have:=Av4 (n:=t) (show 0<2 by omega);omega),Awy]
theorem xX{k:Nat}(h:k<p.length):Ak p (k:Int)=some (p.getD k 0):=by
 rw[Ch h];simp[List.getD_eq_getElem?_getD,h]
def Vh(p:LB)(a n:Nat):UInt64:=UInt64.ofNat (Cs p a n)
theorem ES(p:LB)(a n:Nat)(h:n<=64):(Vh p a n).toNat=Cs p a n:=by
 have h1:=Rc p n a;have h2:2^n<=2^64:=Ahg F0 h;rw[Vh,Ajw,Adn F0]
theorem jq(p:LB)(N:Int)(a n:Nat)(hn:n<=64)(ha:a+n<=8*p.length)(hp:p.length<=1000000):∀(j h q:Nat),h+j=n->j<q->JE (a:Int) (n:Int) p N q (Vh p a h) (h:Int)=some (Vh p a n)
 |j,h,q+1,hj,hq=>by
  rw[JE,dC];by_cases hlt:h<n
  ·have e1:Ae (a:Int) (h:Int)=((a+h:Nat):Int):=by rw[Aj];omega
   have e2:Ha (Am (n:Int) (h:Int)) (Am (8:Int) (((a+h) %8:Nat):Int))=((min (n-h) (8-(a+h) %8):Nat):Int):=by
    rw[GK,Cf,Cf];omega
   have hm:(a+h)/8<p.length:=F0
   rw[Aa8 F7,e1,Ata,xX hm,Aa,kr _ F0,Dg Ax2,Aa,e2,Dg Ax8,Aa,Dg Ax8,Aa];generalize hT:min (n-h) (8-(a+h) %8)=T;have hT8:T<=8:=F0
   have hT1:1<=T:=F0
   have hb:(a+h) %8+T<=8:=F0
   have hv:=pP p (a+h) T hb;have z1:(GI.toZ (((a+h) %8:Nat):Int)).toNat=(a+h) %8:=rfl;have z2:(GI.toZ ((T:Nat):Int)).toNat=T:=rfl;have z3:(GI.toZ ((h:Nat):Int)).toNat=h:=rfl;rw[z1,z2,z3];have hx:(Ad (Es (Cq (p.getD ((a+h)/8) 0) ((a+h) %8)) (Am (Dy (1:UInt8) T) (1:UInt8))):UInt64).toNat=Cs p (a+h) T:=by
    rw[jK,Ajw,bitsOf _ _ _ hT8,<-hv];have:=Rc p T (a+h);have h2:2^T<=2^8:=Ahg F0 hT8;omega
   have hlt2:=Rc p (h+T) a;rw[PJ]at hlt2;have h64:2^(h+T)<=2^64:=Ahg F0 F0;have hor:sK (Vh p a h) (Dy (Ad (Es (Cq (p.getD ((a+h)/8) 0) ((a+h) %8)) (Am (Dy (1:UInt8) T) (1:UInt8))):UInt64) h)=Vh p a (h+T):=by
    rw[Ajy (by rw[ES p a h F0];exact Rc p h a) (by rw[hx,Arn];omega),hx,ES p a h F0,Vh,PJ,Arn (2^h)]
   rw[hor,Aj,show(h:Int)+((T:Nat):Int)=((h+T:Nat):Int) by omega];exact jq p N a n hn ha hp (j-T) (h+T) q F0 F0
  ·rw[Aa2 F7,show h=n by omega];rfl
theorem get_eq(p:LB)(N:Int)(a n:Nat)(hn:n<=64)(ha:a+n<=8*p.length)(hp:p.length<=1000000):nA p N (a:Int) (n:Int)=some (Vh p a n):=by
 have:=jq p N a n hn ha hp n 0 Ba F0 F9;exact this
theorem NT{n:Nat}(h:okB p n):Jw p (n:Int)=some 0:=by
 obtain⟨h1,h2,h3⟩:=h;have e7:Ae (n:Int) 7=((n+7:Nat):Int):=by rw[Aj];omega
 rw[Jw,e7,Ata,Aa2 (by simp[Af,Az,Ao,Ac,h2];omega),kr _ F0];by_cases hz:n %8=0
 ·rw[Aa2 Ax1]
 ·have el:Am (Ac p) 1=((p.length-1:Nat):Int):=by rw[Ac,Cf];omega
  rw[Aa8 Ax1,el,xX F0,Aa,Dg Ax2,Aa];have z:(GI.toZ ((n %8:Nat):Int)).toNat=n %8:=rfl;have hs:Cq (p.getD (p.length-1) 0) (n %8)=0:=by
   apply UInt8.toNat_inj.1;rw[Ad9];have hv:=pP p n (8-n %8) F0;have h0:Cs p n (8-n %8)=0:=E8 _ _ λk hk=>h3 _ F0 F0;rw[h0,show n/8=p.length-1 by omega]at hv;have hlt:(p.getD (p.length-1) 0).toNat/2^(n %8)<2^(8-n %8):=by
    have:=(p.getD (p.length-1) 0).toNat_lt;rw[Nat.div_lt_iff_lt_mul (Av4 F0),<-Axf,show 8-n %8+n %8=8 by omega];simpa using this
   rw[Adn hlt]at hv;exact hv.symm
  rw[z,hs,Aa2 (by rw[Aa1];simp)]
theorem pZ{N:Nat}(h:okB p N)(a n:Nat)(hn:n<=64):DW p (N:Int) (a:Int) (n:Int)=some (if N<a+n then(0,24)else(Vh p a n,0)):=by
 obtain⟨h1,h2,h3⟩:=h;rw[DW,NT ⟨h1,h2,h3⟩,Aa,Aa2 Ax0,Aa2 Ax5,Cf];by_cases hl:N<a+n
 ·rw[Aa8 Ax1,Aa8 hl]
 ·rw[Aa2 Ax1,get_eq p N a n hn F0 F0,Aa,Aa2 hl]
theorem Avm(c:Nat)(h:c<4611686018427387904):Cx (c:Int) (2:Int)=((c/2:Nat):Int):=by
 rw[KQ,Atv F0,Cr F0 F0];omega
theorem Atb(c:Nat)(h:c<4611686018427387904):Cx (c:Int) (8:Int)=((c/8:Nat):Int):=by
 rw[KQ,Atv F0,Cr F0 F0];omega
theorem Ahx(c:Nat):Ho (c:Int) (8:Int)=((c %8:Nat):Int):=by rw[Ho,Awr F0];omega
theorem Av6(c:Nat):Ho (c:Int) (2:Int)=((c %2:Nat):Int):=by rw[Ho,Awr F0];omega
theorem Ac7(i c:Nat)(hc:c<256):∀(j k q:Nat),k+j=i %8->j<q->Nc (i:Int) q ((c/2^k:Nat):Int) (k:Int)=some (((c/2^(i %8) %2:Nat):Int))
 |0,k,q+1,hk,_=>by
  rw[Nc,AA,Ahx,Aa2 F7,QZ,QM,Av6,show k=i %8 by omega]
 |j+1,k,q+1,hk,hq=>by
  have hle:c/2^k<=c:=Asu _ _;rw[Nc,AA,Ahx,Aa8 F7,Avm _ F0,Aj,Awv,<-Asd];exact Ac7 i c hc j (k+1) q F0 F0
theorem oG(p:LB)(N:Int)(i:Nat)(h:i/8<p.length)(hi:i<4611686018427387904):La p N (i:Int)=some ((Kf p i:Nat):Int):=by
 have hc:=(p.getD (i/8) 0).toNat_lt;have:=Ac7 i (p.getD (i/8) 0).toNat (by simpa using hc) (i %8) 0 Ba F0 F9;rw[La,QQ,Atb _ hi,xX h,Aa,NR,QO];simpa [Kf]using this
theorem wW(p:LB)(N:Int)(a n:Nat)(ha:a+n<=8*p.length)(hp:p.length<=1000000):∀(j q:Nat),j<=n->j<q->Jb (a:Int) p N q (Vh p (a+j) (n-j)) ((j:Int)-1)=some (Vh p a n)
 |0,q+1,_,_=>by
  rw[Jb,Tt,Aa2 Ax8];rfl
 |j+1,q+1,hj,hq=>by
  have hb:=Yv p (a+j);rw[Jb,Tt,show((j+1:Nat):Int)-1=(j:Int) by omega,Aa8 Ax8,Aj (a:=(a:Int)) F0 F0,show(a:Int)+(j:Int)=((a+j:Nat):Int) by omega,oG p N (a+j) F0 F0,Aa,Cf];have e:Ae (Bo (2:UInt64) (Vh p (a+(j+1)) (n-(j+1)))) (Ad ((Kf p (a+j):Nat):Int):UInt64)=Vh p (a+j) (n-j):=by
   rw[JO,JI,Xh,Vh,Vh,show n-j=(n-(j+1))+1 by omega,Cs,show a+j+1=a+(j+1) by omega,UInt64.ofNat_add,UInt64.ofNat_mul];exact UInt64.add_comm _ _
  rw[e];exact wW p N a n ha hp j q F0 F0
theorem iQ(p:LB)(N:Int)(a n:Nat)(ha:a+n<=8*p.length)(hp:p.length<=1000000):Rn p N (a:Int) (n:Int)=some (Vh p a n):=by
 have:=wW p N a n ha hp n Ba (Ap4 _) F9;have hz:Vh p (a+n) (n-n)=0:=by rw[Nat.sub_self];rfl
 rw[hz]at this;rw[Rn,FW,FM,Cf];exact this
theorem Aea(bit:Int)(N:Nat)(l:LB):∀(j k q:Nat),k+j=N %8->j<q->Lo bit (N:Int) l q ((2^k:Nat):Int) (k:Int)=Xs bit ((2^(N %8):Nat):Int) (N:Int) l
 |0,k,q+1,hk,_=>by
  rw[Lo,Ym,Ahx,Aa2 F7,show k=N %8 by omega]
 |j+1,k,q+1,hk,hq=>by
  have hp:2^k<=2^8:=Ahg F0 F0;have e:Bo ((2^k:Nat):Int) 2=((2^(k+1):Nat):Int):=by
   rw[Asd];generalize 2^k=K at*
   rw[Hs];omega
  rw[Lo,Ym,Ahx,Aa8 F7,e,Aj];exact Aea bit N l j (k+1) q F0 F0
theorem yD(p:LB)(a n j:Nat)(h:j<(n+7)/8):(GJ p a n)[j]'(by rw[Of];exact h)=UInt8.ofNat (Cs p (a+8*j) (min 8 (n-8*j))):=by simp[GJ]
theorem xq(p:LB)(a t:Nat)(h:t<=8):Cs p a t<256:=by
 have h1:=Rc p t a;have h2:2^t<=2^8:=Ahg F0 h;omega
def room(p:LB)(a n:Nat):LB:=if n %8=0 then GJ p a n++[0]else GJ p a n
theorem Yr(p:LB)(a n:Nat):(room p a n).length=n/8+1:=by
 rw[room];split<;>simp[Of]<;>omega
theorem vg(p:LB)(a n j:Nat)(h:j<n/8+1):(room p a n)[j]'(by rw[Yr];exact h)=UInt8.ofNat (Cs p (a+8*j) (min 8 (n-8*j))):=by
 have h0:(room p a n)[j]? =some (UInt8.ofNat (Cs p (a+8*j) (min 8 (n-8*j)))):=by
  rw[room];split
  ·by_cases hj:j<(n+7)/8
   ·rw[List.getElem?_append_left (by rw[Of];exact hj),List.getElem?_eq_getElem (by rw[Of];exact hj),yD p a n j hj]
   ·rw[List.getElem?_append_right (by rw[Of];omega),Of,show j-(n+7)/8=0 by omega,show n-8*j=0 by omega];rfl
  ·rw[List.getElem?_eq_getElem (by rw[Of];omega),yD p a n j F0]
 rw[List.getElem?_eq_getElem (by rw[Yr];exact h)]at h0;exact Axe h0
theorem tu(p:LB)(a n T:Nat)(h1:1<=T)(h:n %8+T<=8):(room p a n).set (n/8) (UInt8.ofNat (Cs p (a+8*(n/8)) (n %8+T)))=GJ p a (n+T):=by
 apply Auy (by rw[Avg,Yr,Of];omega);intro j g1 g2;rw[Avg,Yr]at g1;rw[Axi,yD p a (n+T) j (by rw[Of]at g2;exact g2)];split
 ·rename_i e;subst e;rw[show min 8 (n+T-8*(n/8))=n %8+T by omega]
 ·rw[vg p a n j g1,show min 8 (n-8*j)=8 by omega,show min 8 (n+T-8*j)=8 by omega]
theorem H2(p:LB)(a n:Nat):(room p a n)[n/8]'(by rw[Yr];omega)=UInt8.ofNat (Cs p (a+8*(n/8)) (n %8)):=by
 rw[vg p a n _ F0,show min 8 (n-8*(n/8))=n %8 by omega]
theorem Ahq(p:LB)(a n:Nat)(hn:n<=400000):Wu (GJ p a n) (n:Int) ((Kf p (a+n):Nat):Int)=some (GJ p a (n+1),((n+1:Nat):Int)):=by
 have hb:=Yv p (a+n);have hp:2^(n %8)<=2^7:=Ahg F0 F0;have hroom:Wu (GJ p a n) (n:Int) ((Kf p (a+n):Nat):Int)=Xv ((Kf p (a+n):Nat):Int) (n:Int) (room p a n):=by
  rw[Wu,MG,Ahx,room];by_cases h0:n %8=0
  ·rw[Aa8 (by rw[Ay,h0];rfl),Cy (by rw[Of];simp;omega),Aa,Aa8 h0]
  ·rw[Aa2 Ax4,Aa2 h0]
 have hl:=Aea ((Kf p (a+n):Nat):Int) n (room p a n) (n %8) 0 Ba F0 F9;rw[hroom,Xv,MM,ME];refine Avk hl ?_;have hg:Ak (room p a n) ((n/8:Nat):Int)=some (UInt8.ofNat (Cs p (a+8*(n/8)) (n %8))):=by
  rw[Ch (by rw[Yr];omega),H2]
 have hlt:=xq p (a+8*(n/8)) (n %8+1) F0;have hsn:=G0 p (a+8*(n/8)) (n %8);rw[show a+8*(n/8)+n %8=a+n by omega]at hsn;have hm:Bo ((Kf p (a+n):Nat):Int) ((2^(n %8):Nat):Int)=((2^(n %8)*Kf p (a+n):Nat):Int):=by
  have hle:2^(n %8)*Kf p (a+n)<=2^7*1:=Aut hp F0;rw[Ahj,<-Ato,Cr F0 (by rw[Arn];omega),Arn]
 have hx:Ae (UInt8.ofNat (Cs p (a+8*(n/8)) (n %8))) (Ad (((2^(n %8)*Kf p (a+n):Nat):Int)):UInt8)=UInt8.ofNat (Cs p (a+8*(n/8)) (n %8+1)):=by
  rw[Ao7,Aip,hsn,UInt8.ofNat_add]
 rw[Xs,MF,Atb _ F0,hg,Aa,Aa,Aa,hm,hx,Yb _ (by rw[Yr];omega),Aa,tu p a n 1 F0 F0,Aj];rfl
theorem nE(p:LB)(N:Int)(a n:Nat)(ha:a+n<=8*p.length)(hp:p.length<=1000000)(hn:n<=300000):∀(j m q:Nat),m+j=n->j<q->Hm ((a+n:Nat):Int) p N q ((a+m:Nat):Int) (m:Int) (GJ p a m)=some (GJ p a n,(n:Int))
 |0,m,q+1,hm,_=>by
  rw[Hm,Qm,Aa2 F7,show m=n by omega];rfl
 |j+1,m,q+1,hm,hq=>by
  rw[Hm,Qm,Aa8 F7,oG p N (a+m) F0 F0,Aa,Ahq p a m F0,Aa];simp only;rw[Aj];exact nE p N a n ha hp hn j (m+1) q F0 F0
theorem U4(p:LB)(N:Int)(a n:Nat)(ha:a+n<=8*p.length)(hp:p.length<=1000000)(hn:n<=300000):JH p N (a:Int) ((a+n:Nat):Int)=some (GJ p a n,(n:Int)):=by
 have:=nE p N a n ha hp hn n 0 Ba F0 F9;exact this
theorem Ayk{p:Prop}(h:p:=by rw[Az];simp):p:=h
end Go.Pl
namespace Go.Pl
open Go Go.Lv
variable{t:Nat}{p:Prop}
theorem Aqv(h:t<=8):Am (Dy (1:UInt64) t) (1:UInt64)=UInt64.ofNat (2^t-1):=by
 have:t=0\/t=1\/t=2\/t=3\/t=4\/t=5\/t=6\/t=7\/t=8:=F0
 rcases this with rfl|rfl|rfl|rfl|rfl|rfl|rfl|rfl|rfl<;>decide
theorem Av0(v:UInt64)(h:t<=8):(Es v (Am (Dy (1:UInt64) t) (1:UInt64))).toNat=v.toNat %2^t:=by
 have hp:2^t<=2^8:=Ahg F0 h;rw[Aqv h,xR,UInt64.toNat_and,Ajw,Adn (by have:=Av4 (n:=t) (show 0<2 by omega);omega),Awy]
theorem or8{v w i:Nat}(hv:v<2^i)(hw:w*2^i<256)(hi:i<8):sK (UInt8.ofNat v) (Dy (UInt8.ofNat w) i)=UInt8.ofNat (v+w*2^i):=by
 have hp:2^i<=2^8:=Ahg F0 F0;have hpos:0<2^i:=Av4 F0;have hw2:w<256:=Au7 (Nat.le_mul_of_pos_right w hpos) hw;rw[Aq5];apply UInt8.toNat_inj.1;have e1:(UInt8.ofNat v).toNat=v:=by rw[Ap3,Adn F0]
 have e2:(UInt8.ofNat w).toNat=w:=by rw[Ap3,Adn F0]
 rw[UInt8.toNat_or,Ans,e1,e2,Adn hw,Arn w,Nat.or_comm,<-Atq hv,Ap3,Axq v];rw[Arn]at hw;have hb:2^i*w+v<256:=by
  rw[Atq hv];exact Nat.or_lt_two_pow (n:=8) hw F0
 rw[Adn hb]
theorem Aji(p:LB)(a n T:Nat)(h:T<=n)(hn:n<=64):Cq (Vh p a n) T=Vh p (a+T) (n-T):=by
 apply UInt64.toNat_inj.1;rw[KF,ES p a n hn,ES p (a+T) (n-T) F0];have:=Rc p T a
 conv=>lhs;rw[show n=T+(n-T) by omega,PJ,Nat.add_mul_div_left _ _ (Av4 F0),Ava this,Avt]
theorem Akr(p:LB)(a n T:Nat)(h:T<=n)(hn:n<=64):(Vh p a n).toNat %2^T=Cs p a T:=by
 have:=Rc p T a;rw[ES p a n hn]
 conv=>lhs;rw[show n=T+(n-T) by omega,PJ,Nat.add_mul_mod_self_left,Adn this]
theorem xH(bk:Int->Int->LB->Option (LB×Int×Int))(to':Int)(p:LB)(N fr:Int)(r6:UInt64)(a:Nat):∀(j m q:Nat),m+j<=300000->j<=64->j<q->
  Oi bk to' p N fr r6 q (Vh p (a+m) j) (j:Int) (m:Int) (GJ p a m)=MV bk to' p N fr ((m+j:Nat):Int) (GJ p a (m+j))
 |0,m,q+1,_,_,_=>by
  rw[Oi,NA,Aa2 Ayk];rfl
 |j+1,m,q+1,hm,hj,hq=>by
  have hroom:Oi bk to' p N fr r6 (q+1) (Vh p (a+m) (j+1)) ((j+1:Nat):Int) (m:Int) (GJ p a m)=NB (Oi bk to' p N fr r6 q) to' fr p N r6 (Vh p (a+m) (j+1)) ((j+1:Nat):Int) (m:Int) (room p a m):=by
   rw[Oi,NA,Aa8 Ayk,kr m F0,room];by_cases h0:m %8=0
   ·rw[Aa8 (by rw[Ay,h0];rfl),Cy (by rw[Of];simp;omega),Aa,Aa8 h0]
   ·rw[Aa2 Ax4,Aa2 h0]
  have hl:Am (Ac (room p a m)) 1=((m/8:Nat):Int):=by
   rw[Ac,Yr,Cf];omega
  have e2:Ha ((j+1:Nat):Int) (Am (8:Int) ((m %8:Nat):Int))=((min (j+1) (8-m %8):Nat):Int):=by
   rw[GK,Cf];omega
  rw[hroom,NB,nS,kr m F0,e2,hl];generalize hT:min (j+1) (8-m %8)=T;have hT1:1<=T:=F0
  have hT8:m %8+T<=8:=F0
  have hg:Ak (room p a m) ((m/8:Nat):Int)=some (UInt8.ofNat (Cs p (a+8*(m/8)) (m %8))):=by
   rw[Ch (by rw[Yr];omega),H2]
  have z1:(GI.toZ ((m %8:Nat):Int)).toNat=m %8:=rfl;have z2:(GI.toZ ((T:Nat):Int)).toNat=T:=rfl;have hlt:=xq p (a+8*(m/8)) (m %8+T) F0;have hadd:=PJ p (m %8) T (a+8*(m/8));rw[show a+8*(m/8)+m %8=a+m by omega]at hadd;have hbyte:(Ad (Es (Vh p (a+m) (j+1)) (Am (Dy (1:UInt64) T) (1:UInt64))):UInt8)=UInt8.ofNat (Cs p (a+m) T):=by
   rw[YD,Av0 _ F0,Akr p (a+m) (j+1) T F0 hj]
  have hnew:sK (UInt8.ofNat (Cs p (a+8*(m/8)) (m %8))) (Dy (UInt8.ofNat (Cs p (a+m) T)) (m %8))=UInt8.ofNat (Cs p (a+8*(m/8)) (m %8+T)):=by
   rw[or8 (Rc _ _ _) (by rw[Arn];omega) F0,hadd,Arn (2^(m %8))]
  rw[hg,z1,z2,hbyte];simp only[Aa];rw[Dg Ax8,Aa,Dg Ax2,Aa,hnew,Yb _ (by rw[Yr];omega),Aa,tu p a m T hT1 hT8,mR,mD,kr m F0,e2,hT,Dg Ax8,Aa,z2,Aji p (a+m) (j+1) T F0 hj,Cf,Aj];have ih:=xH bk to' p N fr r6 a (j+1-T) (m+T) q F0 F0 F0;rw[show m+T+(j+1-T)=m+(j+1) by omega]at ih;rw[<-ih,show a+m+T=a+(m+T) by omega,show((j+1:Nat):Int)-((T:Nat):Int)=((j+1-T:Nat):Int) by omega,show(m:Int)+((T:Nat):Int)=((m+T:Nat):Int) by omega]
theorem ji(p:LB)(N:Int)(a n:Nat)(ha:a+n<=8*p.length)(hp:p.length<=1000000)(hn:n<=300000):∀(j m f q:Nat),(f=m\/n<=f/\m=n)->m+j=n->f<=n+64->j<q->Wq ((a+n:Nat):Int) p N q ((a+f:Nat):Int) (m:Int) (GJ p a m)=some (GJ p a n,(n:Int),0)
 |j,m,f,q+1,hf,hm,hf2,hq=>by
  rw[Wq,YB];by_cases hlt:f<n
  ·obtain rfl:f=m:=F0
   have e1:Ha (64:Int) (Am ((a+n:Nat):Int) ((a+f:Nat):Int))=((min 64 (n-f):Nat):Int):=by
    rw[GK,Cf];omega
   rw[Aa8 F7,e1,get_eq p N (a+f) _ F0 F0 hp,Aa,YG];have h1:=xH (Wq ((a+n:Nat):Int) p N q) ((a+n:Nat):Int) p N ((a+f:Nat):Int) (Vh p (a+f) (min 64 (n-f))) a (min 64 (n-f)) f Ba F0 F0 F9;refine Avk h1 ?_;rw[MV,mB,Aj,show((a+f:Nat):Int)+64=((a+(f+64):Nat):Int) by omega];exact ji p N a n ha hp hn (j-min 64 (n-f)) (f+min 64 (n-f)) (f+64) q F0 F0 F0 F0
  ·rw[Aa2 F7,WV,nD,show m=n by omega]
theorem Aq9{p:LB}{N:Nat}(h:okB p N)(a n:Nat)(ha:a+n<=N)(hn:n<=300000):cY p (N:Int) (a:Int) ((a+n:Nat):Int)=some (GJ p a n,(n:Int),0):=by
 obtain⟨h1,h2,h3⟩:=h;have:=ji p N a n F0 F0 hn n 0 0 Ba F0 F0 F0 F9;rw[cY,dH,NT ⟨h1,h2,h3⟩,Aa,Aa2 Ax0,Aa2 Ax5,kT];exact this
theorem Ayf(h:p:=by simp[Af];omega):p:=h
theorem Ax6(h:p:=by rw[Af];simp):p:=h
end Go.Pl
namespace Go.Pl
open Go Go.Lv
variable{p:LB}{n N a k l:Nat}{t s:UInt64}
def Gt(p:LB):Nat->Nat->Nat
 |_,0=>0
 |a,m+1=>if Kf p a=1 then 1+Gt p (a+1) m else 0
theorem RY(p:LB):∀(m a:Nat),Gt p a m<=m
 |0,_=>Ap4 _
 |m+1,a=>by rw[Gt];split<;>have:=RY p m (a+1)<;>omega
theorem lu(p:LB):∀(m a:Nat),∃s,Cs p a m+1=2^(Gt p a m+1)*s+2^Gt p a m/\ (Gt p a m=m->s=0)
 |0,a=>⟨0,by simp[Cs,Gt],λ_=>rfl⟩
 |m+1,a=>by
  have hb:=Yv p a;obtain⟨s,h1,h2⟩:=lu p m (a+1);by_cases h:Kf p a=1
  ·refine⟨s,?_,λe=>h2 ?_⟩
   ·rw[Gt,Aa8 h,Cs,h,show 1+Gt p (a+1) m+1=(Gt p (a+1) m+1)+1 by omega,show 1+Gt p (a+1) m=Gt p (a+1) m+1 by omega,Asd,Asd (n:=2) (m:=Gt p (a+1) m)];rw[Asd]at h1;generalize Cs p (a+1) m=V at*
    generalize 2^Gt p (a+1) m=W at*
    have e1:W*2*2*s=2*(W*2*s):=by rw[Nat.mul_right_comm (W*2) 2 s,Arn]
    omega
   ·rw[Gt,Aa8 h]at e;omega
  ·refine⟨Cs p (a+1) m,?_,λe=>?_⟩
   ·rw[Gt,Aa2 h,Cs];simp;omega
   ·rw[Gt,Aa2 h]at e;omega
theorem Ao3{t s:Nat}(h:2^(t+1)*s+2^t<=2^n)(ht:t<n)(x:Nat)(hx:x=2^n-(2^(t+1)*s+2^t)):x&&& (2^(t+1)*s+2^t)=2^t:=by
 have hpos:0<2^t:=Av4 F0;have hlt:2^t<2^(t+1):=by rw[Asd];omega
 have e:x=2^n-((2^(t+1)*s+(2^t-1))+1):=by rw[hx];congr 1;omega
 apply Nat.eq_of_testBit_eq;intro i;rw[Nat.testBit_and,e,Nat.testBit_two_pow_sub_succ F0,Nat.testBit_two_pow_mul_add _ F0,Nat.testBit_two_pow_mul_add _ hlt];by_cases hi:i<t+1
 ·rw[Aa8 hi,Aa8 hi,Nat.testBit_two_pow_sub_one,Nat.testBit_two_pow];by_cases hit:t=i
  ·subst hit;simp;exact ht
  ·have:¬i=t:=λe=>hit e.symm;simp[hit]
 ·rw[Aa2 hi,Aa2 hi,Nat.testBit_two_pow];have:¬t=i:=F0
  simp[this]
theorem Akm(a:UInt64):(yB a).toNat=18446744073709551615-a.toNat:=by
 have h:=a.toNat_lt;have e:yB a=UInt64.ofNat (BitVec.ofInt 64 18446744073709551615^^^BitVec.ofInt 64 (a.toNat:Int)).toNat:=Hn _;have h1:BitVec.ofInt 64 (a.toNat:Int)=a.toBitVec:=P8 a;have h2:(BitVec.ofInt 64 18446744073709551615:BitVec 64)=BitVec.allOnes 64:=F4
 rw[e,Ajw,h1,h2,BitVec.allOnes_xor,BitVec.toNat_not];show(18446744073709551616-1-a.toNat) %18446744073709551616=18446744073709551615-a.toNat;omega
theorem Aje(a:UInt64):(lI a).toNat=(18446744073709551616-a.toNat) %18446744073709551616:=by
 have h:=a.toNat_lt;have e:lI a=UInt64.ofNat ((0-(a.toNat:Int)) %18446744073709551616).toNat:=N3 _;rw[e,Ajw];show((0-(a.toNat:Int)) %18446744073709551616).toNat %18446744073709551616=_;omega
def Aua:LB:=[0,1,56,2,57,49,28,3,61,58,42,50,38,29,17,4,62,47,59,36,45,43,51,22,53,39,33,30,24,18,12,5,63,55,48,27,60,41,37,16,46,35,44,21,52,32,23,11,54,26,40,15,34,20,31,10,25,14,19,9,13,8,7,6]
theorem Ae2:∀t:Fin 64,Ak Aua (GI.toZ (Cq (Bo (UInt64.ofNat (2^t.val)) (285870213051353865:UInt64)) (GI.toZ (58:UInt64)).toNat))=some (UInt8.ofNat t.val):=by decide +kernel
theorem Ats(x:UInt64)(t s:Nat)(ht:t<64)(h:x.toNat+(2^(t+1)*s+2^t)=18446744073709551616):Gj x=some (t:Int):=by
 have hpos:0<2^t:=Av4 F0;have hx:x.toNat=2^64-(2^(t+1)*s+2^t):=by show x.toNat=18446744073709551616-_;omega
 have hle:2^t<=2^63:=Ahg F0 F0;have hne:x≠0:=by
  intro e;rw[e]at h;have h':2^t*(2*s+1)=2^64:=by
   rw[Nat.mul_add,Nat.mul_one,<-Avc,<-Asd]
   show _=18446744073709551616;simpa using h
  have h2:2^64=2^t*2^(64-t):=by rw[<-Axf];congr 1;omega
  rw[h2]at h';have h3:=Nat.eq_of_mul_eq_mul_left hpos h';rw[show 64-t=(63-t)+1 by omega,Asd]at h3;omega
 have hx0:x.toNat≠0:=λe=>hne (UInt64.toNat_inj.1 e);have hl:Es x (lI x)=UInt64.ofNat (2^t):=by
  apply UInt64.toNat_inj.1;rw[xR,UInt64.toNat_and,Aje,show(18446744073709551616-x.toNat) %18446744073709551616=2^(t+1)*s+2^t by omega,Ao3 (n:=64) (by show _<=18446744073709551616;omega) ht _ hx,Ajw,Adn];exact Au7 hle F4
 have hb:=Ae2 ⟨t,ht⟩;rw[Gj,Aa2 (by rw[sY];simpa using hne),hl];refine Avk (congrArg (λo=>Option.bind o λc=>some (Ad c:Int)) hb) ?_;rw[Aa,NR,Ap3,Adn (by show t<256;omega)]
theorem Ape(p:LB)(a m:Nat)(hm:m<=48):Gj (yB (Vh p a m))=some ((Gt p a m:Nat):Int):=by
 obtain⟨s,h1,h2⟩:=lu p m a;have hle:=RY p m a;have hlt:=Rc p m a;have h48:2^m<=2^48:=Ahg F0 hm;have hn:(yB (Vh p a m)).toNat=18446744073709551615-Cs p a m:=by rw[Akm,ES p a m F0]
 have h3:(281474976710656:Nat)=2^48:=rfl;refine Ats _ (Gt p a m) s F0 ?_;rw[hn];omega
def X4(p:LB)(N a:Nat):Int×Int×Int:=
 if Gt p a (min 48 (N-a))<min 48 (N-a)then((Gt p a (min 48 (N-a)):Nat),((a+Gt p a (min 48 (N-a))+1:Nat):Int),0)else
 if Gt p a (min 48 (N-a))=48 then(48,((a+48:Nat):Int),0)else(0,0,24)
theorem Aj8(h:okB p N)(a:Nat)(ha:a<N):HF p (N:Int) (a:Int)=some (X4 p N a):=by
 have hN:=h.1;have e1:Ha (48:Int) (Am (N:Int) (a:Int))=((min 48 (N-a):Nat):Int):=by rw[GK,Cf];omega
 have hle:=RY p (min 48 (N-a)) a;rw[HF,Za,NT h,Aa,Aa2 Ax0,Aa2 Ax6,Aa2 Ax2,e1,pZ h a _ F0,Aa2 F0,Aa];simp only;rw[TG,iF,Aa2 Ax0,Ape p a _ F0,Aa,iI,gX,e1,X4];by_cases h1:Gt p a (min 48 (N-a))<min 48 (N-a)
 ·rw[Aa8 F7,Aa8 h1,Aj (a:=(a:Int)) F0 F0,show Ae (0:Int) 1=1 by decide,Aj];congr 3;omega
 ·rw[Aa2 F7,Aa2 h1,iC,gS];by_cases h2:Gt p a (min 48 (N-a))=48
  ·rw[Aa8 (by rw[Ay,h2];rfl),Aa8 h2,h2,Aj (a:=(a:Int)) F0 F0,Aj];congr 3;omega
  ·rw[Aa2 Ax4,Aa2 h2];rfl
theorem I6(p:LB):∀(m a:Nat),Gt p a m<m->Kf p (a+Gt p a m)≠1
 |0,_,h=>by simp[Gt]at h
 |m+1,a,h=>by
  by_cases hb:Kf p a=1
  ·rw[Gt,Aa8 hb]at h⊢;have:=I6 p m (a+1) F0;rwa [show a+(1+Gt p (a+1) m)=a+1+Gt p (a+1) m by omega]
  ·rw[Gt,Aa2 hb];exact hb
theorem G6(p:LB):∀(m a k:Nat),k<Gt p a m->Kf p (a+k)=1
 |0,a,k,h=>by simp[Gt]at h
 |m+1,a,k,h=>by
  by_cases hb:Kf p a=1
  ·rw[Gt,Aa8 hb]at h;cases k with
   |zero=>exact hb
   |succ k=>
    have:=G6 p m (a+1) k F0;rwa [show a+(k+1)=a+1+k by omega]
  ·rw[Gt,Aa2 hb]at h;omega
def unR(p:LB)(N a:Nat):Int×Int:=if(X4 p N a).2.2=0 then((X4 p N a).1,(X4 p N a).2.1)else(-1,0)
theorem yQ{p:LB}{N:Nat}(h:okB p N)(a:Nat)(ha:a<N):∀(j k q:Nat),k+j=Gt p a (min 48 (N-a))->j<q->Lg (a:Int) p (N:Int) q (k:Int)=some (unR p N a)
 |0,k,q+1,hk,_=>by
  obtain⟨hN,hl,hz⟩:=h;have hle:=RY p (min 48 (N-a)) a;have hk':k=Gt p a (min 48 (N-a)):=F0
  have e1:Ae (a:Int) (k:Int)=((a+k:Nat):Int):=by rw[Aj];omega
  have hend:Yl (a:Int) (k:Int) p (N:Int)=some (unR p N a):=by
   rw[Yl,MP,e1];by_cases h48:k=48
   ·have hu:X4 p N a=(48,((a+48:Nat):Int),0):=by rw[X4,<-hk',Aa2 F0,Aa8 h48]
    rw[Aa8 (by rw[Ay,h48];rfl),unR,hu,h48];rfl
   ·rw[Aa2 Ax4];by_cases hN2:N<=a+k
    ·have hu:X4 p N a=(0,0,24):=by rw[X4,<-hk',Aa2 F0,Aa2 h48]
     rw[Aa8 Ax2,unR,hu];rfl
    ·have hu:X4 p N a=(((k:Nat):Int),((a+k+1:Nat):Int),0):=by rw[X4,<-hk',Aa8 F0]
     rw[Aa2 Ax2,unR,hu,Aj];rfl
  rw[Lg,Yh,e1];by_cases hc:a+k<N/\k<48
  ·have hb:=Yv p (a+k);have hs:=I6 p (min 48 (N-a)) a F0;rw[<-hk']at hs;rw[Aa8 Ayf,oG p _ (a+k) F0 F0,Aa,Aa2 Ax4,hend]
  ·rw[Aa2 Ayf,hend]
 |j+1,k,q+1,hk,hq=>by
  obtain⟨hN,hl,hz⟩:=h;have hle:=RY p (min 48 (N-a)) a;have hb:=G6 p (min 48 (N-a)) a k F0;have e1:Ae (a:Int) (k:Int)=((a+k:Nat):Int):=by rw[Aj];omega
  rw[Lg,Yh,e1,Aa8 Ayf,oG p _ (a+k) F0 F0,Aa,hb,Aa8 F4,Aj];exact yQ ⟨hN,hl,hz⟩ a ha j (k+1) q F0 F0
theorem Aij(h:okB p N)(a:Nat)(ha:a<N):UI p (N:Int) (a:Int)=some (unR p N a):=by
 have hle:=RY p (min 48 (N-a)) a;have:=yQ h a ha (Gt p a (min 48 (N-a))) 0 Ba F0 F9;exact this
theorem Ai1(h:Gt p a (min 48 (N-a))<min 48 (N-a)):X4 p N a=(((Gt p a (min 48 (N-a)):Nat):Int),((a+Gt p a (min 48 (N-a))+1:Nat):Int),0):=by rw[X4,Aa8 h]
theorem Aka(h:¬Gt p a (min 48 (N-a))<min 48 (N-a))(h2:Gt p a (min 48 (N-a))=48):X4 p N a=(48,((a+48:Nat):Int),0):=by rw[X4,Aa2 h,Aa8 h2]
theorem Ah4(h:¬Gt p a (min 48 (N-a))<min 48 (N-a))(h2:¬Gt p a (min 48 (N-a))=48):X4 p N a=(0,0,24):=by rw[X4,Aa2 h,Aa2 h2]
theorem Afg(h:okB p N)(a:Nat)(ha:N<=a):HF p (N:Int) (a:Int)=some (0,0,24):=by
 rw[HF,Za,NT h,Aa,Aa2 Ax0,Aa2 Ax6,Aa8 Ax2]
def RK(p:LB)(N a k:Nat):UInt32×Int×Int:=
 if N<=a then(0,0,24)else
 if Gt p a (min 48 (N-a))<min 48 (N-a)then
  (if N<a+Gt p a (min 48 (N-a))+1+k then(0,0,24)else(UInt32.ofNat (Gt p a (min 48 (N-a))*2^k+Cs p (a+Gt p a (min 48 (N-a))+1) k),((a+Gt p a (min 48 (N-a))+1+k:Nat):Int),0))
 else if Gt p a (min 48 (N-a))=48 then
  (if N<a+48+32 then(0,0,24)else if Cs p (a+48) 32/2^k<48 then(0,0,12)else(UInt32.ofNat (Cs p (a+48) 32),((a+48+32:Nat):Int),0))
 else(0,0,24)
theorem lX(h:n<=32):(Ad (Vh p a n):UInt32)=UInt32.ofNat (Cs p a n):=by
 have e:(Ad (Vh p a n):UInt32)=UInt32.ofNat (Vh p a n).toNat:=by simp only[Ad,Iy,Eu]
 rw[e,ES p a n F0]
theorem XA(h:n<4294967296):(UInt32.ofNat n).toNat=n:=by rw[Apw];exact Adn h
theorem ko(p:LB)(a:Nat)(h:n<=32):Cs p a n<4294967296:=by
 have h1:=Rc p n a;have h2:2^n<=2^32:=Ahg F0 h;omega
theorem Ar7{q v:Nat}(hq:q<48)(hv:v<2^k)(hk:k<=24):sK (Dy (Ad (q:Int):UInt32) k) (UInt32.ofNat v)=UInt32.ofNat (q*2^k+v):=by
 have hp:2^k<=2^24:=Ahg F0 hk;have h1:q*2^k<=47*2^24:=Aut F0 hp;rw[Anq];apply UInt32.toNat_inj.1;rw[UInt32.toNat_or,tQ,J3,XA F0,XA (n:=v) F0,Adn F0,Arn q,<-Atq hv,XA (by rw[Arn];omega)]
theorem Anl(h:okB p N)(a k:Nat)(hk:k<=24):fL p (N:Int) (a:Int) (k:Int)=some (RK p N a k):=by
 have hN:=h.1;rw[fL,mO,NT h,Aa,Aa2 Ax0,Aa2 Ax5];by_cases ha:N<=a
 ·rw[Afg h a ha,Aa,RK,Aa8 ha];rfl
 have hle:=RY p (min 48 (N-a)) a;rw[Aj8 h a F0,Aa];by_cases h1:Gt p a (min 48 (N-a))<min 48 (N-a)
 ·have hS:RK p N a k=if N<a+Gt p a (min 48 (N-a))+1+k then(0,0,24)else(UInt32.ofNat (Gt p a (min 48 (N-a))*2^k+Cs p (a+Gt p a (min 48 (N-a))+1) k),((a+Gt p a (min 48 (N-a))+1+k:Nat):Int),0):=by rw[RK,Aa2 ha,Aa8 h1]
  rw[Ai1 h1,hS];generalize Gt p a (min 48 (N-a))=q at*
  simp only;rw[Aa2 Ax0,Aa2 Ax4,YJ,XS,pZ h _ k F0,Aa];by_cases h2:N<a+q+1+k
  ·rw[Aa8 h2,Aa8 h2];rfl
  ·rw[Aa2 h2,Aa2 h2];simp only;have z:(GI.toZ (k:Int)).toNat=k:=rfl;rw[Aa2 Ax0,Aa8 F7,Dg Ax8,Aa,z,lX F0,Ar7 F0 (Rc _ _ _) hk,Aj];rfl
 ·by_cases h2:Gt p a (min 48 (N-a))=48
  ·have hS:RK p N a k=if N<a+48+32 then(0,0,24)else if Cs p (a+48) 32/2^k<48 then(0,0,12)else(UInt32.ofNat (Cs p (a+48) 32),((a+48+32:Nat):Int),0):=by rw[RK,Aa2 ha,Aa2 h1,Aa8 h2]
   have hg:=pZ h (a+48) 32 F0;rw[Aka h1 h2,hS];simp only;rw[Aa2 Ax0,Aa8 Ayg,YJ,XS];refine Avk (congrArg (λo=>Option.bind o _) hg) ?_;rw[Aa];by_cases h3:N<a+48+32
   ·rw[Aa8 h3,Aa8 h3];rfl
   ·rw[Aa2 h3,Aa2 h3];simp only;have z:(GI.toZ (k:Int)).toNat=k:=rfl;have hv:=ko p (a+48) (n:=32) F0;rw[Aa2 Ax0,Aa2 Ax6,NI,Dg Ax8,Aa,Aa,z,lX F0,Am3];have e:(decide ((48:UInt32).toNat<= (Cq (UInt32.ofNat (Cs p (a+48) 32)) k).toNat))=decide (¬Cs p (a+48) 32/2^k<48):=by
     rw[UF,XA hv];simp
    rw[e];by_cases h4:Cs p (a+48) 32/2^k<48
    ·rw[Aa8 (by simp[h4]),Aa8 h4]
    ·rw[Aa2 F6,Aa2 h4,Aj];rfl
  ·rw[Ah4 h1 h2,RK,Aa2 ha,Aa2 h1,Aa2 h2];rfl
theorem xF(k:Nat)(hk:k<=63):∀(j i q:Nat),i+j=k->j<q->Ja (k:Int) q (UInt64.ofNat (2^i)) (i:Int)=some (UInt64.ofNat (2^k))
 |0,i,q+1,hi,_=>by
  rw[Ja,Tw,Aa2 F7,show i=k by omega];rfl
 |j+1,i,q+1,hi,hq=>by
  have e:Bo (UInt64.ofNat (2^i)) (2:UInt64)=UInt64.ofNat (2^(i+1)):=by
   rw[JI,Asd,UInt64.ofNat_mul];rfl
  rw[Ja,Tw,Aa8 F7,Aj,e];exact xF k hk j (i+1) q F0 F0
theorem JK(k:Nat)(hk:k<=63):Fv (k:Int)=some (UInt64.ofNat (2^k)):=
 xF k hk k 0 Ba F0 F9
theorem RT(hk:k<=63):(UInt64.ofNat (2^k)).toNat=2^k:=by
 have hp:2^k<=2^63:=Ahg F0 hk;rw[Ajw,Adn F0]
theorem Amy(v:UInt32)(k:Nat)(hk:k<=24):CH v (k:Int)=some ((min 48 (v.toNat/2^k):Nat):Int):=by
 have hpos:0<2^k:=Av4 F0;have hv:=v.toNat_lt;rw[CH,JK k F0,Aa,Dg (by rw[MZ];simp only[Aw7,ne_eq,<-Aw1,RT (show k<=63 by omega)];simp),Aa];have e:(Cx (Ad v:UInt64) (UInt64.ofNat (2^k))).toNat=v.toNat/2^k:=by
  rw[nC,Axh,Ir,RT F0,Ajw,Adn F0]
 have hle:v.toNat/2^k<=v.toNat:=Asu _ _;have e2:Ha (48:UInt64) (Cx (Ad v:UInt64) (UInt64.ofNat (2^k)))=UInt64.ofNat (min 48 (v.toNat/2^k)):=by
  apply UInt64.toNat_inj.1;rw[Ajw,Adn F0];show(if _ then _ else _:UInt64).toNat=_;rw[show(GI.toZ (Cx (Ad v:UInt64) (UInt64.ofNat (2^k))))=((v.toNat/2^k:Nat):Int) by rw[Iy,e],show GI.toZ (48:UInt64)=48 from rfl];split
  ·rw[e];omega
  ·show 48=_;omega
 rw[e2,pW (by rw[Ajw,Adn]<;>omega),Ajw,Adn F0]
theorem Aig(h:okB p N)(a k:Nat)(hk:k<=24):HC p (N:Int) (a:Int) (k:Int)=some (RK p N a k):=by
 obtain⟨hN,hl,hz⟩:=h;have h:okB p N:=⟨hN,hl,hz⟩;rw[HC,MB];by_cases ha:N<=a
 ·rw[Aa8 Ax2,RK,Aa8 ha]
 have hle:=RY p (min 48 (N-a)) a;rw[Aa2 Ax2,Aij h a F0,Aa,unR];by_cases h1:Gt p a (min 48 (N-a))<min 48 (N-a)
 ·have hS:RK p N a k=if N<a+Gt p a (min 48 (N-a))+1+k then(0,0,24)else(UInt32.ofNat (Gt p a (min 48 (N-a))*2^k+Cs p (a+Gt p a (min 48 (N-a))+1) k),((a+Gt p a (min 48 (N-a))+1+k:Nat):Int),0):=by rw[RK,Aa2 ha,Aa8 h1]
  rw[Ai1 h1,hS];generalize Gt p a (min 48 (N-a))=q at*
  rw[Aa8 rfl];simp only;rw[Aa2 Ax4,Yj,Xz,Cf];by_cases h2:N<a+q+1+k
  ·rw[Aa8 Ayf,Aa8 h2]
  ·have hp:2^k<=2^24:=Ahg F0 hk;have hm:q*2^k<=47*2^24:=Aut F0 hp;have hv:=Rc p k (a+q+1);have e:(Ad (Ae (Bo (Ad (q:Int):UInt64) (UInt64.ofNat (2^k))) (Vh p (a+q+1) k)):UInt32)=UInt32.ofNat (q*2^k+Cs p (a+q+1) k):=by
    have e1:Ae (Bo (Ad (q:Int):UInt64) (UInt64.ofNat (2^k))) (Vh p (a+q+1) k)=UInt64.ofNat (q*2^k+Cs p (a+q+1) k):=by
     rw[JO,JI,Xh,Vh,UInt64.ofNat_add,UInt64.ofNat_mul]
    rw[e1];have e2:∀x:UInt64,(Ad x:UInt32)=UInt32.ofNat x.toNat:=λx=>by simp only[Ad,Iy,Eu]
    rw[e2,Ajw,Adn F0]
   rw[Aa2 Ayf,Aa2 h2,iQ p _ _ k F0 F0,Aa,Aa8 F7,JK k F0,Aa,e,Aj];rfl
 ·by_cases h2:Gt p a (min 48 (N-a))=48
  ·have hS:RK p N a k=if N<a+48+32 then(0,0,24)else if Cs p (a+48) 32/2^k<48 then(0,0,12)else(UInt32.ofNat (Cs p (a+48) 32),((a+48+32:Nat):Int),0):=by rw[RK,Aa2 ha,Aa2 h1,Aa8 h2]
   rw[Aka h1 h2,hS,Aa8 rfl];simp only;rw[Aa8 Ayg,Yj,Xz,Cf];by_cases h3:N<a+48+32
   ·rw[Aa8 Ayf,Aa8 h3]
   ·have hg:=iQ p (N:Int) (a+48) 32 F0 F0;have hv:=ko p (a+48) (n:=32) F0;rw[Aa2 Ayf,Aa2 h3];refine Avk (congrArg (λo=>Option.bind o _) hg) ?_;rw[Aa,Aa2 Ax6,lX F0,Amy _ k hk,Aa,XA hv];by_cases h4:Cs p (a+48) 32/2^k<48
    ·rw[Aa8 F7,Aa8 h4]
    ·rw[Aa2 F7,Aa2 h4,Aj];rfl
  ·rw[Ah4 h1 h2,RK,Aa2 ha,Aa2 h1,Aa2 h2];have e:(if((0:Int),(0:Int),(24:Int)).2.2=0 then(((0:Int),(0:Int),(24:Int)).1,((0:Int),(0:Int),(24:Int)).2.1)else((-1:Int),(0:Int)))=(-1,0):=F4
   rw[e];rfl
theorem Aq2{v:UInt32}{n:Int}(h:RK p N a k=(v,n,0)):(a:Int)<n/\n<=N:=by
 unfold RK at h;split at h
 ·simp at h
 split at h
 ·split at h
  ·simp at h
  ·simp only[Ahf]at h;omega
 ·split at h
  ·split at h
   ·simp at h
   ·split at h
    ·simp at h
    ·simp only[Ahf]at h;omega
  ·simp at h
def okD(k l:Nat)(s t:UInt64):Prop:=k<=24/\l<=24/\s.toNat<=68719476735/\t.toNat<=68719476735
theorem lq(a b:UInt64)(h:a.toNat<=b.toNat):Ha a b=a:=by
 show(if _ then _ else _)=_;rw[Iy,Iy,Aa2 F0]
theorem lD(a:UInt64):geq a a=true:=by rw[sY];simp
theorem Aqp(h:okD k l s t):QF (k:Int) (l:Int) s t=some 0:=by
 obtain⟨h1,h2,h3,h4⟩:=h;have e1:Ha (aE (k:Int) 0) 24=(k:Int):=by rw[GK,pO];omega
 have e2:Ha (aE (l:Int) 0) 24=(l:Int):=by rw[GK,pO];omega
 have e3:Ha s (68719476735:UInt64)=s:=lq _ _ (by simpa using h3);have e4:Ha t (68719476735:UInt64)=t:=lq _ _ (by simpa using h4);have e5:∀a:Int,geq a a=true:=λa=>by rw[Ay];simp
 rw[QF,HU,TU,HO,TC,gN,e1,e2,e3,e4,e5,e5,lD,lD];rfl
def EW(s n:UInt64):UInt64:=s+n-s/16
def kS(k:Nat)(s:UInt64):Nat:=if 0<k/\s.toNat<2^(k+4)then k-1 else if k<24/\2^(k+5)<s.toNat then k+1 else k
theorem Ap7(h:k<=24)(s:UInt64):kS k s<=24:=by
 unfold kS;by_cases h1:0<k/\s.toNat<2^(k+4)
 ·rw[Aa8 h1];omega
 ·rw[Aa2 h1];split<;>omega
theorem Acu(h:¬(0<k/\s.toNat<2^(k+4))):(if k<24/\2^(k+5)<s.toNat then((k+1:Nat):Int)else(k:Int))=((kS k s:Nat):Int):=by
 rw[kS,Aa2 h];split<;>rfl
theorem Acw{n:UInt64}(h:s.toNat<=68719476735)(hn:n.toNat<=4294967295):(EW s n).toNat<=68719476735:=by
 have h1:=s.toNat_lt;have e:(s+n).toNat=s.toNat+n.toNat:=by rw[UInt64.toNat_add];omega
 have e2:(s/16).toNat=s.toNat/16:=by rw[Axh];rfl
 rw[EW,UInt64.toNat_sub_of_le _ _ (by rw[UInt64.le_iff_toNat_le,e,e2];omega),e,e2];omega
theorem tR(s n:UInt64):Ae s (Am n (Cq s (GI.toZ (4:UInt64)).toNat))=EW s n:=by
 have e:Cq s (GI.toZ (4:UInt64)).toNat=s/16:=by
  apply UInt64.toNat_inj.1;rw[KF,Axh];rfl
 rw[e,JO,zC,EW,UInt64.sub_eq_add_neg,UInt64.sub_eq_add_neg,UInt64.add_assoc]
theorem Ac4(s n:UInt64):Am (Ae s n) (Cx s (16:UInt64))=EW s n:=by rw[JO,zC,nC,EW]
theorem Atc(h:k<=24):(Dy (16:UInt64) k).toNat=2^(k+4):=by
 have hp:2^k<=2^24:=Ahg F0 h;rw[VX,Axf]
 show 16*2^k %_=2^k*16;rw[Adn F0,Arn]
theorem Asf(h:k<=24):(Dy (32:UInt64) k).toNat=2^(k+5):=by
 have hp:2^k<=2^24:=Ahg F0 h;rw[VX,Axf]
 show 32*2^k %_=2^k*32;rw[Adn F0,Arn]
theorem Apz(h:0<k)(h2:s.toNat<2^(k+4)):kS k s=k-1:=by rw[kS,Aa8 ⟨h,h2⟩]
theorem Aqc(h:¬(0<k/\s.toNat<2^(k+4)))(h2:k<24)(h3:2^(k+5)<s.toNat):kS k s=k+1:=by rw[kS,Aa2 h,Aa8 ⟨h2,h3⟩]
theorem Ac1(h:¬(0<k/\s.toNat<2^(k+4)))(h2:¬(k<24/\2^(k+5)<s.toNat)):kS k s=k:=by rw[kS,Aa2 h,Aa2 h2]
theorem Aqd{α:Type}(k:Nat)(hk:k<=24)(s:UInt64)(f:Int->Option α):
  (if(Dm (k:Int) (0:Int))=true then(
   Option.bind (Jm (Mf (k:Int) (0:Int))) λ_=>
   if(Cm s (Dy (16:UInt64) (GI.toZ (k:Int)).toNat))=true then f (Am (k:Int) (1:Int))
   else(if(Cm (k:Int) (24:Int))=true then(
    Option.bind (Jm (Mf (k:Int) (0:Int))) λ_=>
    if(Dm s (Dy (32:UInt64) (GI.toZ (k:Int)).toNat))=true then f (Ae (k:Int) (1:Int))else f (k:Int))
    else f (k:Int)))
  else(if(Cm (k:Int) (24:Int))=true then(
    Option.bind (Jm (Mf (k:Int) (0:Int))) λ_=>
    if(Dm s (Dy (32:UInt64) (GI.toZ (k:Int)).toNat))=true then f (Ae (k:Int) (1:Int))else f (k:Int))
    else f (k:Int)))=f ((kS k s:Nat):Int):=by
 have z:(GI.toZ (k:Int)).toNat=k:=rfl;rw[z,Dg Ax8];simp only[Aa];rw[tF,SB,Atc hk,Asf hk];by_cases h0:0<k
 ·rw[Aa8 Ax1];by_cases h1:s.toNat<2^(k+4)
  ·rw[Aa8 (by simp[h1]),Apz h0 h1,Cf];congr 1;omega
  ·rw[Aa2 F6];by_cases h2:k<24
   ·rw[Aa8 F7];by_cases h3:2^(k+5)<s.toNat
    ·rw[Aa8 (by simp[h3]),Aqc (λh=>h1 h.2) h2 h3,Aj];rfl
    ·rw[Aa2 F6,Ac1 (λh=>h1 h.2) (λh=>h3 h.2)]
   ·rw[Aa2 F7,Ac1 (λh=>h1 h.2) (λh=>h2 h.1)]
 ·rw[Aa2 Ax1];by_cases h2:k<24
  ·rw[Aa8 F7];by_cases h3:2^(k+5)<s.toNat
   ·rw[Aa8 (by simp[h3]),Aqc (λh=>h0 h.1) h2 h3,Aj];rfl
   ·rw[Aa2 F6,Ac1 (λh=>h0 h.1) (λh=>h3 h.2)]
  ·rw[Aa2 F7,Ac1 (λh=>h0 h.1) (λh=>h2 h.1)]
theorem Ad5(k:Nat)(hk:k<=24)(s n:UInt64):Uk (k:Int) s n=some (((kS k (EW s n):Nat):Int),EW s n):=by
 have g1:Ae (k:Int) 4=((k+4:Nat):Int):=by rw[Aj];omega
 have g2:Ae (k:Int) 5=((k+5:Nat):Int):=by rw[Aj];omega
 have hp:Vg (k:Int) s n=some (if k<24/\2^(k+5)<(EW s n).toNat then((k+1:Nat):Int)else(k:Int),EW s n):=by
  rw[Vg,KE,g2,JK _ F0,Aa,Ac4,SB,RT F0];by_cases h2:k<24
  ·rw[Aa8 F7];by_cases h3:2^(k+5)<(EW s n).toNat
   ·rw[Aa8 (by simp[h3]),Aa8 ⟨h2,h3⟩,Aj];rfl
   ·rw[Aa2 F6,Aa2 (λh=>h3 h.2)]
  ·rw[Aa2 F7,Aa2 (λh=>h2 h.1)]
 rw[Uk,IZ,g1,JK _ F0,Aa,Ac4,tF,RT F0,hp];by_cases h0:0<k
 ·rw[Aa8 Ax1];by_cases h1:(EW s n).toNat<2^(k+4)
  ·rw[Aa8 (by simp[h1]),Apz h0 h1,Cf];congr 2;omega
  ·rw[Aa2 F6,Acu (λh=>h1 h.2)]
 ·rw[Aa2 Ax1,Acu (λh=>h0 h.1)]
def T0(v:UInt32):UInt64:=UInt64.ofNat v.toNat
theorem Ais(v:UInt32):(T0 v).toNat<=4294967295:=by have:=v.toNat_lt;rw[T0,Ajw,Adn F0];omega
def rG(k:Nat)(v:UInt32):UInt32:=UInt32.ofNat (v.toNat-2^k)
def lK(l:Nat)(t:UInt64)(k:Nat)(v:UInt32):Nat:=if v.toNat<2^k then l else kS l (EW t (T0 (rG k v)))
def lT(t:UInt64)(k:Nat)(v:UInt32):UInt64:=if v.toNat<2^k then t else EW t (T0 (rG k v))
theorem Ahv(h:okD k l s t)(v:UInt32):okD (kS k (EW s (T0 v))) (lK l t k v) (EW s (T0 v)) (lT t k v):=by
 obtain⟨h1,h2,h3,h4⟩:=h;refine⟨Ap7 h1 _,?_,Acw h3 (Ais v),?_⟩
 ·unfold lK;split; · exact h2
  exact Ap7 h2 _
 ·unfold lT;split; · exact h4
  exact Acw h4 (Ais _)
theorem Arj(k l:Nat)(s t:UInt64)(hk:k<=24)(v:UInt32):GV (k:Int) (l:Int) s t v=some (decide (v.toNat<2^k)):=by
 have:=v.toNat_lt;rw[GV,JK k F0,Aa,tF,RT F0,Ir,Ajw,Adn F0]
theorem left_eq(k l:Nat)(s t:UInt64)(hk:k<=24)(v:UInt32)(h:¬v.toNat<2^k):DN (k:Int) (l:Int) s t v=some (rG k v):=by
 have:=v.toNat_lt;have e2:∀x:UInt64,(Ad x:UInt32)=UInt32.ofNat x.toNat:=λx=>by simp only[Ad,Iy,Eu]
 have e3:(UInt64.ofNat v.toNat).toNat=v.toNat:=by rw[Ajw,Adn F0]
 rw[DN,JK k F0,Aa,e2,zC,Ir,UInt64.toNat_sub_of_le _ _ (by rw[UInt64.le_iff_toNat_le,RT F0,e3];omega),RT F0,e3,rG]
theorem Agt(h:okD k l s t)(v:UInt32):Xr (k:Int) (l:Int) s t v=some (((kS k (EW s (T0 v)):Nat):Int),((lK l t k v:Nat):Int),EW s (T0 v),lT t k v):=by
 obtain⟨h1,h2,h3,h4⟩:=h;have hp:∀(r1:Int) (r2:UInt64),Ra v (k:Int) (l:Int) s t r1 r2=some (((kS k (EW s (T0 v)):Nat):Int),r1,EW s (T0 v),r2):=by
  intro r1 r2;rw[Ra,EA,Ir,Ad5 k h1,Aa];rfl
 rw[Xr,CN,Arj k l s t h1,Aa];by_cases hv:v.toNat<2^k
 ·rw[Aa2 (by simp[hv]),hp,lK,Aa8 hv,lT,Aa8 hv]
 ·rw[Aa8 F6,left_eq k l s t h1 v hv,Aa,Ir,Ad5 l h2,Aa];simp only;rw[hp,lK,Aa2 hv,lT,Aa2 hv];rfl
theorem Aiy(k l:Nat)(s t:UInt64)(hk:k<=24)(v:UInt32):HH (k:Int) (l:Int) s t v=some (if v.toNat<2^k then(0,v)else(1,rG k v)):=by
 have hp:2^k<=2^24:=Ahg F0 hk;have hpos:0<2^k:=Av4 F0;have hl:=v.toNat_lt;have z:(GI.toZ (k:Int)).toNat=k:=rfl;have e1:geq (Cq v k) (0:UInt32)=decide (v.toNat<2^k):=by
  rw[M8,Alp];simp only[Asv,<-UInt32.toNat_inj,UF,Abi]
  show _/_=0↔_;rw[Nat.div_eq_zero_iff];omega
 have e2:¬v.toNat<2^k->Am v (Dy (1:UInt32) k)=rG k v:=by
  intro h;have e3:(Dy (1:UInt32) k).toNat=2^k:=by rw[tQ];show 1*2^k %_=_;rw[Adn F0,Nat.one_mul]
  apply UInt32.toNat_inj.1;rw[X8,UInt32.toNat_sub_of_le _ _ (by rw[UInt32.le_iff_toNat_le,e3];omega),e3,rG,XA F0]
 rw[HH,Dg Ax8,Aa,Aa,z,e1];by_cases h:v.toNat<2^k
 ·rw[Aa8 (by simp[h]),Aa8 h]
 ·rw[Aa2 F6,Aa2 h,e2 h]
abbrev Rd:=UInt32×Int×Int×Int×UInt64×UInt64×Int
theorem uK(h:okD k l s t)(v:UInt32)(r:Int):XB (k:Int) (l:Int) s t v r=some (v,r,((kS k (EW s (T0 v)):Nat):Int),((lK l t k v:Nat):Int),EW s (T0 v),lT t k v,0):=by
 obtain⟨h1,h2,h3,h4⟩:=h;have hp:∀(x:Int) (y:UInt64),EO v r (k:Int) s x y=some (v,r,((kS k (EW s (T0 v)):Nat):Int),x,EW s (T0 v),y,0):=by
  intro x y;rw[EO,nO,Ir,tR,Aqd k h1];rw[kW,mY,gV,gM,Ir,tR];rfl
 rw[XB,WW,Aiy k l s t h1,Aa];by_cases hv:v.toNat<2^k
 ·rw[Aa8 hv];simp only;rw[Aa2 Ayn,hp,lK,Aa8 hv,lT,Aa8 hv]
 ·rw[Aa2 hv];simp only;rw[Aa8 Ayg,Ir,tR,Aqd l h2 _ (λx=>EO v r (k:Int) s x (EW t (UInt64.ofNat (rG k v).toNat))),hp,lK,Aa2 hv,lT,Aa2 hv];rfl
def WY(p:LB)(N a k l:Nat):UInt32×Int×Int:=
 if N<=a then(0,0,24)else
 if Kf p a=0 then(if N<a+1+k then(0,0,24)else(UInt32.ofNat (Cs p (a+1) k),((a+1+k:Nat):Int),0))else
 if(RK p N (a+1) l).2.2≠0 then(0,0,(RK p N (a+1) l).2.2)else
 if 4294967295<(RK p N (a+1) l).1.toNat+2^k then(0,0,12)else(UInt32.ofNat ((RK p N (a+1) l).1.toNat+2^k),(RK p N (a+1) l).2.1,0)
theorem Arv(h:(WY p N a k l).2.2=0):(a:Int)<(WY p N a k l).2.1/\ (WY p N a k l).2.1<=N:=by
 revert h
 unfold WY;split
 ·simp
 split
 ·split
  ·simp
  ·simp only;omega
 ·split
  ·intro h;contradiction
  ·rename_i h1;split
   ·simp
   ·intro _;have:=Aq2 (p:=p) (N:=N) (a:=a+1) (k:=l) (v:=(RK p N (a+1) l).1) (n:=(RK p N (a+1) l).2.1) (by
     have e:(RK p N (a+1) l).2.2=0:=by simpa using h1
     rw[<-e])
    simp only;omega
theorem Ani(h:okB p N)(a:Nat)(hd:okD k l s t):GX p (N:Int) (a:Int) (k:Int) (l:Int) s t=
  some (if(WY p N a k l).2.2≠0 then(0,0,0,0,0,0,(WY p N a k l).2.2)else((WY p N a k l).1,(WY p N a k l).2.1,((kS k (EW s (T0 (WY p N a k l).1)):Nat):Int),((lK l t k (WY p N a k l).1:Nat):Int),EW s (T0 (WY p N a k l).1),lT t k (WY p N a k l).1,0)):=by
 obtain⟨h1,h2,h3,h4⟩:=hd;have hd:okD k l s t:=⟨h1,h2,h3,h4⟩;have hN:=h.1;have hg:=pZ h a 1 F0;have hb:=Yv p a;rw[GX,YS,NT h,Aa,Aa2 Ax0,Aqp hd,Aa,Aa2 Ax0,nP,XH];refine Avk (congrArg (λo=>Option.bind o _) hg) ?_;rw[Aa];by_cases ha:N<=a
 ·have hS:WY p N a k l=(0,0,24):=by rw[WY,Aa8 ha]
  rw[Aa8 F0,hS];rfl
 rw[Aa2 F0];simp only;have e0:geq (Vh p a 1) (0:UInt64)=decide (Kf p a=0):=by
  rw[sY,Alp];simp only[Asv,<-Aw1,Abi,ES p a 1 F0,jo];rfl
 have e1:Ae (a:Int) 1=((a+1:Nat):Int):=by rw[Aj];omega
 rw[Aa2 Ax0,e0,e1];by_cases hz:Kf p a=0
 ·rw[Aa8 (by simp[hz]),pZ h (a+1) k F0,Aa];by_cases h5:N<a+1+k
  ·have hS:WY p N a k l=(0,0,24):=by rw[WY,Aa2 ha,Aa8 hz,Aa8 h5]
   rw[Aa8 h5,hS];rfl
  ·have hS:WY p N a k l=(UInt32.ofNat (Cs p (a+1) k),((a+1+k:Nat):Int),0):=by rw[WY,Aa2 ha,Aa8 hz,Aa2 h5]
   rw[Aa2 h5,hS];simp only;rw[Aa2 Ax0,uK hd,lX F0,Aj];rfl
 ·rw[Aa2 (by simp[hz]),Anl h (a+1) l h2,Aa];have hp:2^k<=2^24:=Ahg F0 h1;by_cases h5:(RK p N (a+1) l).2.2≠0
  ·have hS:WY p N a k l=(0,0,(RK p N (a+1) l).2.2):=by rw[WY,Aa2 ha,Aa2 hz,Aa8 h5]
   rw[hS];generalize RK p N (a+1) l=R at*
   obtain⟨v,n,e⟩:=R;simp only at*
   rw[Aa8 (by rw[Ao];simpa using h5),Aa8 h5]
  ·have hv:=(RK p N (a+1) l).1.toNat_lt;have z:(GI.toZ (k:Int)).toNat=k:=rfl;have e3:(Dy (1:UInt32) k).toNat=2^k:=by rw[tQ];show 1*2^k %_=_;rw[Adn F0,Nat.one_mul]
   by_cases h6:4294967295<(RK p N (a+1) l).1.toNat+2^k
   ·have hS:WY p N a k l=(0,0,12):=by rw[WY,Aa2 ha,Aa2 hz,Aa2 h5,Aa8 h6]
    rw[hS];generalize RK p N (a+1) l=R at*
    obtain⟨v,n,e⟩:=R;simp only at*
    rw[Aa2 (by rw[Ao];simpa using h5),Dg Ax8,Aa,z,Aa8 (by rw[Acx,tO,UInt32.toNat_add,e3];simp;omega),Aa8 F4]
   ·have hS:WY p N a k l=(UInt32.ofNat ((RK p N (a+1) l).1.toNat+2^k),(RK p N (a+1) l).2.1,0):=by rw[WY,Aa2 ha,Aa2 hz,Aa2 h5,Aa2 h6]
    rw[hS];generalize RK p N (a+1) l=R at*
    obtain⟨v,n,e⟩:=R;simp only at*
    have e4:Ae v (Dy (1:UInt32) k)=UInt32.ofNat (v.toNat+2^k):=by
     apply UInt32.toNat_inj.1;rw[tO,UInt32.toNat_add,e3,XA F0,Adn F0]
    rw[Aa2 (by rw[Ao];simpa using h5),Dg Ax8,Aa,z,Aa2 (by rw[Acx,tO,UInt32.toNat_add,e3];simp;omega),e4,uK hd];rfl
theorem Akq(h:okB p N)(a:Nat)(k l:Nat)(s t:UInt64)(h1:k<=24)(h2:l<=24):GY p (N:Int) (a:Int) (k:Int) (l:Int) s t=some (WY p N a k l):=by
 have hN:=h.1;have hl:=h.2.1;have hb:=Yv p a;rw[GY];by_cases ha:N<=a
 ·rw[Aa8 Ax2,WY,Aa8 ha]
 rw[Aa2 Ax2,oG p _ a F0 F0,Aa,Cf (a:=(N:Int)) (b:=(a:Int)) F0 F0,Cf];have e1:Ae (a:Int) 1=((a+1:Nat):Int):=by rw[Aj];omega
 rw[e1];by_cases hz:Kf p a=0
 ·rw[Aa8 (by rw[Ay];simp[hz])];by_cases h5:N<a+1+k
  ·rw[Aa8 F7,WY,Aa2 ha,Aa8 hz,Aa8 h5]
  ·rw[Aa2 F7,iQ p _ (a+1) k F0 F0,Aa,WY,Aa2 ha,Aa8 hz,Aa2 h5,lX F0,Aj];rfl
 ·rw[Aa2 Ax4,Aig h (a+1) l h2,Aa];have hp:2^k<=2^24:=Ahg F0 h1;have hv:=(RK p N (a+1) l).1.toNat_lt;have e2:∀x:UInt64,(Ad x:UInt32)=UInt32.ofNat x.toNat:=λx=>by simp only[Ad,Iy,Eu]
  by_cases h5:(RK p N (a+1) l).2.2≠0
  ·have hS:WY p N a k l=(0,0,(RK p N (a+1) l).2.2):=by rw[WY,Aa2 ha,Aa2 hz,Aa8 h5]
   rw[hS];generalize RK p N (a+1) l=R at*
   obtain⟨v,n,e⟩:=R;simp only at*
   rw[Aa8 (by rw[Ao];simpa using h5)]
  ·have hsum:∀v:UInt32,(Ae (Ad v:UInt64) (UInt64.ofNat (2^k))).toNat=v.toNat+2^k:=by
    intro v;have:=v.toNat_lt;have:=Av4 (n:=k) (show 0<2 by omega);rw[JO,UInt64.toNat_add,Ir,RT F0,Ajw];omega
   by_cases h6:4294967295<(RK p N (a+1) l).1.toNat+2^k
   ·have hS:WY p N a k l=(0,0,12):=by rw[WY,Aa2 ha,Aa2 hz,Aa2 h5,Aa8 h6]
    rw[hS];generalize RK p N (a+1) l=R at*
    obtain⟨v,n,e⟩:=R;simp only at*
    rw[Aa2 (by rw[Ao];simpa using h5),JK k F0,Aa,Aa8 (by rw[SB,hsum];simpa using h6)]
   ·have hS:WY p N a k l=(UInt32.ofNat ((RK p N (a+1) l).1.toNat+2^k),(RK p N (a+1) l).2.1,0):=by rw[WY,Aa2 ha,Aa2 hz,Aa2 h5,Aa2 h6]
    rw[hS];generalize RK p N (a+1) l=R at*
    obtain⟨v,n,e⟩:=R;simp only at*
    rw[Aa2 (by rw[Ao];simpa using h5),JK k F0,Aa,Aa2 (by rw[SB,hsum];simpa using h6),e2,hsum]
theorem Ax3{p:Prop}(h:p:=by rw[Ao];simp;omega):p:=h
theorem Ayc{p:Prop}(h:p:=by rw[<-Ato];omega):p:=h
end Go.Pl
namespace Go.Pl
open Go Go.Lv
variable{out v:LU}
abbrev DuN:=Nat×Nat×UInt64×UInt64
def okN(d:DuN):Prop:=okD d.1 d.2.1 d.2.2.1 d.2.2.2
def nxt(d:DuN)(v:UInt32):DuN:=(kS d.1 (EW d.2.2.1 (T0 v)),lK d.2.1 d.2.2.2 d.1 v,EW d.2.2.1 (T0 v),lT d.2.2.2 d.1 v)
def Q9:DuN:=(10,10,16384,16384)
theorem Ai3:okN Q9:=⟨F4,F4,F4,F4⟩
theorem Arz{d:DuN}(h:okN d)(v:UInt32):okN (nxt d v):=Ahv h v
abbrev DuL:=Int×Int×UInt64×UInt64×Unit
def toI(d:DuN):DuL:=((d.1:Int),(d.2.1:Int),d.2.2.1,d.2.2.2,())
def cZ(ch:Nat)(v:LU)(c:Nat):Nat->DuN
 |0=>Q9
 |m+1=>if m %ch=c then nxt (cZ ch v c m) (v.getD m 0)else cZ ch v c m
theorem oU(ch:Nat)(v:LU)(c:Nat):∀m,okN (cZ ch v c m)
 |0=>Ai3
 |m+1=>by rw[cZ];split;exact Arz (oU ch v c m) _;exact oU ch v c m
theorem Ad8(ch:Nat)(v w:LU)(c:Nat):∀m,m<=v.length->cZ ch (v++w) c m=cZ ch v c m
 |0,_=>rfl
 |m+1,h=>by
  have e:(v++w).getD m 0=v.getD m 0:=by simp[List.getD_eq_getElem?_getD,List.getElem?_append_left (show m<v.length by omega)]
  rw[cZ,cZ,Ad8 ch v w c m F0,e]
theorem M4(ch:Nat)(v:LU)(c:Nat):∀m,m<=c->c<ch->cZ ch v c m=Q9
 |0,_,_=>rfl
 |m+1,h,h2=>by rw[cZ,Aa2 (by rw[Adn F0];omega),M4 ch v c m F0 h2]
theorem qo(ch:Nat)(v:LU)(c i:Nat)(hi:i %ch=c)(hc:c<ch):∀j,j<ch->cZ ch v c (i+1+j)=cZ ch v c (i+1)
 |0,_=>rfl
 |j+1,h=>by
  have hne:(i+1+j) %ch≠c:=by
   intro e;have h1:(i+(1+j)) %ch=i %ch:=by rw[hi,<-e];congr 1;omega
   have h2:(1+j) %ch=0:=by
    have h3:=Nat.sub_mod_eq_zero_of_mod_eq h1;rwa [Av2]at h3
   rw[Adn F0]at h2;omega
  rw[show i+1+(j+1)=(i+1+j)+1 by omega,cZ,Aa2 hne,qo ch v c i hi hc j F0]
theorem Ajj(ch:Nat)(v:LU)(c i:Nat)(hi:i %ch=c)(hc:c<ch):cZ ch v c (i+ch)=nxt (cZ ch v c i) (v.getD i 0):=by
 have h:=qo ch v c i hi hc (ch-1) F0;rw[show i+1+(ch-1)=i+ch by omega]at h;rw[h,cZ,Aa8 hi]
theorem zD{l:LU}{k:Nat}(h:k<l.length):Ak l (k:Int)=some (l.getD k 0):=by
 rw[Ch h];simp[List.getD_eq_getElem?_getD,h]
theorem uJ(a b:Nat):Ho (a:Int) (b:Int)=((a %b:Nat):Int):=by rw[Ho,Awr F0];omega
theorem rV(ch:Nat)(v:LU)(hch:1<=ch)(Asw:ch<=6)(hv:v.length<=4000):∀(j i q:Nat),i %ch=v.length %ch->i<=v.length->v.length-i<=j->j<q->
  Lw (ch:Int) v q (i:Int) ((cZ ch v (v.length %ch) i).1:Int) ((cZ ch v (v.length %ch) i).2.1:Int) (cZ ch v (v.length %ch) i).2.2.1 (cZ ch v (v.length %ch) i).2.2.2=
   some (((cZ ch v (v.length %ch) v.length).1:Int),((cZ ch v (v.length %ch) v.length).2.1:Int),(cZ ch v (v.length %ch) v.length).2.2.1,(cZ ch v (v.length %ch) v.length).2.2.2)
 |j,i,q+1,hi,hl,hj,hq=>by
  have hc:v.length %ch<ch:=Avu _ F0;rw[Lw,DY];by_cases h:i<v.length
  ·have h1:=Agt (oU ch v (v.length %ch) i) (v.getD i 0);rw[Aa8 F2,zD h,Aa,h1,Aa];have hle:i+ch<=v.length:=by
    have h2:=Nat.div_add_mod i ch;have h3:=Nat.div_add_mod v.length ch;rw[hi]at h2;have h4:ch*(i/ch)<ch*(v.length/ch):=F0
    have h5:=Nat.lt_of_mul_lt_mul_left h4;have h6:ch*(i/ch+1)<=ch*(v.length/ch):=Nat.mul_le_mul_left _ h5;rw[Nat.mul_add]at h6;omega
   have ih:=rV ch v hch Asw hv (j-ch) (i+ch) q (by rw[Axo];exact hi) hle F0 F0;rw[Ajj ch v _ i hi hc]at ih;simp only;rw[Aj];exact ih
  ·rw[Aa2 F2,show i=v.length by omega];rfl
theorem Afz(ch:Nat)(v:LU)(hch:1<=ch)(Asw:ch<=6)(hv:v.length<=4000):Pm (ch:Int) v=some (((cZ ch v (v.length %ch) v.length).1:Int),((cZ ch v (v.length %ch) v.length).2.1:Int),(cZ ch v (v.length %ch) v.length).2.2.1,(cZ ch v (v.length %ch) v.length).2.2.2):=by
 have hc:v.length %ch<ch:=Avu _ F0;have hle:v.length %ch<=v.length:=Nat.mod_le _ _;have h:=rV ch v hch Asw hv v.length (v.length %ch) Ba (by rw[Nat.mod_mod]) hle F0 F9;rw[M4 ch v _ _ (Ap4 _) hc]at h;rw[Pm,DA,Mq,Aa];simp only;rw[Dg Ax3,Aa,Ac,uJ];exact h
def now(ch:Nat)(v:LU):DuN:=cZ ch v (v.length %ch) v.length
def tU(N a:Nat):Nat:=min 81 (N-a)
def Ls(ch:Nat)(p:LB)(N a:Nat)(out:LU):UInt32×Int×Int:=WY (GJ p a (tU N a)) (tU N a) 0 (now ch out).1 (now ch out).2.1
def Xg(ch:Nat)(p:LB)(N:Nat):Nat->Nat->LU->LU×Nat×Int
 |0,a,out=>(out,a,0)
 |j+1,a,out=>if(Ls ch p N a out).2.2≠0 then(out,a,(Ls ch p N a out).2.2)else Xg ch p N j (a+(Ls ch p N a out).2.1.toNat) (out++[(Ls ch p N a out).1])
theorem fG{ch:Nat}{p:LB}{N a:Nat}(h:(Ls ch p N a out).2.2=0):0<(Ls ch p N a out).2.1/\ (Ls ch p N a out).2.1<=tU N a:=by
 have:=Arv h;exact⟨this.1,this.2⟩
theorem J4{ch:Nat}{p:LB}{N a:Nat}(h:(Ls ch p N a out).2.2=0):((a:Int)+(Ls ch p N a out).2.1)=((a+(Ls ch p N a out).2.1.toNat:Nat):Int):=by
 have:=fG h;omega
def sts(ch:Nat)(v:LU):List DuL:=(List.range 6).map λc=>toI (cZ ch v c v.length)
theorem Ac8{ch:Nat}{c:Nat}(h:c<6):Ak (sts ch v) (c:Int)=some (toI (cZ ch v c v.length)):=by
 rw[Ch (by simp[sts];exact h)];simp[sts]
theorem Ao9{ch:Nat}{c:Nat}(x:UInt32)(h:c<6)(hc:c=v.length %ch):Lp (sts ch v) (c:Int) (toI (nxt (cZ ch v c v.length) x))=some (sts ch (v++[x])):=by
 rw[Yb _ (by simp[sts];exact h)];congr 1;apply Auy (by simp[sts]);intro i h1 h2;rw[Axi];simp only[sts,Aw2,Aw0];have e:(v++[x]).getD v.length 0=x:=by simp
 rw[Ac5,List.length_singleton,cZ,e,Ad8 ch v [x] i v.length (Ap4 _)];by_cases hi:c=i
 ·subst hi;rw[Aa8 rfl,Aa8 hc.symm]
 ·rw[Aa2 hi,Aa2 F0]
section
variable {p:LB} {N ch n:Nat}
theorem T8(hp:okB p N)(h1:1<=ch)(h6:ch<=6)(hn:n*ch<=4000):∀(j a q:Nat) (out:LU),out.length+j=n*ch->j<q->a<=N->
  Ml (ch:Int) (n:Int) p (N:Int) q (a:Int) (out.length:Int) (sts ch out) out=
   some (if(Xg ch p N j a out).2.2≠0 then([],0,(Xg ch p N j a out).2.2)else((Xg ch p N j a out).1,((Xg ch p N j a out).2.1:Int),0))
 |j,a,q+1,out,hj,hq,ha=>by
  have hN:=hp.1;have hnn:n<=n*ch:=Nat.le_mul_of_pos_right n F0;have em:Bo (n:Int) (ch:Int)=((n*ch:Nat):Int):=by rw[Hs Ayc Ayc,Ato]
  rw[Ml,Rq,em];cases j with
  |zero=>
   rw[Aa2 F7];rfl
  |succ j=>
   have hc:out.length %ch<6:=Anf (Avu _ F0) h6;have ew:Ha (Ae (a:Int) 81) (N:Int)=((a+tU N a:Nat):Int):=by rw[GK,Aj];unfold tU;omega
   have hw:a+tU N a<=N:=by unfold tU;omega
   have hw2:tU N a<=81:=by unfold tU;omega
   have hd:=Ani (Aco p a (tU N a) F0) 0 (oU ch out (out.length %ch) out.length);have Alw:WY (GJ p a (tU N a)) (tU N a) 0 (cZ ch out (out.length %ch) out.length).1 (cZ ch out (out.length %ch) out.length).2.1=Ls ch p N a out:=rfl;rw[Aa8 F7,ew,Aq9 hp a _ hw F0,Aa];simp only;rw[Aa2 Ax0,Dg Ax3,Aa,uJ,Ac8 hc,Aa,Aa];refine Avk (congrArg (λo=>Option.bind o _) hd) ?_;rw[Aa,Alw,Xg];by_cases he:(Ls ch p N a out).2.2≠0
   ·rw[Aa8 he,Aa8 he];simp only;rw[Re,Zt,Aa8 (by rw[Ao];simpa using he),Aa8 he]
   ·have he0:(Ls ch p N a out).2.2=0:=by simpa using he
    have hok:=fG he0;have hset:=Ao9 (ch:=ch) (v:=out) (Ls ch p N a out).1 hc rfl;rw[Aa2 he,Aa2 he];simp only;rw[Re,Zt,Aa2 Ax0,Dg Ax3,Aa,uJ,Ac8 hc,Aa];refine Avk (congrArg (λo=>Option.bind o _) hset) ?_;rw[Aa,OK,QE,Cy F6,Aa,Aj,Aj,J4 he0];have ih:=T8 hp h1 h6 hn j (a+(Ls ch p N a out).2.1.toNat) q (out++[(Ls ch p N a out).1]) F6 F0 F0;rw[Ac5,List.length_singleton]at ih;exact ih
theorem Aes{p:LB}(hN:N=8*p.length)(hN2:N<=330000)(h1:1<=ch)(h6:ch<=6)(hn:n*ch<=4000):∀(j a q:Nat) (out:LU),out.length+j=n*ch->j<q->a<=N->
  Fb (ch:Int) (n:Int) p q (a:Int) (out.length:Int) out=
   if(Xg ch p N j a out).2.2≠0 then some ((Xg ch p N j a out).1,(Xg ch p N j a out).2.2)else Tz ((Xg ch p N j a out).2.1:Int) p (Xg ch p N j a out).1
 |j,a,q+1,out,hj,hq,ha=>by
  have hnn:n<=n*ch:=Nat.le_mul_of_pos_right n F0;have em:Bo (n:Int) (ch:Int)=((n*ch:Nat):Int):=by rw[Hs Ayc Ayc,Ato]
  have e8:Bo (8:Int) (Ac p)=(N:Int):=by rw[Ac,Hs];omega
  rw[Fb,GC,em];cases j with
  |zero=>
   rw[Aa2 F7];rfl
  |succ j=>
   have ew:Ha (Ae (a:Int) 81) (N:Int)=((a+tU N a:Nat):Int):=by rw[GK,Aj];unfold tU;omega
   have hw:a+tU N a<=N:=by unfold tU;omega
   have hw2:tU N a<=81:=by unfold tU;omega
   have hpre:(Option.bind Mq λ(r_4,r_5,r_6,r_7)=>
     if(Mf (out.length:Int) (ch:Int))=true then(
     Option.bind (Pm (ch:Int) out) λ(r_8,r_9,r_10,r_11)=>
     Jd (Fb (ch:Int) (n:Int) p q) (ch:Int) (n:Int) p (a:Int) (out.length:Int) out r_8 r_9 r_10 r_11)
     else Jd (Fb (ch:Int) (n:Int) p q) (ch:Int) (n:Int) p (a:Int) (out.length:Int) out r_4 r_5 r_6 r_7)=
     Jd (Fb (ch:Int) (n:Int) p q) (ch:Int) (n:Int) p (a:Int) (out.length:Int) out ((now ch out).1:Int) ((now ch out).2.1:Int) (now ch out).2.2.1 (now ch out).2.2.2:=by
    rw[Mq,Aa];by_cases hc:ch<=out.length
    ·simp only;rw[Aa8 Ax2,Afz ch out h1 h6 F0,Aa];rfl
    ·have e:now ch out=Q9:=by rw[now,Adn F0,M4 ch out _ _ (Ap4 _) F0]
     simp only;rw[Aa2 Ax2,e];rfl
   have hd:=Akq (Aco p a (tU N a) F0) 0 (now ch out).1 (now ch out).2.1 (now ch out).2.2.1 (now ch out).2.2.2 (oU ch out _ _).1 (oU ch out _ _).2.1;have Alw:WY (GJ p a (tU N a)) (tU N a) 0 (now ch out).1 (now ch out).2.1=Ls ch p N a out:=rfl;rw[Aa8 F7,hpre,Jd,FX,e8,ew,U4 p (N:Int) a _ F0 F0 F0,Aa];simp only;refine Avk (congrArg (λo=>Option.bind o _) hd) ?_;rw[Aa,Alw,Xg];by_cases he:(Ls ch p N a out).2.2≠0
   ·rw[Aa8 he,Aa8 (by rw[Ao];simpa using he),Aa8 he]
   ·have he0:(Ls ch p N a out).2.2=0:=by simpa using he
    have hok:=fG he0;have ih:=Aes hN hN2 h1 h6 hn j (a+(Ls ch p N a out).2.1.toNat) q (out++[(Ls ch p N a out).1]) F6 F0 F0;have hx:=J4 he0;rw[Ac5,List.length_singleton]at ih;rw[Aa2 he];generalize Ls ch p N a out=R at*
    obtain⟨v,nx,e⟩:=R;simp only at*
    rw[Aa2 (by rw[Ao];simpa using he),Cy F6,Aa,Aj,Aj,hx];exact ih
end
theorem sV{ch:Nat}{p:LB}{N:Nat}:∀(j a:Nat) (out:LU),a<=N-> (Xg ch p N j a out).2.1<=N/\ (Xg ch p N j a out).1.length<=out.length+j/\ ((Xg ch p N j a out).2.2=0-> (Xg ch p N j a out).1.length=out.length+j)
 |0,a,out,h=>⟨h,Ap4 _,λ_=>rfl⟩
 |j+1,a,out,h=>by
  rw[Xg];split
  ·rename_i he;exact⟨h,Axz,λe=>absurd e he⟩
  ·rename_i he;have hok:=fG (ch:=ch) (p:=p) (N:=N) (a:=a) (out:=out) (by simpa using he);have hw:a+tU N a<=N:=by unfold tU;omega
   have ih:=sV (ch:=ch) (p:=p) (N:=N) j (a+(Ls ch p N a out).2.1.toNat) (out++[(Ls ch p N a out).1]) F0;rw[Ac5,List.length_singleton]at ih;exact⟨ih.1,F0,λe=>by have:=ih.2.2 e;omega⟩
theorem W6(ch n:Int)(b:LB)(N:Int):AJ ch n b N 0 (List.replicate 6 ((0:Int),(0:Int),(0:UInt64),(0:UInt64),()))=NZ ch n b N (List.replicate 6 ((10:Int),(10:Int),(16384:UInt64),(16384:UInt64),())):=by
 have e:Ba=(Ba-7)+1+1+1+1+1+1+1:=by have:=Ax;omega
 rw[AJ,e];rfl
theorem values_eq{p:LB}{N ch n:Nat}(hp:okB p N)(h1:1<=ch)(h6:ch<=6)(hn:n*ch<=4000):DK (ch:Int) (n:Int) p (N:Int)=
  some (if(Xg ch p N (n*ch) 0 []).2.2≠0 then([],0,(Xg ch p N (n*ch) 0 []).2.2)else((Xg ch p N (n*ch) 0 []).1,((Xg ch p N (n*ch) 0 []).2.1:Int),0)):=by
 have h:=T8 hp h1 h6 hn (n*ch) 0 Ba [] Axz F9 F0;rw[DK,DJ,W6];exact h
theorem H9(p:LB)(x:LU)(N:Nat)(hN:N=8*p.length)(hN2:N<=330000):∀(j a q:Nat),a+j=N->j<q->Jf p x q (a:Int)=some (x,if Cs p a j=0 then 0 else 12)
 |0,a,q+1,ha,_=>by
  have e8:Bo (8:Int) (Ac p)=(N:Int):=by rw[Ac,Hs];omega
  rw[Jf,To,e8,Aa2 F7,Cs,Aa8 rfl];rfl
 |j+1,a,q+1,ha,hq=>by
  have e8:Bo (8:Int) (Ac p)=(N:Int):=by rw[Ac,Hs];omega
  have hb:=Yv p a;rw[Jf,To,e8,Aa8 F7,oG p _ a F0 F0,Aa,Cs];by_cases h:Kf p a=0
  ·rw[Aa2 (by rw[Ao];simp[h]),Aj,h];have ih:=H9 p x N hN hN2 j (a+1) q F0 F0;rw[show((a:Int)+1)=((a+1:Nat):Int) by omega,ih];congr 2;by_cases hv:Cs p (a+1) j=0
   ·rw[Aa8 hv,Aa8 F0]
   ·rw[Aa2 hv,Aa2 F0]
  ·rw[Aa8 Ax3,Aa2 F0]
theorem Adb{p:LB}{N ch n:Nat}(hN:N=8*p.length)(hN2:N<=330000)(h1:1<=ch)(h6:ch<=6)(hn:n*ch<=4000):CJ (ch:Int) (n:Int) p=
  some (if(Xg ch p N (n*ch) 0 []).2.2≠0 then((Xg ch p N (n*ch) 0 []).1,(Xg ch p N (n*ch) 0 []).2.2)else
   ((Xg ch p N (n*ch) 0 []).1,if 7<N-(Xg ch p N (n*ch) 0 []).2.1\/Cs p (Xg ch p N (n*ch) 0 []).2.1 (N-(Xg ch p N (n*ch) 0 []).2.1)≠0 then 12 else 0)):=by
 have h:=Aes hN hN2 h1 h6 hn (n*ch) 0 Ba [] Axz F9 F0;have hat:=(sV (ch:=ch) (p:=p) (N:=N) (n*ch) 0 [] F0).1;have e8:Bo (8:Int) (Ac p)=(N:Int):=by rw[Ac,Hs];omega
 rw[CJ,JR];refine Avk h ?_;generalize Xg ch p N (n*ch) 0 []=V at*
 obtain⟨v,a,e⟩:=V;simp only at*
 by_cases he:e≠0
 ·rw[Aa8 he,Aa8 he]
 ·rw[Aa2 he,Aa2 he,Tz,FI,e8,Cf];by_cases h7:7<N-a
  ·rw[Aa8 Ax1,Aa8 (.inl h7)]
  ·rw[Aa2 Ax1,FN,H9 p v N hN hN2 (N-a) a Ba F0 F9];by_cases hv:Cs p a (N-a)=0
   ·rw[Aa8 hv,Aa2 F0]
   ·rw[Aa2 hv,Aa8 (.inr hv)]
theorem S0(n:Int):(GI.ofZ n:Int32)=Int32.ofInt n:=rfl
theorem SL(a:Int32):GI.toZ a=a.toInt:=rfl
theorem UG(a b:Int32):Ae a b=a+b:=by
 rw[Ae,SL,SL,S0,Int32.ofInt_add,As3,As3]
theorem vS(a b:Int32):Am a b=a-b:=by
 rw[Am,SL,SL,S0,Int32.ofInt_sub,As3,As3]
theorem Acy(a b:Int32):geq a b=(a==b):=by
 rw[geq,SL,SL,Alp];simp[Int32.toInt_inj]
def cP(p:Nat->Bool)(a b:LX):LX:=(List.range a.length).map λk=>if p k=true then a.getD k 0 else b.getD k 0
section
variable {p q:Nat->Bool} {a b:LX}
theorem YE:(cP p a b).length=a.length:=by simp[cP]
theorem Nh{k:Nat}(h:k<a.length):a.getD k 0=a[k]:=by simp[List.getD_eq_getElem?_getD,h]
theorem BD{k:Nat}(h:k<(cP p a b).length):(cP p a b)[k]=if p k=true then a.getD k 0 else b.getD k 0:=by simp[cP]
theorem SP{k:Nat}(h:k<a.length):Ak (cP p a b) (k:Int)=some (if p k=true then a.getD k 0 else b.getD k 0):=by
 rw[Ch (by rw[YE];exact h),BD]
theorem BB(h:∀k,k<a.length->p k=q k):cP p a b=cP q a b:=by
 apply Axg;intro k hk;rw[h k (List.mem_range.1 hk)]
theorem nF{k:Nat}(h:k<a.length):Lp (cP p a b) (k:Int) (a.getD k 0)=some (cP (λj=>p j||decide (j=k)) a b):=by
 rw[Yb _ (by rw[YE];exact h)];congr 1;apply Auy (by simp[YE]);intro i h1 h2;rw[Axi,BD,BD];by_cases hi:k=i
 ·subst hi;simp
 ·have:¬i=k:=λe=>hi e.symm;simp[hi,this]
theorem mW(h:∀k,k<a.length->p k=true):cP p a b=a:=by
 apply Auy (by simp[YE]);intro i h1 h2;rw[BD,Aa8 (h i h2),Nh h2]
theorem lC(hl:b.length=a.length)(h:∀k,k<a.length->p k=false):cP p a b=b:=by
 apply Auy (by simp[YE,hl]);intro i h1 h2;rw[BD,h i F0];simp[List.getD_eq_getElem?_getD,h2]
end
theorem Ayh{p:Prop}(h:p:=by rw[Ay];decide):p:=h
end Go.Pl
namespace Go.Pl
open Go Go.Lv
variable{s bits:Int}{x w:Int32}{t p a b:LX}{i:Nat}
theorem tY(a b:Int32):Bo a b=a*b:=by
 rw[Bo,SL,SL,S0,Int32.ofInt_mul,As3,As3]
theorem EI(a:Int32): -2147483648<=a.toInt/\a.toInt<2147483648:=⟨a.le_toInt,a.toInt_lt⟩
theorem Fl(a:Int32):(Ad a:Int)=a.toInt:=by
 have:=EI a
 show wrap64 a.toInt=_;rw[Cr]<;>omega
theorem NV(n:Int):(Ad n:Int32)=Int32.ofInt n:=rfl
theorem Agg(x:Int):Int32.ofInt (x %4294967296)=Int32.ofInt x:=by
 apply Int32.toInt_inj.1;rw[Aww,Aww];exact Int.emod_bmod x 4294967296
theorem tE(x:Int):Cu x=some (Int32.ofInt x):=by
 have e1:(Ad x:UInt64).toNat=(x %18446744073709551616).toNat:=by
  rw[jy,Ajw,Adn F0]
 have e2:(Ad (Ad x:UInt64):UInt32).toNat=(x %4294967296).toNat:=by
  have e:(Ad (Ad x:UInt64):UInt32)=UInt32.ofNat (Ad x:UInt64).toNat:=by simp only[Ad,Iy,Eu]
  rw[e,Apw,e1];show(x %18446744073709551616).toNat %4294967296=_;omega
 have e3:(Ad (Ad (Ad x:UInt64):UInt32):Int32)=Int32.ofInt ((Ad (Ad x:UInt64):UInt32).toNat:Int):=rfl;rw[Cu,e3,e2,<-Agg x];congr 2;omega
theorem lL(a b:Int32):Cu (Ae (Ad a:Int) (Ad b:Int))=some (a+b):=by
 have:=EI a;have:=EI b;rw[Fl,Fl,Aj,tE,Int32.ofInt_add,As3,As3]
theorem Aj7(a b:Int32):Cu (Bo (Ad a:Int) (Ad b:Int))=some (a*b):=by
 have ha:=EI a;have hb:=EI b;have h1: -9223372036854775808<=a.toInt*b.toInt/\a.toInt*b.toInt<=9223372036854775807:=by
  have h2:(a.toInt*b.toInt).natAbs<=2147483648*2147483648:=by
   rw[Int.natAbs_mul];exact Aut F0 F0
  omega
 rw[Fl,Fl,Hs h1.1 h1.2,tE,Int32.ofInt_mul,As3,As3]
def yw(s:Int)(t p:LX):Prop:=(s=9\/s=10)/\t.length=16/\p.length=16
theorem oP(h:yw s t p):HD s t p=some 0:=by
 obtain⟨rfl|rfl,_,_⟩:=h<;>rfl
theorem yu{l:LX}{k:Nat}(h:k<l.length):Ak l (k:Int)=some (l.getD k 0):=by
 rw[Ch h];simp[List.getD_eq_getElem?_getD,h]
def dD(t p:LX):Nat->Int32
 |0=>0
 |i+1=>dD t p i+t.getD i 0*p.getD i 0
def half(s:Int):Int32:=if s=9 then 256 else 512
def gF(s:Int)(t p:LX):Int32:=Int32.ofInt ((half s+dD t p 16).toInt.fdiv (if s=9 then 512 else 1024))
theorem G9{s:Int}{t p:LX}(h:yw s t p):∀(j i q:Nat),i+j=16->j<q->Th t s p q (half s+dD t p i) (i:Int)=some (gF s t p,0)
 |0,i,q+1,hi,_=>by
  obtain rfl:i=16:=F0
  have hs:=h.1;rw[Th,HR,Aa2 Ax6,TI,iJ,Dg Ax2,Aa];obtain rfl|rfl:=hs<;>rfl
 |j+1,i,q+1,hi,hq=>by
  obtain⟨hs,ht,hp⟩:=h;rw[Th,HR,Aa8 F7,yu F0,Aa,yu F0,Aa,Aa,Aj (b:=1) F0 F0,UG,tY,Int32.add_assoc];exact G9 ⟨hs,ht,hp⟩ j (i+1) q F0 F0
theorem Ajt(h:yw s t p):PO s t p=some (gF s t p,0):=by
 have hs:=h.1;have h1:=G9 h 16 0 Ba F0 F9;have e:Dy (1:Int32) (GI.toZ (Am s (1:Int))).toNat=half s+dD t p 0:=by
  obtain rfl|rfl:=hs<;>rfl
 rw[PO,TF,oP h,Aa,Aa2 Ax0,Dg (by rw[Dx,Cf];simp;omega),Aa,gZ,e];exact h1
theorem zA{s:Int}{t p:LX}(ht:t.length=16)(hp:p.length=16){g:Int32}(hg:dD t p 16=g):∀(j i q:Nat),i+j=16->j<q->Lk s t p q (dD t p i).toInt (i:Int)=some g
 |0,i,q+1,hi,_=>by
  obtain rfl:i=16:=F0
  rw[Lk,Xq,Aa2 Ax6,MC,MS,NV,As3,hg]
 |j+1,i,q+1,hi,hq=>by
  have ih:=zA (s:=s) ht hp hg j (i+1) q F0 F0;rw[dD]at ih;rw[Lk,Xq,Aa8 F7,yu F0,yu F0,Aa,Aa,Aa,Aa,Aj7,Aa,<-Fl (dD t p i),lL,Aa,Fl,Aj];exact ih
theorem Aiz(h:yw s t p):UD s t p=some (dD t p 16):=
 zA h.2.1 h.2.2 rfl 16 0 Ba F0 F9
theorem Agx(x n:Int)(hn:n=512\/n=1024\/n=16\/n=32):(if x.tmod n<0 then x.tdiv n-1 else x.tdiv n)=x.fdiv n:=by
 have hs:n.sign=1:=by obtain rfl|rfl|rfl|rfl:=hn<;>rfl
 rw[Int.tdiv_eq_ediv,Int.tmod_eq_emod,hs,Ars _ F0];by_cases h:0<=x\/n∣x
 ·rw[Aa8 h,Aa8 h];obtain rfl|rfl|rfl|rfl:=hn<;>(rw[Aa2 F0];omega)
 ·rw[Aa2 h,Aa2 h];obtain rfl|rfl|rfl|rfl:=hn<;>(rw[Aa8 F0];omega)
theorem zK(x n:Int)(hn:n=512\/n=1024\/n=16\/n=32)(h: -1000000000000<=x)(h':x<=1000000000000): -1000000000000<=x.tdiv n/\x.tdiv n<=1000000000000:=by
 have hs:n.sign=1:=by obtain rfl|rfl|rfl|rfl:=hn<;>rfl
 rw[Int.tdiv_eq_ediv,hs];by_cases h:0<=x\/n∣x
 ·rw[Aa8 h];obtain rfl|rfl|rfl|rfl:=hn<;>omega
 ·rw[Aa2 h];obtain rfl|rfl|rfl|rfl:=hn<;>omega
theorem Atu(x n:Int)(hn:n=512\/n=1024\/n=16\/n=32)(h: -1000000000000<=x)(h':x<=1000000000000):Cx x n=x.tdiv n:=by
 have:=zK x n hn h h';rw[KQ,Cr F0 F0]
theorem og(x n:Int)(hn:n=512\/n=1024\/n=16\/n=32)(h: -1000000000000<=x)(h':x<=1000000000000):
  (if(Cm (Ho x n) (0:Int))=true then some (Ad (Am (Cx x n) (1:Int)):Int32)else some (Ad (Cx x n):Int32))=some (Int32.ofInt (x.fdiv n)):=by
 have hb:=zK x n hn h h';rw[Af,Ho,Atu x n hn h h',Cf,NV,NV,<-Agx x n hn];by_cases hx:x.tmod n<0
 ·rw[Aa8 (by simpa using hx),Aa8 hx]
 ·rw[Aa2 (by simpa using hx),Aa2 hx]
theorem Amq(h:yw s t p):DF s t p=some (gF s t p):=by
 obtain⟨hs,ht,hp⟩:=h;have h:yw s t p:=⟨hs,ht,hp⟩;have hx:=EI (dD t p 16+half s);have key:∀n:Int,(n=512\/n=1024)-> (half s).toInt=n/2->gF s t p=Int32.ofInt ((half s+dD t p 16).toInt.fdiv n)->Wj s t p n=some (gF s t p):=by
  intro n hn hh hg;have e2:Cx n (2:Int)=(half s).toInt:=by rw[hh];obtain rfl|rfl:=hn<;>rfl
  rw[Wj,II,Aiz h,Aa,e2,<-Fl (half s),lL,Aa,Dg Ax3,Aa,Aa,Fl,og _ n F0 F0 F0,hg,Int32.add_comm]
 rw[DF,IP];obtain rfl|rfl:=hs
 ·rw[Aa8 Ayg];exact key 512 (.inl rfl) rfl rfl
 ·rw[Aa2 Ayh];exact key 1024 (.inr rfl) rfl rfl
def T3(i:Nat):Int32:=if i=0 then 4 else if i<4 then 2 else 1
def sg(x:Int32):Int32:=if x.toInt<0 then -1 else if 0<x.toInt then 1 else 0
def D5(t p:LX)(w:Int32):LX:=(List.range 16).map λi=>t.getD i 0+T3 i*sg (p.getD i 0)*sg w
theorem HX(t p:LX)(w:Int32):(D5 t p w).length=16:=by simp[D5]
theorem O2(t p:LX)(w:Int32)(h:i<16):(D5 t p w).getD i 0=t.getD i 0+T3 i*sg (p.getD i 0)*sg w:=by
 rw[Nh (by rw[HX];exact h)];simp[D5]
theorem step_eq(i:Nat):UK (i:Int)=some (T3 i):=by
 rw[UK,T3];by_cases h:i=0
 ·rw[Aa8 (by rw[Ay];simp[h]),Aa8 h]
 ·rw[Aa2 Ax4,Aa2 h];by_cases h2:i<4
  ·rw[Aa8 F7,Aa8 h2]
  ·rw[Aa2 F7,Aa2 h2]
theorem Afv(i:Nat):EN (i:Int)=some (T3 i):=by
 rw[EN,T3];by_cases h:i=0
 ·rw[Aa8 (by rw[Ay];simp[h]),Aa8 h]
 ·rw[Aa2 Ax4,Aa2 h];by_cases h2:i<4
  ·rw[Aa8 (by rw[SK];simp;omega),Aa8 h2]
  ·rw[Aa2 (by rw[SK];simp;omega),Aa2 h2]
theorem O3(a b:Int32):Cm a b=decide (a.toInt<b.toInt):=rfl
theorem Aaj(a b:Int32):Dm a b=decide (b.toInt<a.toInt):=rfl
theorem sign_eq(x:Int32):Uc x=some (sg x):=by
 rw[Uc,sg,O3,Aaj,show(0:Int32).toInt=0 from rfl];by_cases h:x.toInt<0
 ·rw[Aa8 (by simpa using h),Aa8 h]
 ·rw[Aa2 (by simpa using h),Aa2 h];by_cases h2:0<x.toInt
  ·rw[Aa8 (by simpa using h2),Aa8 h2]
  ·rw[Aa2 (by simpa using h2),Aa2 h2]
theorem Adh:sg 0=0:=rfl
theorem toInt_ne(h:x≠0):x.toInt≠0:=λe=>h (Int32.toInt_inj.1 (by rw[e];rfl))
theorem L9(h:x.toInt<0):sg x= -1:=by rw[sg,Aa8 h]
theorem M0(h:x≠0)(h2:¬x.toInt<0):sg x=1:=by
 have:=toInt_ne h;rw[sg,Aa2 h2,Aa8 F0]
theorem fK(i:Nat):T3 i=4\/T3 i=2\/T3 i=1:=by
 unfold T3;by_cases h:i=0
 ·rw[Aa8 h];exact .inl rfl
 ·rw[Aa2 h];split;exact .inr (.inl rfl);exact .inr (.inr rfl)
theorem Af7(hx:x≠0)(hw:w≠0)(h:(x.toInt<0)=(w.toInt<0))(i:Nat):T3 i*sg x*sg w=T3 i:=by
 by_cases h1:x.toInt<0
 ·rw[L9 h1,L9 (by rw[<-h];exact h1)];obtain e|e|e:=fK i<;>rw[e]<;>decide
 ·rw[M0 hx h1,M0 hw (by rw[<-h];exact h1)];obtain e|e|e:=fK i<;>rw[e]<;>decide
theorem zm(hx:x≠0)(hw:w≠0)(h:¬(x.toInt<0)=(w.toInt<0))(i:Nat)(a:Int32):a+T3 i*sg x*sg w=a-T3 i:=by
 have key:T3 i*sg x*sg w=-T3 i:=by
  by_cases h1:x.toInt<0
  ·have h2:¬w.toInt<0:=λh2=>h (propext ⟨λ_=>h2,λ_=>h1⟩);rw[L9 h1,M0 hw h2];obtain e|e|e:=fK i<;>rw[e]<;>decide
  ·have h2:w.toInt<0:=Decidable.by_contra λh2=>h (propext ⟨λh3=>absurd h3 h1,λh3=>absurd h3 h2⟩);rw[M0 hx h1,L9 h2];obtain e|e|e:=fK i<;>rw[e]<;>decide
 rw[key,Int32.sub_eq_add_neg]
def mZ(i:Nat):Nat->Bool:=λj=>decide (j<i)
theorem zQ(h:i<a.length):Lp (cP (mZ i) a b) (i:Int) (a.getD i 0)=some (cP (mZ (i+1)) a b):=by
 rw[nF h];congr 1;apply BB;intro k _;rw[Alp];simp only[mZ,Asx,Abi];omega
theorem Agq(e:a.getD i 0=b.getD i 0):cP (mZ i) a b=cP (mZ (i+1)) a b:=by
 apply Axg;intro k _;simp only[mZ,Abi];by_cases h1:k<i
 ·rw[Aa8 h1,Aa8 F0]
 ·by_cases h2:k=i
  ·subst h2;rw[Aa2 h1,Aa8 F0,e]
  ·rw[Aa2 h1,Aa2 F0]
theorem su(h:i<a.length):Ak (cP (mZ i) a b) (i:Int)=some (b.getD i 0):=by
 rw[SP h,Aa2 (by simp[mZ])]
theorem K2{s:Int}{t p:LX}{w:Int32}(hw:w≠0)(ht:t.length=16)(hp:p.length=16):∀(j i q:Nat),i+j=16->j<q->Sp w p s q (i:Int) (cP (mZ i) (D5 t p w) t)=some (s,D5 t p w,p,0)
 |0,i,q+1,hi,_=>by
  obtain rfl:i=16:=F0
  rw[Sp,HS,Aa2 Ax6,mW (λk hk=>by rw[HX]at hk;simpa [mZ]using hk)];rfl
 |j+1,i,q+1,hi,hq=>by
  have hl:=HX t p w;have hg:=O2 t p w (i:=i) F0;rw[Sp,HS,Aa8 F7,yu F0,Aa,Aj (b:=1) F0 F0,su F0,step_eq];simp only[Aa];rw[UG,vS,Acy,O3,O3,show(0:Int32).toInt=0 from rfl];have ih:=K2 (s:=s) hw ht hp j (i+1) q F0 F0;by_cases hx:p.getD i 0=0
  ·rw[Aa8 (by rw[hx];rfl),Agq (by rw[hg,hx,Adh,Int32.mul_zero,Int32.zero_mul,Int32.add_zero])];exact ih
  ·rw[Aa2 (by simpa using hx)];by_cases hs:((p.getD i 0).toInt<0)=(w.toInt<0)
   ·rw[Aa8 (by rw[Asv];simp only[hs]),show t.getD i 0+T3 i=(D5 t p w).getD i 0 by rw[hg,Af7 hx hw hs],zQ F0,Aa];exact ih
   ·rw[Aa2 (by rw[Asv,decide_eq_decide];exact λh=>hs (propext h)),show t.getD i 0-T3 i=(D5 t p w).getD i 0 by rw[hg,zm hx hw hs],zQ F0,Aa];exact ih
theorem Ahl(p:LX)(ht:t.length=16):D5 t p 0=t:=by
 apply Auy (by rw[HX,ht]);intro i h1 h2;have:=O2 t p 0 (i:=i) F0;rw[Nh h1,Nh h2]at this;rw[this,Adh,Int32.mul_zero,Int32.add_zero]
theorem Ajn(h:yw s t p)(w:Int32):YV s t p w=some (s,D5 t p w,p,0):=by
 rw[YV,TO,oP h,Aa,Aa2 Ax0,Acy];by_cases hw:w=0
 ·rw[Aa8 (by simpa using hw),hw,Ahl p h.2.1]
 ·have h1:=K2 (s:=s) hw h.2.1 h.2.2 16 0 Ba F0 F9;rw[lC (by rw[HX,h.2.1]) (λk _=>by simp[mZ])]at h1;rw[Aa2 (by simpa using hw)];exact h1
theorem mG{s:Int}{t p:LX}{w:Int32}(ht:t.length=16)(hp:p.length=16):∀(j i q:Nat),i+j=16->j<q->Hp w s p q (i:Int) (cP (mZ i) (D5 t p w) t)=some (s,D5 t p w,p)
 |0,i,q+1,hi,_=>by
  obtain rfl:i=16:=F0
  rw[Hp,Py,Aa2 Ax6,mW (λk hk=>by rw[HX]at hk;simpa [mZ]using hk)];rfl
 |j+1,i,q+1,hi,hq=>by
  have hl:=HX t p w;have hg:=O2 t p w (i:=i) F0;rw[Hp,Py,Aa8 F7,yu (l:=p) F0,Aj (b:=1) F0 F0,su F0,Afv,sign_eq w,Aa,Aa,Aa,Aa,Aa,sign_eq,Aa,Aa,Aa,UG,tY,tY,<-hg,zQ F0,Aa];exact mG ht hp j (i+1) q F0 F0
theorem Abj(h:yw s t p)(w:Int32):IH s t p w=some (s,D5 t p w,p):=by
 have h1:=mG (s:=s) (w:=w) h.2.1 h.2.2 16 0 Ba F0 F9;rw[lC (by rw[HX,h.2.1]) (λk _=>by simp[mZ])]at h1;exact h1
theorem Am1(h:p.length=16):∃a0 a1 a2 a3 a4 a5 a6 a7 a8 a9 b0 b1 b2 b3 b4 b5,p=[a0,a1,a2,a3,a4,a5,a6,a7,a8,a9,b0,b1,b2,b3,b4,b5]:=by
 match p,h with
 |[a0,a1,a2,a3,a4,a5,a6,a7,a8,a9,b0,b1,b2,b3,b4,b5],_=>exact⟨a0,a1,a2,a3,a4,a5,a6,a7,a8,a9,b0,b1,b2,b3,b4,b5,rfl⟩
theorem Amc(h:yw s t p)(x:Int32):fR s t p x=some (s,t,x::p.take 15,0):=by
 obtain⟨hs,ht,hp⟩:=h;rw[fR,NC,oP ⟨hs,ht,hp⟩,Aa,Aa2 Ax0,show gB (16:Int) 1 16=some ()from rfl,Aa,show gB (16:Int) 0 16=some ()from rfl,Aa,XY,lH];obtain⟨a0,a1,a2,a3,a4,a5,a6,a7,a8,a9,b0,b1,b2,b3,b4,b5,rfl⟩:=Am1 hp;rfl
def N4(p:LX)(i:Nat):LX:=(List.range 16).map λk=>if k<=i then p.getD k 0 else p.getD (k-1) 0
theorem Zk(p:LX)(i:Nat):(N4 p i).length=16:=by simp[N4]
theorem Ant(p:LX)(i k:Nat)(h:k<16):(N4 p i).getD k 0=if k<=i then p.getD k 0 else p.getD (k-1) 0:=by
 rw[Nh (by rw[Zk];exact h)];simp[N4]
theorem An7(p:LX)(i:Nat)(h:i+1<16):Lp (N4 p (i+1)) ((i+1:Nat):Int) (p.getD i 0)=some (N4 p i):=by
 rw[Yb _ (by rw[Zk];exact h)];congr 1;apply Auy (by simp[Zk]);intro k h1 h2;rw[Zk]at h2;rw[Axi];simp only[N4,Aw2,Aw0];by_cases hk:i+1=k
 ·subst hk;rw[Aa8 rfl,Aa2 F0];rfl
 ·rw[Aa2 hk];by_cases h3:k<=i
  ·rw[Aa8 F0,Aa8 h3]
  ·rw[Aa2 F0,Aa2 h3]
theorem rS(s:Int)(t p:LX)(x:Int32)(hp:p.length=16):∀(i q:Nat),i<16->i<q->Ii x s t q (i:Int) (N4 p i)=some (s,t,x::p.take 15)
 |0,q+1,_,_=>by
  have hg:Ak (N4 p 0) (0:Int)=some ((N4 p 0).getD 0 0):=yu (l:=N4 p 0) (k:=0) (by rw[Zk];omega);have hset:Lp (N4 p 0) (0:Int) x=some ((N4 p 0).set 0 x):=Yb (l:=N4 p 0) (n:=0) x (by rw[Zk];omega);rw[Ii,Rp,Aa2 Ayk,CF,CZ,hg,Aa,hset,Aa];congr 3;apply Auy (by simp[Zk,hp]);intro k h1 h2;rw[Avg,Zk]at h1;rw[Axi];cases k with
  |zero=>rw[Aa8 rfl];rfl
  |succ k=>
   rw[Aa2 F0];simp only[N4,Aw2,Aw0,List.getElem_cons_succ,List.getElem_take];rw[Aa2 F0,Nat.add_sub_cancel,Nh F0]
 |i+1,q+1,hi,hq=>by
  have hg:=yu (l:=N4 p (i+1)) (k:=i) (by rw[Zk];omega);rw[Ant p (i+1) i F0,Aa8 F0]at hg;have e1:Am ((i+1:Nat):Int) (1:Int)=(i:Int):=by rw[Cf];omega
  have hg2:=yu (l:=N4 p (i+1)) (k:=i+1) (by rw[Zk];omega);rw[Ii,Rp,Aa8 Ayk,e1,hg,Aa,Aa,hg2,Aa,An7 p i hi,Aa];exact rS s t p x hp i q F0 F0
theorem Agi(hp:p.length=16)(x:Int32):LY s t p x=some (s,t,x::p.take 15):=by
 have h:=rS s t p x hp 15 Ba F0 F9;have e:N4 p 15=p:=by
  apply Auy (by rw[Zk,hp]);intro k h1 h2;rw[Zk]at h1;simp only[N4,Aw2,Aw0];rw[Aa8 F0,Nh h2]
 rw[e]at h;exact h
theorem Ah6(h:yw s t p)(w x:Int32):yw s (D5 t p w) (x::p.take 15):=⟨h.1,HX _ _ _,by simp[h.2.2]⟩
theorem Aog(h:yw s t p)(y:Int32):eE s t p y=some (y+gF s t p,s,D5 t p y,(y+gF s t p)::p.take 15,0):=by
 rw[eE,Ajt h,Aa];simp only;rw[Aa2 Ax0,UG,WK,Ajn h,Aa];simp only;rw[Amc (s:=s) (t:=D5 t p y) (p:=p) ⟨h.1,HX _ _ _,h.2.2⟩,Aa];rfl
theorem Aex(h:yw s t p)(y:Int32):Vm s t p y=some (y+gF s t p,s,D5 t p y,(y+gF s t p)::p.take 15):=by
 rw[Vm,Amq h,Aa,lL,Aa,Abj h,Aa];simp only;rw[Agi h.2.2,Aa]
def sB(bits:Int):Int:=if bits=16 then 9 else 10
def shB(bits:Int):Int:=if bits=8 then 4 else 5
def Ck(bits:Int):Prop:=bits=8\/bits=16\/bits=24
def gs(sh:Int)(last:Int32):Int32:=Ad (P6 (Am (Dy (Ad last:Int) sh.toNat) (Ad last)) sh.toNat)
theorem At2(bits:Int):sB bits=9\/sB bits=10:=by unfold sB;split<;>simp
theorem An9(bits:Int):0<=shB bits:=by unfold shB;split<;>omega
theorem Av3(h:Ck bits)(t:LX):mS bits t=some (sB bits,t,List.replicate 16 0,0):=by
 obtain rfl|rfl|rfl:=h<;>rfl
theorem Aso(h:Ck bits):cN bits=some (shB bits,0):=by
 obtain rfl|rfl|rfl:=h<;>rfl
theorem Aq6{sh:Int}(h:0<=sh)(last:Int32):RJ sh last=some (gs sh last):=by
 rw[RJ,Dg (by rw[Dx];simpa using h),Aa,Aa];rfl
theorem Arp(h:Ck bits)(last:Int32):Vu bits last=some (gs (shB bits) last,0):=by
 rw[Vu,Aso h,Aa];simp only;rw[Aa2 Ax0,Aq6 (An9 bits),Aa]
theorem Abg(h:Ck bits)(last:Int32)(t p:LX):Vs bits last (sB bits) t p=some 0:=by
 rw[Vs,Av3 h,Aa];simp only;rw[Aa2 (by rw[Ao,Ao];simp)]
theorem Afh(h:Ck bits)(hF:yw (sB bits) t p)(last y:Int32):
  Ld bits last (sB bits) t p y=some (y+gF (sB bits) t p+gs (shB bits) last,bits,y+gF (sB bits) t p+gs (shB bits) last,sB bits,D5 t p y,(y+gF (sB bits) t p)::p.take 15,0):=by
 rw[Ld,Abg h,Aa,Aa2 Ax0,Arp h,Aa];simp only;rw[Aog hF,Aa];simp only;rw[UG]
theorem pN(sh:Int)(hs:sh=4\/sh=5)(last:Int32):Pp sh last=some (gs sh last):=by
 have hl:=EI last;have key:∀n:Int,n=16\/n=32->gs sh last=Int32.ofInt (((n-1)*last.toInt).fdiv n)->Rl last n=some (gs sh last):=by
  intro n hn hg;have e:Bo (Am n (1:Int)) (Ad last:Int)=(n-1)*last.toInt:=by
   obtain rfl|rfl:=hn<;>(rw[Fl,Cf,Hs])
  rw[Rl,CI,Dg Ax3,Aa,Aa,e,og _ n F0 (by obtain rfl|rfl:=hn<;>omega) (by obtain rfl|rfl:=hn<;>omega),hg]
 rw[Pp,EE];obtain rfl|rfl:=hs
 ·rw[Aa2 Ayh];refine key 16 (.inl rfl) ?_;have e:Dy (Ad last:Int) (4:Int).toNat=last.toInt*16:=by
   rw[Fl];show wrap64 (last.toInt*2^4)=_;rw[Cr]<;>omega
  rw[gs,e,Fl,Cf,NV]
  show Int32.ofInt ((last.toInt*16-last.toInt).fdiv 16)=_;congr 2;omega
 ·rw[Aa8 Ayg];refine key 32 (.inr rfl) ?_;have e:Dy (Ad last:Int) (5:Int).toNat=last.toInt*32:=by
   rw[Fl];show wrap64 (last.toInt*2^5)=_;rw[Cr]<;>omega
  rw[gs,e,Fl,Cf,NV]
  show Int32.ofInt ((last.toInt*32-last.toInt).fdiv 32)=_;congr 2;omega
theorem Ag7(h:Ck bits)(hF:yw (sB bits) t p)(last y:Int32):
  Vi bits last (sB bits) t p y=some (y+gF (sB bits) t p+gs (shB bits) last,bits,y+gF (sB bits) t p+gs (shB bits) last,sB bits,D5 t p y,(y+gF (sB bits) t p)::p.take 15):=by
 have hb:Yc bits last (sB bits) t p=some (Ad (gs (shB bits) last):Int):=by
  rw[Yc];obtain rfl|rfl|rfl:=h
  ·rw[Aa8 Ayg,pN 4 (.inl rfl),Aa];rfl
  ·rw[Aa2 Ayh,pN 5 (.inr rfl),Aa];rfl
  ·rw[Aa2 Ayh,pN 5 (.inr rfl),Aa];rfl
 rw[Vi,Aex hF,Aa];simp only;rw[hb,Aa,lL,Aa]
theorem Auq(h:Ck bits)(t:LX):TZ bits t=some (bits,0,sB bits,t,List.replicate 16 0,0):=by
 obtain rfl|rfl|rfl:=h<;>rfl
def YX(n:UInt32):Int32:=if n.toNat %2=0 then Int32.ofInt ((n.toNat/2:Nat):Int)else Int32.ofInt (-((n.toNat/2:Nat):Int)-1)
theorem ql(a b:Int32):(Yg a b).toBitVec=a.toBitVec^^^b.toBitVec:=by
 show(Int32.ofInt ((BitVec.ofInt 32 a.toBitVec.toInt^^^BitVec.ofInt 32 b.toBitVec.toInt).toNat:Int)).toBitVec=_;rw[BitVec.ofInt_toInt,BitVec.ofInt_toInt,Int32.toBitVec_ofInt,BitVec.ofInt_natCast,BitVec.ofNat_toNat,BitVec.setWidth_eq]
theorem Aup(m:Nat)(h:m<2147483648):Yg (Int32.ofInt (m:Int)) (Int32.ofInt (-1))=Int32.ofInt (-(m:Int)-1):=by
 apply Int32.toBitVec_inj.1;have e1:(Int32.ofInt (-1)).toBitVec=BitVec.allOnes 32:=F4
 rw[ql,e1,BitVec.xor_allOnes,Int32.toBitVec_ofInt,Int32.toBitVec_ofInt];apply BitVec.eq_of_toNat_eq;rw[BitVec.toNat_not,Ave,Ave];omega
theorem Ajh(n:UInt32):Xd n=some (YX n):=by
 have hn:=n.toNat_lt;have e1:(Ad (Cq n (GI.toZ (1:UInt64)).toNat):Int32)=Int32.ofInt ((n.toNat/2:Nat):Int):=by
  show Int32.ofInt ((Cq n 1).toNat:Int)=_;rw[UF]
 have e2:(Ad (Es n (1:UInt32)):Int32)=Int32.ofInt ((n.toNat %2:Nat):Int):=by
  show Int32.ofInt ((Es n (1:UInt32)).toNat:Int)=_;rw[Z6,UInt32.toNat_and]
  show Int32.ofInt ((n.toNat&&&1:Nat):Int)=_;rw[Nat.and_one_is_mod]
 rw[Xd,e1,e2,YX];congr 1;by_cases h:n.toNat %2=0
 ·have e3:lI (Int32.ofInt ((n.toNat %2:Nat):Int))=Int32.ofInt 0:=by rw[h];decide
  rw[Aa8 h,e3];apply Int32.toBitVec_inj.1;rw[ql,show(Int32.ofInt 0).toBitVec=0#32 from rfl,BitVec.xor_zero]
 ·have e3:lI (Int32.ofInt ((n.toNat %2:Nat):Int))=Int32.ofInt (-1):=by rw[show n.toNat %2=1 by omega];decide
  rw[Aa2 h,e3,Aup _ F0]
theorem Amz(n:UInt32):CX n=some (YX n):=by
 have hn:=n.toNat_lt;have e1:geq (BY n (2:UInt32)) (0:UInt32)=decide (n.toNat %2=0):=by
  rw[M8,W8,Alp];simp only[Asv,<-UInt32.toNat_inj,UInt32.toNat_mod,Abi];rfl
 rw[CX,e1,YX];by_cases h:n.toNat %2=0
 ·rw[Aa8 (by simpa using h),Aa8 h,Y3];rfl
 ·have e2:(Ad n:Int)=(n.toNat:Int):=zf n;rw[Aa2 (by simpa using h),Aa2 h,e2,Aj,Aai,Cr F0 F0,KQ,Int.tdiv_eq_ediv,NV];congr 2;rw[Aa8 (.inr F0),Cr F0 F0];omega
theorem Axy{p:Prop}(h:p:=by rw[Az,Ac];simp;omega):p:=h
end Go.Pl
namespace Go.Pl
open Go Go.Lv
theorem Z4{c:Prop} [Decidable c](h:c):Jm (decide c)=some ():=by rw[Avb h];rfl
def unV(f:Nat->Int32)(ch:Nat):Nat->Int32
 |0=>if 1<ch then f (ch-1)+Cx (f (ch-2)) (2:Int32)else f (ch-1)
 |j+1=>unV f ch j-f (ch-2-j)
def xA(ch:Nat)(m:LX):LX:=(List.range m.length).map λk=>unV (λi=>m.getD (k-k %ch+i) 0) ch (ch-1-k %ch)
theorem fI(ch:Nat)(m:LX):(xA ch m).length=m.length:=by simp[xA]
theorem tG{ch:Nat}{m:LX}{a i:Nat}(ha:a %ch=0)(hi:i<ch)(h:a+i<m.length):(xA ch m).getD (a+i) 0=unV (λi=>m.getD (a+i) 0) ch (ch-1-i):=by
 have hb:(a+i) %ch=i:=by rw[Nat.add_mod,ha,Avt,Nat.mod_mod,Adn hi]
 rw[Nh (by rw[fI];exact h)];simp only[xA,Aw2,Aw0,hb];rw[show a+i-i=a by omega]
section
variable (ch:Nat) (m:LX)
theorem Air(h1:1<=ch)(h6:ch<=6)(hm:m.length %ch=0)(hl2:m.length<=4000):VA (ch:Int) m=some 0:=by
 rw[VA,Aa2 Ax5,Aa2 Axy,Dg Ax3,Aa,Aa2];rw[Ao,Ho,Ac,<-Int.ofNat_tmod,hm];simp
theorem tV(bk:Int->LX->Option (LX×Int))(at':Nat)(h1:1<=ch)(h6:ch<=6)(hm:at' %ch=0)(hl:at'+ch<=m.length)(hl2:m.length<=4000):∀(i q:Nat),i<=ch-1->i<q->
  Xb bk (ch:Int) (at':Int) q ((i:Int)-1) (cP (λk=>decide (k<at'\/ (at'+i<=k/\k<at'+ch))) (xA ch m) m)=bk ((at'+ch:Nat):Int) (cP (λk=>decide (k<at'+ch)) (xA ch m) m)
 |0,q+1,hi,_=>by
  have e4:Ae (at':Int) (ch:Int)=((at'+ch:Nat):Int):=by rw[Aj];omega
  rw[Xb,MY,Aa2 Ax8,XW,mI,e4];congr 1;apply BB;intro k _;rw[Alp];simp;omega
 |i+1,q+1,hi,hq=>by
  have hlen:=fI ch m;have e2:Ae (at':Int) (ch:Int)-(at':Int)=(ch:Int):=by rw[Aj];omega
  have e3:Ae (i:Int) 1=((i+1:Nat):Int):=by rw[Aj];omega
  have hv:((xA ch m).getD (at'+(i+1)) 0-m.getD (at'+i) 0)=(xA ch m).getD (at'+i) 0:=by
   rw[tG hm F0 F0,tG hm F0 F0,show ch-1-i=(ch-1-(i+1))+1 by omega,unV,show ch-2-(ch-1-(i+1))=i by omega]
  rw[Xb,MY,show((i+1:Nat):Int)-1=(i:Int) by omega,Aa8 Ax8,e2,e3,Z4 F0,Aa,Z4 F0,Aa,
   show(at':Int)+((i+1:Nat):Int)=((at'+(i+1):Nat):Int) by omega,show(at':Int)+(i:Int)=((at'+i:Nat):Int) by omega,
   SP F0,Aa,SP F0,Aa,Aa,Aa8 F6,Aa2 F6,vS,hv,nF F0,Aa,Cf]
  have ih:=tV bk at' h1 h6 hm hl hl2 i q F0 F0;rw[<-ih];congr 1;apply BB;intro k _;rw[Alp];simp;omega
theorem oh{at' ch n:Nat}(ha:at' %ch=0)(hm:n %ch=0)(h:at'<n):at'+ch<=n:=by
 have d1:=Nat.div_add_mod at' ch;have d2:=Nat.div_add_mod n ch;rw[ha,Avl]at d1;rw[hm,Avl]at d2;have hlt:at'/ch<n/ch:=by
  rcases Aw4 (at'/ch) (n/ch)with h'|h'
  ·exact h'
  ·have:=Nat.mul_le_mul_left ch h';omega
 have:=Nat.mul_le_mul_left ch (show at'/ch+1<=n/ch from hlt);rw[Nat.mul_add]at this;omega
theorem E4(h1:1<=ch)(h6:ch<=6)(hm:m.length %ch=0)(hl2:m.length<=4000):∀(j at' q:Nat),at' %ch=0->at'<=m.length->m.length-at'<=j->j<q->
  Rh (ch:Int) q (at':Int) (cP (λk=>decide (k<at')) (xA ch m) m)=some (xA ch m,0)
 |j,at',q+1,ha,hle,hj,hq=>by
  have hlen:=fI ch m;have hl:Ac (cP (λk=>decide (k<at')) (xA ch m) m)=(m.length:Int):=by rw[Ac,YE,hlen]
  rw[Rh,WO,hl];by_cases h:at'<m.length
  ·have hb:=oh ha hm h;obtain⟨j,rfl⟩:∃k,j=k+1:=⟨j-1,F0⟩;have e1:Am (Ae (at':Int) (ch:Int)-(at':Int)) 1=((ch-1:Nat):Int):=by rw[Aj,Cf];omega
   have e2:Ae (at':Int) (ch:Int)-(at':Int)=(ch:Int):=by rw[Aj];omega
   have e4:Ae (at':Int) (ch:Int)=((at'+ch:Nat):Int):=by rw[Aj];omega
   have hi:=tV ch m (Rh (ch:Int) q) at' h1 h6 ha hb hl2 (ch-1) Ba F0 F9;have hrest:=E4 h1 h6 hm hl2 j (at'+ch) q (by rw[Axo,ha]) hb F0 F0;have hstart:YC (Rh (ch:Int) q) (ch:Int) (at':Int) (cP (λk=>decide (k<at'\/ (at'+(ch-1)<=k/\k<at'+ch))) (xA ch m) m)=some (xA ch m,0):=by
    have e6:Am ((ch-1:Nat):Int) 1=((ch-1:Nat):Int)-1:=Cf;rw[YC,WC,WU,e1,e6];exact Avk hi hrest
   rw[Aa8 F7,show gB (m.length:Int) (at':Int) (Ae (at':Int) (ch:Int))=some () by rw[e4,gB,Z4];omega,Aa,e1,e2];have hlast:=tG (m:=m) ha (show ch-1<ch by omega) F0;rw[show ch-1-(ch-1)=0 by omega,unV]at hlast;by_cases hc:1<ch
   ·have e5:Am ((ch-1:Nat):Int) 1=((ch-2:Nat):Int):=by rw[Cf];omega
    rw[Aa8 hc]at hlast;rw[Aa8 Ax1,Z4 F0,Aa,e5,Z4 F0,Aa,show(at':Int)+((ch-1:Nat):Int)=((at'+(ch-1):Nat):Int) by omega,show(at':Int)+((ch-2:Nat):Int)=((at'+(ch-2):Nat):Int) by omega,
     SP F0,Aa,SP F0,Aa,Aa,Aa2 Axz,Aa2 Axz,UG,<-hlast,nF F0,Aa]
    rw[<-hstart];congr 1;apply BB;intro k _;rw[Alp];simp;omega
   ·have hc1:ch=1:=F0
    rw[Aa2 Ax1,<-hstart];congr 1;rw[Aa2 hc]at hlast;apply Axg;intro k hk;by_cases hk2:k=at'
    ·subst hk2;rw[Aa2 Axz,Aa8 F6];rw[show k+(ch-1)=k by omega]at hlast;exact hlast.symm
    ·by_cases hk3:k<at'
     ·rw[Aa8 F6,Aa8 F6]
     ·rw[Aa2 F6,Aa2 F6]
  ·rw[Aa2 F7,mW (λk hk=>by simp;omega)];rfl
theorem Am8(h1:1<=ch)(h6:ch<=6)(hm:m.length %ch=0)(hl2:m.length<=4000):lY (ch:Int) m=some (xA ch m,0):=by
 have hlen:=fI ch m;have h:=E4 ch m h1 h6 hm hl2 m.length 0 Ba Axz F0 F0 F9;rw[lY,eN,Air ch m h1 h6 hm hl2,Aa,Aa2 Ax0,En,Cy F6,Aa,Aa,Arw,mP];rw[lC hlen.symm (λk _=>by simp)]at h;exact h
end
def pX(f:Nat->Int32)(ch:Nat):LX:=(List.range ch).map λi=>unV f ch (ch-1-i)
theorem US(f:Nat->Int32)(ch:Nat):(pX f ch).length=ch:=by simp[pX]
theorem nJ(f:Nat->Int32){ch i:Nat}(h:i<ch):(pX f ch).getD i 0=unV f ch (ch-1-i):=by
 rw[Nh (by rw[US];exact h)];simp[pX]
theorem Ake(a b:Int32):Cu (Am (Ad a:Int) (Ad b:Int))=some (a-b):=by
 have:=EI a;have:=EI b;rw[Fl,Fl,Cf,tE,Int32.ofInt_sub,As3,As3]
theorem Agf(a b:Int32):Cu (Ae (Ad a:Int) (Cx (Ad b:Int) (2:Int)))=some (a+Cx b (2:Int32)):=by
 have:=EI a;have hb:=EI b;have hd: -2147483648<=b.toInt.tdiv 2/\b.toInt.tdiv 2<=2147483648:=by
  rw[Int.tdiv_eq_ediv,show Int.sign 2=1 from rfl];by_cases h:0<=b.toInt\/2∣b.toInt
  ·rw[Aa8 h];omega
  ·rw[Aa2 h];omega
 have e:Cx b (2:Int32)=Int32.ofInt (b.toInt.tdiv 2):=rfl;rw[Fl,Fl,KQ,Cr F0 F0,Aj,tE,Int32.ofInt_add,As3,e]
theorem lS(seg z:LX)(ch:Nat)(h6:ch<=6)(hs:seg.length=ch)(hz:z.length=ch):∀(i q:Nat),i+1<=ch->i<q->
  Hl seg q ((i:Int)-1) (cP (λk=>decide (i<=k)) (pX (λi=>seg.getD i 0) ch) z)=some (pX (λi=>seg.getD i 0) ch)
 |0,q+1,hi,_=>by
  rw[Hl,Qj,Aa2 Ax8,mW (λk hk=>by simp)];rfl
 |i+1,q+1,hi,hq=>by
  have hlen:=US (λi=>seg.getD i 0) ch;have e3:Ae (i:Int) 1=((i+1:Nat):Int):=by rw[Aj];omega
  have hv:(pX (λi=>seg.getD i 0) ch).getD (i+1) 0-seg.getD i 0=(pX (λi=>seg.getD i 0) ch).getD i 0:=by
   rw[nJ _ F0,nJ _ F0,show ch-1-i=(ch-1-(i+1))+1 by omega,unV,show ch-2-(ch-1-(i+1))=i by omega]
  rw[Hl,Qj,show((i+1:Nat):Int)-1=(i:Int) by omega,Aa8 Ax8,e3,SP F0,Aa,yu F0,Aa,Aa,Aa8 Axz,Ake,Aa,SP F0,Aa,hv,nF F0,Aa,Cf];have ih:=lS seg z ch h6 hs hz i q F0 F0;rw[<-ih];congr 1;apply BB;intro k _;rw[Alp];simp;omega
theorem qp{l:LX}{i:Nat}(v:Int32)(h:i<l.length):(l.set i v).getD i 0=v:=by
 rw[Nh (by rw[Avg];exact h)];simp
theorem za(seg:LX)(ch:Nat)(h1:1<=ch)(h6:ch<=6)(hs:seg.length=ch):Wg seg=some (pX (λi=>seg.getD i 0) ch):=by
 have hlen:=US (λi=>seg.getD i 0) ch;have hzl:(List.replicate ch (0:Int32)).length=ch:=by simp
 have e1:Am (Ac seg) 1=((ch-1:Nat):Int):=by rw[Ac,hs,Cf];omega
 have e2:Am (Ac seg) 2=((ch-1:Nat):Int)-1:=by rw[Ac,hs,Cf];omega
 have hlast:=nJ (λi=>seg.getD i 0) (show ch-1<ch by omega);rw[show ch-1-(ch-1)=0 by omega,unV]at hlast;have hend:∀z:LX,z.length=ch->z.getD (ch-1) 0=(pX (λi=>seg.getD i 0) ch).getD (ch-1) 0->Qb seg z=some (pX (λi=>seg.getD i 0) ch):=by
  intro z hz hzl;have h:=lS seg z ch h6 hs hz (ch-1) Ba F0 F9;have e:cP (λk=>decide (ch-1<=k)) (pX (λi=>seg.getD i 0) ch) z=z:=by
   apply Auy (by rw[YE,hlen,hz]);intro k k1 k2;rw[BD];by_cases hk:ch-1<=k
   ·obtain rfl:k=ch-1:=F0
    rw[Aa8 Axz,<-hzl,Nh k2]
   ·rw[Aa2 (by simpa using hk),Nh k2]
  rw[e]at h;rw[Qb,BS,e2];exact h
 rw[Wg,AU,Ac,hs,yS,Aa,Dg Ayn,Aa];rw[Ac,hs]at e1;rw[Ac,hs]at e2;have hz1:(List.replicate (Int.toNat (ch:Int)) (0:Int32)).length=ch:=by simp
 have hs1:=yu (l:=seg) (k:=ch-1) F0;rw[e1,hs1,Aa,yu F0,Aa,Yb _ F0,Aa];by_cases hc:1<ch
 ·rw[Aa8 hc]at hlast;have e3:((ch-1:Nat):Int)-1=((ch-2:Nat):Int):=F0
  have hs2:=yu (l:=seg) (k:=ch-2) F0;rw[Aa8 Ax1,Aa,e2,e3,hs2,Aa,Agf,Aa,yu (by rw[Avg];omega),Aa,Yb _ (by rw[Avg];omega),Aa];refine hend _ Axz ?_;rw[hlast,qp _ (by rw[Avg];omega)]
 ·rw[Aa2 hc]at hlast;rw[Aa2 Ax1];refine hend _ Axz ?_;rw[hlast,qp _ F0]
theorem Aod(ch:Nat)(m:LX)(h1:1<=ch)(h6:ch<=6)(hm:m.length %ch=0)(hl2:m.length<=4000):Rb (ch:Int) m=some 0:=by
 rw[Rb,Aa2 Ax5,Aa2 Axy,Dg Ax3,Aa,Aa2];rw[Az,Ho,Ac,<-Int.ofNat_tmod,hm];simp
theorem qP(ch:Nat)(m:LX)(h1:1<=ch)(h6:ch<=6)(hm:m.length %ch=0)(hl2:m.length<=4000):∀(j at' q:Nat),at' %ch=0->at'<=m.length->m.length-at'<=j->j<q->
  Ok (ch:Int) m q (at':Int) ((xA ch m).take at')=some (xA ch m,0)
 |j,at',q+1,ha,hle,hj,hq=>by
  have hlen:=fI ch m;rw[Ok,KG];by_cases h:at'<m.length
  ·have hb:=oh ha hm h;have e4:Ae (at':Int) (ch:Int)=((at'+ch:Nat):Int):=by rw[Aj];omega
   have hrest:=qP ch m h1 h6 hm hl2 (j-1) (at'+ch) q (by rw[Axo,ha]) hb F0 F0;have hseg:((m.take (at'+ch)).drop at').length=ch:=by simp;omega
   have htl:((xA ch m).take at').length=at':=by simp[hlen];omega
   rw[Aa8 F2,e4,Zp,Aa,show((at'+ch:Nat):Int).toNat=at'+ch from rfl,show(at':Int).toNat=at' from rfl,za _ ch h1 h6 hseg,Aa,Cy (by rw[htl,US];omega),Aa];have e:(xA ch m).take at'++pX (λi=>((m.take (at'+ch)).drop at').getD i 0) ch=(xA ch m).take (at'+ch):=by
    apply Auy (by rw[Ac5,htl,US,Alg,hlen];omega);intro k k1 k2;rw[Alg,hlen]at k2;rw[List.getElem_append,List.getElem_take];by_cases hk:k<at'
    ·rw[dif_pos (by rw[htl];exact hk),List.getElem_take]
    ·rw[dif_neg (by rw[htl];exact hk)];have hu:=tG (m:=m) ha (show k-at'<ch by omega) F0;rw[show at'+(k-at')=k by omega,Nh F0]at hu;have hx:∀n,n<=ch->unV (λi=>((m.take (at'+ch)).drop at').getD i 0) ch n=unV (λi=>m.getD (at'+i) 0) ch n:=by
      have hf:∀i,i<ch-> ((m.take (at'+ch)).drop at').getD i 0=m.getD (at'+i) 0:=by
       intro i hi;rw[Nh F0,Nh F0];simp
      intro n
      induction n with
      |zero=>
       intro _;rw[unV,unV,hf _ F0];split
       ·rw[hf _ F0]
       ·rfl
      |succ n ih=>intro hn;rw[unV,unV,ih F0,hf _ F0]
     have hy:=nJ (λi=>((m.take (at'+ch)).drop at').getD i 0) (show k-at'<ch by omega);rw[Nh (by rw[US];omega)]at hy;rw[hu,<-hx _ F0,<-hy];congr 1;rw[htl]
   rw[e];exact hrest
  ·rw[Aa2 F2,Avf F0];rfl
theorem Af3(ch:Nat)(m:LX)(h1:1<=ch)(h6:ch<=6)(hm:m.length %ch=0)(hl2:m.length<=4000):CY (ch:Int) m=some (xA ch m,0):=by
 have h:=qP ch m h1 h6 hm hl2 m.length 0 Ba Axz F0 F0 F9;rw[CY,IL,Aod ch m h1 h6 hm hl2,Aa,Aa2 Ax0];exact h
def pre{α:Type}(ch c:Nat)(f:α->Nat->α)(a0:α):Nat->α
 |0=>a0
 |m+1=>if m %ch=c then f (pre ch c f a0 m) m else pre ch c f a0 m
theorem Aef{α:Type}(ch c:Nat)(f:α->Nat->α)(a0:α):∀m,m<=c->c<ch->pre ch c f a0 m=a0
 |0,_,_=>rfl
 |m+1,h,h2=>by rw[pre,Aa2 (by rw[Adn F0];omega),Aef ch c f a0 m F0 h2]
theorem T5{α:Type}(ch c i:Nat)(f:α->Nat->α)(a0:α)(hi:i %ch=c)(hc:c<ch):∀j,j<ch->pre ch c f a0 (i+1+j)=pre ch c f a0 (i+1)
 |0,_=>rfl
 |j+1,h=>by
  have hne:(i+1+j) %ch≠c:=by
   intro e;have h1:(i+(1+j)) %ch=i %ch:=by rw[hi,<-e];congr 1;omega
   have h2:(1+j) %ch=0:=by
    have h3:=Nat.sub_mod_eq_zero_of_mod_eq h1;rwa [Av2]at h3
   rw[Adn F0]at h2;omega
  rw[show i+1+(j+1)=(i+1+j)+1 by omega,pre,Aa2 hne,T5 ch c i f a0 hi hc j F0]
theorem Aix{α:Type}(ch c i:Nat)(f:α->Nat->α)(a0:α)(hi:i %ch=c)(hc:c<ch):pre ch c f a0 (i+ch)=f (pre ch c f a0 i) i:=by
 have h:=T5 ch c i f a0 hi hc (ch-1) F0;rw[show i+1+(ch-1)=i+ch by omega]at h;rw[h,pre,Aa8 hi]
abbrev CS:=Int32×LX×LX
def Ahs(bits:Int)(s:CS)(y:Int32):Int32:=y+gF (sB bits) s.2.1 s.2.2+gs (shB bits) s.1
def Adc(bits:Int)(s:CS)(y:Int32):CS:=(Ahs bits s y,D5 s.2.1 s.2.2 y,(y+gF (sB bits) s.2.1 s.2.2)::s.2.2.take 15)
def cst(bits:Int)(ch:Nat)(t:LX)(v:LU)(c:Nat):Nat->CS:=pre ch c (λs i=>Adc bits s (YX (v.getD i 0))) (0,t,List.replicate 16 0)
def OkC(bits:Int)(s:CS):Prop:=yw (sB bits) s.2.1 s.2.2
theorem Abo(bits:Int)(ch:Nat){t:LX}(ht:t.length=16)(v:LU)(c:Nat):∀m,OkC bits (cst bits ch t v c m)
 |0=>⟨At2 bits,ht,by simp[cst,pre]⟩
 |m+1=>by
  have ih:=Abo bits ch ht v c m;rw[cst,pre];split
  ·exact Ah6 ih _ _
  ·exact ih
def tC(bits:Int)(ch:Nat)(t:LX)(v:LU):LX:=(List.range v.length).map λi=>Ahs bits (cst bits ch t v (i %ch) i) (YX (v.getD i 0))
theorem fO(bits:Int)(ch:Nat)(t:LX)(v:LU):(tC bits ch t v).length=v.length:=by simp[tC]
theorem Adx(bits:Int)(ch:Nat)(t:LX)(v:LU){i:Nat}(h:i<v.length):(tC bits ch t v).getD i 0=Ahs bits (cst bits ch t v (i %ch) i) (YX (v.getD i 0)):=by
 rw[Nh (by rw[fO];exact h)];simp[tC]
abbrev CL:=Int×Int32×(Int×LX×LX×Unit)×Unit
def toC(bits:Int)(s:CS):CL:=(bits,s.1,(sB bits,s.2.1,s.2.2,()),())
def cts(bits:Int)(ch:Nat)(t:LX)(v:LU)(i:Nat):List CL:=(List.range 6).map λc=>toC bits (cst bits ch t v c i)
theorem Ao6{bits:Int}{ch:Nat}{t:LX}{v:LU}{i c:Nat}(h:c<6):Ak (cts bits ch t v i) (c:Int)=some (toC bits (cst bits ch t v c i)):=by
 rw[Ch (by simp[cts];exact h)];simp[cts]
theorem Y5(bits:Int)(ch:Nat)(t:LX)(v:LU)(c m:Nat):cst bits ch t v c (m+1)=if m %ch=c then Adc bits (cst bits ch t v c m) (YX (v.getD m 0))else cst bits ch t v c m:=rfl
theorem Aop{bits:Int}{ch:Nat}{t:LX}{v:LU}{i c:Nat}(h:c<6)(hc:i %ch=c):Lp (cts bits ch t v i) (c:Int) (toC bits (Adc bits (cst bits ch t v c i) (YX (v.getD i 0))))=some (cts bits ch t v (i+1)):=by
 rw[Yb _ (by simp[cts];exact h)];congr 1;apply Auy (by simp[cts]);intro k h1 h2;rw[Axi];simp only[cts,Aw2,Aw0];by_cases hk:c=k
 ·subst hk;rw[Aa8 rfl,Y5,Aa8 hc]
 ·rw[Aa2 hk,Y5,Aa2 F0]
section
variable {bits:Int} {ch:Nat} {t:LX} {v:LU}
theorem U7(hb:Ck bits)(ht:t.length=16)(h1:1<=ch)(h6:ch<=6)(hv:v.length<=4000):∀(j i q:Nat),i+j=v.length->j<q->
  Il v (ch:Int) bits q (i:Int) (cts bits ch t v i) ((tC bits ch t v).take i)=Lj (ch:Int) bits (tC bits ch t v)
 |0,i,q+1,hi,_=>by
  rw[Il,Li,Aa2 F2,Avf (by rw[fO];omega)]
 |j+1,i,q+1,hi,hq=>by
  have hlen:=fO bits ch t v;have hc:i %ch<6:=Anf (Avu _ F0) h6;have hok:=Abo bits ch ht v (i %ch) i;have hs:=Aop (bits:=bits) (ch:=ch) (t:=t) (v:=v) (i:=i) hc rfl;have hx:=Adx bits ch t v (i:=i) F0;have hcb:=Afh hb hok (cst bits ch t v (i %ch) i).1 (YX (v.getD i 0));have ih:=U7 hb ht h1 h6 hv j (i+1) q F0 F0;rw[NQ F0,<-Nh F0,hx]at ih;rw[Il,Li,Aa8 F2,zD F0,Aa,Dg Ax3,Aa,uJ,Ao6 hc,Aa,Aa,Ajh,Aa];refine Avk (congrArg (λo=>Option.bind o _) hcb) ?_;rw[Aa];simp only;rw[Ya,MI,Aa2 Ax0,uJ];refine Avk (congrArg (λo=>Option.bind o _) hs) ?_;rw[Aa,Cy F6,Aa,Aj];exact ih
theorem Ag1(hb:Ck bits)(ht:t.length=16)(h1:1<=ch)(h6:ch<=6)(hv:v.length<=4000):Rw (ch:Int) bits t v=Lj (ch:Int) bits (tC bits ch t v):=by
 have h:=U7 hb ht h1 h6 hv v.length 0 Ba F0 F9;have e:Ba=(Ba-7)+1+1+1+1+1+1+1:=by have:=Ax;omega
 have hs:Ye v (ch:Int) bits t 0 (List.replicate 6 ((0:Int),(0:Int32),((0:Int),(List.replicate 16 (0:Int32)),(List.replicate 16 (0:Int32)),()),()))=MT v (ch:Int) bits (cts bits ch t v 0):=by
  rw[Ye,e];obtain rfl|rfl|rfl:=hb<;>rfl
 rw[Rw,AH,hs];exact h
theorem G5(bk:Int->LX->Option LX)(hb:Ck bits)(ht:t.length=16)(h1:1<=ch)(h6:ch<=6)(hv:v.length<=4000)(z:LX)(c:Nat)(hc:c<ch):∀(j i q:Nat),i %ch=c->v.length-i<=j->i<=5000->j<q->
  Ks bk v (ch:Int) bits t (c:Int) q (i:Int) (cP (λk=>decide (k %ch<c\/ (k %ch=c/\k<i))) (tC bits ch t v) z) bits (cst bits ch t v c i).1 (sB bits) (cst bits ch t v c i).2.1 (cst bits ch t v c i).2.2=
   bk ((c+1:Nat):Int) (cP (λk=>decide (k %ch<c+1)) (tC bits ch t v) z)
 |j,i,q+1,hi,hj,hi5,hq=>by
  have hlen:=fO bits ch t v;rw[Ks,BH];by_cases h:i<v.length
  ·have hok:=Abo bits ch ht v c i;have hst:=Ag7 hb hok (cst bits ch t v c i).1 (YX (v.getD i 0));have hx:=Adx bits ch t v (i:=i) h;rw[hi]at hx;have ih:=G5 bk hb ht h1 h6 hv z c hc (j-1) (i+ch) q (by rw[Axo];exact hi) F0 F0 F0;have Ap5:cst bits ch t v c (i+ch)=Adc bits (cst bits ch t v c i) (YX (v.getD i 0)):=Aix ch c i _ _ hi hc;rw[Ap5]at ih;have hset:=nF (p:=λk=>decide (k %ch<c\/ (k %ch=c/\k<i))) (a:=tC bits ch t v) (b:=z) (k:=i) F0;rw[hx]at hset;have yj:cP (λj=>decide (j %ch<c\/ (j %ch=c/\j<i))||decide (j=i)) (tC bits ch t v) z=cP (λk=>decide (k %ch<c\/ (k %ch=c/\k<i+ch))) (tC bits ch t v) z:=by
    apply BB;intro k _;rw[Alp];simp only[Asx,Abi];constructor
    ·rintro((h1|h1)|h1)
     ·exact .inl h1
     ·exact .inr ⟨h1.1,F0⟩
     ·subst h1;exact .inr ⟨hi,F0⟩
    ·rintro(h1|⟨h1,h2⟩)
     ·exact .inl (.inl h1)
     ·by_cases h3:k<i
      ·exact .inl (.inr ⟨h1,h3⟩)
      ·refine .inr ?_;have h4:(i+(k-i)) %ch=i %ch:=by rw[show i+(k-i)=k by omega,h1,hi]
       have h5:=Nat.sub_mod_eq_zero_of_mod_eq h4;rw[Av2,Adn F0]at h5;omega
   rw[yj]at hset;rw[Aa8 F2,zD h,Aa,Amz,Aa];refine Avk (congrArg (λo=>Option.bind o _) hst) ?_;rw[Aa];simp only;rw[BO,BI,SP F0,Aa];refine Avk (congrArg (λo=>Option.bind o _) hset) ?_;rw[Aa,AP,AZ,Aj];exact ih
  ·rw[Aa2 F2,AW,BM,Aj];have yj:cP (λk=>decide (k %ch<c\/ (k %ch=c/\k<i))) (tC bits ch t v) z=cP (λk=>decide (k %ch<c+1)) (tC bits ch t v) z:=by
    apply BB;intro k hk;rw[Alp];simp only[Abi];omega
   rw[yj];rfl
theorem I5(hb:Ck bits)(ht:t.length=16)(h1:1<=ch)(h6:ch<=6)(hv:v.length<=4000)(z:LX):∀(j c q:Nat),c+j=ch->j<q->
  Fk v (ch:Int) bits t q (c:Int) (cP (λk=>decide (k %ch<c)) (tC bits ch t v) z)=Pz (ch:Int) bits (tC bits ch t v)
 |0,c,q+1,hc,_=>by
  rw[Fk,Qa,Aa2 F7,mW (λk hk=>by have:=Avu k (show 0<ch by omega);simp;omega)]
 |j+1,c,q+1,hc,hq=>by
  have ih:=I5 hb ht h1 h6 hv z j (c+1) q F0 F0;have hin:=G5 (Fk v (ch:Int) bits t q) hb ht h1 h6 hv z c F0 v.length c Ba (Adn F0) F0 F0 F9;have h0:cst bits ch t v c c=(0,t,List.replicate 16 0):=Aef ch c _ _ c (Ap4 _) F0;rw[h0]at hin;have yj:cP (λk=>decide (k %ch<c\/ (k %ch=c/\k<c))) (tC bits ch t v) z=cP (λk=>decide (k %ch<c)) (tC bits ch t v) z:=by
   apply BB;intro k hk;have:=Nat.mod_le k ch;rw[Alp];simp only[Abi];omega
  rw[yj]at hin;rw[Fk,Qa,Aa8 F7,Auq hb,Aa];simp only;rw[BL];exact Avk hin ih
theorem Agh(hb:Ck bits)(ht:t.length=16)(h1:1<=ch)(h6:ch<=6)(hv:v.length<=4000)(hm:v.length %ch=0):Pn (ch:Int) bits t v=some (xA ch (tC bits ch t v)):=by
 have hlen:=fO bits ch t v;have h:=I5 hb ht h1 h6 hv (List.replicate v.length 0) ch 0 Ba F0 F9;rw[lC (by rw[hlen];simp) (λk _=>by simp)]at h;rw[Pn,CU,Ac,yS,Aa,Dg Ayn,Aa,BT];refine Avk h ?_;rw[Pz,BJ,Af3 ch _ h1 h6 (by rw[hlen];exact hm) F0,Aa]
end
def hB(bits:Int):Int:=if bits=8 then 128 else if bits=16 then 32768 else 8388608
theorem Aiq{bits:Int}(h:Ck bits):KI bits=some (Int32.ofInt (-(hB bits)),Int32.ofInt (hB bits-1),0):=by
 obtain rfl|rfl|rfl:=h<;>decide
theorem qZ{bits:Int}(h:Ck bits):Ux bits=some (hB bits):=by
 obtain rfl|rfl|rfl:=h<;>rfl
theorem iX(bits:Int):0<hB bits/\hB bits<=8388608:=by
 unfold hB;split; · omega
 ·split<;>omega
theorem xC{bits:Int}(h:Ck bits)(l:LX)(hl:l.length<=4000):∀(j i q:Nat),i+j=l.length->j<q->
  Px (Int32.ofInt (-(hB bits))) (Int32.ofInt (hB bits-1)) l q (i:Int)=Bs l (hB bits) q (i:Int)
 |0,i,q+1,hi,_=>by
  rw[Px,CK,Bs,Ey,Aa2 F2,Aa2 F2];rfl
 |j+1,i,q+1,hi,hq=>by
  have hh:=iX bits;have ih:=xC h l hl j (i+1) q F0 F0;have e1:(Int32.ofInt (-(hB bits))).toInt= -(hB bits):=by rw[Aww,Axp (by show -(4294967296/2:Int)<= _;omega) (by show _<(4294967296+1)/2;omega)]
  have e2:(Int32.ofInt (hB bits-1)).toInt=hB bits-1:=by rw[Aww,Axp (by show -(4294967296/2:Int)<= _;omega) (by show _<(4294967296+1)/2;omega)]
  rw[Px,CK,Bs,Ey,Aa8 F2,Aa8 F2,yu F0,Aa,Aa,Aa,Fl,Aai,Cr F0 F0,Aj,O3,Aaj,e1,e2,Af,Dx];generalize(l.getD i 0).toInt=X;by_cases h1:X< -(hB bits)
  ·rw[Aa8 F6,Aa8 F6]
  ·rw[Aa2 (c:=decide (X<0-hB bits)=true) F6];by_cases h2:hB bits<=X
   ·rw[Aa8 F6,Aa8 F6]
   ·rw[Aa2 F6,Aa2 F6];exact ih
theorem yL{bits:Int}(h:Ck bits)(l:LX)(hl:l.length<=4000):Vt bits l=Bp bits l:=by
 have hh:=iX bits;rw[Vt,PW,Aiq h,Aa,Bp,Je,qZ h,Aa];simp only;rw[Aa2 Ax0,Aa2 Axy,Aa2 Ax4,Aa2 Axy];exact xC h l hl l.length 0 Ba F0 F9
theorem Abu{bits:Int}(h:Ck bits)(l:LX)(hl:l.length<=4000):∃e,Bp bits l=some e:=by
 have hh:=iX bits;have key:∀(j i q:Nat),i+j=l.length->j<q->∃e,Bs l (hB bits) q (i:Int)=some e:=by
  intro j
  induction j with
  |zero=>
   intro i q hi hq;obtain⟨q,rfl⟩:∃k,q=k+1:=⟨q-1,F0⟩;rw[Bs,Ey,Aa2 F2];exact⟨_,rfl⟩
  |succ j ih=>
   intro i q hi hq;obtain⟨q,rfl⟩:∃k,q=k+1:=⟨q-1,F0⟩;rw[Bs,Ey,Aa8 F2,yu F0,Aa,Aa,Aj];split
   ·exact⟨_,rfl⟩
   ·split
    ·exact⟨_,rfl⟩
    ·exact ih (i+1) q F0 F0
 obtain⟨e,he⟩:=key l.length 0 Ba F0 F9;rw[Bp,Je,qZ h,Aa,Aa2 Ax4,Aa2 Axy];exact⟨e,he⟩
theorem mF{bits:Int}{ch:Nat}{t:LX}{v:LU}(hb:Ck bits)(ht:t.length=16)(h1:1<=ch)(h6:ch<=6)(hv:v.length<=4000)(hm:v.length %ch=0):
  ∃l e,Pn (ch:Int) bits t v=some l/\Yf (ch:Int) bits l=some (if e≠0 then([],e)else(l,0))/\Rw (ch:Int) bits t v=some (if e≠0 then([],e)else(l,0))/\Bp bits l=some e/\l.length=v.length:=by
 have hlen:=fO bits ch t v;have hul:=fI ch (tC bits ch t v);obtain⟨e,he⟩:=Abu hb (xA ch (tC bits ch t v)) F0;refine⟨xA ch (tC bits ch t v),e,Agh hb ht h1 h6 hv hm,?_,?_,he,F0⟩
 ·rw[Yf,he,Aa];by_cases h:e=0
  ·rw[Aa2 (by rw[Ao];simpa using h),Aa2 (by simpa using h)]
  ·rw[Aa8 (by rw[Ao];simpa using h),Aa8 h]
 ·rw[Ag1 hb ht h1 h6 hv,Lj,LZ,Am8 ch _ h1 h6 (by rw[hlen];exact hm) F0,Aa];simp only;rw[Aa2 Ax0,yL hb _ F0,he,Aa];by_cases h:e=0
  ·rw[Aa2 (by rw[Ao];simpa using h),Aa2 (by simpa using h)]
  ·rw[Aa8 (by rw[Ao];simpa using h),Aa8 h]
def cJ(s:Nat):Nat:=(s/2)^^^ (if s %2=1 then 3988292384 else 0)
theorem yZ{s:Nat}(h:s<4294967296):cJ s<4294967296:=by
 unfold cJ;exact Atj (n:=32) F6 (by split<;>decide)
theorem jg(x y:Nat):(x^^^y)/2=(x/2)^^^ (y/2):=by
 have:=Nat.shiftRight_xor_distrib (a:=x) (b:=y) (i:=1);simpa [Nat.shiftRight_eq_div_pow]using this
theorem Af8(x y:Nat):cJ (x^^^y)=cJ x^^^cJ y:=by
 have h:(x^^^y) %2=(x %2+y %2) %2:=by
  have:=Nat.xor_mod_two_eq_one (a:=x) (b:=y);have h1:(x^^^y) %2<2:=Avu _ F0;omega
 simp only[cJ,jg,h];have hx:x %2=0\/x %2=1:=F0
 have hy:y %2=0\/y %2=1:=F0
 rcases hx with hx|hx<;>rcases hy with hy|hy<;>simp only[hx,hy]<;>simp
 ·rw[Au8]
 ·rw[Au8,Axs (y/2),Au8,Axs 3988292384 (y/2)]
 ·rw[Au8,Axs 3988292384,Au8,Nat.xor_self];simp
def Xn:Nat->Nat->Nat
 |0,s=>s
 |k+1,s=>Xn k (cJ s)
theorem H8:∀(k x y:Nat),Xn k (x^^^y)=Xn k x^^^Xn k y
 |0,_,_=>rfl
 |k+1,x,y=>by rw[Xn,Af8,H8 k];rfl
theorem E6:∀(k h:Nat),Xn k (2^k*h)=h
 |0,h=>by simp[Xn]
 |k+1,h=>by
  have:cJ (2^(k+1)*h)=2^k*h:=by
   rw[Asd,Arn (2^k) 2,Avc,cJ,Aa2 F0,Nat.mul_div_cancel_left _ F0];simp
  rw[Xn,this,E6 k]
theorem uS:∀(k:Nat) {s:Nat},s<4294967296->Xn k s<4294967296
 |0,_,h=>h
 |k+1,_,h=>uS k (yZ h)
def rE(s c:Nat):Nat:=Xn 8 (s^^^c)
theorem uN{s c:Nat}(h:s<4294967296)(hc:c<256):rE s c<4294967296:=uS 8 (Atj (n:=32) (by simpa using h) F6)
theorem iw{s c:Nat}(hc:c<256):rE s c=(s/256)^^^Xn 8 ((s %256)^^^c):=by
 have h:s=(2^8*(s/256))^^^ (s %256):=by
  have h1:s %256<2^8:=by simpa using Avu s (by omega:256>0)
  have:=Atq h1 (s/256);have h2:2^8*(s/256)|||s %256=(2^8*(s/256))^^^ (s %256):=by
   apply Nat.eq_of_testBit_eq;intro i;rw[Nat.testBit_or,Nat.testBit_xor];by_cases hi:i<8
   ·have:(2^8*(s/256)).testBit i=false:=by rw[Nat.testBit_two_pow_mul];simp;omega
    rw[this];simp
   ·have:(s %256).testBit i=false:=Nat.testBit_lt_two_pow (Anf h1 (Ahg F0 F0));rw[this];simp
  omega
 rw[rE]
 conv=>lhs;rw[h]
 rw[Au8,H8,E6]
def Afi(s:Nat)(l:LB):Nat:=l.foldl (λs c=>rE s c.toNat) s
def He(b:LB):UInt32:=4294967295-UInt32.ofNat (Afi 4294967295 b)
theorem Amv(s:UInt32)(c:Nat)(hc:c<256):EB s (Ad (BY (UInt8.ofNat c) (2:UInt8)):Int)=some (UInt32.ofNat (s.toNat/2^^^ (if(s.toNat^^^c) %2=1 then 3988292384 else 0))):=by
 have h1:(Ad (BY (UInt8.ofNat c) (2:UInt8)):Int)=((c %2:Nat):Int):=by
  rw[NR,Aou,UInt8.toNat_mod,Ap3];show((c %256 %2:Nat):Int)=_;omega
 have h2:geq (BY s (2:UInt32)) (1:UInt32)=decide (s.toNat %2=1):=by
  rw[M8,W8,Alp];simp only[Asv,Abi];rw[<-UInt32.toNat_inj,UInt32.toNat_mod];rfl
 have h3:Cx s (2:UInt32)=UInt32.ofNat (s.toNat/2):=by
  apply UInt32.toNat_inj.1;rw[Y3,UInt32.toNat_div,Apw]
  show s.toNat/2=_;have:=s.toNat_lt;omega
 have h4:Yg (Cx s (2:UInt32)) (3988292384:UInt32)=UInt32.ofNat (s.toNat/2^^^3988292384):=by
  apply UInt32.toNat_inj.1;rw[h3,kZ,UInt32.toNat_xor,Apw,Apw];have:=s.toNat_lt;rw[Adn (a:=s.toNat/2) F0,Adn]
  ·rfl
  ·exact Atj (n:=32) F0 F4
 have hx:(s.toNat^^^c) %2=(s.toNat %2+c %2) %2:=by
  have:=Nat.xor_mod_two_eq_one (a:=s.toNat) (b:=c);have h1:(s.toNat^^^c) %2<2:=Avu _ F0;omega
 have hs:s.toNat %2=0\/s.toNat %2=1:=F0
 have hc2:c %2=0\/c %2=1:=F0
 rw[EB,IB,h1,h2,hx];rcases hs with hs|hs<;>rcases hc2 with hc2|hc2<;>simp[hs,hc2,Ay,IM,JJ,kZ,h3]
theorem qX:∀(j i q:Nat) (s:UInt32) (c:Nat),i+j=8->j<q->c<2^j->Kj q s (UInt8.ofNat c) (i:Int)=some (UInt32.ofNat (Xn j (s.toNat^^^c)))
 |0,i,q+1,s,c,hi,_,hc=>by
  obtain rfl:i=8:=F0
  obtain rfl:c=0:=by simpa using hc
  rw[Kj,Wh,Aa2 Ax6,KK,JU,Xn];simp
 |j+1,i,q+1,s,c,hi,hq,hc=>by
  have hc8:c<256:=Anf hc (show 2^(j+1)<=2^8 from Ahg F0 F0);rw[Kj,Wh,Aa8 F7,Amv s c hc8,Aa,Aj];have e:Cx (UInt8.ofNat c) (2:UInt8)=UInt8.ofNat (c/2):=by
   apply UInt8.toNat_inj.1;rw[Aoe,UInt8.toNat_div,Ap3,Ap3]
   show c %256/2=_;omega
  rw[e];have h:=qX j (i+1) q (UInt32.ofNat (s.toNat/2^^^ (if(s.toNat^^^c) %2=1 then 3988292384 else 0))) (c/2) F0 F0 (by rw[Asd]at hc;omega);rw[show((i:Int)+1)=((i+1:Nat):Int) by omega,h,Apw,Xn];congr 3;have:=s.toNat_lt;rw[Adn,cJ,jg,Au8,Au8,Axs (c/2)];exact Atj (n:=32) F0 (by split<;>decide)
theorem Aob(s:UInt32)(c:UInt8):SM s c=some (UInt32.ofNat (rE s.toNat c.toNat)):=by
 have h:=qX 8 0 Ba s c.toNat F0 F9 (by simpa using c.toNat_lt);rw[UInt8.ofNat_toNat]at h;exact h
theorem gU(b:LB)(hb:b.length<4611686018427387904):∀(j i q:Nat) (s:UInt32),i+j=b.length->j<q->Ie b q s (i:Int)=some (UInt32.ofNat (Afi s.toNat (b.drop i)))
 |0,i,q+1,s,hi,_=>by
  rw[Ie,Qy,Aa2 F2,show i=b.length by omega,Avi];simp[EY,DI,Afi]
 |j+1,i,q+1,s,hi,hq=>by
  have hlt:i<b.length:=F0
  rw[Ie,Qy,Aa8 F2,Ch hlt,Aa,Aob,Aa,Aj];have h:=gU b hb j (i+1) q (UInt32.ofNat (rE s.toNat b[i].toNat)) F0 F0;rw[show((i:Int)+1)=((i+1:Nat):Int) by omega,h,drop_cons hlt,Apw,Adn (uN s.toNat_lt b[i].toNat_lt)];rfl
theorem Ahw(b:LB)(hb:b.length<4611686018427387904):Sc b=some (He b):=by
 have h:=gU b hb b.length 0 Ba 4294967295 F0 F9;rw[Sc,MA,DD,DU,show((0:Int))=((0:Nat):Int)from rfl,h,Aa,X8];rfl
theorem Aow(c:UInt32):Yg (Cq c (GI.toZ (1:UInt64)).toNat) (Bo (3988292384:UInt32) (Es c (1:UInt32)))=UInt32.ofNat (cJ c.toNat):=by
 apply UInt32.toNat_inj.1;have e:(GI.toZ (1:UInt64)).toNat=1:=rfl;have h1:(Cq c 1).toNat=c.toNat/2:=by rw[UF]
 have h2:(Bo (3988292384:UInt32) (Es c (1:UInt32))).toNat=if c.toNat %2=1 then 3988292384 else 0:=by
  rw[Aku,Z6,UInt32.toNat_mul,UInt32.toNat_and]
  show 3988292384*(c.toNat&&&1) %4294967296=_;rw[Nat.and_one_is_mod];have:c.toNat %2=0\/c.toNat %2=1:=F0
  rcases this with h|h<;>simp[h]
 rw[e,kZ,UInt32.toNat_xor,h1,h2,Apw,Adn (yZ c.toNat_lt)];rfl
theorem U3(Mi:Int->LU->Option (UInt32×Int))(s:UInt32)(b:LB)(x:Int)(t:LU):∀(j i q:Nat) (c:UInt32),i+j=8->j<q->
  Pv Mi s b x t q c (i:Int)=DC Mi s b x (UInt32.ofNat (Xn j c.toNat)) t
 |0,i,q+1,c,hi,_=>by
  obtain rfl:i=8:=F0
  rw[Pv,CR,Aa2 Ax6,Xn,UInt32.ofNat_toNat]
 |j+1,i,q+1,c,hi,hq=>by
  rw[Pv,CR,Aa8 F7,Aow,Aj,show((i:Int)+1)=((i+1:Nat):Int) by omega,U3 Mi s b x t j (i+1) q _ F0 F0,Apw,Adn (yZ c.toNat_lt)];rfl
def tbl(n:Nat):LU:=(List.range n).map λi=>UInt32.ofNat (Xn 8 i)
theorem Aeg(s:UInt32)(b:LB):∀(j i q:Nat),i+j=256->j<q->Mo s b q (i:Int) (tbl i++List.replicate j 0)=PF s b (tbl 256)
 |0,i,q+1,hi,_=>by
  obtain rfl:i=256:=F0
  rw[Mo,EG,Aa2 Ax6];simp
 |j+1,i,q+1,hi,hq=>by
  have hlen:(tbl i++List.replicate (j+1) 0).length=i+(j+1):=by simp[tbl]
  rw[Mo,EG,Aa8 F7,OG];have h:=U3 (Mo s b q) s b (i:Int) (tbl i++List.replicate (j+1) 0) 8 0 Ba (Ad (i:Int)) F0 F9;rw[show((0:Int))=((0:Nat):Int)from rfl,h,DC,cR,Ch (by rw[hlen];omega),Aa,Yb _ (by rw[hlen];omega),Aa,dV,bJ,Aj];have e:(Ad (i:Int):UInt32).toNat=i:=by rw[J3,Apw,Adn F0]
  rw[e,Au9,eV (by simp[tbl])];have h2:=Aeg s b j (i+1) q F0 F0;have h3:tbl (i+1)=tbl i++[UInt32.ofNat (Xn 8 i)]:=by simp[tbl,List.range_succ]
  rw[h3]at h2;rw[show((i:Int)+1)=((i+1:Nat):Int) by omega,<-h2];simp
theorem Anh{i:Nat}(h:i<256):Ak (tbl 256) (i:Int)=some (UInt32.ofNat (Xn 8 i)):=by
 rw[Ch (by simpa [tbl]using h)];simp[tbl]
theorem Ald(s:UInt32)(c:UInt8):Ak (tbl 256) (GI.toZ (Yg (Ad s:UInt8) c))=some (UInt32.ofNat (Xn 8 ((s.toNat %256)^^^c.toNat))):=by
 have e:GI.toZ (Yg (Ad s:UInt8) c)=(((s.toNat %256)^^^c.toNat:Nat):Int):=by
  rw[AM,Ack,UInt8.toNat_xor,jS,Ap3]
 rw[e,Anh];exact Atj (n:=8) F6 (by simpa using c.toNat_lt)
theorem Af4(s:UInt32)(c:UInt8):Yg (Cq s (GI.toZ (8:UInt64)).toNat) (UInt32.ofNat (Xn 8 ((s.toNat %256)^^^c.toNat)))=UInt32.ofNat (rE s.toNat c.toNat):=by
 apply UInt32.toNat_inj.1;have hlt:Xn 8 ((s.toNat %256)^^^c.toNat)<4294967296:=uS 8 (Atj (n:=32) F6 (by have:=c.toNat_lt;simp;omega));have e:(GI.toZ (8:UInt64)).toNat=8:=rfl;rw[e,kZ,UInt32.toNat_xor,UF,Apw,Apw,Adn hlt,Adn (uN s.toNat_lt c.toNat_lt),iw c.toNat_lt]
theorem oz(b:LB)(hb:b.length<4611686018427387904):∀(j i q:Nat) (s:UInt32),i+j=b.length->j<q->Qd b (tbl 256) q s (i:Int)=some (UInt32.ofNat (Afi s.toNat (b.drop i)),0)
 |0,i,q+1,s,hi,_=>by
  rw[Qd,EF,Aa2 F2,show i=b.length by omega,Avi];simp[OS,cC,Afi]
 |j+1,i,q+1,s,hi,hq=>by
  have hlt:i<b.length:=F0
  rw[Qd,EF,Aa8 F2,Ch hlt,Aa,Ald,Aa,Aa,Af4,Aj];have h:=oz b hb j (i+1) q (UInt32.ofNat (rE s.toNat b[i].toNat)) F0 F0;rw[show((i:Int)+1)=((i+1:Nat):Int) by omega,h,drop_cons hlt,Apw,Adn (uN s.toNat_lt b[i].toNat_lt)];rfl
theorem Amn(s:UInt32)(b:LB)(hb:b.length<=100000):YL s b=some (UInt32.ofNat (Afi s.toNat b),0):=by
 have h:=Aeg s b 256 0 Ba F0 F9;have h2:=oz b F0 b.length 0 Ba s F0 F9;rw[YL,TL,Aa2 Axy,bO];refine Avk h ?_;rw[PF,OV,cD,PB,PK];exact h2
theorem Aik(a:UInt32):yB a=4294967295-a:=by
 have h:=a.toNat_lt;have e:yB a=UInt32.ofNat (BitVec.ofInt 32 4294967295^^^BitVec.ofInt 32 (a.toNat:Int)).toNat:=Eu _;apply UInt32.toNat_inj.1;rw[e,Apw,UInt32.toNat_sub_of_le _ _ (by rw[UInt32.le_iff_toNat_le];show a.toNat<=4294967295;omega)];have h1:BitVec.ofInt 32 (a.toNat:Int)=a.toBitVec:=Q5 a;have h2:(BitVec.ofInt 32 4294967295:BitVec 32)=BitVec.allOnes 32:=F4
 rw[h1,h2,BitVec.allOnes_xor,BitVec.toNat_not];show(4294967296-1-a.toNat) %4294967296=4294967295-a.toNat;omega
theorem Aaq(b:LB)(hb:b.length<=100000):Ws b=some (He b,0):=by
 rw[Ws,Amn _ _ hb,Aa];simp only[Ao,Aik];rfl
theorem Aca:∀{l m:LB},l.length=m.length->El l=El m->l=m
 |[],[],_,_=>rfl
 |x::l,y::m,h,e=>by
  simp only[El]at e;have hx:=x.toNat_lt;have hy:=y.toNat_lt;have h1:x=y:=UInt8.toNat_inj.1 F0;rw[h1,Aca (l:=l) (m:=m) (by simpa using h) F0]
theorem P4:∀(w n:Nat),El (FD n w)=n %256^w
 |0,n=>by simp[FD,El,Nat.mod_one]
 |w+1,n=>by
  rw[FD,El,P4 w (n/256),Ap3,show(256:Nat)^(w+1)=256*256^w by rw[Asd,Arn],Nat.mod_mul]
def Uj(b:LB):Int:=
 if b.length<5 then 24 else if 41254<b.length then 4 else if(He (b.take (b.length-4))).toNat≠El (b.drop (b.length-4))then 22 else 0
theorem nk(b:LB):DM b=some (if Uj b≠0 then([],Uj b)else(b.take (b.length-4),0)):=by
 rw[DM];by_cases h1:b.length<5
 ·have hS:Uj b=24:=by rw[Uj,Aa8 h1]
  rw[Aa8 F2,hS];rfl
 rw[Aa2 F2];by_cases h2:41254<b.length
 ·have hS:Uj b=4:=by rw[Uj,Aa2 h1,Aa8 h2]
  rw[Aa8 Axy,hS];rfl
 have e4:Am (Ac b) 4=((b.length-4:Nat):Int):=by rw[Ac,Cf];omega
 have hd:(b.drop (b.length-4)).length=4:=by simp;omega
 rw[Aa2 Axy,e4,Dc,Aa,show((b.length-4:Nat):Int).toNat=b.length-4 from rfl,Aaq _ F6,Aa];simp only;rw[Aa2 Ax0,Dd,Aa,show((b.length-4:Nat):Int).toNat=b.length-4 from rfl,qw _ F0 F0,Aa];have hne:Bf (gW (b.drop (b.length-4))) (Ad (He (b.take (b.length-4))):UInt64)=decide ((He (b.take (b.length-4))).toNat≠El (b.drop (b.length-4))):=by
  have hlt:=(He (b.take (b.length-4))).toNat_lt;rw[MZ,Alp];simp only[Aw7,ne_eq,<-Aw1,Abi];rw[SZ F0,Ir,Ajw,Adn F0];exact⟨λh e=>h e.symm,λh e=>h e.symm⟩
 simp only;rw[hne,Aa];by_cases h3:(He (b.take (b.length-4))).toNat≠El (b.drop (b.length-4))
 ·have hS:Uj b=22:=by rw[Uj,Aa2 h1,Aa2 h2,Aa8 h3]
  rw[Aa8 (by simp[h3]),hS];rfl
 ·have hS:Uj b=0:=by rw[Uj,Aa2 h1,Aa2 h2,Aa2 h3]
  rw[Aa2 (by rw[At8 h3];decide),hS];rfl
theorem Agd(b:LB)(hb:b.length<=1000000):Xx b=some (b++FD (He b).toNat 4):=by
 have h:∀k:Nat,(Ad (Cq (He b) k):UInt8)=UInt8.ofNat ((He b).toNat/2^k):=by
  intro k;rw[jS,UF]
 have h0:(Ad (He b):UInt8)=UInt8.ofNat (He b).toNat:=jS _;have h1:=h 8;have h2:=h 16;have h3:=h 24;rw[Xx,Ahw b F0,Aa,Cy F6,Aa,Cy F6,Aa,h0,show(GI.toZ (8:UInt64)).toNat=8 from rfl,show(GI.toZ (16:UInt64)).toNat=16 from rfl,show(GI.toZ (24:UInt64)).toNat=24 from rfl,h1,h2,h3];simp only[FD,Awv,Arw]
theorem vK(b:LB):Po b=some (Uj b):=by
 rw[Po];by_cases h1:b.length<5
 ·rw[Aa8 F2,Uj,Aa8 h1]
 rw[Aa2 F2];by_cases h2:41254<b.length
 ·rw[Aa8 Axy,Uj,Aa2 h1,Aa8 h2]
 have e4:Am (Ac b) 4=((b.length-4:Nat):Int):=by rw[Ac,Cf];omega
 have hd:(b.drop (b.length-4)).length=4:=by simp;omega
 rw[Aa2 Axy,e4,Dc,Aa,show((b.length-4:Nat):Int).toNat=b.length-4 from rfl,Agd _ F6,Aa];have hlt:=(He (b.take (b.length-4))).toNat_lt;have hiff:(b.take (b.length-4)++FD (He (b.take (b.length-4))).toNat 4 !=b)=decide ((He (b.take (b.length-4))).toNat≠El (b.drop (b.length-4))):=by
  rw[Alp];simp only[Aw7,ne_eq,Abi];constructor
  ·intro h e;apply h;have:FD (He (b.take (b.length-4))).toNat 4=b.drop (b.length-4):=Aca (by rw[Oj,hd]) (by rw[P4,Adn F0,e]);rw[this,List.take_append_drop]
  ·intro h e;apply h;have hx:FD (He (b.take (b.length-4))).toNat 4=b.drop (b.length-4):=by
    have e2:b.take (b.length-4)++FD (He (b.take (b.length-4))).toNat 4=b.take (b.length-4)++b.drop (b.length-4):=by rw[e,List.take_append_drop]
    exact List.append_cancel_left e2
   rw[<-hx,P4,Adn F0]
 rw[hiff];by_cases h3:(He (b.take (b.length-4))).toNat≠El (b.drop (b.length-4))
 ·rw[Aa8 (by simp[h3]),Uj,Aa2 h1,Aa2 h2,Aa8 h3]
 ·rw[Aa2 (by rw[At8 h3];decide),Uj,Aa2 h1,Aa2 h2,Aa2 h3]
theorem uq{b:LB}(h:Uj b=0):5<=b.length/\b.length<=41254:=by
 unfold Uj at h;split at h
 ·simp at h
 ·split at h
  ·simp at h
  ·omega
theorem Ab6{c:Nat}(h1:1<=c)(h6:c<=6):Cx (4000:Int) (c:Int)=((4000/c:Nat):Int):=by
 have:c=1\/c=2\/c=3\/c=4\/c=5\/c=6:=F0
 rcases this with rfl|rfl|rfl|rfl|rfl|rfl<;>rfl
theorem Al9(p:LB)(h:p.length<=41250):okB p (8*p.length):=⟨F0,F0,λk h1 h2=>by omega⟩
theorem BE{bits:Int}{ch n:Nat}{t:LX}(b:LB)(hb:Ck bits)(ht:t.length=16)(h1:1<=ch)(h6:ch<=6)(n1:1<=n)(n2:n<=4000/ch):
  ∃l e,Mj (ch:Int) bits t (n:Int) b=some (l,e)/\Ev (ch:Int) bits t (n:Int) b=some (l,e)/\ (e=0->Bp bits l=some 0/\l.length<=4000/\l.length=n*ch)/\ (e≠0->l=[]):=by
 have hn:n*ch<=4000:=by
  have:=Ahd ch n2;have h2:=Au0 4000 ch;omega
 have hq4:=Ab6 h1 h6;generalize 4000/ch=mm at*
 have hck:Tg (ch:Int) bits=some 0:=by
  have hr:∃x y,KI bits=some (x,y,0):=⟨_,_,Aiq hb⟩;obtain⟨x,y,hr⟩:=hr;rw[Tg,hr,Aa];simp only;rw[Aa2 (by simp[Ao,Af,Az];omega)]
 have hh:=iX bits;have Ab2:Na (ch:Int) bits (n:Int)=some 0:=by
  rw[Na,AG,Aa2 Ax5,qZ hb,Aa,Aa2 Ax4,Aa,Aa2 (by simp[Ao,Af];omega),Dg Ax3,Aa,hq4,Aa2 Ax1]
 rw[Mj,Ev,Rs,hck,Ab2,Aa,Aa,Aa2 Ax0,Aa2 F7,Dg Ax3,Aa,hq4,Aa2 Ax1,Aa2 Ax0,nk,vK];by_cases hs:Uj b≠0
 ·rw[Aa8 hs];simp only[Aa];rw[Aa8 (by rw[Ao];simpa using hs),Aa8 (by rw[Ao];simpa using hs)];exact⟨[],Uj b,rfl,rfl,λe=>absurd e hs,λ_=>rfl⟩
 have hs0:Uj b=0:=by simpa using hs
 have hlen:=uq hs0;have e4:Am (Ac b) 4=((b.length-4:Nat):Int):=by rw[Ac,Cf];omega
 rw[Aa2 hs,hs0];simp only[Aa];rw[Aa2 Ax0,Aa2 Ax0,e4,Dc,Aa,show((b.length-4:Nat):Int).toNat=b.length-4 from rfl];have hpl:(b.take (b.length-4)).length=b.length-4:=by simp
 generalize b.take (b.length-4)=p at*
 have e8:Bo (8:Int) (Ac p)=((8*p.length:Nat):Int):=by rw[Ac,Hs];omega
 have hp:=Al9 p F0;have hv:=values_eq hp h1 h6 hn;have hr:=Adb (N:=8*p.length) (p:=p) rfl F0 h1 h6 hn;have hat:=sV (ch:=ch) (p:=p) (N:=8*p.length) (n*ch) 0 [] F0;rw[Q6,Aa2 Axy,Gi,Cy F6,Aa,Aa,Aa,Arw,e8];simp only;rw[Aa2 Ax0,hv,hr,Aa,Aa];generalize Xg ch p (8*p.length) (n*ch) 0 []=V at*
 obtain⟨v,at',e⟩:=V;simp only at*
 by_cases he:e≠0
 ·rw[Aa8 he,Aa8 he];simp only;rw[Aa8 (by rw[Ao];simpa using he),Hw,Ih,Aa8 (by rw[Ao];simpa using he)];exact⟨[],e,rfl,rfl,λh=>absurd h he,λ_=>rfl⟩
 have he0:e=0:=by simpa using he
 have hvl:=hat.2.2 he0;simp only[List.length_nil,Avt]at hvl;rw[Aa2 he,Aa2 he];simp only;rw[Aa2 Ax0,Cf,show((8*p.length:Nat):Int)-(at':Int)=((8*p.length-at':Nat):Int) by omega,Hw,Ih];by_cases h7:7<8*p.length-at'
 ·have hE:(if 7<8*p.length-at'\/Cs p at' (8*p.length-at')≠0 then(12:Int)else 0)=12:=Aa8 (.inl h7);rw[Aa8 Ax2,hE,Aa8 F4];exact⟨[],12,rfl,rfl,λh=>absurd h F4,λ_=>rfl⟩
 rw[Aa2 Ax2,pZ hp at' _ F0,Aa2 F0,Aa];have hz:Bf (Vh p at' (8*p.length-at')) (0:UInt64)=decide (Cs p at' (8*p.length-at')≠0):=by
  rw[MZ,Alp];simp only[Aw7,ne_eq,<-Aw1,Abi];rw[ES p _ _ F0];rfl
 simp only;rw[hz];by_cases hv0:Cs p at' (8*p.length-at')≠0
 ·have hE:(if 7<8*p.length-at'\/Cs p at' (8*p.length-at')≠0 then(12:Int)else 0)=12:=Aa8 (.inr hv0);rw[Aa8 (by simp[hv0]),hE,Aa8 F4];exact⟨[],12,rfl,rfl,λh=>absurd h F4,λ_=>rfl⟩
 have hm:v.length %ch=0:=by rw[hvl];exact Awd n ch
 obtain⟨l,e,g1,g2,g3,g4,g5⟩:=mF (v:=v) hb ht h1 h6 F0 hm;have hE:(if 7<8*p.length-at'\/Cs p at' (8*p.length-at')≠0 then(12:Int)else 0)=0:=Aa2 F0;rw[Aa2 (by rw[At8 hv0];decide),hE,Aa2 F4,g1,g3,Aa,Aa,g2];by_cases hl:e≠0
 ·rw[Aa8 hl];exact⟨[],e,rfl,rfl,λh=>absurd h hl,λ_=>rfl⟩
 ·rw[Aa2 hl];have hl0:e=0:=by simpa using hl
  exact⟨l,0,rfl,rfl,λ_=>⟨by rw[g4,hl0],F0,F0⟩,λe=>absurd rfl e⟩
def mxV(f:Nat->Int32)(ch i:Nat):Int32:=if i+1<ch then f (i+1)-f i else if 1<ch then f (ch-1)-Cx (f (ch-1)-f (ch-2)) (2:Int32)else f (ch-1)
def mx(ch:Nat)(x:LX):LX:=(List.range x.length).map λk=>mxV (λi=>x.getD (k-k %ch+i) 0) ch (k %ch)
def Auf(x:Int32):UInt32:=UInt32.ofNat (if 0<=x.toInt then 2*x.toInt.toNat else 2*(-x.toInt-1).toNat+1)
def Avq(bits:Int)(s:CS)(x:Int32):Int32:=x-gs (shB bits) s.1-gF (sB bits) s.2.1 s.2.2
def evl(bits:Int)(ch:Nat)(t m:LX):Nat->LU
 |0=>[]
 |i+1=>evl bits ch t m i++[Auf (Avq bits (cst bits ch t (evl bits ch t m i) (i %ch) i) (m.getD i 0))]
theorem Ayd{p:Prop}(h:p:=by rw[Ac5];omega):p:=h
end Go.Pl
namespace Go.Pl
open Go Go.Lv
variable{c d:List Bool}{a s:Nat}{p:Prop}
def tb(l:List Bool)(k:Nat):Nat:=if l.getD k false=true then 1 else 0
theorem Al8(b:Bool)(l:List Bool):tb (b::l) 0=if b=true then 1 else 0:=rfl
theorem Ank(b:Bool)(l:List Bool)(k:Nat):tb (b::l) (k+1)=tb l k:=by simp[tb]
theorem Anu{a b:List Bool}{k:Nat}(h:k<a.length):tb (a++b) k=tb a k:=by
 rw[tb,tb,List.getD_eq_getElem?_getD,List.getD_eq_getElem?_getD,List.getElem?_append_left h]
theorem Amt(a b:List Bool)(k:Nat):tb (a++b) (a.length+k)=tb b k:=by
 rw[tb,tb,List.getD_eq_getElem?_getD,List.getD_eq_getElem?_getD,List.getElem?_append_right F0,Av2]
def At(p:LB)(a:Nat)(c:List Bool):Prop:=∀i,i<c.length->Kf p (a+i)=tb c i
theorem At.left{p:LB}(h:At p a (c++d)):At p a c:=λi hi=>by
 rw[h i Ayd,Anu hi]
theorem At.right{p:LB}(h:At p a (c++d)):At p (a+c.length) d:=λi hi=>by
 rw[Asz,h (c.length+i) Ayd,Amt]
theorem At.cons{p:LB}{b:Bool}(h:At p a (b::c)):Kf p a=(if b=true then 1 else 0)/\At p (a+1) c:=by
 have h0:=h 0 Axz;rw[Avl,Al8]at h0;refine⟨h0,λi hi=>?_⟩;have:=h (i+1) F6;rw[Ank]at this;rw[show a+1+i=a+(i+1) by omega,this]
def Acd:Nat->Nat->List Bool
 |_,0=>[]
 |v,n+1=>decide (v %2=1)::Acd (v/2) n
def Atf(l v:Nat):List Bool:=if 48<=v/2^l then List.replicate 48 true++Acd v 32 else List.replicate (v/2^l) true++(false::Acd (v %2^l) l)
def Auh(k l:Nat)(v:UInt32):List Bool:=if v.toNat<2^k then false::Acd v.toNat k else true::Atf l (v.toNat-2^k)
def bv:List Bool->Nat
 |[]=>0
 |b::r=>(if b=true then 1 else 0)+2*bv r
def At7(c:List Bool):LB:=(List.range ((c.length+7)/8)).map λj=>UInt8.ofNat (bv ((c.drop (8*j)).take 8))
def Aun(ch:Nat)(V:LU):Nat->List Bool
 |0=>[]
 |i+1=>Aun ch V i++Auh (now ch (V.take i)).1 (now ch (V.take i)).2.1 (V.getD i 0)
def P64:Nat:=4823603603198064275
def LG(s:Nat):Nat:=(2*s %18446744073709551616)^^^ (s/9223372036854775808*P64)
theorem VS(h:s<18446744073709551616):LG s<18446744073709551616:=by
 have h1:s/9223372036854775808=0\/s/9223372036854775808=1:=F0
 exact Atj (n:=64) (Avu _ F4) (by rcases h1 with e|e<;>rw[e]<;>decide)
theorem Aek(x y:Nat):(x^^^y)/9223372036854775808=(x/9223372036854775808)^^^ (y/9223372036854775808):=by
 have:=Nat.shiftRight_xor_distrib (a:=x) (b:=y) (i:=63);simpa [Nat.shiftRight_eq_div_pow]using this
theorem Adi(x y:Nat):2*(x^^^y) %18446744073709551616=(2*x %18446744073709551616)^^^ (2*y %18446744073709551616):=by
 have h1:=Nat.shiftLeft_xor_distrib (a:=x) (b:=y) (i:=1);have h2:=Nat.xor_mod_two_pow (a:=2*x) (b:=2*y) (n:=64);have e:2*(x^^^y)=(2*x)^^^ (2*y):=by simpa [Nat.shiftLeft_eq,Arn]using h1
 rw[e];exact h2
theorem Anp{b:Nat}(ha:a=0\/a=1)(hb:b=0\/b=1)(p:Nat):(a^^^b)*p=(a*p)^^^ (b*p):=by
 rcases ha with rfl|rfl<;>rcases hb with rfl|rfl<;>simp
theorem Avo(a b c d:Nat):(a^^^b)^^^ (c^^^d)=(a^^^c)^^^ (b^^^d):=by
 rw[Au8,Au8,<-Au8 b c d,Axs b c,Au8 c b d]
theorem Aan{x y:Nat}(hx:x<18446744073709551616)(hy:y<18446744073709551616):LG (x^^^y)=LG x^^^LG y:=by
 rw[LG,LG,LG,Adi,Aek,Anp F0 F0,Avo]
def Nu:Nat->Nat->Nat
 |0,s=>s
 |k+1,s=>Nu k (LG s)
theorem oF:∀(k:Nat) {s:Nat},s<18446744073709551616->Nu k s<18446744073709551616
 |0,_,h=>h
 |k+1,_,h=>oF k (VS h)
theorem wV:∀(k:Nat) {x y:Nat},x<18446744073709551616->y<18446744073709551616->Nu k (x^^^y)=Nu k x^^^Nu k y
 |0,_,_,_,_=>rfl
 |k+1,x,y,hx,hy=>by rw[Nu,Aan hx hy,wV k (VS hx) (VS hy)];rfl
theorem tX:∀(k h:Nat),2^k*h<18446744073709551616->Nu k h=2^k*h
 |0,h,_=>by simp[Nu]
 |k+1,h,hl=>by
  have hpos:0<2^k:=Av4 F0;rw[Asd,Avc]at hl;have h2:2*h<18446744073709551616:=Au7 (Nat.le_mul_of_pos_left _ hpos) hl;have:LG h=2*h:=by rw[LG,Adn h2,show h/9223372036854775808=0 by omega];simp
  rw[Nu,this,tX k _ hl,Asd,Avc]
def dU(s c:Nat):Nat:=Nu 8 (s^^^ (c*72057594037927936))
theorem c56{c:Nat}(hc:c<256):c*72057594037927936<18446744073709551616:=F0
theorem pG{c:Nat}(h:s<18446744073709551616)(hc:c<256):dU s c<18446744073709551616:=oF 8 (Atj (n:=64) h (c56 hc))
theorem Ana(s:Nat):s=(s/72057594037927936*72057594037927936)^^^ (s %72057594037927936):=by
 have h1:s %72057594037927936<2^56:=Avu _ F4;have:=Atq h1 (s/72057594037927936);have h2:2^56*(s/72057594037927936)|||s %72057594037927936=(2^56*(s/72057594037927936))^^^ (s %72057594037927936):=by
  apply Nat.eq_of_testBit_eq;intro i;rw[Nat.testBit_or,Nat.testBit_xor];by_cases hi:i<56
  ·have:(2^56*(s/72057594037927936)).testBit i=false:=by rw[Nat.testBit_two_pow_mul];simp;omega
   rw[this];simp
  ·have:(s %72057594037927936).testBit i=false:=Nat.testBit_lt_two_pow (Anf h1 (Ahg F0 F0));rw[this];simp
 rw[Arn (s/72057594037927936)]
 show s=(2^56*(s/72057594037927936))^^^ _;rw[<-h2,<-this];have:=Nat.div_add_mod s 72057594037927936
 show s=72057594037927936*_+_;omega
theorem Ae8(a c:Nat):(a^^^c)*72057594037927936=(a*72057594037927936)^^^ (c*72057594037927936):=by
 have h1:=Nat.shiftLeft_xor_distrib (a:=a) (b:=c) (i:=56);simpa [Nat.shiftLeft_eq]using h1
theorem M7{c:Nat}(h:s<18446744073709551616)(hc:c<256):dU s c=(256*s %18446744073709551616)^^^Nu 8 (((s/72057594037927936)^^^c)*72057594037927936):=by
 have hs:s/72057594037927936<2^8:=by show _<256;omega
 have hx:(s/72057594037927936)^^^c<256:=Atj (n:=8) hs (by simpa using hc);have hl:s %72057594037927936<72057594037927936:=Avu _ F4;rw[dU]
 conv=>lhs;rw[Ana s]
 rw[Axs (s/72057594037927936*72057594037927936),Au8,<-Ae8,wV 8 F0 (c56 hx),tX 8 _ (by show 256*_<_;omega)];congr 1
 show 256*(s %72057594037927936)=_;omega
def vU(s:Nat)(l:LB):Nat:=l.foldl (λs c=>dU s c.toNat) s
theorem A7{n:Nat}(h:n<18446744073709551616):(UInt64.ofNat n).toNat=n:=by rw[Ajw];exact Adn h
theorem Aqo(s:UInt64)(bit:Nat)(hb:bit=0\/bit=1):EC s (bit:Int)=some (UInt64.ofNat ((2*s.toNat %18446744073709551616)^^^ (((s.toNat/9223372036854775808)^^^bit)*P64))):=by
 have hs:=s.toNat_lt;have ht:s.toNat/9223372036854775808=0\/s.toNat/9223372036854775808=1:=F0
 have e1:(Bo s (2:UInt64)).toNat=2*s.toNat %18446744073709551616:=by
  rw[JI,UInt64.toNat_mul];show s.toNat*2 %_=_;rw[Arn]
 have hlt:2*s.toNat %18446744073709551616<18446744073709551616:=Avu _ F4;have ey:Yg (Bo s (2:UInt64)) (4823603603198064275:UInt64)=UInt64.ofNat ((2*s.toNat %18446744073709551616)^^^P64):=by
  apply UInt64.toNat_inj.1;rw[uI,UInt64.toNat_xor,e1,A7 (Atj (n:=64) hlt F4)];rfl
 have en:Bo s (2:UInt64)=UInt64.ofNat (2*s.toNat %18446744073709551616):=by
  apply UInt64.toNat_inj.1;rw[e1,A7 hlt]
 have eg:Mf s (9223372036854775808:UInt64)=decide (s.toNat/9223372036854775808=1):=by
  rw[Al7,decide_eq_decide]
  show 9223372036854775808<=s.toNat↔_;omega
 have hp:∀b:Bool,Va s b=some (if b=true then UInt64.ofNat ((2*s.toNat %18446744073709551616)^^^P64)else UInt64.ofNat (2*s.toNat %18446744073709551616)):=by
  intro b;rw[Va,JW,ey,en];cases b<;>rfl
 rw[EC,JB,hp,hp,eg];rcases hb with rfl|rfl<;>rcases ht with h|h<;>rw[h]<;>simp[Ay]
theorem rW(c:UInt8):∀(j q:Nat) (s:UInt64),j<=8->j<q->Kk c q s ((2^j/2:Nat):Int)=some (UInt64.ofNat (Nu j (s.toNat^^^ (c.toNat %2^j*2^(64-j)))))
 |0,q+1,s,_,_=>by
  rw[Kk,Wm,Aa2 Ayk,ID,KB];simp[Nu,Nat.mod_one]
 |j+1,q+1,s,hj,hq=>by
  have hc:=c.toNat_lt;have hs:=s.toNat_lt;have hj2:2^j<=2^7:=Ahg F0 F0;have hpos:0<2^j:=Av4 F0;have e1:2^(j+1)/2=2^j:=by rw[Asd];omega
  have e2:Cx ((2^j:Nat):Int) 2=((2^j/2:Nat):Int):=by
   generalize 2^j=K at*
   rw[KQ,Atv F0,Cr F0 F0];omega
  have e3:Ho (Cx (Ad c:Int) ((2^j:Nat):Int)) (2:Int)=((c.toNat/2^j %2:Nat):Int):=by
   have hX:=Asu c.toNat (2^j);rw[NR,KQ,<-Int.ofNat_tdiv];generalize c.toNat/2^j=X at*
   rw[Cr F0 F0,Ho,Awr F0];omega
  have hbit:c.toNat/2^j %2=0\/c.toNat/2^j %2=1:=F0
  rw[Kk,Wm,e1,Aa8 (by rw[Az,Abi];omega),Dg (by rw[Ao,Aw7];omega),Aa,e3,Aqo s _ hbit,Aa,e2,rW c j q _ F0 F0];congr 2;rw[Nu];congr 1;have hx:c.toNat %2^(j+1)*2^(64-(j+1))=(c.toNat/2^j %2)*9223372036854775808+c.toNat %2^j*2^(63-j):=by
   have h63:(9223372036854775808:Nat)=2^j*2^(63-j):=by rw[<-Axf,show j+(63-j)=63 by omega]
   rw[Nat.mod_pow_succ,h63,show 64-(j+1)=63-j by omega,Arb,Axq,Avc,Nat.mul_left_comm]
  have hr:c.toNat %2^j<2^j:=Avu _ hpos;have Ay1:c.toNat %2^j*2^(63-j)<9223372036854775808:=by
   have h63:(9223372036854775808:Nat)=2^j*2^(63-j):=by rw[<-Axf,show j+(63-j)=63 by omega]
   rw[h63];exact Nat.mul_lt_mul_of_pos_right hr (Av4 F0)
  have h64:c.toNat %2^j*2^(64-j)=2*(c.toNat %2^j*2^(63-j)):=by
   rw[show 64-j=(63-j)+1 by omega,Asd,<-Avc,Arn]
  rw[hx,h64];generalize c.toNat %2^j*2^(63-j)=R at*
  generalize c.toNat/2^j %2=b at*
  have ht:s.toNat/9223372036854775808=0\/s.toNat/9223372036854775808=1:=F0
  have hp:((s.toNat/9223372036854775808^^^b)*P64)<18446744073709551616:=by
   rcases ht with h|h<;>rcases hbit with h2|h2<;>rw[h,h2]<;>decide
  rw[A7 (Atj (n:=64) (Avu _ F4) hp),LG,Adi,Aek,show(b*9223372036854775808+R)/9223372036854775808=b by omega,show 2*(b*9223372036854775808+R) %18446744073709551616=2*R by omega,Au8,Au8,Axs (2*R)]
theorem Aqw(c:UInt8)(s:UInt64):RI s c=some (UInt64.ofNat (dU s.toNat c.toNat)):=by
 have h:=rW c 8 Ba s (Ap4 _) F9;have hc:=c.toNat_lt;rw[Adn (show c.toNat<2^8 by simpa using hc)]at h;exact h
theorem iD(b:LB)(hb:b.length<4611686018427387904):∀(j i q:Nat) (s:UInt64),i+j=b.length->j<q->Ic b q s (i:Int)=some (UInt64.ofNat (vU s.toNat (b.drop i)))
 |0,i,q+1,s,hi,_=>by
  rw[Ic,Rg,Aa2 F2,show i=b.length by omega,Avi];simp[DS,DT,vU]
 |j+1,i,q+1,s,hi,hq=>by
  have hlt:i<b.length:=F0
  have hc:=b[i].toNat_lt;rw[Ic,Rg,Aa8 F2,Ch hlt,Aa,Aqw,Aa,Aj];have h:=iD b hb j (i+1) q (UInt64.ofNat (dU s.toNat b[i].toNat)) F0 F0;rw[show((i:Int)+1)=((i+1:Nat):Int) by omega,h,drop_cons hlt,A7 (pG s.toNat_lt (by simpa using hc))];rfl
def AS(b:LB):UInt64:=UInt64.ofNat (vU 0 b)
theorem ou(b:LB)(hb:b.length<=100000):Xu 0 b=some (AS b):=
 iD b F0 b.length 0 Ba 0 F0 F9
theorem Aar(c:UInt64):Yg (Dy c (GI.toZ (1:UInt64)).toNat) (Bo (4823603603198064275:UInt64) (Cq c (GI.toZ (63:UInt64)).toNat))=UInt64.ofNat (LG c.toNat):=by
 have hc:=c.toNat_lt;apply UInt64.toNat_inj.1;have h1:(Dy c (GI.toZ (1:UInt64)).toNat).toNat=2*c.toNat %18446744073709551616:=by
  rw[show(GI.toZ (1:UInt64)).toNat=1 from rfl,VX,Arn]
 have h2:(Bo (4823603603198064275:UInt64) (Cq c (GI.toZ (63:UInt64)).toNat)).toNat=c.toNat/9223372036854775808*P64:=by
  rw[show(GI.toZ (63:UInt64)).toNat=63 from rfl,JI,UInt64.toNat_mul,KF]
  show 4823603603198064275*(c.toNat/9223372036854775808) %18446744073709551616=_;have h1:c.toNat/9223372036854775808=0\/c.toNat/9223372036854775808=1:=F0
  rcases h1 with e|e<;>rw[e]<;>decide
 rw[uI,UInt64.toNat_xor,h1,h2,A7 (VS hc)];rfl
theorem qR(Mi:Int->LQ->Option (UInt64×Int))(s:UInt64)(b:LB)(x:Int)(t:LQ):∀(j i q:Nat) (c:UInt64),i+j=8->j<q->
  Qk Mi s b x t q c (i:Int)=CT Mi s b x (UInt64.ofNat (Nu j c.toNat)) t
 |0,i,q+1,c,hi,_=>by
  obtain rfl:i=8:=F0
  rw[Qk,CE,Aa2 Ax6,Nu,UInt64.ofNat_toNat]
 |j+1,i,q+1,c,hi,hq=>by
  rw[Qk,CE,Aa8 F7,Aar,Aj,show((i:Int)+1)=((i+1:Nat):Int) by omega,qR Mi s b x t j (i+1) q _ F0 F0,A7 (VS c.toNat_lt)];rfl
def SW(n:Nat):LQ:=(List.range n).map λi=>UInt64.ofNat (Nu 8 (i*72057594037927936))
theorem wC(s:UInt64)(b:LB):∀(j i q:Nat),i+j=256->j<q->Mz s b q (i:Int) (SW i++List.replicate j 0)=PN s b (SW 256)
 |0,i,q+1,hi,_=>by
  obtain rfl:i=256:=F0
  rw[Mz,DG,Aa2 Ax6];simp
 |j+1,i,q+1,hi,hq=>by
  have hlen:(SW i++List.replicate (j+1) 0).length=i+(j+1):=by simp[SW]
  rw[Mz,DG,Aa8 F7,QT];have h:=qR (Mz s b q) s b (i:Int) (SW i++List.replicate (j+1) 0) 8 0 Ba (Dy (Ad (i:Int):UInt64) (GI.toZ (56:UInt64)).toNat) F0 F9;rw[show((0:Int))=((0:Nat):Int)from rfl,h,CT,bK,Ch (by rw[hlen];omega),Aa,Yb _ (by rw[hlen];omega),Aa,bU,bB,Aj];have e:(Dy (Ad (i:Int):UInt64) (GI.toZ (56:UInt64)).toNat).toNat=i*72057594037927936:=by
   rw[VX,Xh,A7 F0]
   show i*72057594037927936 %18446744073709551616=_;omega
  rw[e,Au9,eV (by simp[SW])];have h2:=wC s b j (i+1) q F0 F0;have h3:SW (i+1)=SW i++[UInt64.ofNat (Nu 8 (i*72057594037927936))]:=by simp[SW,List.range_succ]
  rw[h3]at h2;rw[show((i:Int)+1)=((i+1:Nat):Int) by omega,<-h2];simp
theorem Age{i:Nat}(h:i<256):Ak (SW 256) (i:Int)=some (UInt64.ofNat (Nu 8 (i*72057594037927936))):=by
 rw[Ch (by simpa [SW]using h)];simp[SW]
theorem wu(s:UInt64)(c:UInt8):Ak (SW 256) (GI.toZ (Yg (Ad (Cq s (GI.toZ (56:UInt64)).toNat):UInt8) c))=some (UInt64.ofNat (Nu 8 (((s.toNat/72057594037927936)^^^c.toNat)*72057594037927936))):=by
 have hs:=s.toNat_lt;have e:GI.toZ (Yg (Ad (Cq s (GI.toZ (56:UInt64)).toNat):UInt8) c)=(((s.toNat/72057594037927936)^^^c.toNat:Nat):Int):=by
  have e2:((Ad (Cq s (GI.toZ (56:UInt64)).toNat):UInt8)).toNat=s.toNat/72057594037927936:=by
   rw[YD,Ap3,KF]
   show s.toNat/72057594037927936 %256=_;omega
  rw[AM,Ack,UInt8.toNat_xor,e2]
 rw[e,Age];exact Atj (n:=8) (by show _<256;omega) (by simpa using c.toNat_lt)
theorem M9(s:UInt64)(c:UInt8):Yg (Dy s (GI.toZ (8:UInt64)).toNat) (UInt64.ofNat (Nu 8 (((s.toNat/72057594037927936)^^^c.toNat)*72057594037927936)))=UInt64.ofNat (dU s.toNat c.toNat):=by
 have hs:=s.toNat_lt;have hc:c.toNat<256:=by simpa using c.toNat_lt
 apply UInt64.toNat_inj.1;have hlt:Nu 8 (((s.toNat/72057594037927936)^^^c.toNat)*72057594037927936)<18446744073709551616:=oF 8 (c56 (Atj (n:=8) (by show _<256;omega) (by simpa using c.toNat_lt)));have e:(GI.toZ (8:UInt64)).toNat=8:=rfl;rw[e,uI,UInt64.toNat_xor,VX,A7 hlt,A7 (pG hs hc),M7 hs hc,Arn s.toNat]
theorem qU(b:LB)(s0:UInt64)(hb:b.length<4611686018427387904):∀(j i q:Nat) (s:UInt64),i+j=b.length->j<q->Qc b s0 (SW 256) q s (i:Int)=some (UInt64.ofNat (vU s.toNat (b.drop i)),0)
 |0,i,q+1,s,hi,_=>by
  rw[Qc,DE,Aa2 F2,show i=b.length by omega,Avi];simp[PU,bH,cX,cV,vU]
 |j+1,i,q+1,s,hi,hq=>by
  have hlt:i<b.length:=F0
  have hc:=b[i].toNat_lt;rw[Qc,DE,Aa8 F2,Ch hlt,Aa,wu,Aa,Aa,M9,Aj];have h:=qU b s0 hb j (i+1) q (UInt64.ofNat (dU s.toNat b[i].toNat)) F0 F0;rw[show((i:Int)+1)=((i+1:Nat):Int) by omega,h,drop_cons hlt,A7 (pG s.toNat_lt (by simpa using hc))];rfl
theorem qm(b:LB)(hb:b.length<=100000):UO b=some (AS b,0):=by
 have h:=wC 0 b 256 0 Ba F0 F9;have h2:=qU b 0 F0 b.length 0 Ba 0 F0 F9;have hn:YF 0 b=some (AS b,0):=by
  rw[YF,TQ,Aa2 Axy,cK];refine Avk h ?_;rw[PN,OI,OQ];exact h2
 rw[UO,hn,Aa]
theorem Aff(p:LB)(hp:p.length<=64):DR p=some (FD (AS p).toNat 8,0):=by
 rw[DR,pD,Aa2 Axy,qm p F0,Aa,Aa];simp only;have h:=yO (AS p) 8 F0 F0 (by simpa using(AS p).toNat_lt);rw[Aa2 Ax0];exact congrArg (λo=>Option.bind o λx:LB×Int=>some (x.1,x.2)) h
theorem C7(p:LB)(hp:p.length<=64):Oq p=some (FD (AS p).toNat 8):=by
 have h:=xT (AS p) 8 F0;rw[Oq,SG,ou p F0,Aa,Aa];exact congrArg (λo=>Option.bind o λl=>some l) h
def s8(n:Nat):Int32:=Int32.ofInt (if n<128 then(n:Int)else(n:Int)-256)
def SE(d:UInt64)(n:Nat):LX:=(List.range n).map λi=>s8 (d.toNat/256^i %256)
theorem UX(d:UInt64)(n:Nat):(SE d n).length=n:=by simp[SE]
theorem yX(d:UInt64)(n:Nat):SE d (n+1)=SE d n++[s8 (d.toNat/256^n %256)]:=by simp[SE,List.range_succ]
theorem bm8(z:Nat):(z:Int).bmod Int8.size=if z %256<128 then((z %256:Nat):Int)else((z %256:Nat):Int)-256:=by
 rw[show Int8.size=256 from rfl,Int.bmod_def];split<;>split<;>omega
theorem Adj(d:UInt64):∀(j i q:Nat),i+j=8->j<q->HG d q (i:Int) (SE d i++List.replicate (16-i) 0)=some (SE d 8++List.replicate 8 0)
 |0,i,q+1,hi,_=>by
  obtain rfl:i=8:=F0
  rw[HG,YU,Aa2 Ax6];rfl
 |j+1,i,q+1,hi,hq=>by
  have hlen:(SE d i++List.replicate (16-i) 0).length=16:=by simp[UX];omega
  have ih:=Adj d j (i+1) q F0 F0;have e8:Bo (8:Int) (i:Int)=((8*i:Nat):Int):=by rw[Hs];omega
  have ev:(Ad (Ad (Cq d (GI.toZ (((8*i:Nat):Int))).toNat):Int8):Int32)=s8 (d.toNat/256^i %256):=by
   have e1:(Cq d (GI.toZ (((8*i:Nat):Int))).toNat).toNat=d.toNat/256^i:=by
    rw[show(GI.toZ (((8*i:Nat):Int))).toNat=8*i from rfl,KF,Nat.pow_mul]
   show Int32.ofInt (Int8.ofInt ((Cq d (GI.toZ (((8*i:Nat):Int))).toNat).toNat:Int)).toInt=_;rw[e1,s8,Int8.toInt_ofInt,bm8]
  rw[HG,YU,Aa8 F7,e8,Dg Ax2,Aa,ev,Ch,Aa,Yb _ F0,Aa,Aj,show 16-i=(15-i)+1 by omega,Au9,eV (UX d i)];rw[yX,show 16-(i+1)=15-i by omega,Anx]at ih;exact ih
theorem Ail(d:UInt64):∀(j i q:Nat) (e:UInt64),i+j=8->j<q->e.toNat=d.toNat/256^i->Kb q e (i:Int) (SE d i++List.replicate (16-i) 0)=some (SE d 8++List.replicate 8 0)
 |0,i,q+1,e,hi,_,he=>by
  obtain rfl:i=8:=F0
  rw[Kb,Zr,Aa2 Ax6];rfl
 |j+1,i,q+1,e,hi,hq,he=>by
  have hlen:(SE d i++List.replicate (16-i) 0).length=16:=by simp[UX];omega
  have hq2:(Cx e (256:UInt64)).toNat=d.toNat/256^(i+1):=by
   rw[nC,Axh,he,Asd,<-Awv];rfl
  have ih:=Ail d j (i+1) q (Cx e (256:UInt64)) F0 F0 hq2;have ev:(Ad (BY e (256:UInt64)):Int32)=Int32.ofInt ((d.toNat/256^i %256:Nat):Int):=by
   show Int32.ofInt ((BY e (256:UInt64)).toNat:Int)=_;rw[X5,UInt64.toNat_mod,he];rfl
  have hz:d.toNat/256^i %256<256:=Avu _ F0;have et:(Int32.ofInt ((d.toNat/256^i %256:Nat):Int)).toInt=((d.toNat/256^i %256:Nat):Int):=by
   rw[Aww,Axp (by show -(4294967296/2:Int)<= _;omega) (by show _<(4294967296+1)/2;omega)]
  have hp8:∀x:Int32,x=s8 (d.toNat/256^i %256)->Zz (Kb q) e (i:Int) (SE d i++List.replicate (16-i) 0) x=some (SE d 8++List.replicate 8 0):=by
   intro x hx;rw[Zz,PQ,hx,Ch,Aa,Yb _ F0,Aa,Aj,show 16-i=(15-i)+1 by omega,Au9,eV (UX d i)];rw[yX,show 16-(i+1)=15-i by omega,Anx]at ih;exact ih
  rw[Kb,Zr,Aa8 F7,ev,Aaj,et,show(127:Int32).toInt=127 from rfl];by_cases h:d.toNat/256^i %256<128
  ·rw[Aa2 (by simp only[Abi];omega)];exact hp8 _ (by rw[s8,Aa8 h])
  ·rw[Aa8 (by simp only[Abi];omega)];refine hp8 _ ?_;rw[s8,Aa2 h,vS,Int32.ofInt_sub];rfl
def We(p:LB):LX:=SE (AS p) 8++List.replicate 8 0
theorem Pb(p:LB):(We p).length=16:=by simp[We,UX]
theorem I4(p:LB)(hp:p.length<=64):Qo p=some (We p,0):=by
 have h:=Adj (AS p) 8 0 Ba F0 F9;have h2:L8 (AS p)=some (We p):=h;rw[Qo,Aa2 Axy,qm p F0,Aa];simp only;rw[Aa2 Ax0,h2,Aa]
theorem UT(p:LB)(hp:p.length<=64):Ui p=some (We p,0):=by
 have h:=Ail (AS p) 8 0 Ba (AS p) F0 F9 Axz;have h2:ZH (AS p)=some (We p):=h;rw[Ui,Aa2 Axy,VE,SF,Aa2 Axy,ou p F0,Aa,Aa,Aa];simp only;rw[h2,Aa]
def u8(z:Int):UInt8:=UInt8.ofNat (z %256).toNat
theorem L4(z:Int):u8 (z %256)=u8 z:=by rw[u8,u8];congr 2;omega
def wB(bits:Int):Nat:=if bits=8 then 1 else if bits=16 then 2 else 3
theorem Akw{bits:Int}(h:Ck bits):Cx bits 8=(wB bits:Int):=by obtain rfl|rfl|rfl:=h<;>rfl
theorem D8(bits:Int):1<=wB bits/\wB bits<=3:=by
 unfold wB;split; · omega
 ·split<;>omega
def GP(bits:Int)(x:Int):LB:=if bits=8 then [u8 (x+128)]else if bits=16 then [u8 x,u8 (x/256)]else [u8 x,u8 (x/256),u8 (x/65536)]
theorem T4(bits x:Int):(GP bits x).length<=3:=by
 unfold GP;split; · simp
 ·split<;>simp
theorem Ajf(x:Int32)(k:Nat)(hk:k<=32):(Ad (Cq x k):UInt8)=u8 (x.toInt.fdiv (2^k)):=by
 have h:=EI x;have e:Cq x k=Int32.ofInt (x.toInt.fdiv (2^k)):=by
  show Int32.ofInt (x.toInt.fdiv (2^min k 32))=_;rw[As0 hk]
 have hb: -2147483648<=x.toInt.fdiv (2^k)/\x.toInt.fdiv (2^k)<2147483648:=by
  have hpos:(0:Int)<2^k:=Int.pow_pos F0;rw[Ars _ F0];constructor
  ·refine(Int.le_ediv_iff_mul_le hpos).2 ?_;have:(1:Int)<=2^k:=F0
   have h2: -2147483648*(2^k:Int)<= -2147483648*1:=Int.mul_le_mul_of_nonpos_left F0 this;omega
  ·refine Int.ediv_lt_of_lt_mul hpos ?_;have:(1:Int)<=2^k:=F0
   have h2:(2147483648:Int)*1<=2147483648*2^k:=Int.mul_le_mul_of_nonneg_left this F0;omega
 show UInt8.ofNat ((Cq x k).toInt %256).toNat=_;rw[e,Aww,Axp (by show -(4294967296/2:Int)<= _;omega) (by show _<(4294967296+1)/2;omega)];rfl
section
variable (bk:Int->LB->Option (LB×Int)) (l:LX)
theorem sT{bits:Int}(h:Ck bits)(c:Int32)(x:Int)(i q:Nat)(acc:LB)(hi:i<wB bits)(ha:acc.length<=100000):
  Is bk bits l c x (q+1) (i:Int) acc=Is bk bits l c x q ((i+1:Nat):Int) (acc++[u8 (c.toInt.fdiv (2^(8*i)))]):=by
 have hw:=D8 bits;have e8:Bo (8:Int) (i:Int)=((8*i:Nat):Int):=by rw[Hs];omega
 rw[Is,Zg,Akw h,Aa8 F7,e8,Dg Ax2,Aa,show(GI.toZ (((8*i:Nat):Int))).toNat=8*i from rfl,Ajf _ _ F0,Cy F6,Aa,Aj];rfl
theorem Aao{bits:Int}(h:Ck bits)(c:Int32)(x:Int)(q:Nat)(acc:LB):Is bk bits l c x (q+1) ((wB bits:Nat):Int) acc=bk (Ae x 1) acc:=by
 rw[Is,Zg,Akw h,Aa2 Ax6,KW,ZN]
theorem Aqu{bits:Int}(h:Ck bits)(c:Int32)(x:Int)(acc:LB)(ha:acc.length<=90000)(hr: -(hB bits)<=c.toInt/\c.toInt<hB bits):
  Od bk bits l x acc (if bits=8 then Ae c (128:Int32)else c)=bk (Ae x 1) (acc++GP bits c.toInt):=by
 have e:Ba=(Ba-4)+1+1+1+1:=by have:=Ax;omega
 have hc:=EI c;rw[Od,KL,LV,e];have g0:=λ(c:Int32) q acc ha=>sT bk l h c x 0 q acc (by have:=D8 bits;omega) ha;obtain rfl|rfl|rfl:=h
 ·have hh:hB 8=128:=rfl;rw[hh]at hr;have e1:(Ae c (128:Int32)).toInt=c.toInt+128:=by
   show(Int32.ofInt (c.toInt+(128:Int32).toInt)).toInt=_;rw[show(128:Int32).toInt=128 from rfl,Aww,Axp (by show -(4294967296/2:Int)<= _;omega) (by show _<(4294967296+1)/2;omega)]
  have g1:=Aao bk l (bits:=8) (.inl rfl) (Ae c (128:Int32)) x (Ba-4+1+1);rw[Aa8 rfl,show(0:Int)=((0:Nat):Int)from rfl,g0 _ _ _ F0];refine Avk (g1 _) ?_;rw[e1,GP,Aa8 rfl]
  show bk _ (acc++[u8 ((c.toInt+128).fdiv 1)])=_;rw[Int.fdiv_one]
 ·have g1:=λq acc ha=>sT bk l (bits:=16) (.inr (.inl rfl)) c x 1 q acc F4 ha;have g2:=Aao bk l (bits:=16) (.inr (.inl rfl)) c x (Ba-4+1);rw[Aa2 F4,show(0:Int)=((0:Nat):Int)from rfl,g0 _ _ _ F0,g1 _ _ F6];refine Avk (g2 _) ?_;rw[GP,Aa2 F4,Aa8 rfl,Anx]
  show bk _ (acc++[u8 (c.toInt.fdiv 1),u8 (c.toInt.fdiv 256)])=_;rw[Int.fdiv_one,Ars _ F0]
 ·have g1:=λq acc ha=>sT bk l (bits:=24) (.inr (.inr rfl)) c x 1 q acc F4 ha;have g2:=λq acc ha=>sT bk l (bits:=24) (.inr (.inr rfl)) c x 2 q acc F4 ha;have g3:=Aao bk l (bits:=24) (.inr (.inr rfl)) c x (Ba-4);rw[Aa2 F4,show(0:Int)=((0:Nat):Int)from rfl,g0 _ _ _ F0,g1 _ _ F6,g2 _ _ F6];refine Avk (g3 _) ?_;rw[GP,Aa2 F4,Aa2 F4,Anx,Anx]
  show bk _ (acc++[u8 (c.toInt.fdiv 1),u8 (c.toInt.fdiv 256),u8 (c.toInt.fdiv 65536)])=_;rw[Int.fdiv_one,Ars _ F0,Ars _ F0]
end
def Gh(bits:Int)(l:LX):LB:=l.flatMap λx=>GP bits x.toInt
theorem HL(bits:Int):∀l:LX,(Gh bits l).length<=3*l.length
 |[]=>by simp[Gh]
 |x::l=>by
  have h1:=HL bits l;have h2:=T4 bits x.toInt;simp only[Gh,List.flatMap_cons,Ac5,Ar8]at*
  omega
def inR(bits:Int)(l:LX):Prop:=∀x∈l, -(hB bits)<=x.toInt/\x.toInt<hB bits
theorem Acn{bits:Int}(h:Ck bits)(l:LX)(hl:l.length<=4000)(hr:inR bits l):∀(j i q:Nat),i+j=l.length->j<q->Gb bits l q (i:Int) (Gh bits (l.take i))=some (Gh bits l,0)
 |0,i,q+1,hi,_=>by
  rw[Gb,Zj,Aa2 F2,Avf F0];rfl
 |j+1,i,q+1,hi,hq=>by
  have hlt:i<l.length:=F0
  have ih:=Acn h l hl hr j (i+1) q F0 F0;have hlen:=HL bits (l.take i);have hx:=hr l[i] (Ap8 _);have h1:=Aqu (Gb bits l q) l h l[i] (i:Int) (Gh bits (l.take i)) (by rw[Alg]at hlen;omega) hx;rw[Gb,Zj,Aa8 F2,Ch hlt,Aa];have e:(if(geq bits (8:Int))=true then Od (Gb bits l q) bits l (i:Int) (Gh bits (l.take i)) (Ae l[i] (128:Int32))else Od (Gb bits l q) bits l (i:Int) (Gh bits (l.take i)) l[i])=Od (Gb bits l q) bits l (i:Int) (Gh bits (l.take i)) (if bits=8 then Ae l[i] (128:Int32)else l[i]):=by
   by_cases h8:bits=8
   ·rw[Aa8 (by rw[Ay];simpa using h8),Aa8 h8]
   ·rw[Aa2 (by rw[Ay];simpa using h8),Aa2 h8]
  rw[e,h1,Aj];rw[NQ hlt]at ih;have e2:Gh bits (l.take i++[l[i]])=Gh bits (l.take i)++GP bits l[i].toInt:=by unfold Gh;rw[List.flatMap_append,List.flatMap_singleton]
  rw[e2]at ih;exact ih
theorem pU{bits:Int}(h:Ck bits){l:LX}(hl:l.length<=4000)(hc:Bp bits l=some 0):inR bits l:=by
 have hh:=iX bits;have key:∀(j i q:Nat),i+j=l.length->j<q->Bs l (hB bits) q (i:Int)=some 0->∀k,i<=k-> (hk:k<l.length)-> -(hB bits)<=l[k].toInt/\l[k].toInt<hB bits:=by
  intro j
  induction j with
  |zero=>intro i q hi hq _ k h1 h2;omega
  |succ j ih=>
   intro i q hi hq hs k h1 h2;obtain⟨q,rfl⟩:∃k,q=k+1:=⟨q-1,F0⟩;rw[Bs,Ey,Aa8 F2,Ch,Aa,Aa,Fl,Aai,Cr F0 F0,Aj,Af,Dx]at hs;by_cases g1:l[i].toInt<0-hB bits
   ·rw[Aa8 (by simpa using g1)]at hs;simp at hs
   ·rw[Aa2 (by simpa using g1)]at hs;by_cases g2:hB bits<=l[i].toInt
    ·rw[Aa8 (by simpa using g2)]at hs;simp at hs
    ·rw[Aa2 (by simpa using g2)]at hs;by_cases hk:k=i
     ·subst hk;omega
     ·exact ih (i+1) q F0 F0 hs k F0 h2
 rw[Bp,Je,qZ h,Aa,Aa2 Ax4,Aa2 Axy]at hc;have:=key l.length 0 Ba F0 F9 hc;intro x hx;obtain⟨k,hk,rfl⟩:=List.getElem_of_mem hx;exact this k F0 hk
theorem jO{bits:Int}(h:Ck bits){l:LX}(hl:l.length<=4000)(hc:Bp bits l=some 0):Qs bits l=some (Gh bits l,0):=by
 have h1:=Acn h l hl (pU h hl hc) l.length 0 Ba F0 F9;rw[Qs,PX,yL h l hl,hc,Aa,Aa2 Ax0];exact h1
theorem Al0{bits:Int}(h:Ck bits)(x:Int32)(hr: -(hB bits)<=x.toInt/\x.toInt<hB bits):GH bits x=some (GP bits x.toInt):=by
 have hx:=EI x;have gu:∀z:Int,(Ad z:UInt8)=u8 z:=λz=>rfl;have hq:∀n:Int,0<=n->n<=20000000->Cx n (256:Int)=n/256/\Cx n (65536:Int)=n/65536:=by
  intro n h1 h2;constructor<;>(rw[KQ,Atv h1,Cr F0 F0])
 have hm:∀n:Int,0<=n->Ho n (256:Int)=n %256:=λn h1=>by rw[Ho,Awr h1]
 rw[GH,ML,Fl];obtain rfl|rfl|rfl:=h
 ·rw[Aa8 Ayg,Aj,gu,GP,Aa8 rfl]
 ·have hh:hB 16=32768:=rfl;rw[hh]at hr;have hp:∀n:Int,0<=n->n<=70000->u8 n=u8 x.toInt->u8 (n/256)=u8 (x.toInt/256)->Ll 16 n=some (GP 16 x.toInt):=by
   intro n h1 h2 h3 h4;rw[Ll,Yd,Aa2 Ayh,hm n h1,(hq n h1 F0).1,hm _ F0,gu,gu,L4,L4,h3,h4,GP,Aa2 F4,Aa8 rfl]
  rw[Aa2 Ayh];by_cases hn:x.toInt<0
  ·rw[Aa8 (by rw[Af];simpa using hn),qZ (.inr (.inl rfl)),Aa,hh,Hs,Aj];refine hp _ F0 F0 ?_ ?_
   ·rw[u8,u8];congr 2;omega
   ·rw[u8,u8];congr 2;omega
  ·rw[Aa2 (by rw[Af];simpa using hn)];exact hp _ F0 F0 rfl rfl
 ·have hh:hB 24=8388608:=rfl;rw[hh]at hr;have hp:∀n:Int,0<=n->n<=16777215->u8 n=u8 x.toInt->u8 (n/256)=u8 (x.toInt/256)->u8 (n/65536)=u8 (x.toInt/65536)->Ll 24 n=some (GP 24 x.toInt):=by
   intro n h1 h2 h3 h4 h5;rw[Ll,Yd,Aa8 Ayg,hm n h1,(hq n h1 F0).1,(hq n h1 F0).2,hm _ F0,gu,gu,gu,L4,L4,h3,h4,h5,Cy Axz,Aa,GP,Aa2 F4,Aa2 F4];rfl
  rw[Aa2 Ayh];by_cases hn:x.toInt<0
  ·rw[Aa8 (by rw[Af];simpa using hn),qZ (.inr (.inr rfl)),Aa,hh,Hs,Aj];refine hp _ F0 F0 ?_ ?_ ?_
   ·rw[u8,u8];congr 2;omega
   ·rw[u8,u8];congr 2;omega
   ·rw[u8,u8];congr 2;omega
  ·rw[Aa2 (by rw[Af];simpa using hn)];exact hp _ F0 F0 rfl rfl rfl
theorem Acg{bits:Int}(h:Ck bits)(l:LX)(hl:l.length<=4000)(hr:inR bits l):∀(j i q:Nat),i+j=l.length->j<q->Jg bits l q (i:Int) (Gh bits (l.take i))=some (Gh bits l,0)
 |0,i,q+1,hi,_=>by
  rw[Jg,Ts,Aa2 F2,Avf F0];rfl
 |j+1,i,q+1,hi,hq=>by
  have hlt:i<l.length:=F0
  have ih:=Acg h l hl hr j (i+1) q F0 F0;have hlen:=HL bits (l.take i);have hol:=T4 bits l[i].toInt;rw[Alg]at hlen;have e2:Gh bits (l.take i++[l[i]])=Gh bits (l.take i)++GP bits l[i].toInt:=by unfold Gh;rw[List.flatMap_append,List.flatMap_singleton]
  rw[NQ hlt,e2]at ih;rw[Jg,Ts,Aa8 F2,Ch hlt,Aa,Al0 h _ (hr l[i] (Ap8 _)),Aa,Cy,Aa,Aj];exact ih
theorem NU{bits:Int}(h:Ck bits){l:LX}(hl:l.length<=4000)(hc:Bp bits l=some 0):Qz bits l=some (Gh bits l,0):=by
 have h1:=Acg h l hl (pU h hl hc) l.length 0 Ba F0 F9;rw[Qz,FY,hc,Aa,Aa2 Ax0];exact h1
theorem Ayo(h:p:=by rw[Dx,Ac,Ac];simp;omega):p:=h
theorem Ayq(h:p:=by rw[Aj]<;>omega):p:=h
end Go.Pl
namespace Go.Pl
open Go Go.Lv
variable{b:LB}{p:Prop}
def TK:LB->Nat->Int×Int
 |[],n=>((n:Int),0)
 |c::r,n=>if 128<=c.toNat then(0,12)else TK r (128*n+c.toNat)
theorem Aei:∀(l:LB) (n k:Nat),n<128^k->0<= (TK l n).1/\ (TK l n).1<((128^(k+l.length):Nat):Int)
 |[],n,k,h=>by simp[TK];exact_mod_cast h
 |c::r,n,k,h=>by
  rw[TK];split
  ·have:0<128^(k+(c::r).length):=Av4 F0;exact⟨Int.le_refl _,by simp only;exact_mod_cast this⟩
  ·have:=Aei r (128*n+c.toNat) (k+1) (by rw[Asd];omega);rw[Ar8,show k+(r.length+1)=k+1+r.length by omega];exact this
theorem or7(n c:Nat)(hn:n<268435456)(hc:c<128):sK (Dy (n:Int) (GI.toZ (7:UInt64)).toNat) (c:Int)=((128*n+c:Nat):Int):=by
 have e:(GI.toZ (7:UInt64)).toNat=7:=rfl;have h1:Dy (n:Int) 7=((2^7*n:Nat):Int):=by
  have:Dy (n:Int) 7=wrap64 ((n:Int)*2^7):=rfl;rw[this,Cr F0 F0];omega
 rw[e,h1];have h2:sK ((2^7*n:Nat):Int) (c:Int)=wrap64 ((BitVec.ofInt 64 ((2^7*n:Nat):Int)|||BitVec.ofInt 64 (c:Int)).toNat:Int):=rfl;rw[h2,BitVec.toNat_or,Ave,Ave];have h3:(((2^7*n:Nat):Int) %((2^64:Nat):Int)).toNat=2^7*n:=F0
 have h4:((c:Int) %((2^64:Nat):Int)).toNat=c:=F0
 rw[h3,h4,<-Atq (by simpa using hc),Cr F0 F0]
theorem Ad7(b:LB)(hb:b.length=4):∀(j i q n:Nat),i+j=4->j<q->n<128^i->Md b q (n:Int) (i:Int)=some (TK (b.drop i) n)
 |0,i,q+1,n,hi,_,_=>by
  rw[Md,Ww,Aa2 F2,show b.drop i=[] by simp;omega];rfl
 |j+1,i,q+1,n,hi,hq,hn=>by
  have hlt:i<b.length:=F0
  have hn2:n<268435456:=Anf hn (show 128^i<=128^4 from Ahg F0 F0);rw[Md,Ww,Aa8 F2,Ch hlt,Aa,drop_cons hlt,TK,Ak9];by_cases hc:128<=b[i].toNat
  ·rw[Aa8 F6,Aa8 hc]
  ·rw[Aa2 F6,Aa2 hc,NR,or7 n _ hn2 F0,Aj];exact Ad7 b hb j (i+1) q _ F0 F0 (by rw[Asd];omega)
theorem Ak5(b:LB)(hb:b.length=4):∀(j i q n:Nat),i+j=4->j<q->n<128^i->Jj b q (n:Int) (i:Int)=some (TK (b.drop i) n)
 |0,i,q+1,n,hi,_,_=>by
  rw[Jj,Tu,Aa2 F7,show b.drop i=[] by simp;omega];rfl
 |j+1,i,q+1,n,hi,hq,hn=>by
  have hlt:i<b.length:=F0
  have hn2:n<268435456:=Anf hn (show 128^i<=128^4 from Ahg F0 F0);rw[Jj,Tu,Aa8 F7,Ch hlt,Aa,drop_cons hlt,TK,Ajd];have h128:(128:UInt8).toNat=128:=rfl;by_cases hc:128<=b[i].toNat
  ·rw[Aa8 (by simpa using hc),Aa8 hc]
  ·have h3:=b[i].toNat_lt;rw[Aa2 (by simpa using hc),Aa2 hc,Aa,NR,Hs,Aj,Aj];have:=Ak5 b hb j (i+1) q (128*n+b[i].toNat) F0 F0 (by rw[Asd];omega);rw[<-this];rfl
theorem Aam(b:LB)(hb:b.length=4):HQ b=some (TK b 0):=by
 have h:=Ad7 b hb 4 0 Ba 0 F0 F9 Axz;rw[HQ,HJ,Aa2 (by rw[Ao,Ac];simp;omega),UE];exact h
theorem Agv(b:LB)(hb:b.length=4):AB b=some (TK b 0):=by
 have h:=Ak5 b hb 4 0 Ba 0 F0 F9 Axz;rw[AB,FZ,Aa2 (by rw[Ao,Ac];simp;omega),FJ];exact h
theorem zx(hb:b.length=4):0<= (TK b 0).1/\ (TK b 0).1<268435456:=by
 have:=Aei b 0 0 Axz;rw[hb]at this;simpa using this
theorem XL(s p:LB):Ky s p=some (decide (p.length<=s.length/\s.take p.length=p)):=by
 rw[Ky];by_cases h:p.length<=s.length
 ·rw[Aa8 Ayo,show Ac p=(p.length:Int)from rfl,Dc,Aa,It,Aa,Aly];congr 1;rw[Alp];simp[h]
 ·rw[Aa2 Ayo];simp[h]
def UM(b:LB)(n:Int):Int×Int:=
 if 4000<n then(0,4)else if(b.length:Int)<n then(0,24)else
 if b.getD 5 0=16/\ (b.take n.toNat).drop (n-10).toNat≠ [51,68,73]++part b 3 7 then(0,12)else(n,0)
def rJ(b:LB)(r:Int):Int×Int:=UM b (r+10+(if b.getD 5 0=16 then 10 else 0))
def Xl(b:LB):Int×Int:=
 if ¬(3<=b.length/\b.take 3=[73,68,51])then(0,6)else if b.length<10 then(0,24)else
 if(TK (part b 6 4) 0).2≠0\/b.getD 4 0≠0\/ ¬((b.getD 5 0=0/\2<= (b.getD 3 0).toNat/\ (b.getD 3 0).toNat<=4)\/ (b.getD 5 0=16/\b.getD 3 0=4))then(0,12)else
 rJ b (TK (part b 6 4) 0).1
theorem iR{i:Nat}(h:i<b.length):Ak b (i:Int)=some (b.getD i 0):=by
 rw[Ch h];simp[List.getD_eq_getElem?_getD,h]
theorem Om(a w:Nat)(h:a+w<=b.length:=by omega):Bl b (a:Int) ((a+w:Nat):Int)=some (part b a w):=by
 rw[Zp];rfl
theorem Ane(b:LB)(r:Int)(h10:10<=b.length)(h0:0<=r)(h1:r<268435456):Vl b r=some (rJ b r):=by
 have g5:Ak b (5:Int)=some (b.getD 5 0):=iR (i:=5) F0;have key:∀n:Int,10<=n->n<268435500->Uz b n=some (UM b n):=by
  intro n hn hn2;rw[Uz,JL,UM];by_cases c1:4000<n
  ·rw[Aa8 (by rw[Az];simpa using c1),Aa8 c1]
  ·rw[Aa2 (by rw[Az];simpa using c1),Aa2 c1];by_cases c2:(b.length:Int)<n
   ·rw[Aa8 (by rw[Af,Ac];simpa using c2),Aa8 c2]
   ·have e3:Bl b (3:Int) (10:Int)=some (part b 3 7):=Om 3 7;rw[Aa2 (by rw[Af,Ac];simpa using c2),Aa2 c2,g5,Aa];by_cases c3:b.getD 5 0=16
    ·rw[Aa8 (by rw[XJ];simpa using c3),Cf,Zp,Aa,e3,Aa,Cy (by rw[Dq];simp),Aa];by_cases c4:(b.take n.toNat).drop (n-10).toNat=[51,68,73]++part b 3 7
     ·rw[Aa2 (by simpa using c4),Aa2 (by intro h;exact h.2 c4)]
     ·rw[Aa8 (by simpa using c4),Aa8 ⟨c3,c4⟩]
    ·rw[Aa2 (by rw[XJ];simpa using c3),Aa2 (λh=>c3 h.1)]
 rw[Vl,IK,g5,Aa,rJ];by_cases c3:b.getD 5 0=16
 ·rw[Aa8 (by rw[XJ];simpa using c3),Aj Ayq Ayq,Aj,key _ F0 F0,Aa8 c3,show 10+r+10=r+10+10 by omega]
 ·rw[Aa2 (by rw[XJ];simpa using c3),Aj,key _ F0 F0,Aa2 c3,show 10+r=r+10+0 by omega]
theorem Akf(b:LB)(hb:b.length<4611686018427387904):CV b=some (Xl b):=by
 rw[CV,IQ,Xl];by_cases h3:3<=b.length
 ·rw[Aa2 F2,Dc,Aa];by_cases hp:b.take 3=[73,68,51]
  ·rw[Aa2 (by simpa using hp),Aa2 (by simp[h3,hp]),KH,IY];by_cases h10:b.length<10
   ·rw[Aa8 F2,Aa8 h10]
   ·have e6:Bl b (6:Int) (10:Int)=some (part b 6 4):=Om 6 4;have g3:Ak b (3:Int)=some (b.getD 3 0):=iR (i:=3) F0;have g4:Ak b (4:Int)=some (b.getD 4 0):=iR (i:=4) F0;have g5:Ak b (5:Int)=some (b.getD 5 0):=iR (i:=5) F0;obtain⟨v1,v2⟩:=zx (b:=part b 6 4) (Dq);rw[Aa2 F2,Aa2 h10,e6,Aa,Agv _ (Dq),Aa];have ht:=Ane b (TK (part b 6 4) 0).1 F0 v1 v2;generalize TK (part b 6 4) 0=v at*
    obtain⟨v,e⟩:=v;simp only at ht v1 v2⊢;simp only[Aa,g3,g4,g5,ht];generalize b.getD 3 0=x at*
    generalize b.getD 4 0=y at*
    generalize b.getD 5 0=z at*
    simp only[Aa1,Ark,Ak9,Ao];by_cases he:e=0<;>by_cases hy:y=0<;>by_cases hz:z=0<;>by_cases hz2:z=16<;>by_cases hx:x=4<;>by_cases hx2:x.toNat<2<;>by_cases hx4:4<x.toNat<;>simp_all<;>(rw[Aa2 F0,Aa2 F0])
  ·rw[Aa8 (by simpa using hp),Aa8 (by simp[hp])]
 ·rw[Aa8 F2,Aa8 (by simp[h3])]
theorem D2(b:LB)(n:Int)(h10:10<=b.length)(hn:10<=n)(hn2:n<268435500):KS b (b.getD 5 0) n=some (UM b n):=by
 rw[KS,ZD];by_cases c1:4000<n
 ·rw[Aa8 (by rw[Az];simpa using c1),UM,Aa8 c1]
 ·rw[Aa2 (by rw[Az];simpa using c1)];by_cases c2:(b.length:Int)<n
  ·rw[Aa8 (by rw[Af,Ac];simpa using c2),UM,Aa2 c1,Aa8 c2]
  ·have e3:Bl b (3:Int) (10:Int)=some (part b 3 7):=Om 3 7;rw[Aa2 (by rw[Af,Ac];simpa using c2)];by_cases c3:b.getD 5 0=16
   ·have hl:((b.take n.toNat).drop (n-10).toNat).length=10:=by simp;omega
    have ht:UM b n=if(b.take n.toNat).drop (n-10).toNat≠ [51,68,73]++part b 3 7 then(0,12)else(n,0):=by rw[UM,Aa2 c1,Aa2 c2];simp only[c3,true_and]
    rw[Aa8 (by rw[XJ];simpa using c3),Cf,Zp,Aa,ht];generalize(b.take n.toNat).drop (n-10).toNat=f at*
    rw[Dc,Aa,Dd,Aa,e3,Aa,It,Aa];have hf:f=f.take 3++f.drop 3:=(List.take_append_drop 3 f).symm;by_cases c4:f=[51,68,73]++part b 3 7
    ·subst c4;simp
    ·by_cases c5:f.take 3=[51,68,73]
     ·have:f.drop 3≠part b 3 7:=λh=>c4 (by rw[hf,c5,h]);simp only[Av5,Arw]at c4;simp[c4,c5,this]
     ·simp only[Av5,Arw]at c4;simp[c4,c5]
   ·rw[Aa2 (by rw[XJ];simpa using c3),UM,Aa2 c1,Aa2 c2,Aa2 (λh=>c3 h.1)]
theorem Ajq(b:LB)(r:Int)(h10:10<=b.length)(h0:0<=r)(h1:r<268435456):LR b r (b.getD 5 0)=some (rJ b r):=by
 rw[LR,ZL,rJ];by_cases c3:b.getD 5 0=16
 ·rw[Aa8 (by rw[XJ];simpa using c3),Aj Ayq Ayq,Aj,D2 b _ h10 F0 F0,Aa8 c3]
 ·rw[Aa2 (by rw[XJ];simpa using c3),Aj,D2 b _ h10 F0 F0,Aa2 c3];simp
theorem Agr(b:LB)(hb:b.length<4611686018427387904):MW b=some (Xl b):=by
 rw[MW,Zh,XL,Aa];by_cases hp:3<=b.length/\b.take 3=[73,68,51]
 ·rw[Aa2 (by simpa using hp)];by_cases h10:b.length<10
  ·rw[Aa8 F2,Xl,Aa2 (λh=>h hp),Aa8 h10]
  ·have e6:Bl b (6:Int) (10:Int)=some (part b 6 4):=Om 6 4;have g3:Ak b (3:Int)=some (b.getD 3 0):=iR (i:=3) F0;have g4:Ak b (4:Int)=some (b.getD 4 0):=iR (i:=4) F0;have g5:Ak b (5:Int)=some (b.getD 5 0):=iR (i:=5) F0;obtain⟨v1,v2⟩:=zx (b:=part b 6 4) (Dq);have ht:=Ajq b (TK (part b 6 4) 0).1 F0 v1 v2;rw[Aa2 F2,g3,Aa,g5,Aa,KU,LO,e6,Aa,Aam _ (Dq),Aa,Xl,Aa2 (λh=>h hp),Aa2 h10];generalize TK (part b 6 4) 0=v at*
   obtain⟨v,e⟩:=v;simp only at ht v1 v2⊢;simp only[Aa,g4,KN,YW];generalize b.getD 3 0=x at*
   generalize b.getD 4 0=y at*
   generalize b.getD 5 0=z at*
   simp only[Aa1,Asg,XJ,Ajd,Ao];have e2:(2:UInt8).toNat=2:=rfl;have e4:(4:UInt8).toNat=4:=rfl;by_cases he:e=0<;>by_cases hy:y=0<;>by_cases hz:z=0<;>by_cases hz2:z=16<;>by_cases hx:x=4<;>by_cases hx2:2<=x.toNat<;>by_cases hx4:x.toNat<=4<;>simp_all
 ·rw[Aa8 (by rw[Aqg,At9];exact hp),Xl,Aa8 hp]
theorem All{n:Int}(h:Xl b=(n,0)):10<=n/\n<=b.length/\n<=4000:=by
 unfold Xl at h;split at h; · simp at h
 split at h; · simp at h
 split at h; · simp at h
 rename_i h10 _;obtain⟨v1,v2⟩:=zx (b:=part b 6 4) (Dq);unfold rJ at h;generalize hm:(TK (part b 6 4) 0).1+10+(if b.getD 5 0=16 then 10 else 0)=m at h;unfold UM at h;split at h; · simp at h
 split at h; · simp at h
 split at h; · simp at h
 simp only[Ahf,Axw]at h;subst h;refine⟨?_,F0,F0⟩;rw[<-hm];split<;>omega
theorem Aym(h:p:=by rw[Af,Ac];simp):p:=h
theorem Ax7(h:p:=by rw[Dq];omega):p:=h
theorem Ayi(h:p:=by simp[Oj]):p:=h
end Go.Pl
namespace Go.Pl
open Go Go.Lv
def tA:LB:=[65,80,69,84,65,71,69,88]
def Nz(n m fl:Nat):LB:=tA++FD 2000 4++FD (n+32) 4++FD m 4++FD fl 4++List.replicate 8 0
theorem SY{n:Nat}(h:n<18446744073709551616):(UInt64.ofNat n).toNat=n:=by rw[Ajw,Adn h]
theorem fQ(n m:Int)(fl:UInt64)(c:UInt64)(i q:Nat)(acc:LB)(hi:i<6)(hc:Ak ([(2000:UInt64),(Ad (Ae n (32:Int)):UInt64),(Ad m:UInt64),fl,(0:UInt64),(0:UInt64)]:LQ) (i:Int)=some c)(h:c.toNat<4294967296)(ha:acc.length<=1000000):
  AN n m fl (q+1) (i:Int) acc=AN n m fl q ((i+1:Nat):Int) (acc++FD c.toNat 4):=by
 have hb:=yO c 4 F0 F0 (by simpa using h);rw[AN,XP,Aa8 F2,hc,Aa,Aa,show((4:Int))=((4:Nat):Int)from rfl,hb,Aa];simp only;rw[Cy (by rw[Oj];omega),Aa,Aj];rfl
theorem uR(n m:Nat)(fl:UInt64)(hn:n<=3000)(hm:m<=1000)(hf:fl.toNat<4294967296):fD (n:Int) (m:Int) fl=some (Nz n m fl.toNat):=by
 have e1:(Ad (Ae (n:Int) (32:Int)):UInt64).toNat=n+32:=by rw[Aj,show(n:Int)+32=((n+32:Nat):Int) by omega,Xh,SY F0]
 have e2:(Ad (m:Int):UInt64).toNat=m:=by rw[Xh,SY F0]
 have hF:Ba=(Ba-7)+1+1+1+1+1+1+1:=by have:=Ax;omega
 rw[fD,kD,vG,hF];rw[show((0:Int))=((0:Nat):Int)from rfl,fQ n m fl 2000 0 _ _ F0 rfl F4 Axz,fQ n m fl _ 1 _ _ F0 rfl (by rw[e1];omega) Ayi,fQ n m fl _ 2 _ _ F0 rfl (by rw[e2];omega) Ayi,
  fQ n m fl fl 3 _ _ F0 rfl hf Ayi,fQ n m fl 0 4 _ _ F0 rfl F4 Ayi,fQ n m fl 0 5 _ _ F0 rfl F4 Ayi,e1,e2]
 rw[AN,XP,Aa2 Aym,jL,yK,Nz];have z:FD (0:UInt64).toNat 4++FD (0:UInt64).toNat 4=List.replicate 8 0:=F4
 have z2:FD (2000:UInt64).toNat 4=FD 2000 4:=rfl;rw[Anx _ (FD (0:UInt64).toNat 4),z,z2];rfl
theorem nT(n m:Nat)(fl:UInt64)(hn:n<=3000)(hm:m<=1000)(hf:fl.toNat<4294967296):Qg (n:Int) (m:Int) fl=some (Nz n m fl.toNat):=by
 have e1:(Ad (Ae (n:Int) (32:Int)):UInt64).toNat=n+32:=by rw[Aj,show(n:Int)+32=((n+32:Nat):Int) by omega,Xh,SY F0]
 have e2:(Ad (m:Int):UInt64).toNat=m:=by rw[Xh,SY F0]
 have w:∀c:UInt64,Dz c 4=some (FD c.toNat 4):=λc=>xT c 4 F0;have z2:FD (2000:UInt64).toNat 4=FD 2000 4:=rfl;rw[Qg];simp only[w,e1,e2,Aa];rw[Cy Ayi,Aa,Cy Ayi,Aa,Cy Ayi,Aa,Cy Ayi,Aa,yS,Aa,Cy Ayi,Aa,z2];rfl
theorem NO{b:LB}{a w k:Nat}(h:a+w<=k):part (b.take k) a w=part b a w:=by rw[part,part,List.take_take,As0 h]
def BW(b:LB):Bool:=decide (El (part b 12 4)<32\/3032<El (part b 12 4)\/1000<El (part b 16 4))
theorem Akz(b:LB)(h:20<=b.length):(((Cm (gW (part b 12 4)) (32:UInt64))||(Dm (gW (part b 12 4)) (3032:UInt64)))||(Dm (gW (part b 16 4)) (1000:UInt64)))=BW b:=by
 rw[tF,SB,SB,SZ Ax7,SZ Ax7,BW];show((decide (El (part b 12 4)<32)||decide (3032<El (part b 12 4)))||decide (1000<El (part b 16 4)))=_;simp[Bool.or_assoc]
theorem oT(b:LB)(h:20<=b.length)(hb:BW b=false):Am (Ad (gW (part b 12 4)):Int) (32:Int)=((El (part b 12 4)-32:Nat):Int)/\ (Ad (gW (part b 16 4)):Int)=((El (part b 16 4):Nat):Int)/\El (part b 12 4)-32<=3000/\El (part b 16 4)<=1000:=by
 simp only[BW,At9]at hb;refine⟨?_,HY Ax7,F0,F0⟩;rw[HY Ax7,Cf];omega
theorem XU(b:LB)(fl:UInt64)(h:20<=b.length)(hl:b.length<4611686018427387904)(hf:fl.toNat<4294967296):
  NS b fl=some (if BW b=true then(0,0,false)else(((El (part b 12 4)-32:Nat):Int),((El (part b 16 4):Nat):Int),b==Nz (El (part b 12 4)-32) (El (part b 16 4)) fl.toNat)):=by
 have a1:VC b 12 4=some (gW (part b 12 4),0):=E3 b 12 4 F0 F0 F0 hl;have a2:VC b 16 4=some (gW (part b 16 4),0):=E3 b 16 4 F0 F0 F0 hl;rw[NS,a1,Aa];simp only;rw[a2,Aa];simp only;rw[Akz b h];cases hb:BW b with
 |true=>rfl
 |false=>
  obtain⟨i1,i2,i3,i4⟩:=oT b h hb;rw[i1,i2,uR _ _ _ i3 i4 hf];rfl
theorem T7(b:LB)(h:20<=b.length)(hl:b.length<4611686018427387904):
  Ue b=some (if BW b=true then(0,0,false)else(((El (part b 12 4)-32:Nat):Int),((El (part b 16 4):Nat):Int),true)):=by
 have a1:Bl b 12 16=some (part b 12 4):=Om 12 4;have a2:Bl b 16 20=some (part b 16 4):=Om 16 4;rw[Ue,a1,Aa,qc _ Ax7,Aa,a2,Aa,qc _ Ax7,Aa,Akz b h];cases hb:BW b with
 |true=>rfl
 |false=>
  obtain⟨i1,i2,i3,i4⟩:=oT b h hb;rw[i1,i2];rfl
def Iv(b:LB):Int×Int:=
 if ¬(8<=b.length/\b.take 8=tA)then(0,6)else if b.length<32 then(0,24)else
 if BW b=true\/b.take 32≠Nz (El (part b 12 4)-32) (El (part b 16 4)) 2684354560 then(0,12)else
 if b.length<El (part b 12 4)+32 then(0,24)else
 if(b.take (El (part b 12 4)+32)).drop (El (part b 12 4))≠Nz (El (part b 12 4)-32) (El (part b 16 4)) 2147483648 then(0,12)else(((El (part b 12 4)+32:Nat):Int),0)
theorem Z2(b:LB):BW (b.take 32)=BW b:=by rw[BW,BW,NO F0,NO F0]
section
variable {b:LB}
theorem fa1(h:¬(8<=b.length/\b.take 8=tA)):Iv b=(0,6):=by rw[Iv,Aa8 h]
theorem fa2(h:8<=b.length/\b.take 8=tA)(h2:b.length<32):Iv b=(0,24):=by rw[Iv,Aa2 (λh'=>h' h),Aa8 h2]
variable (h:8<=b.length/\b.take 8=tA) (h2:¬b.length<32)
include h h2
theorem fa3(h3:BW b=true):Iv b=(0,12):=by rw[Iv,Aa2 (λh'=>h' h),Aa2 h2,Aa8 (.inl h3)]
theorem fa4(h4:b.take 32≠Nz (El (part b 12 4)-32) (El (part b 16 4)) 2684354560):Iv b=(0,12):=by rw[Iv,Aa2 (λh'=>h' h),Aa2 h2,Aa8 (.inr h4)]
variable (h3:BW b=false) (h4:b.take 32=Nz (El (part b 12 4)-32) (El (part b 16 4)) 2684354560)
include h3 h4
theorem fa5(h5:b.length<El (part b 12 4)+32):Iv b=(0,24):=by
 rw[Iv,Aa2 (λh'=>h' h),Aa2 h2,Aa2 (λh'=>h'.elim (λe=>by rw[h3]at e;cases e) λe=>e h4),Aa8 h5]
theorem fa6(h5:¬b.length<El (part b 12 4)+32)(h6:(b.take (El (part b 12 4)+32)).drop (El (part b 12 4))≠Nz (El (part b 12 4)-32) (El (part b 16 4)) 2147483648):Iv b=(0,12):=by
 rw[Iv,Aa2 (λh'=>h' h),Aa2 h2,Aa2 (λh'=>h'.elim (λe=>by rw[h3]at e;cases e) λe=>e h4),Aa2 h5,Aa8 h6]
theorem fa7(h5:¬b.length<El (part b 12 4)+32)(h6:(b.take (El (part b 12 4)+32)).drop (El (part b 12 4))=Nz (El (part b 12 4)-32) (El (part b 16 4)) 2147483648):Iv b=(((El (part b 12 4)+32:Nat):Int),0):=by
 rw[Iv,Aa2 (λh'=>h' h),Aa2 h2,Aa2 (λh'=>h'.elim (λe=>by rw[h3]at e;cases e) λe=>e h4),Aa2 h5,Aa2 (λh'=>h' h6)]
end
theorem Aaf(b:LB)(hl:b.length<4611686018427387904):fF b=some (Iv b):=by
 rw[fF,XL,Aa];by_cases hp:8<=b.length/\b.take 8=tA
 ·rw[Aa2 (by simpa [tA]using hp)];by_cases h32:b.length<32
  ·rw[Aa8 F2,fa2 hp h32]
  ·have t:=XU (b.take 32) 2684354560 F6 F6 F4;rw[Z2,NO F0,NO F0]at t;rw[Aa2 F2,Dc,Aa,show(32:Int).toNat=32 from rfl,t,Aa];cases hb:BW b with
   |true=>rw[fa3 hp h32 hb];simp
   |false=>
    obtain⟨i1,i2,i3,i4⟩:=oT b F0 hb;have i5:32<=El (part b 12 4):=by simp only[BW,At9]at hb;omega
    simp only[Aqf,Avx,false_or];by_cases c1:b.take 32=Nz (El (part b 12 4)-32) (El (part b 16 4)) 2684354560
    ·have c1':b.take 32=Nz (El (part b 12 4)-32) (El (part b 16 4)) (2684354560:UInt64).toNat:=c1;rw[Aa2 (by simpa using c1'),Aj];have e1:((El (part b 12 4)-32:Nat):Int)+64=((El (part b 12 4)+32:Nat):Int):=F0
     rw[e1];by_cases c2:b.length<El (part b 12 4)+32
     ·rw[Aa8 F2,fa5 hp h32 hb c1 c2]
     ·rw[Aa2 F2,Cf,Zp,Aa,uR _ _ _ i3 i4 F4,Aa,It,Aa];rw[show(((El (part b 12 4)+32:Nat):Int)).toNat=El (part b 12 4)+32 by omega,show(((El (part b 12 4)+32:Nat):Int)-32).toNat=El (part b 12 4) by omega];by_cases c3:(b.take (El (part b 12 4)+32)).drop (El (part b 12 4))=Nz (El (part b 12 4)-32) (El (part b 16 4)) 2147483648
      ·have c3':(b.take (El (part b 12 4)+32)).drop (El (part b 12 4))=Nz (El (part b 12 4)-32) (El (part b 16 4)) (2147483648:UInt64).toNat:=c3;rw[Aa2 (by simpa using c3'),fa7 hp h32 hb c1 c2 c3]
      ·have c3':¬(b.take (El (part b 12 4)+32)).drop (El (part b 12 4))=Nz (El (part b 12 4)-32) (El (part b 16 4)) (2147483648:UInt64).toNat:=c3;rw[Aa8 (by simpa using c3'),fa6 hp h32 hb c1 c2 c3]
    ·have c1':¬b.take 32=Nz (El (part b 12 4)-32) (El (part b 16 4)) (2684354560:UInt64).toNat:=c1;rw[Aa8 (by simpa using c1'),fa4 hp h32 c1]
 ·rw[Aa8 (by rw[Aqg,At9];exact hp),fa1 hp]
theorem Afm(b:LB)(hl:b.length<4611686018427387904):Zx b=some (Iv b):=by
 rw[Zx,FH];by_cases h8:8<=b.length
 ·rw[Aa2 F2,Dc,Aa,show(8:Int).toNat=8 from rfl];by_cases ha:b.take 8=tA
  ·have hp:=And.intro h8 ha;rw[Aa2 (by simpa [tA]using ha),FT,FL];by_cases h32:b.length<32
   ·rw[Aa8 F2,fa2 hp h32]
   ·have t:=T7 (b.take 32) F6 F6;rw[Z2,NO F0,NO F0]at t;rw[Aa2 F2,Dc,Aa,show(32:Int).toNat=32 from rfl,t,Aa];cases hb:BW b with
    |true=>rw[fa3 hp h32 hb];simp
    |false=>
     obtain⟨i1,i2,i3,i4⟩:=oT b F0 hb;have i5:32<=El (part b 12 4):=by simp only[BW,At9]at hb;omega
     simp only[Aqf,Avx,false_or,Aa,Aw8];rw[Ul,nT _ _ _ i3 i4 F4,Aa,Aa];by_cases c1:b.take 32=Nz (El (part b 12 4)-32) (El (part b 16 4)) 2684354560
     ·have c1':b.take 32=Nz (El (part b 12 4)-32) (El (part b 16 4)) (2684354560:UInt64).toNat:=c1;rw[Aa2 (by simpa using c1'),GF,FU,Aj];have e1:64+((El (part b 12 4)-32:Nat):Int)=((El (part b 12 4)+32:Nat):Int):=F0
      rw[e1];by_cases c2:b.length<El (part b 12 4)+32
      ·rw[Aa8 F2,fa5 hp h32 hb c1 c2]
      ·rw[Aa2 F2,Cf,Zp,Aa,Kt,Aa8 rfl,nT _ _ _ i3 i4 F4,Aa,Aa];rw[show(((El (part b 12 4)+32:Nat):Int)).toNat=El (part b 12 4)+32 by omega,show(((El (part b 12 4)+32:Nat):Int)-32).toNat=El (part b 12 4) by omega];by_cases c3:(b.take (El (part b 12 4)+32)).drop (El (part b 12 4))=Nz (El (part b 12 4)-32) (El (part b 16 4)) 2147483648
       ·have c3':(b.take (El (part b 12 4)+32)).drop (El (part b 12 4))=Nz (El (part b 12 4)-32) (El (part b 16 4)) (2147483648:UInt64).toNat:=c3;rw[Aa2 (by simpa using c3'),fa7 hp h32 hb c1 c2 c3]
       ·have c3':¬(b.take (El (part b 12 4)+32)).drop (El (part b 12 4))=Nz (El (part b 12 4)-32) (El (part b 16 4)) (2147483648:UInt64).toNat:=c3;rw[Aa8 (by simpa using c3'),fa6 hp h32 hb c1 c2 c3]
     ·have c1':¬b.take 32=Nz (El (part b 12 4)-32) (El (part b 16 4)) (2684354560:UInt64).toNat:=c1;rw[Aa8 (by simpa using c1'),fa4 hp h32 c1]
  ·rw[Aa8 (by simpa [tA]using ha),fa1 (λh=>ha h.2)]
 ·rw[Aa8 F2,fa1 (λh=>h8 h.1)]
theorem Agy{b:LB}{n:Int}(h:Iv b=(n,0)):64<=n/\n<=b.length:=by
 unfold Iv at h;split at h; · simp at h
 split at h; · simp at h
 split at h; · simp at h
 rename_i hb;split at h; · simp at h
 split at h; · simp at h
 simp only[Ahf,Axw]at h;have hb':¬BW b=true:=λe=>hb (.inl e);simp only[BW,Abi]at hb';omega
def Cl(b:LB):Int×Int:=if(Xl b).2≠6 then Xl b else Iv b
theorem size_eq(b:LB)(hl:b.length<4611686018427387904):Vr b=some (Cl b):=by
 rw[Vr,Agr b hl,Aa,Aaf b hl];by_cases h:(Xl b).2=6
 ·simp[Cl,h,Ao]
 ·simp[Cl,h,Ao]
theorem dN{b:LB}{n:Int}(h:Cl b=(n,0)):10<=n/\n<=b.length:=by
 unfold Cl at h;split at h
 ·have:=All h;omega
 ·have:=Agy h;omega
def Cb(b:LB):Nat->Nat->LI×Int
 |0,_=>([],6)
 |j+1,p=>if(Cl (b.drop p)).2=6 then([],0)else if(Cl (b.drop p)).2≠0 then([],(Cl (b.drop p)).2)else
  if 4000<(p:Int)+(Cl (b.drop p)).1 then([],4)else
  if(Cb b j (p+(Cl (b.drop p)).1.toNat)).2=0 then((Cl (b.drop p)).1::(Cb b j (p+(Cl (b.drop p)).1.toNat)).1,0)else([],(Cb b j (p+(Cl (b.drop p)).1.toNat)).2)
theorem fS(b:LB):∀(j p:Nat),p<=b.length->p<=4000-> (Cb b j p).2=0-> (∀x∈(Cb b j p).1,10<=x)/\ (p:Int)+(Cb b j p).1.sum<=b.length/\ (p:Int)+(Cb b j p).1.sum<=4000
 |0,p,_,_,h=>by simp[Cb]at h
 |j+1,p,hp,hq,h=>by
  rw[Cb]at h⊢;split at h
  ·rename_i h6;rw[Aa8 h6];simp;omega
  ·rename_i h6;split at h
   ·rename_i h0;exact absurd h h0
   ·rename_i h0;rw[Aa2 h6,Aa2 h0];have hz:Cl (b.drop p)=((Cl (b.drop p)).1,0):=by rw[Prod.ext_iff];exact⟨rfl,Classical.not_not.1 h0⟩
    have hs:=dN hz;rw[Aio]at hs;split at h
    ·simp at h
    ·rename_i h4;rw[Aa2 h4];split at h
     ·rename_i h00;rw[Aa8 h00];obtain⟨i1,i2,i3⟩:=fS b j _ F0 F0 h00;refine⟨λx hx=>?_,?_,?_⟩
      ·rcases List.mem_cons.1 hx with rfl|hx
       ·exact hs.1
       ·exact i1 x hx
      ·simp only[As1];omega
      ·simp only[As1];omega
     ·rename_i h00;exact absurd h h00
def B0(b:LB)(j p:Nat):Int×Int:=if(Cb b j p).2=0 then((p:Int)+(Cb b j p).1.sum,0)else(0,(Cb b j p).2)
theorem yE(b:LB)(hl:b.length<4611686018427387904):∀(j p q:Nat),p<=b.length->p<=4000->b.length-p<j->j<=q->Tf b q (p:Int)=some (B0 b j p)
 |0,p,q,_,_,h,_=>by omega
 |j+1,p,q,hp,hp4,hj,hq=>by
  obtain⟨q,rfl⟩:∃k,q=k+1:=⟨q-1,F0⟩;rw[Tf,Dd,Aa,Aly,size_eq _ F6,Aa,Ay,Ay,Ao,B0];by_cases h6:(Cl (b.drop p)).2=6
  ·rw[Aa8 (by simpa using h6)];have:Cb b (j+1) p=([],0):=by rw[Cb,Aa8 h6]
   rw[this];simp
  ·rw[Aa2 (by simpa using h6)];by_cases h0:(Cl (b.drop p)).2=0
   ·have hz:Cl (b.drop p)=((Cl (b.drop p)).1,0):=by rw[Prod.ext_iff];exact⟨rfl,h0⟩
    have hs:=dN hz;rw[Aio]at hs;rw[Aj,Az];by_cases h4:4000<(p:Int)+(Cl (b.drop p)).1
    ·rw[Aa8 (by simp[h0];omega)];have:Cb b (j+1) p=([],4):=by rw[Cb,Aa2 h6,Aa2 (λh=>h h0),Aa8 h4]
     rw[this];simp
    ·rw[Aa2 (by simp[h0];omega),Aa2 (by simpa using h0)];have ih:=yE b hl j (p+(Cl (b.drop p)).1.toNat) q F0 F0 F0 F0;rw[show(p:Int)+(Cl (b.drop p)).1=((p+(Cl (b.drop p)).1.toNat:Nat):Int) by omega,ih,B0];have:Cb b (j+1) p=if(Cb b j (p+(Cl (b.drop p)).1.toNat)).2=0 then((Cl (b.drop p)).1::(Cb b j (p+(Cl (b.drop p)).1.toNat)).1,0)else([],(Cb b j (p+(Cl (b.drop p)).1.toNat)).2):=by
      rw[Cb,Aa2 h6,Aa2 (λh=>h h0),Aa2 h4]
     rw[this];by_cases hr:(Cb b j (p+(Cl (b.drop p)).1.toNat)).2=0
     ·simp only[hr,Axv,As1];congr 2;omega
     ·simp only[hr,Avx]
   ·rw[Aa2 (by simp[h0]),Aa8 (by simpa using h0)];have:Cb b (j+1) p=([],(Cl (b.drop p)).2):=by rw[Cb,Aa2 h6,Aa8 h0]
    rw[this];simp[h0]
def Aia(b:LB)(j p:Nat)(xs:LI):LI×Int:=if(Cb b j p).2=0 then(xs++(Cb b j p).1,0)else([],(Cb b j p).2)
theorem Aif(bk:Int->LI->Option (LI×Int))(b:LB)(p:Nat)(hp:p<=b.length)(xs:LI)(hx:xs.length<=4000)(hl:b.length<4611686018427387904):Ty (Nn bk b) b (p:Int) xs=Nn bk b (p:Int) xs (Cl (b.drop p)).1 (Cl (b.drop p)).2:=by
 have hf:=Afm (b.drop p) F6;rw[Ty,Dd,Aa,Aly,Akf _ F6,Aa];by_cases h:(Xl (b.drop p)).2=6
 ·simp[Cl,h,Ay,hf]
 ·simp[Cl,h,Ay]
theorem I2(b:LB)(hl:b.length<4611686018427387904):∀(j p q:Nat) (xs:LI),p<=b.length->p<=4000->b.length-p<j->j<=q->xs.length<=p->Nd b q (p:Int) xs=some (Aia b j p xs)
 |0,p,q,_,_,_,h,_,_=>by omega
 |j+1,p,q,xs,hp,hp4,hj,hq,hx=>by
  obtain⟨q,rfl⟩:∃k,q=k+1:=⟨q-1,F0⟩;rw[Nd,Aif _ b p hp xs F0 hl,Nn,FR,Ay,Ao,Aia];by_cases h6:(Cl (b.drop p)).2=6
  ·rw[Aa8 (by simpa using h6)];have:Cb b (j+1) p=([],0):=by rw[Cb,Aa8 h6]
   rw[this];simp
  ·rw[Aa2 (by simpa using h6)];by_cases h0:(Cl (b.drop p)).2=0
   ·have hz:Cl (b.drop p)=((Cl (b.drop p)).1,0):=by rw[Prod.ext_iff];exact⟨rfl,h0⟩
    have hs:=dN hz;rw[Aio]at hs;rw[Aa2 (by simpa using h0),Aj,Az];by_cases h4:4000<(p:Int)+(Cl (b.drop p)).1
    ·rw[Aa8 F6];have:Cb b (j+1) p=([],4):=by rw[Cb,Aa2 h6,Aa2 (λh=>h h0),Aa8 h4]
     rw[this];simp
    ·rw[Aa2 F6,Cy F6,Aa];have ih:=I2 b hl j (p+(Cl (b.drop p)).1.toNat) q (xs++[(Cl (b.drop p)).1]) F0 F0 F0 F0 F6;rw[show(p:Int)+(Cl (b.drop p)).1=((p+(Cl (b.drop p)).1.toNat:Nat):Int) by omega,ih,Aia];have:Cb b (j+1) p=if(Cb b j (p+(Cl (b.drop p)).1.toNat)).2=0 then((Cl (b.drop p)).1::(Cb b j (p+(Cl (b.drop p)).1.toNat)).1,0)else([],(Cb b j (p+(Cl (b.drop p)).1.toNat)).2):=by
      rw[Cb,Aa2 h6,Aa2 (λh=>h h0),Aa2 h4]
     rw[this];by_cases hr:(Cb b j (p+(Cl (b.drop p)).1.toNat)).2=0
     ·simp only[hr,Axv];simp
     ·simp only[hr,Avx]
   ·rw[Aa8 (by simpa using h0)];have:Cb b (j+1) p=([],(Cl (b.drop p)).2):=by rw[Cb,Aa2 h6,Aa8 h0]
    rw[this];simp[h0]
theorem sZ:∀{l:LI},(∀x∈l,10<=x)->0<=l.sum/\ (l.length:Int)<=l.sum
 |[],_=>by simp
 |x::l,h=>by
  have h1:=h x Ath;have h2:=sZ (l:=l) λy hy=>h y (Aqi _ hy);simp only[As1,Ar8];omega
theorem uD(r:Int)(l:LI)(hl:l.length<=4000)(hx:∀x∈l,10<=x):∀(j i q:Nat) (n:Int),i+j=l.length->j<q->0<=n->n+(l.drop i).sum<=4000->Jc r l q n (i:Int)=some (n+(l.drop i).sum,r)
 |0,i,q+1,n,hi,_,_,_=>by
  rw[Jc,Ti,Aa2 F2,show i=l.length by omega,Avi];simp[GD,FG]
 |j+1,i,q+1,n,hi,hq,hn,hs=>by
  have hlt:i<l.length:=F0
  rw[drop_cons hlt,As1]at hs⊢;have h1:=hx l[i] (Ap8 hlt);have h2:=sZ (l:=l.drop (i+1)) λy hy=>hx y (List.mem_of_mem_drop hy);rw[Jc,Ti,Aa8 F2,Ch hlt,Aa,Aa,Aj,Aj];have ih:=uD r l hl hx j (i+1) q (n+l[i]) F0 F0 F0 F0;rw[show((i:Int)+1)=((i+1:Nat):Int) by omega,ih];congr 2;omega
def Cv(b:LB):Int×Int:=B0 b (b.length+1) 0
theorem OH(b:LB)(hl:b.length<4611686018427387904):Iq b=some (Cv b):=by
 have:=yE b hl (b.length+1) 0 Ba F0 F0 F0 F9;exact this
theorem XI(b:LB)(hl:b.length<4611686018427387904):Nb b=some (Cv b):=by
 have h:=I2 b hl (b.length+1) 0 Ba [] F0 F0 F0 F9 Axz;have h':OP b=some (Aia b (b.length+1) 0 []):=h;rw[Nb,FP,h',Aa,Cv,B0,Aia];have ho:=fS b (b.length+1) 0 F0 F0;by_cases h0:(Cb b (b.length+1) 0).2=0
 ·obtain⟨i1,i2,i3⟩:=ho h0;have hp:=sZ i1;simp only[h0,Axv,Arw];have:=uD 0 (Cb b (b.length+1) 0).1 F0 i1 (Cb b (b.length+1) 0).1.length 0 Ba 0 F0 F9 F0 (by simpa using i3);simpa [Tk]using this
 ·simp only[h0,Avx];have:=uD (Cb b (b.length+1) 0).2 [] Axz Axz 0 0 Ba 0 Axz F9 F0 Axz;simpa [Tk]using this
theorem NP{b:LB}(h:(Cv b).2=0):0<= (Cv b).1/\ (Cv b).1<=b.length/\ (Cv b).1<=4000:=by
 unfold Cv B0 at h⊢;split at h
 ·rename_i h0;rw[Aa8 h0];obtain⟨i1,i2,i3⟩:=fS b (b.length+1) 0 F0 F0 h0;have hp:=sZ i1;exact⟨by simp;omega,i2,i3⟩
 ·rename_i h0;exact absurd h h0
theorem Aya{p:Prop}(h:p:=by rw[Af,Ac,Ac];simp;omega):p:=h
end Go.Pl
namespace Go.Pl
open Go Go.Lv
def Aq(r:Nat):Nat:=max 1 (256*r/245)
theorem Jz(r:Nat):1<=Aq r:=Nat.le_max_left _ _
theorem wX{r:Nat}(h:r<=1048576):Aq r<=1100000:=by unfold Aq;omega
theorem ny{r:Nat}(h:r<=1048576):aE (1:Int) (Cx (Bo (256:Int) (r:Int)) (245:Int))=(Aq r:Int):=by
 rw[Hs,KQ,Atv F0,Cr F0 F0,pO,Aq];omega
def Al(g n:Nat):LI:=List.replicate ((n-1)/g) (g:Int)++[((n-(n-1)/g*g:Nat):Int)]
theorem qW(g n:Nat):(Al g n).length=(n-1)/g+1:=by simp[Al]
theorem C0{g n:Nat}(h:n<=g)(h1:1<=n):Al g n=[(n:Int)]:=by
 rw[Al,Ava F0];simp
theorem wo{g n:Nat}(hg:1<=g)(h:g<n):Al g n=(g:Int)::Al g (n-g):=by
 have e:(n-1)/g=(n-g-1)/g+1:=by rw[<-Nat.add_div_right _ F0];congr 1;omega
 rw[Al,Al,e,Au9,Av5];congr 4;have:=Au0 (n-g-1) g;rw[Arb,Nat.one_mul];omega
theorem kX{g n:Nat}(hg:1<=g)(h1:1<=n):(n+g-1)/g=(n-1)/g+1:=by
 rw[<-Nat.add_div_right _ F0];congr 1;omega
theorem C6{r:Nat}(h1:1<=r)(h:r<=1048576):BZ (r:Int)=some ((Aq r:Int),0):=by
 rw[BZ,Aa2 Ax5,ny h]
theorem Ajb{r:Nat}(h:r<=1048576):Up (r:Int)=some (Aq r:Int):=by rw[Up,ny h]
theorem wI{r n:Nat}(h1:1<=r)(h:r<=1048576)(n1:1<=n)(n2:n<=4000):Tc (r:Int) (n:Int)=some (if 1000<(n-1)/Aq r+1 then(0,4)else((((n-1)/Aq r+1:Nat):Int),0)):=by
 have hp:=Jz r;have hl:=wX h;have e:Cx (Am (Ae (n:Int) (Aq r:Int)) (1:Int)) (Aq r:Int)=(((n-1)/Aq r+1:Nat):Int):=by
  have:(n+Aq r-1)/Aq r<=n+Aq r-1:=Asu _ _;rw[Aj,Cf,KQ,Atv F0,show(n:Int)+(Aq r:Int)-1=((n+Aq r-1:Nat):Int) by omega,<-Int.natCast_ediv,kX hp n1];rw[kX hp n1]at this;generalize(n-1)/Aq r=k at*
  exact Cr F0 F0
 rw[Tc,C6 h1 h,Aa];simp only;rw[Aa2 Ax0,Aa2 Ax5,Dg Ax3,Aa,e];by_cases hk:1000<(n-1)/Aq r+1
 ·rw[Aa8 Ax1,Aa8 hk]
 ·rw[Aa2 Ax1,Aa2 hk]
theorem yM{r:Nat}(h:r<=1048576):∀(j n q:Nat) (acc:LI),n<=4000->n<=j->j<q->acc.length+n<=10000->Ez (r:Int) q (n:Int) acc=some (acc++(if n=0 then []else Al (Aq r) n))
 |0,n,q+1,acc,hn,hj,hq,ha=>by
  obtain rfl:n=0:=F0
  rw[Ez,Jh,Aa2 Ayk];simp[Np,Ni]
 |j+1,n,q+1,acc,hn,hj,hq,ha=>by
  have hp:=Jz r;have hl:=wX h;by_cases h0:n=0
  ·subst h0;rw[Ez,Jh,Aa2 Ayk];simp[Np,Ni]
  ·rw[Ez,Jh,Aa8 Ax1,Ajb h,Aa,Cy F6,Aa,Aa,Cf,GK];by_cases hs:n<=Aq r
   ·rw[show min (n:Int) (Aq r:Int)=(n:Int) by omega,Aa2 h0,C0 hs F0];have hz:∃k,q=k+1:=⟨q-1,F0⟩;obtain⟨q,rfl⟩:=hz;rw[Ez,Jh,Aa2 Ax1];simp[Np,Ni]
   ·rw[show min (n:Int) (Aq r:Int)=(Aq r:Int) by omega,show(n:Int)-(Aq r:Int)=((n-Aq r:Nat):Int) by omega,yM h j (n-Aq r) q _ F0 F0 F0 F6,Aa2 F0,Aa2 h0,wo hp (show Aq r<n by omega)];simp
theorem mL{r n:Nat}(h:r<=1048576)(n1:1<=n)(n2:n<=4000):Js (r:Int) (n:Int)=some (Al (Aq r) n):=by
 have:=yM h n n Ba [] n2 (Ap4 _) F9 F6;rw[Js,FO,FF,this,Aa2 F0];rfl
theorem mul_one(m:Nat)(h:m<=100000):HZ (1:UInt64) (UInt64.ofNat m)=some (0,UInt64.ofNat m):=by
 have y1:(UInt64.ofNat m).toNat=m:=SY F0;have s1:Cq (1:UInt64) (GI.toZ (32:UInt64)).toNat=0:=F4
 have s2:Cq (UInt64.ofNat m) (GI.toZ (32:UInt64)).toNat=0:=by
  apply UInt64.toNat_inj.1;rw[KF,y1];exact Ava (Au7 h F4)
 have s0:Cq (0:UInt64) (GI.toZ (32:UInt64)).toNat=0:=F4
 have a1:Es (1:UInt64) (4294967295:UInt64)=1:=F4
 have a0:Es (0:UInt64) (4294967295:UInt64)=0:=F4
 have a2:Es (UInt64.ofNat m) (4294967295:UInt64)=UInt64.ofNat m:=by
  apply UInt64.toNat_inj.1;rw[xR,UInt64.toNat_and,y1]
  show m&&& (2^32-1)=m;rw[Awy,Adn F0]
 have m1:∀x:UInt64,Bo 1 x=x:=λx=>by rw[JI,UInt64.one_mul]
 have m0:∀x:UInt64,Bo 0 x=0:=λx=>by rw[JI,UInt64.zero_mul]
 have p0:∀x:UInt64,Ae 0 x=x:=λx=>by rw[JO,UInt64.zero_add]
 have p1:∀x:UInt64,Ae x 0=x:=λx=>by rw[JO,UInt64.add_zero]
 rw[HZ,KY];simp only[s1,s2,a1,a2,m1,m0,p0,p1,s0,a0,Aa]
theorem qQ(v:Int)(m:Nat)(hm:m<=100000):∀(j n q:Nat),1<=n->n<=m->m-n<=j->j<q->Et q (n:Int) (List.replicate n v++List.replicate (m-n) 0)=some (List.replicate m v)
 |j,n,q+1,hn,hnm,hj,hq=>by
  have hlen:Ac (List.replicate n v++List.replicate (m-n) 0)=(m:Int):=by simp[Ac];omega
  rw[Et,Gx,hlen];by_cases h:n<m
  ·obtain⟨j,rfl⟩:∃k,j=k+1:=⟨j-1,F0⟩;rw[Aa8 F7];have v1:gB (m:Int) (n:Int) (m:Int)=some ():=by rw[gB,Dg];simp;omega
   have v2:gB (m:Int) (0:Int) (n:Int)=some ():=by rw[gB,Dg];simp;omega
   have e1:UW (List.replicate n v++List.replicate (m-n) 0) (0:Int) ((n:Int)-0)=List.replicate n v:=by
    simp[UW]
   rw[v1,Aa,v2,Aa,e1];have e2:QB ((m:Int)-(n:Int)) (List.replicate n v).length=((min n (m-n):Nat):Int):=by
    rw[QB,List.length_replicate];split<;>omega
   have e3:Vf (List.replicate n v++List.replicate (m-n) 0) (n:Int) ((m:Int)-(n:Int)) (List.replicate n v)=List.replicate (n+min n (m-n)) v++List.replicate (m-(n+min n (m-n))) 0:=by
    have t1:((m:Int)-(n:Int)).toNat=m-n:=F0
    have t2:(List.replicate n v++List.replicate (m-n) (0:Int)).take n=List.replicate n v:=by simp
    rw[Vf,t1,Aly,t2,List.take_replicate,List.length_replicate,<-Anx,List.replicate_append_replicate,List.drop_append,List.length_replicate,Nat.min_comm (m-n) n];simp only[List.drop_replicate];rw[show n-(n+min n (m-n))=0 by omega,List.replicate_zero,Arw,show m-n-(n+min n (m-n)-n)=m-(n+min n (m-n)) by omega]
   rw[e2,e3,Aj,show(n:Int)+((min n (m-n):Nat):Int)=((n+min n (m-n):Nat):Int) by omega];exact qQ v m hm j (n+min n (m-n)) q F0 F0 F0 F0
  ·rw[Aa2 F7];obtain rfl:n=m:=F0
   simp[Iw,Nr]
theorem Ag2(v:Int)(m:Nat)(hm:m<=100000):Nl [v] (m:Int)=some (List.replicate m v):=by
 have y1:(UInt64.ofNat m).toNat=m:=SY F0;have c1:(Ad (Ac [v]):UInt64)=1:=by rfl
 have c2:(Ad (m:Int):UInt64)=UInt64.ofNat m:=Xh m;have c3:(Ad (UInt64.ofNat m):Int)=(m:Int):=by rw[pW F0,y1]
 rw[Nl,Pe,Aa2 Ax6,Zc,Pa,c1,c2,mul_one m hm,Aa];simp only;rw[Aa2 (by rw[SB,SB,y1];simp;show m<=9223372036854775807;omega),Yx,Pg,c3,yS,Aa,Dg Ayn,Aa,Zb,Aly];by_cases h0:m=0
 ·subst h0;have hF:Ba=(Ba-1)+1:=by have:=Ax;omega
  rw[hF,Et,Gx];simp[Ac,zI,QB,Af,Iw,Nr]
 ·have:=qQ v m hm m 1 Ba F0 F0 F0 F9;have e1:QB (Ac (List.replicate m (0:Int))) [v].length=((1:Nat):Int):=by simp[QB,Ac];omega
  have e2:zI (List.replicate m (0:Int)) [v]=List.replicate 1 v++List.replicate (m-1) 0:=by
   obtain⟨k,rfl⟩:∃k,m=k+1:=⟨m-1,F0⟩;simp[zI]
  rw[e1,e2,this]
theorem Agm(l m:LI)(h:l.length+m.length<=1000000):Nf [l,m]=some (l++m):=by
 have hF:Ba=(Ba-3)+1+1+1:=by have:=Ax;omega
 rw[Nf,Pd,Yt];have g0:Ak [l,m] (0:Int)=some l:=rfl;have g1:Ak [l,m] (1:Int)=some m:=rfl;have l2:Ac [l,m]=2:=rfl;have h3:Nw [l,m] []=some (l++m):=by
  rw[Nw,Ns,Nv,hF,Ea,Gk,l2,Aa8 F4,g0,Aa,Cy F6,Aa,Arw,show Ae (0:Int) 1=1 by decide,
   Ea,Gk,l2,Aa8 F4,g1,Aa,Cy,Aa,show Ae (1:Int) 1=2 by decide,Ea,Gk,l2,Aa2 F4]
  rfl
 rw[hF,Er,Gv,l2,Aa8 F4,g0,Aa,Aj Ayb Ayb,Aa2 Aym,show Ae (0:Int) 1=1 by decide,
  Er,Gv,l2,Aa8 F4,g1,Aa,Aj Ayb Ayb,Aa2 Aya,show Ae (1:Int) 1=2 by decide,
  Er,Gv,l2,Aa2 F4,Xk,Nx,Aa2 Aya,Xm,Nt]
 have z:Am (0:Int) 0=0:=F4
 have n0:(0:Int)+Ac l+Ac m=((l.length+m.length:Nat):Int):=by simp[Ac]
 rw[z,n0,Cf,Int.sub_zero];by_cases hp:0<l.length+m.length
 ·rw[Aa8 Ax1,show gB (0:Int) 0 0=some ()from rfl,Aa,yS,Aa,Cy F6,Aa];rw[show gB (Ac ([]++List.replicate ((l.length+m.length:Nat):Int).toNat (0:Int))) 0 0=some () by rw[gB,Dg];simp[Ac];omega,Aa];simp only[UW,Int.sub_self,Int.toNat_zero,Aw6];exact h3
 ·rw[Aa2 Ax1];exact h3
theorem Ak7{r n:Nat}(h1:1<=r)(h:r<=1048576)(n1:1<=n)(n2:n<=4000)(hk:(n-1)/Aq r+1<=1000):Vn (r:Int) (n:Int)=some (Al (Aq r) n,0):=by
 have hp:=Jz r;have hl:=wX h;have hd:=Au0 (n-1) (Aq r);rw[Vn,wI h1 h n1 n2,Aa2 F0,Aa];simp only;rw[Aa2 Ax0,C6 h1 h,Aa];simp only;rw[Al];generalize(n-1)/Aq r=k at*
 have e1:Am ((k+1:Nat):Int) 1=(k:Int):=by rw[Cf];omega
 have e2:(k:Int)*(Aq r:Int)=((k*Aq r:Nat):Int):=by simp
 rw[e1,Ag2 _ _ F0,Aa,Hs (by rw[e2];omega) (by rw[e2];omega),e2,Cf,PL,Agm _ _ F6,Aa,Aa,show(n:Int)-((k*Aq r:Nat):Int)=((n-k*Aq r:Nat):Int) by omega]
def Jn(f c w r n:Nat):Bool:=decide ((f=1\/f=2)/\ (1<=c/\c<=6)/\ (w=8\/w=16\/w=24)/\ (1<=r/\r<=1048576)/\1<=n)
def KT(c r n:Nat):Bool:=decide (n<=4000/c/\ (n-1)/Aq r+1<=1000)
theorem bF(f c w r n:Nat):Oz (f:Int) (c:Int) (w:Int) (r:Int) (n:Int)=some (Jn f c w r n):=by
 have e2:Qi (f:Int) (c:Int) (w:Int) (r:Int) (n:Int)=some (decide ((f=1\/f=2)/\ (1<=c/\c<=6)/\ (1<=r/\r<=1048576)/\1<=n)):=by
  rw[Qi,GU];congr 1;rw[Alp];simp only[Ay,Az,SK,Abd,Asx,Asv,Abi];omega
 have g:∀k:Nat,geq (w:Int) (k:Int)=decide (w=k):=λk=>by rw[Ay,Alp];simp;omega
 have g8:geq (w:Int) (8:Int)=decide (w=8):=g 8;have g16:geq (w:Int) (16:Int)=decide (w=16):=g 16;have g24:geq (w:Int) (24:Int)=decide (w=24):=g 24;rw[Oz,GO,e2,g8,g16,g24,Jn];by_cases h8:w=8
 ·subst h8;simp
 ·by_cases h16:w=16
  ·subst h16;simp
  ·by_cases h24:w=24
   ·subst h24;simp
   ·simp[h8,h16,h24]
theorem kJ(f c w r n:Nat):Im (f:Int) (c:Int) (w:Int) (r:Int) (n:Int)=some (Jn f c w r n):=by
 rw[Im,Jn];simp only[Ay,Dx,SK,Abd,Asx,Asv,Abi,Aw9];split
 ·rename_i h;congr 1;rw[Alp];simp only[Abd,Asx,Asv,Abi];omega
 ·rename_i h;congr 1;symm;rw[At9];omega
theorem Ap2{c:Nat}(h:1<=c):Cx (4000:Int) (c:Int)=((4000/c:Nat):Int):=by
 have:4000/c<=4000:=Asu _ _;rw[KQ,Atv F0,show(4000:Int)=((4000:Nat):Int)from rfl,<-Int.natCast_ediv];generalize 4000/c=k at*
 exact Cr F0 F0
theorem oS{f c w r n:Nat}(h:Jn f c w r n=true):KA (f:Int) (c:Int) (w:Int) (r:Int) (n:Int)=some (KT c r n):=by
 simp only[Jn,Abi]at h;have hd:4000/c<=4000:=Asu _ _;rw[KA,Dg Ax3,Aa,Ap2 F0,KT];generalize 4000/c=m at*
 by_cases h1:n<=m
 ·rw[Aa2 Ax1,wI F0 F0 F0 F0,Aa];generalize(n-1)/Aq r+1=k;by_cases h2:1000<k
  ·rw[Aa8 h2];simp[Ay,SK];omega
  ·rw[Aa2 h2];simp[Ay,SK,h1];omega
 ·rw[Aa8 Ax1];simp[h1]
theorem zU{f c w r n:Nat}(h:Jn f c w r n=true):Uu (f:Int) (c:Int) (w:Int) (r:Int) (n:Int)=some (!KT c r n):=by
 simp only[Jn,Abi]at h;have hd:4000/c<=4000:=Asu _ _;rw[Uu,Dg Ax3,Aa,Ap2 F0,KT];generalize 4000/c=m at*
 by_cases h1:n<=m
 ·rw[Aa2 Ax1,mL F0 F0 F0,Aa,Ac,qW];generalize(n-1)/Aq r+1=k;congr 1;rw[Az,Alp];simp only[Abi,Aqg,At9];omega
 ·rw[Aa8 Ax1];simp[h1]
def ZI:LB:=[84,84,65,49]
def f0(b:LB):Nat:=El (part b 4 2)
def f1(b:LB):Nat:=El (part b 6 2)
def f2(b:LB):Nat:=El (part b 8 2)
def f3(b:LB):Nat:=El (part b 10 4)
def f4(b:LB):Nat:=El (part b 14 4)
abbrev H6:=Int×Int×Int×Int×Int×Int
def Ek(b:LB):H6:=
 if b.take (min 4 b.length)≠ZI.take (min 4 b.length)then(0,0,0,0,0,12)else if b.length<22 then(0,0,0,0,0,24)else
 if(He (b.take 18)).toNat≠El (part b 18 4)then(0,0,0,0,0,22)else
 if Jn (f0 b) (f1 b) (f2 b) (f3 b) (f4 b)=false then(0,0,0,0,0,12)else
 if KT (f1 b) (f3 b) (f4 b)=false then(0,0,0,0,0,4)else((f0 b:Int),(f1 b:Int),(f2 b:Int),(f3 b:Int),(f4 b:Int),0)
section
variable {b:LB}
theorem rs1(h:b.take (min 4 b.length)≠ZI.take (min 4 b.length)):Ek b=(0,0,0,0,0,12):=by rw[Ek,Aa8 h]
variable (h:b.take (min 4 b.length)=ZI.take (min 4 b.length))
include h
theorem rs2(h2:b.length<22):Ek b=(0,0,0,0,0,24):=by rw[Ek,Aa2 (λe=>e h),Aa8 h2]
variable (h2:¬b.length<22)
include h2
theorem rs3(h3:(He (b.take 18)).toNat≠El (part b 18 4)):Ek b=(0,0,0,0,0,22):=by rw[Ek,Aa2 (λe=>e h),Aa2 h2,Aa8 h3]
variable (h3:(He (b.take 18)).toNat=El (part b 18 4))
include h3
theorem rs4(h4:Jn (f0 b) (f1 b) (f2 b) (f3 b) (f4 b)=false):Ek b=(0,0,0,0,0,12):=by rw[Ek,Aa2 (λe=>e h),Aa2 h2,Aa2 (λe=>e h3),Aa8 h4]
variable (h4:Jn (f0 b) (f1 b) (f2 b) (f3 b) (f4 b)=true)
include h4
theorem rs5(h5:KT (f1 b) (f3 b) (f4 b)=false):Ek b=(0,0,0,0,0,4):=by rw[Ek,Aa2 (λe=>e h),Aa2 h2,Aa2 (λe=>e h3),Aa2 (by rw[h4];simp),Aa8 h5]
theorem rs6(h5:KT (f1 b) (f3 b) (f4 b)=true):Ek b=((f0 b:Int),(f1 b:Int),(f2 b:Int),(f3 b:Int),(f4 b:Int),0):=by rw[Ek,Aa2 (λe=>e h),Aa2 h2,Aa2 (λe=>e h3),Aa2 (by rw[h4];simp),Aa2 (by rw[h5];simp)]
end
theorem Aht(b:LB)(h2:¬b.length<22):Bf (Ad (He (b.take 18)):UInt64) (gW (part b 18 4))=decide ((He (b.take 18)).toNat≠El (part b 18 4)):=by
 rw[MZ,Ir,Alp];simp only[Aw7,ne_eq,Abi];rw[<-Aw1,SY (by have:=(He (b.take 18)).toNat_lt;omega),SZ Ax7]
theorem bD(b:LB)(a w:Nat)(i q:Nat)(l:LI)(hi:i<5)(hl:l.length=5)(hw:Ak ([2,2,2,4,4]:LI) (i:Int)=some (w:Int))(h1:1<=w)(h4:w<=4)(ha:a+w<=b.length)(hb:b.length<4611686018427387904):
  Mn b (q+1) (a:Int) (i:Int) l=Mn b q ((a+w:Nat):Int) ((i+1:Nat):Int) (l.set i (El (part b a w):Int)):=by
 rw[Mn,CP,Aa8 F7,hw,Aa,E3 b a w h1 F0 ha hb,Aa];simp only;rw[Ch,Aa,Yb _ F0,Aa,HY (by rw[Dq ha];omega),Aj,Aj];rfl
theorem Ai7(b:LB)(h22:¬b.length<22)(hb:b.length<4611686018427387904):OZ b 4 0 (List.replicate 5 0)=CO [(f0 b:Int),(f1 b:Int),(f2 b:Int),(f3 b:Int),(f4 b:Int)]:=by
 have hF:Ba=(Ba-6)+1+1+1+1+1+1:=by have:=Ax;omega
 rw[OZ,hF,show(4:Int)=((4:Nat):Int)from rfl,show(0:Int)=((0:Nat):Int)from rfl];rw[bD b 4 2 0 _ _ F0 Axz rfl F0 F0 F0 hb,bD b 6 2 1 _ _ F0 Axz rfl F0 F0 F0 hb,bD b 8 2 2 _ _ F0 Axz rfl F0 F0 F0 hb,
  bD b 10 4 3 _ _ F0 Axz rfl F0 F0 F0 hb,bD b 14 4 4 _ _ F0 Axz rfl F0 F0 F0 hb,Mn,CP,Aa2 Ax6]
 rfl
theorem Avz(b:LB):Hv [84,84,65,49] (b.take (min 4 b.length))=some (decide (b.take (min 4 b.length)=ZI.take (min 4 b.length))):=by
 have hl:(b.take (min 4 b.length)).length=min 4 b.length:=by rw[Alg];omega
 rw[Hv,Gf,Aa8 (by rw[Dx,Ac,Ac,hl];simp;omega),Ac,hl,Dc F0 F6,Aa,Aa,Aly];congr 1;rw[Alp];rw[Abi,Asv];exact eq_comm
theorem At6(b:LB):Ha (4:Int) (Ac b)=((min 4 b.length:Nat):Int):=by rw[GK,Ac];omega
theorem pI(b:LB)(hb:b.length<4611686018427387904):Ma b=some (Ek b):=by
 rw[Ma,QD,At6,Dc,Aa,Aly,Avz,Aa];by_cases h:b.take (min 4 b.length)=ZI.take (min 4 b.length)
 ·rw[Aa2 (by simpa using h)];by_cases h2:b.length<22
  ·rw[Aa8 F2,rs2 h h2]
  ·have a1:VC b 18 4=some (gW (part b 18 4),0):=E3 b 18 4 F0 F0 F0 hb;rw[Aa2 F2,a1,Aa];simp only;rw[Dc,Aa,show(18:Int).toNat=18 from rfl,Aaq _ F6,Aa];simp only;rw[Aht b h2];by_cases h3:(He (b.take 18)).toNat=El (part b 18 4)
   ·rw[Aa2 (by simpa using h3),Ai7 b h2 hb,CO,eC];rw[show Ak [(f0 b:Int),(f1 b:Int),(f2 b:Int),(f3 b:Int),(f4 b:Int)] 0=some (f0 b:Int)from rfl,show Ak [(f0 b:Int),(f1 b:Int),(f2 b:Int),(f3 b:Int),(f4 b:Int)] 1=some (f1 b:Int)from rfl,show Ak [(f0 b:Int),(f1 b:Int),(f2 b:Int),(f3 b:Int),(f4 b:Int)] 2=some (f2 b:Int)from rfl,
     show Ak [(f0 b:Int),(f1 b:Int),(f2 b:Int),(f3 b:Int),(f4 b:Int)] 3=some (f3 b:Int)from rfl,show Ak [(f0 b:Int),(f1 b:Int),(f2 b:Int),(f3 b:Int),(f4 b:Int)] 4=some (f4 b:Int)from rfl]
    simp only[Aa,bF];cases h4:Jn (f0 b) (f1 b) (f2 b) (f3 b) (f4 b)with
    |false=>rw[rs4 h h2 h3 h4];rfl
    |true=>
     rw[oS h4,Aa2 Axz,Aa];cases h5:KT (f1 b) (f3 b) (f4 b)with
     |false=>rw[rs5 h h2 h3 h4 h5];rfl
     |true=>rw[rs6 h h2 h3 h4 h5];rfl
   ·rw[Aa8 (by simpa using h3),rs3 h h2 h3]
 ·rw[Aa8 (by simpa using h),rs1 h]
theorem uQ(b:LB)(hb:b.length<4611686018427387904):Oo b=some (Ek b):=by
 rw[Oo,IU,At6,Dc,Aa,Aly,Dc F0 F6,Aa,Aly];by_cases h:b.take (min 4 b.length)=ZI.take (min 4 b.length)
 ·rw[Aa2 (by rw[h];simp[ZI]),JT,IX];by_cases h2:b.length<22
  ·rw[Aa8 F2,rs2 h h2]
  ·have a1:Bl b 18 22=some (part b 18 4):=Om 18 4;have c1:Bl b 4 6=some (part b 4 2):=Om 4 2;have c2:Bl b 6 8=some (part b 6 2):=Om 6 2;have c3:Bl b 8 10=some (part b 8 2):=Om 8 2;have c4:Bl b 10 14=some (part b 10 4):=Om 10 4;have c5:Bl b 14 18=some (part b 14 4):=Om 14 4;have hs:Bf (gW (part b 18 4)) (Ad (He (b.take 18)):UInt64)=decide ((He (b.take 18)).toNat≠El (part b 18 4)):=by
    rw[<-Aht b h2,MZ,MZ,Alp];simp only[Aw7,ne_eq];exact not_congr eq_comm
   have lp:∀a w,a+w<=b.length->Dj (part b a w)=some (gW (part b a w)):=λa w h=>qc _ (by rw[Dq h];omega);rw[Aa2 F2,a1,Aa,Dc,Aa,show(18:Int).toNat=18 from rfl,lp _ _ F0,Aa,Ahw _ F6,Aa,hs];by_cases h3:(He (b.take 18)).toNat=El (part b 18 4)
   ·rw[Aa2 (by simpa using h3),JX,JG,c1,Aa,c2,Aa,c3,Aa,c4,Aa,c5,Aa,lp _ _ F0,Aa,lp _ _ F0,Aa,lp _ _ F0,Aa,lp _ _ F0,Aa,lp _ _ F0,Aa,
     JQ,JF,HY Ax7,HY Ax7,HY Ax7,HY Ax7,HY Ax7]
    rw[show El (part b 4 2)=f0 b from rfl,show El (part b 6 2)=f1 b from rfl,show El (part b 8 2)=f2 b from rfl,show El (part b 10 4)=f3 b from rfl,show El (part b 14 4)=f4 b from rfl,kJ,Aa];cases h4:Jn (f0 b) (f1 b) (f2 b) (f3 b) (f4 b)with
    |false=>rw[rs4 h h2 h3 h4];rfl
    |true=>
     rw[zU h4,Aa2 Axz,Aa];cases h5:KT (f1 b) (f3 b) (f4 b)with
     |false=>rw[rs5 h h2 h3 h4 h5];rfl
     |true=>rw[rs6 h h2 h3 h4 h5];rfl
   ·rw[Aa8 (by simpa using h3),rs3 h h2 h3]
 ·rw[Aa8 (by simpa [ZI]using h),rs1 h]
theorem qd{b:LB}(h:(Ek b).2.2.2.2.2=0):Ek b=((f0 b:Int),(f1 b:Int),(f2 b:Int),(f3 b:Int),(f4 b:Int),0)/\22<=b.length/\Jn (f0 b) (f1 b) (f2 b) (f3 b) (f4 b)=true/\KT (f1 b) (f3 b) (f4 b)=true:=by
 unfold Ek at h⊢;split at h; · simp at h
 rename_i c1;rw[Aa2 c1];split at h; · simp at h
 rename_i c2;rw[Aa2 c2];split at h; · simp at h
 rename_i c3;rw[Aa2 c3];split at h; · simp at h
 rename_i c4;rw[Aa2 c4];split at h; · simp at h
 rename_i c5;rw[Aa2 c5];exact⟨rfl,F0,by simpa using c4,by simpa using c5⟩
theorem jf{f c w r n:Nat}(h:Jn f c w r n=true)(h2:KT c r n=true):De (f:Int) (c:Int) (w:Int) (r:Int) (n:Int)=some (Al (Aq r) n,0):=by
 have hc:Qt (f:Int) (c:Int) (w:Int) (r:Int) (n:Int)=some 0:=by
  rw[Qt,bF,Aa,h,Aa2 Axz,oS h,Aa,h2];rfl
 have hd:4000/c<=4000:=Asu _ _;simp only[Jn,Abi]at h;simp only[KT,Abi]at h2;rw[De,hc,Aa,Aa2 Ax0,Ak7 F0 F0 F0 F0 h2.2];rfl
def okL:LI->Int->Bool
 |[],_=>true
 |x::l,left=>decide (5<=x/\x<=left)&&okL l (left-x)
theorem Aim:∀l:LI,(∀x∈l,5<=x)->0<=l.sum
 |[],_=>by simp
 |x::l,h=>by
  have h1:=h x Ath;have h2:=Aim l λy hy=>h y (Aqi _ hy);rw[As1];omega
theorem HT:∀(l:LI) (left:Int),0<=left-> (okL l left=true↔(∀x∈l,5<=x)/\l.sum<=left)
 |[],left,h=>by simp[okL];exact h
 |x::l,left,h=>by
  rw[okL,Abd,Abi,As1];by_cases hx:5<=x/\x<=left
  ·rw[HT l (left-x) F0];constructor
   ·rintro⟨_,h1,h2⟩;exact⟨λy hy=>(List.mem_cons.1 hy).elim (λe=>e▸hx.1) (h1 y),F0⟩
   ·rintro⟨h1,h2⟩;exact⟨hx,λy hy=>h1 y (Aqi _ hy),F0⟩
  ·constructor
   ·rintro⟨h1,_⟩;exact absurd h1 hx
   ·rintro⟨h1,h2⟩;have h3:=h1 x Ath;have:0<=l.sum:=Aim l λy hy=>h1 y (Aqi _ hy);omega
theorem yV(l:LI)(hl:l.length<=1000):∀(j i q:Nat) (left:Int),i+j=l.length->j<q->0<=left->left<=100000->Qe l q left (i:Int)=some (if okL (l.drop i) left=true then 0 else 8)
 |0,i,q+1,left,hi,_,_,_=>by
  rw[Qe,EU,Aa2 F2,show i=l.length by omega,Avi];rfl
 |j+1,i,q+1,left,hi,hq,h0,h1=>by
  have hlt:i<l.length:=F0
  rw[Qe,EU,Aa8 F2,Ch hlt,Aa,drop_cons hlt];by_cases h:5<=l[i]/\l[i]<=left
  ·rw[Aa2 Ax5,Cf,Aj];have ih:=yV l hl j (i+1) q (left-l[i]) F0 F0 F0 F0;rw[show((i:Int)+1)=((i+1:Nat):Int) by omega,ih];simp[okL,h]
  ·rw[Aa8 Ax5];have:okL (l[i]::l.drop (i+1)) left=false:=by rw[okL,At8 h];rfl
   rw[this];rfl
def Xe(l:LI):Bool:=decide (1<=l.length/\l.length<=1000)&&okL l 100000
theorem S7(l:LI)(hl:l.length<=1000):Ox l=some (if Xe l=true then 0 else 8):=by
 rw[Ox,DZ,Xe];by_cases h:1<=l.length
 ·rw[Aa2 (by rw[Ay,Az,Ac];simp;constructor;(intro e;subst e;simp at h);omega),dB];have:=yV l hl l.length 0 Ba 100000 F0 F9 F0 F0;rw[Axa]at this;rw[Avb (show 1<=l.length/\l.length<=1000 from⟨h,hl⟩),Avh];exact this
 ·have:l=[]:=by
   cases l with
   |nil=>rfl
   |cons _ _=>simp at h
  subst this;rfl
theorem I0(l:LI)(hl:l.length<=1000):∀(j i q:Nat) (s:Int),i+j=l.length->j<q->0<=s->s<=100000*(i:Int)->Jk l q s (i:Int)=some (if(∀x∈l.drop i,5<=x/\x<=100000)/\s+(l.drop i).sum<=100000 then 0 else 8)
 |0,i,q+1,s,hi,_,_,_=>by
  rw[Jk,Tv,Aa2 F2,show i=l.length by omega,Avi,DX,EK];by_cases h:s<=100000
  ·rw[Aa2 Ax1,Aa8 F6]
  ·rw[Aa8 Ax1,Aa2 F6]
 |j+1,i,q+1,s,hi,hq,h0,h1=>by
  have hlt:i<l.length:=F0
  rw[Jk,Tv,Aa8 F2,Ch hlt,Aa,drop_cons hlt];by_cases h5:l[i]<5
  ·rw[Aa8 (by rw[Af];simpa using h5),Aa2 (λh=>by have:=(h.1 l[i] Ath).1;omega)]
  ·rw[Aa2 (by rw[Af];simpa using h5),Aa];by_cases h6:100000<l[i]
   ·rw[Aa8 (by rw[Az];simpa using h6),Aa2 (λh=>by have:=(h.1 l[i] Ath).2;omega)]
   ·rw[Aa2 (by rw[Az];simpa using h6),FV,FQ,Ch hlt,Aa,Aj,Aj];have ih:=I0 l hl j (i+1) q (s+l[i]) F0 F0 F0 F0;rw[show((i:Int)+1)=((i+1:Nat):Int) by omega,ih];have e:((∀x∈l.drop (i+1),5<=x/\x<=100000)/\s+l[i]+(l.drop (i+1)).sum<=100000)↔((∀x∈l[i]::l.drop (i+1),5<=x/\x<=100000)/\s+(l[i]::l.drop (i+1)).sum<=100000):=by
     rw[As1,List.forall_mem_cons,Int.add_assoc];constructor
     ·rintro⟨a,b⟩;exact⟨⟨F0,a⟩,b⟩
     ·rintro⟨⟨_,a⟩,b⟩;exact⟨a,b⟩
    simp only[e]
theorem tZ:∀{l:LI},(∀x∈l,5<=x)->∀x∈l,x<=l.sum
 |[],_,x,hx=>by simp at hx
 |y::l,h,x,hx=>by
  have h1:=h y Ath;have h2:=Aim l λz hz=>h z (Aqi _ hz);rw[As1];rcases List.mem_cons.1 hx with rfl|hx
  ·omega
  ·have:=tZ (l:=l) (λz hz=>h z (Aqi _ hz)) x hx;omega
theorem uo(l:LI)(hl:l.length<=1000):Hg l=some (if Xe l=true then 0 else 8):=by
 rw[Hg,Tj,Xe];by_cases h:1<=l.length
 ·have:=I0 l hl l.length 0 Ba 0 F0 F9 F0 F0;rw[Aa2 (by rw[Af,Az,Ac];simp;omega),GB];refine Avk this ?_;rw[Axa,Avb (show 1<=l.length/\l.length<=1000 from⟨h,hl⟩),Avh];have e:((∀x∈l,5<=x/\x<=100000)/\0+l.sum<=100000)↔okL l 100000=true:=by
   rw[HT l 100000 F0,Int.zero_add];constructor
   ·rintro⟨a,b⟩;exact⟨λx hx=>(a x hx).1,b⟩
   ·rintro⟨a,b⟩;exact⟨λx hx=>⟨a x hx,Int.le_trans (tZ a x hx) b⟩,b⟩
  simp only[e]
 ·have:l=[]:=by
   cases l with
   |nil=>rfl
   |cons _ _=>simp at h
  subst this;rfl
theorem aW(l:LI):Ox l=some (if Xe l=true then 0 else 8):=by
 by_cases hl:l.length<=1000
 ·exact S7 l hl
 ·rw[Ox,DZ,Aa8 Axy,Xe,At8 F0];rfl
theorem TJ(l:LI):Hg l=some (if Xe l=true then 0 else 8):=by
 by_cases hl:l.length<=1000
 ·exact uo l hl
 ·rw[Hg,Tj,Aa8 Axy,Xe,At8 F0];rfl
theorem Abc(l:LI)(hl:l.length<=1000)(hx:∀x∈l,0<=x/\x<4294967296):Ox l=some (if Xe l=true then 0 else 8):=aW l
theorem Afe(l:LI)(hl:l.length<=1000)(hx:∀x∈l,0<=x/\x<4294967296):Hg l=some (if Xe l=true then 0 else 8):=TJ l
def NK(b:LB)(n:Nat):LI:=(List.range n).map λi=>(El (part b (4*i) 4):Int)
theorem JD(b:LB)(n:Nat):(NK b n).length=n:=by simp[NK]
theorem E9(b:LB)(n:Nat):NK b (n+1)=NK b n++[(El (part b (4*n) 4):Int)]:=by simp[NK,List.range_succ]
theorem Ace(b:LB)(n:Nat)(h:4*n<=b.length):∀x∈NK b n,0<=x/\x<4294967296:=by
 intro x hx;simp only[NK,List.mem_map,List.mem_range]at hx;obtain⟨i,hi,rfl⟩:=hx;have:=Adu (l:=part b (4*i) 4) Ax7;omega
def Hz(b:LB)(n:Nat):LI×Int:=
 if ¬(1<=n/\n<=1000)then([],2)else if b.length<4*n+4 then([],24)else if(He (b.take (4*n))).toNat≠El (part b (4*n) 4)then([],22)else
 if Xe (NK b n)=true then(NK b n,0)else([],12)
theorem Adl{b:LB}{n:Nat}(h:1<=n/\n<=1000)(h2:¬b.length<4*n+4):Bf (Ad (He (b.take (4*n))):UInt64) (gW (part b (4*n) 4))=decide ((He (b.take (4*n))).toNat≠El (part b (4*n) 4)):=by
 rw[MZ,Ir,Alp];simp only[Aw7,ne_eq,Abi];rw[<-Aw1,SY (by have:=(He (b.take (4*n))).toNat_lt;omega),SZ Ax7]
section
variable {b:LB} {n:Nat}
theorem ss1(h:¬(1<=n/\n<=1000)):Hz b n=([],2):=by rw[Hz,Aa8 h]
variable (h:1<=n/\n<=1000)
include h
theorem ss2(h2:b.length<4*n+4):Hz b n=([],24):=by rw[Hz,Aa2 (λe=>e h),Aa8 h2]
variable (h2:¬b.length<4*n+4)
include h2
theorem ss3(h3:(He (b.take (4*n))).toNat≠El (part b (4*n) 4)):Hz b n=([],22):=by rw[Hz,Aa2 (λe=>e h),Aa2 h2,Aa8 h3]
theorem ss4(h3:(He (b.take (4*n))).toNat=El (part b (4*n) 4)):Hz b n=if Xe (NK b n)=true then(NK b n,0)else([],12):=by rw[Hz,Aa2 (λe=>e h),Aa2 h2,Aa2 (λe=>e h3)]
end
theorem H5(b:LB)(l8:LI)(n:Nat)(hn:n<=1000)(h8:l8.length=n)(hb:4*n+4<=b.length)(hb2:b.length<4611686018427387904):∀(j i q:Nat),i+j=n->j<q->Sr b l8 q (i:Int) (NK b i++List.replicate j 0)=HM (NK b n)
 |0,i,q+1,hi,_=>by
  obtain rfl:i=n:=F0
  rw[Sr,HP,Aa2 F2];simp
 |j+1,i,q+1,hi,hq=>by
  have hlen:(NK b i++List.replicate (j+1) 0).length=i+(j+1):=by simp[JD]
  have ha:=E3 b (4*i) 4 F0 F0 F0 hb2;rw[Sr,HP,Aa8 F2,Hs,show(4:Int)*(i:Int)=((4*i:Nat):Int) by omega,show(4:Int)=((4:Nat):Int)from rfl,ha,Aa];simp only;rw[Ch (by rw[hlen];omega),Aa,Yb _ (by rw[hlen];omega),Aa,HY Ax7,Aj,Au9,eV (JD _ _)];have ih:=H5 b l8 n hn h8 hb hb2 j (i+1) q F0 F0;rw[E9]at ih;rw[show((i:Int)+1)=((i+1:Nat):Int) by omega,<-ih];simp
theorem K3(b:LB)(n:Nat)(hb:b.length<=100100):HB b (n:Int)=some (Hz b n):=by
 rw[HB,TW];by_cases h:1<=n/\n<=1000
 ·rw[Aa2 Ax5,Hs,Aj];by_cases h2:b.length<4*n+4
  ·rw[Aa8 F2,ss2 h h2]
  ·have ha:VC b (4*(n:Int)) 4=some (gW (part b (4*n) 4),0):=by
    rw[show(4:Int)*(n:Int)=((4*n:Nat):Int) by omega];exact E3 b (4*n) 4 F0 F0 F0 F0
   rw[Aa2 F2,ha,Aa];simp only;rw[Dc,Aa,show(4*(n:Int)).toNat=4*n by omega,Aaq _ F6,Aa];simp only;rw[Adl h h2];by_cases h3:(He (b.take (4*n))).toNat=El (part b (4*n) 4)
   ·have hlp:=H5 b (List.replicate n 0) n F0 Axz F0 F0 n 0 Ba F0 F9;rw[Aa2 (by simpa using h3),yS,Aa,Dg Ayn,Aa,gY,Aly];refine Avk (hlp) ?_;rw[HM,iO,Abc _ (by rw[JD];omega) (Ace b n F0),Aa,ss4 h h2 h3];cases Xe (NK b n)<;>rfl
   ·rw[Aa8 (by simpa using h3),ss3 h h2 h3]
 ·rw[Aa8 Ax5,ss1 h]
theorem iB(b:LB)(n:Nat)(hn:n<=1000)(hb:4*n+4<=b.length)(hb2:b.length<4611686018427387904):∀(j i q:Nat),i+j=n->j<q->Ki b (n:Int) q (i:Int) (NK b i)=Vx (NK b n)
 |0,i,q+1,hi,_=>by
  obtain rfl:i=n:=F0
  rw[Ki,Vq,Aa2 Ax6]
 |j+1,i,q+1,hi,hq=>by
  have hc:Bl b ((4:Int)*(i:Int)) ((4:Int)*(i:Int)+4)=some (part b (4*i) 4):=by
   rw[show(4:Int)*(i:Int)=((4*i:Nat):Int) by omega];exact Om (4*i) 4
  rw[Ki,Vq,Aa8 F7,Hs,Aj,hc,Aa,qc _ Ax7,Aa,Cy (by rw[JD];simp;omega),Aa,
   HY Ax7,Aj,<-E9]
  exact iB b n hn hb hb2 j (i+1) q F0 F0
theorem Akv(b:LB)(n:Nat)(hb:b.length<=100100):Us b (n:Int)=some (Hz b n):=by
 rw[Us,IG];by_cases h:1<=n/\n<=1000
 ·rw[Aa2 Ax5,Hs,Aj];by_cases h2:b.length<4*n+4
  ·rw[Aa8 F2,ss2 h h2]
  ·have hc:Bl b ((4:Int)*(n:Int)) ((4:Int)*(n:Int)+4)=some (part b (4*n) 4):=by
    rw[show(4:Int)*(n:Int)=((4*n:Nat):Int) by omega];exact Om (4*n) 4
   have hs:Bf (gW (part b (4*n) 4)) (Ad (He (b.take (4*n))):UInt64)=decide ((He (b.take (4*n))).toNat≠El (part b (4*n) 4)):=by
    rw[<-Adl h h2,MZ,MZ,Alp];simp only[Aw7,ne_eq];exact not_congr eq_comm
   rw[Aa2 F2,hc,Aa,Dc,Aa,show(4*(n:Int)).toNat=4*n by omega,qc _ Ax7,Aa,Ahw _ F6,Aa,hs];by_cases h3:(He (b.take (4*n))).toNat=El (part b (4*n) 4)
   ·have hlp:=iB b n F0 F0 F0 n 0 Ba F0 F9;rw[Aa2 (by simpa using h3),IW,IF,JZ];refine Avk hlp ?_;rw[Vx,JM,Afe _ (by rw[JD];omega) (Ace b n F0),Aa,ss4 h h2 h3];cases Xe (NK b n)<;>rfl
   ·rw[Aa8 (by simpa using h3),ss3 h h2 h3]
 ·rw[Aa8 Ax5,ss1 h]
theorem Y1{b:LB}{n:Nat}(h:(Hz b n).2=0):Hz b n=(NK b n,0)/\1<=n/\n<=1000/\4*n+4<=b.length/\ (∀x∈NK b n,5<=x)/\ (NK b n).sum<=100000:=by
 unfold Hz at h⊢;split at h; · simp at h
 rename_i c1;rw[Aa2 c1];split at h; · simp at h
 rename_i c2;rw[Aa2 c2];split at h; · simp at h
 rename_i c3;rw[Aa2 c3];split at h
 ·rename_i c4;rw[Aa8 c4];have c4':=c4;rw[Xe,Abd,HT _ _ F0]at c4';exact⟨rfl,F0,F0,F0,c4'.2.1,c4'.2.2⟩
 ·simp at h
def Td(b:LB):LB:=b.drop (Cv b).1.toNat
theorem Abm(A K:Nat)(h:A<=200000)(hk:K<=1000):Ae (Ae (A:Int) (Bo 4 (K:Int))) 4=((A+4*K+4:Nat):Int):=by
 rw[Hs,Aj (a:=(A:Int)) F0 F0,Aj];omega
structure Opn (b p:LB) (f c w r n A:Nat) (l:LI):Prop where
 prog:rz b p=some ((f:Int),(c:Int),(w:Int),(r:Int),(n:Int),(A:Int),l,0)
 ref:gD b p=some ((f:Int),(c:Int),(w:Int),(r:Int),(n:Int),(A:Int),l,0)
 pass:p.length<=64
 file:b.length<=100000
 shape:Jn f c w r n=true
 fit:KT c r n=true
 len:l.length=(Al (Aq r) n).length
 some1:1<=l.length/\l.length<=1000
 five:∀x∈l,5<=x
 sum:l.sum<=100000
 at':A<=b.length
 tag:(Cv b).2=0
 head:Ek (Td b)=((f:Int),(c:Int),(w:Int),(r:Int),(n:Int),0)
 tab:Hz (b.drop ((Cv b).1.toNat+22+(if f=2 then 8 else 0))) l.length=(l,0)
 pos:A=(Cv b).1.toNat+22+(if f=2 then 8 else 0)+4*l.length+4
theorem J8(l:LI)(i:Nat):(l.take i).sum+(l.drop i).sum=l.sum:=by
 conv=>rhs;rw[<-List.take_append_drop i l,List.sum_append]
theorem Zv{l:LI}(h5:∀x∈l,5<=x)(i:Nat):0<= (l.take i).sum/\ (l.take i).sum<=l.sum:=by
 have h1:=Aim (l.take i) λx hx=>h5 x (Axb hx);have h2:=Aim (l.drop i) λx hx=>h5 x (List.mem_of_mem_drop hx);have:=J8 l i;omega
theorem Yu{l:LI}{i:Nat}(h:i<l.length):(l.take (i+1)).sum=(l.take i).sum+l[i]:=by
 rw[NQ h,List.sum_append];simp
section
variable {l:LI} (hl:l.length<=1000) (h5:∀x∈l,5<=x) (hs:l.sum<=100000)
include hl h5 hs
theorem xJ(f c w r n A:Int)(hA:0<=A)(hA2:A<=200000)(k:Nat)(hk:k<=l.length):∀(j i q:Nat),i+j=k->j<q->Ji (k:Int) f c w r n A l q (A+(l.take i).sum) (i:Int)=some (A+(l.take k).sum)
 |0,i,q+1,hi,_=>by
  rw[Ji,Tn,Aa2 F7,show i=k by omega];rfl
 |j+1,i,q+1,hi,hq=>by
  have hlt:i<l.length:=F0
  have ih:=xJ f c w r n A hA hA2 k hk j (i+1) q F0 F0;have b1:=Zv h5 i;have b2:=Zv h5 (i+1);have e:=Yu hlt;rw[e,<-Int.add_assoc]at ih;rw[Ji,Tn,Aa8 F7,Ch hlt,Aa,Aj,Aj];exact ih
theorem Ae4(f c w r n A:Int)(hA:0<=A)(hA2:A<=200000)(k:Nat)(hk:k<=l.length):OB f c w r n A l (k:Int)=some (A+(l.take k).sum):=by
 have h:=xJ hl h5 hs f c w r n A hA hA2 k hk k 0 Ba F0 F9;rw[Aw6,Axt,Int.add_zero]at h;exact h
end
theorem Vj{g n:Nat}(hg:1<=g)(hn:1<=n){x:Int}(h:x∈Al g n):∃m:Nat,x=m/\1<=m/\m<=n:=by
 have hmul:=Au0 (n-1) g;rw[Al,List.mem_append]at h;rcases h with h|h
 ·rw[List.mem_replicate]at h;have h1:1<= (n-1)/g:=Nat.pos_of_ne_zero h.1;have:=Ahd g h1;exact⟨g,h.2,hg,F0⟩
 ·rw[List.mem_singleton]at h;exact⟨_,h,F0,F0⟩
theorem UH{f c w r n:Nat}(h:Jn f c w r n=true):(1<=c/\c<=6)/\Ck (w:Int)/\ (1<=r/\r<=1048576)/\1<=n/\ (f=1\/f=2):=by
 simp only[Jn,Abi]at h;refine⟨h.2.1,?_,h.2.2.2.1,h.2.2.2.2,h.1⟩;rcases h.2.2.1 with rfl|rfl|rfl
 ·exact .inl rfl
 ·exact .inr (.inl rfl)
 ·exact .inr (.inr rfl)
theorem Ayl{p:Prop}(h:p:=by rw[Alg];omega):p:=h
end Go.Pl
namespace Go.Pl
open Go Go.Lv
variable{e:Int}{l:LI}{x:LX}{n f c w r A k m:Nat}
theorem Aqr(n m:Nat):Nz n m 0≠Nz n m 2147483648:=by
 intro h;simp[Nz,FD,tA]at h
def Cj(b:LB):LB:=b.drop (b.length-32)
theorem Z5{b:LB}(h:32<=b.length):(Cj b).length=32:=by rw[Cj,Aio];omega
def GA(t:LB):Nat:=El (part t 12 4)-32
def wT(t:LB):Nat:=El (part t 16 4)
def Vv(b:LB):Int×Int:=
 if ¬(32<=b.length/\ (Cj b).take 8=tA)then(0,6)else if BW (Cj b)=true then(0,12)else
 if Cj b=Nz (GA (Cj b)) (wT (Cj b)) 0 then(if b.length<GA (Cj b)+32 then(0,24)else(((GA (Cj b)+32:Nat):Int),0))else
 if Cj b≠Nz (GA (Cj b)) (wT (Cj b)) 2147483648 then(0,12)else
 if b.length<GA (Cj b)+64 then(0,24)else
 if(b.take (b.length-(GA (Cj b)+64)+32)).drop (b.length-(GA (Cj b)+64))≠Nz (GA (Cj b)) (wT (Cj b)) 2684354560 then(0,12)else(((GA (Cj b)+64:Nat):Int),0)
section
variable {b:LB}
theorem ba1(h:¬(32<=b.length/\ (Cj b).take 8=tA)):Vv b=(0,6):=by rw[Vv,Aa8 h]
variable (h:32<=b.length/\ (Cj b).take 8=tA)
include h
theorem ba2(h2:BW (Cj b)=true):Vv b=(0,12):=by rw[Vv,Aa2 (λh'=>h' h),Aa8 h2]
variable (h2:BW (Cj b)=false)
include h2
theorem ba3(h3:Cj b=Nz (GA (Cj b)) (wT (Cj b)) 0):Vv b=if b.length<GA (Cj b)+32 then(0,24)else(((GA (Cj b)+32:Nat):Int),0):=by
 rw[Vv,Aa2 (λh'=>h' h),Aa2 (by rw[h2];simp),Aa8 h3]
variable (h3:Cj b≠Nz (GA (Cj b)) (wT (Cj b)) 0)
include h3
theorem ba4(h4:Cj b≠Nz (GA (Cj b)) (wT (Cj b)) 2147483648):Vv b=(0,12):=by
 rw[Vv,Aa2 (λh'=>h' h),Aa2 (by rw[h2];simp),Aa2 h3,Aa8 h4]
variable (h4:Cj b=Nz (GA (Cj b)) (wT (Cj b)) 2147483648)
include h4
theorem ba5(h5:b.length<GA (Cj b)+64):Vv b=(0,24):=by
 rw[Vv,Aa2 (λh'=>h' h),Aa2 (by rw[h2];simp),Aa2 h3,Aa2 (λe=>e h4),Aa8 h5]
theorem ba6(h5:¬b.length<GA (Cj b)+64):Vv b=if(b.take (b.length-(GA (Cj b)+64)+32)).drop (b.length-(GA (Cj b)+64))≠Nz (GA (Cj b)) (wT (Cj b)) 2684354560 then(0,12)else(((GA (Cj b)+64:Nat):Int),0):=by
 rw[Vv,Aa2 (λh'=>h' h),Aa2 (by rw[h2];simp),Aa2 h3,Aa2 (λe=>e h4),Aa2 h5]
end
theorem Z1{b:LB}{n:Int}(h:Vv b=(n,0)):32<=n/\n<=b.length:=by
 unfold Vv at h;split at h; · simp at h
 rename_i h32;split at h; · simp at h
 split at h
 ·split at h; · simp at h
  simp only[Ahf,Axw]at h;omega
 split at h; · simp at h
 split at h; · simp at h
 split at h; · simp at h
 simp only[Ahf,Axw]at h;omega
theorem Afl{b:LB}(h:(Vv b).2≠0):(Vv b).1=0:=by
 revert h
 unfold Vv;split; · simp
 split; · simp
 split
 ·split<;>simp
 split; · simp
 split; · simp
 split<;>simp
theorem Aj4{b:LB}(h:32<=b.length)(hl:b.length<4611686018427387904):Am (Ac b) 32=((b.length-32:Nat):Int)/\Bl b ((b.length-32:Nat):Int) (Ac b)=some (Cj b):=by
 refine⟨by rw[Ac,Cf];omega,?_⟩;rw[Dd];rfl
theorem Ahb(b:LB)(hl:b.length<4611686018427387904):lR b=some (Vv b):=by
 rw[lR,rF];by_cases h32:32<=b.length
 ·obtain⟨e1,e2⟩:=Aj4 h32 hl;have hl3:=Z5 h32;rw[Aa2 (by rw[e1,Af];simp),e1,e2,Aa,XL,Aa];by_cases hp:(Cj b).take 8=tA
  ·have h:=And.intro h32 hp;rw[Aa2 (by simpa [tA,hl3]using hp),qB,rP,e1,e2,Aa,XU _ 0 F0 F0 F4,Aa];cases hb:BW (Cj b)with
   |true=>
    rw[ba2 h hb];simp only[Axv,Aqf,Avx];rw[Aa,XU _ 2147483648 F0 F0 F4,Aa,hb];rfl
   |false=>
    obtain⟨i1,i2,i3,i4⟩:=oT (Cj b) F0 hb;have eI:El (part (Cj b) 12 4)-32=GA (Cj b):=rfl;have eM:El (part (Cj b) 16 4)=wT (Cj b):=rfl;simp only[Aqf,Avx];rw[eI]at i3;rw[eM]at i4;rw[eI,eM];by_cases c1:Cj b=Nz (GA (Cj b)) (wT (Cj b)) 0
    ·have c1':Cj b=Nz (GA (Cj b)) (wT (Cj b)) (0:UInt64).toNat:=c1;rw[Aa8 (by simpa using c1'),ba3 h hb c1];by_cases c2:b.length<GA (Cj b)+32
     ·rw[Aa8 F7,Aa8 c2]
     ·rw[Aa2 F7,Aa2 c2,Aj];rfl
    ·have c1':¬Cj b=Nz (GA (Cj b)) (wT (Cj b)) (0:UInt64).toNat:=c1;rw[Aa2 (by simpa using c1'),Aa,XU _ 2147483648 F0 F0 F4,Aa,hb];simp only[Aqf,Avx];rw[eI,eM];by_cases c2:Cj b=Nz (GA (Cj b)) (wT (Cj b)) 2147483648
     ·have c2':Cj b=Nz (GA (Cj b)) (wT (Cj b)) (2147483648:UInt64).toNat:=c2;rw[Aa2 (by simpa using c2'),Aj];by_cases c3:b.length<GA (Cj b)+64
      ·rw[Aa8 F2,ba5 h hb c1 c2 c3]
      ·rw[Aa2 F2,Ac,Cf,Aj,Zp,Aa,uR _ _ _ i3 i4 F4,Aa,It,Aa,ba6 h hb c1 c2 c3];rw[show((b.length:Int)-(((GA (Cj b):Nat):Int)+64)).toNat=b.length-(GA (Cj b)+64) by omega,show((b.length:Int)-(((GA (Cj b):Nat):Int)+64)+32).toNat=b.length-(GA (Cj b)+64)+32 by omega];have e7:(2684354560:UInt64).toNat=2684354560:=rfl;rw[e7];by_cases c4:(b.take (b.length-(GA (Cj b)+64)+32)).drop (b.length-(GA (Cj b)+64))=Nz (GA (Cj b)) (wT (Cj b)) 2684354560
       ·rw[Aa2 (by simpa using c4),Aa2 (λe=>e c4)];rfl
       ·rw[Aa8 (by simpa using c4),Aa8 c4]
     ·have c2':¬Cj b=Nz (GA (Cj b)) (wT (Cj b)) (2147483648:UInt64).toNat:=c2;rw[Aa8 (by simpa using c2'),ba4 h hb c1 c2]
  ·rw[Aa8 (by rw[Aqg,At9];intro h;exact hp h.2),ba1 (λh=>hp h.2)]
 ·rw[Aa8 (by rw[Ac,Cf,Af];simp;omega),ba1 (λh=>h32 h.1)]
theorem Aof{b:LB}(h:32<=b.length):(b.take (b.length-32+8)).drop (b.length-32)=(Cj b).take 8:=by
 rw[Cj,List.take_drop]
theorem Alb(b:LB)(hl:b.length<4611686018427387904):CW b=some (Vv b):=by
 rw[CW,IC];by_cases h32:32<=b.length
 ·obtain⟨e1,e2⟩:=Aj4 h32 hl;have hl3:=Z5 h32;rw[Aa2 F2,e1,Aj,Zp,Aa,show((b.length-32:Nat):Int).toNat=b.length-32 from rfl,show(((b.length-32:Nat):Int)+8).toNat=b.length-32+8 by omega,Aof h32];by_cases hp:(Cj b).take 8=tA
  ·have h:=And.intro h32 hp;rw[Aa2 (by simpa [tA]using hp),JY,JV,e1,e2,Aa,T7 _ F0 F0,Aa];cases hb:BW (Cj b)with
   |true=>rw[ba2 h hb];rfl
   |false=>
    obtain⟨i1,i2,i3,i4⟩:=oT (Cj b) F0 hb;have eI:El (part (Cj b) 12 4)-32=GA (Cj b):=rfl;have eM:El (part (Cj b) 16 4)=wT (Cj b):=rfl;simp only[Aqf,Avx,Aw8];rw[eI]at i3;rw[eM]at i4;rw[eI,eM,Kt,Aa8 rfl,nT _ _ _ i3 i4 F4,Aa,Aa];have e7:(2147483648:UInt64).toNat=2147483648:=rfl;have e8:(2684354560:UInt64).toNat=2684354560:=rfl;rw[e7];by_cases c2:Cj b=Nz (GA (Cj b)) (wT (Cj b)) 2147483648
    ·have c1:Cj b≠Nz (GA (Cj b)) (wT (Cj b)) 0:=λe=>Aqr (GA (Cj b)) (wT (Cj b)) (e.symm.trans c2);rw[Aa2 (by simpa using c2),Vy,Vk,Aa8 (by simpa using c2),Wi,Wl,Aj (a:=32) F0 F0,Aj];by_cases c3:b.length<GA (Cj b)+64
     ·rw[Aa8 F2,ba5 h hb c1 c2 c3]
     ·rw[Aa2 F2,Aa8 (by simpa using c2),Ac,Cf,Aj,Zp,Aa,Ul,nT _ _ _ i3 i4 F4,Aa,Aa,ba6 h hb c1 c2 c3,e8];rw[show((b.length:Int)-(32+((GA (Cj b):Nat):Int)+32)).toNat=b.length-(GA (Cj b)+64) by omega,show((b.length:Int)-(32+((GA (Cj b):Nat):Int)+32)+32).toNat=b.length-(GA (Cj b)+64)+32 by omega];by_cases c4:(b.take (b.length-(GA (Cj b)+64)+32)).drop (b.length-(GA (Cj b)+64))=Nz (GA (Cj b)) (wT (Cj b)) 2684354560
      ·rw[Aa2 (by simpa using c4),Aa2 (λe=>e c4),show(32+((GA (Cj b):Nat):Int)+32)=((GA (Cj b)+64:Nat):Int) by omega]
      ·rw[Aa8 (by simpa using c4),Aa8 c4]
    ·rw[Aa8 (by simpa using c2),Kt,Aa2 Axz,nT _ _ _ i3 i4 F4,Aa,Aa];have e9:(0:UInt64).toNat=0:=rfl;rw[e9];by_cases c1:Cj b=Nz (GA (Cj b)) (wT (Cj b)) 0
     ·rw[Aa2 (by simpa using c1),Vy,Vk,Aa2 (by simpa using c2),Wi,Wl,Aj,ba3 h hb c1,Aa2 (c:=(Cj b==Nz (GA (Cj b)) (wT (Cj b)) 2147483648)=true) (by simpa using c2)];by_cases c3:b.length<GA (Cj b)+32
      ·rw[Aa8 F2,Aa8 c3]
      ·rw[Aa2 F2,Aa2 c3,show(32+((GA (Cj b):Nat):Int))=((GA (Cj b)+32:Nat):Int) by omega]
     ·rw[Aa8 (by simpa using c1),ba4 h hb c1 c2]
  ·rw[Aa8 (by simpa [tA]using hp),ba1 (λh=>hp h.2)]
 ·rw[Aa8 F2,ba1 (λh=>h32 h.1)]
def P5:Nat->LB->Nat->Int×Int
 |0,_,_=>(0,38)
 |j+1,b,a=>if b=[]then((a:Int),0)else if(Vv b).2≠0 then(0,38)else P5 j (b.take (b.length-(Vv b).1.toNat)) (a+1)
theorem mq:∀(j q a:Nat) (b:LB),b.length<j->j<=q->b.length<=4000->a+b.length<=4000->Rt q (a:Int) b=some (P5 j b a)
 |0,_,_,_,h,_,_,_=>by omega
 |j+1,q+1,a,b,h,hq,h4,ha=>by
  rw[Rt,LN,P5];by_cases hb:b=[]
  ·subst hb;rw[Aa2 F4,Aa8 rfl];rfl
  ·have hpos:0<b.length:=List.length_pos_iff.2 hb;rw[Aa8 Axy,Aa2 hb,Ahb b F0,Aa];have hbad:=Afl (b:=b);have hok:=λn=>Z1 (b:=b) (n:=n);generalize Vv b=v at*
   obtain⟨n,e⟩:=v;simp only at hbad⊢;rw[GZ,VL];by_cases he:e≠0
   ·rw[Aa8 he,hbad he,Aa8 F4]
   ·obtain⟨k1,k2⟩:=hok n (by rw[show e=0 by simpa using he]);rw[Aa2 he,Aa2 Ax4,Ac,Cf,Dc,Aa,VQ,VT,Aj];rw[show((b.length:Int)-n).toNat=b.length-n.toNat by omega];have ih:=mq j q (a+1) (b.take (b.length-n.toNat)) Ayl F0 Ayl Ayl;rw[<-ih];rfl
theorem Ac3:∀(j q a:Nat) (b:LB),b.length<j->j<=q->b.length<=4000->a+b.length<=4000->Ly q b (a:Int)=some (P5 j b a)
 |0,_,_,_,h,_,_,_=>by omega
 |j+1,q+1,a,b,h,hq,h4,ha=>by
  rw[Ly,FA,P5];by_cases hb:b=[]
  ·subst hb;rw[Aa2 F4,Aa8 rfl];rfl
  ·have hpos:0<b.length:=List.length_pos_iff.2 hb;rw[Aa8 Axy,Aa2 hb,Alb b F0,Aa];have hok:=λn=>Z1 (b:=b) (n:=n);generalize Vv b=v at*
   obtain⟨n,e⟩:=v;simp only;by_cases he:e≠0
   ·rw[Aa8 he,Aa8 (by rw[Ao];simpa using he)]
   ·obtain⟨k1,k2⟩:=hok n (by rw[show e=0 by simpa using he]);rw[Aa2 he,Aa2 (by rw[Ao];simpa using he),Ac,Cf,Dc,Aa,Aj];rw[show((b.length:Int)-n).toNat=b.length-n.toNat by omega];have ih:=Ac3 j q (a+1) (b.take (b.length-n.toNat)) Ayl F0 Ayl Ayl;rw[<-ih];rfl
def HW(b:LB):Int×Int:=if 4000<b.length then(0,38)else P5 (b.length+1) b 0
theorem rC(b:LB)(hl:b.length<4611686018427387904):DB b=some (HW b):=by
 rw[DB,LD,HW];by_cases h:4000<b.length
 ·rw[Aa8 Axy,Aa8 h]
 ·rw[Aa2 Axy,Aa2 h];exact mq _ Ba 0 b F0 F9 F0 F0
theorem Abp(b:LB)(hl:b.length<4611686018427387904):Xw b=some (HW b):=by
 rw[Xw,CM,HW];by_cases h:4000<b.length
 ·rw[Aa8 Axy,Aa8 h]
 ·rw[Aa2 Axy,Aa2 h];exact Ac3 _ Ba 0 b F0 F9 F0 F0
theorem Asi{a b:Nat}(h:a<9223372036854775808:=by omega):Cx (a:Int) (b:Int)=((a/b:Nat):Int):=by
 have:a/b<=a:=Asu _ _;rw[KQ,Atv F0,<-Int.natCast_ediv];generalize a/b=k at*
 exact Cr F0 F0
theorem oB{bits:Int}(h:Ck bits)(x:Int):(GP bits x).length=wB bits:=by
 obtain rfl|rfl|rfl:=h<;>rfl
theorem RM{bits:Int}(h:Ck bits):∀l:LX,(Gh bits l).length=l.length*wB bits
 |[]=>by simp[Gh]
 |x::l=>by
  have h1:=RM h l;have h2:=oB h x.toInt;simp only[Gh,List.flatMap_cons,Ac5,Ar8,Aw5]at*
  omega
def Akj(b:LB)(A:Nat)(l:LI)(k:Nat):LB:=(b.take ((A:Int)+(l.take (k+1)).sum).toNat).drop ((A:Int)+(l.take k).sum).toNat
structure Gts (b p:LB) (f c w r n A:Nat) (l:LI) (k m:Nat) (x:LX) (s:LB) (e:Int):Prop where
 mom:Ak (Al (Aq r) n) (k:Int)=some (m:Int)
 pos:1<=m/\m*c<=4000
 got:Qh b p (f:Int) (c:Int) (w:Int) (r:Int) (n:Int) (A:Int) l (k:Int)=some (s,e)
 none':e≠0->s=[]/\x=[]
 some':e=0->s=Gh (w:Int) x/\x.length=m*c/\Bp (w:Int) x=some 0/\Qs (w:Int) x=some (s,0)/\ (A:Int)+(l.take (k+1)).sum<=b.length
 way:((b.length:Int)<(A:Int)+(l.take (k+1)).sum/\e=24)\/ ((A:Int)+(l.take (k+1)).sum<=b.length/\Mj (c:Int) (w:Int) (We p) (m:Int) (Akj b A l k)=some (x,e)/\Ev (c:Int) (w:Int) (We p) (m:Int) (Akj b A l k)=some (x,e))
theorem Ae0{b p:LB}(o:Opn b p f c w r n A l)(k:Nat)(hk:k<l.length):∃m x s e,Gts b p f c w r n A l k m x s e:=by
 obtain⟨hc,hw,hr,hn,_⟩:=UH o.shape;have hfit:n<=4000/c:=by have:=o.fit;simp only[KT,Abi]at this;exact this.1
 have hn4:n<=4000:=by have:=Asu 4000 c;omega
 have hA:=o.at';have Aql:=o.file;have hlen:=o.len;have b1:=Zv o.five k;have b2:=Zv o.five (k+1);have e:=Yu hk;have h5:=o.five l[k] (Ap8 _);have hsum:=o.sum;have hs1:=o.some1;have hkf:k<(Al (Aq r) n).length:=F0
 obtain⟨m,hm,m1,m2⟩:=Vj (Jz r) hn (Ap8 hkf);have Apr:Ak (Al (Aq r) n) (k:Int)=some (m:Int):=by rw[Ch hkf,hm]
 have hpos:1<=m/\m*c<=4000:=by
  refine⟨m1,?_⟩;have:=Ahd c (Nat.le_trans m2 hfit);have:=Au0 4000 c;omega
 have hR:Qh b p (f:Int) (c:Int) (w:Int) (r:Int) (n:Int) (A:Int) l (k:Int)=Qh b p (f:Int) (c:Int) (w:Int) (r:Int) (n:Int) (A:Int) l (k:Int):=rfl
 conv at hR=>rhs;rw[Qh,MH,Ae4 hs1.2 o.five o.sum _ _ _ _ _ (A:Int) F0 F0 k F0,Aa,Ch hk,Aa,Cf (by rw[Ac];omega) (by rw[Ac];omega)]
 by_cases hto:(b.length:Int)<(A:Int)+(l.take (k+1)).sum
 ·rw[Aa8 (by rw[Af,Ac,Abi];omega)]at hR;exact⟨m,[],[],24,Apr,hpos,hR,λ_=>⟨rfl,rfl⟩,λh=>by simp at h, .inl ⟨hto,rfl⟩⟩
 ·rw[Aa2 (by rw[Af,Ac,Abi];omega),UT p o.pass,mL hr.2 hn hn4]at hR;simp only[Aa]at hR;rw[Aj (a:=(A:Int)+(l.take k).sum) (b:=l[k]) F0 F0,Int.add_assoc,<-e,Apr]at hR;simp only[Aa]at hR;rw[Zp,Aa]at hR;obtain⟨x,er,g1,g2,g3,g4⟩:=BE (ch:=c) (n:=m) (t:=We p) (Akj b A l k) hw (Pb p) hc.1 hc.2 m1 F0;rw[show(b.take ((A:Int)+(l.take (k+1)).sum).toNat).drop ((A:Int)+(l.take k).sum).toNat=Akj b A l k from rfl,g2,Aa]at hR;simp only at hR;rw[MJ,MN]at hR;by_cases her:er=0
  ·obtain⟨g5,g6,g7⟩:=g3 her;rw[Aa2 (by rw[Ao];simpa using her),NU hw g6 g5,Aa]at hR;subst her;exact⟨m,x,_,0,Apr,hpos,hR,λh=>absurd rfl h,λ_=>⟨rfl,g7,g5,jO hw g6 g5,F0⟩, .inr ⟨F0,g1,g2⟩⟩
  ·rw[Aa8 (by rw[Ao];simpa using her)]at hR;exact⟨m,x,_,er,Apr,hpos,hR,λh=>⟨rfl,g4 h⟩,λh=>absurd h her, .inr ⟨F0,g1,g2⟩⟩
theorem Gts.lens{b p:LB}{s:LB}(hw:Ck (w:Int))(g:Gts b p f c w r n A l k m x s e):s.length<=12000/\x.length<=4000/\ (e=0->s.length=m*c*wB (w:Int)):=by
 by_cases he:e=0
 ·obtain⟨h1,h2,_⟩:=g.some' he;have h3:=HL (w:Int) x;have h4:=RM hw x;have h5:=g.pos;rw[<-h1]at h3 h4;refine⟨F0,F0,λ_=>by rw[h4,h2]⟩
 ·obtain⟨h1,h2⟩:=g.none' he;exact⟨by simp[h1],by simp[h2],λh=>absurd h he⟩
def Anw(b p:LB)(f c w r n A:Nat)(l:LI)(k:Nat):LB×Int:=(Qh b p (f:Int) (c:Int) (w:Int) (r:Int) (n:Int) (A:Int) l (k:Int)).getD ([],0)
theorem Gts.eq{b p:LB}{s:LB}(g:Gts b p f c w r n A l k m x s e):Anw b p f c w r n A l k=(s,e):=by rw[Anw,g.got];rfl
def Auc(b:LB)(A:Nat)(l:LI):Int:=(HW (b.drop ((A:Int)+l.sum).toNat)).2
def gC(b:LB)(k:Nat):Nat:=(b.getD k 0).toNat
def sx(n:Nat)(b:LB)(a:Nat):Int:=
 if n=1 then(gC b a:Int)-128 else
 if n=2 then(if gC b a+256*gC b (a+1)<32768 then(gC b a+256*gC b (a+1):Nat)else((gC b a+256*gC b (a+1):Nat):Int)-65536)else
 (if gC b a+256*gC b (a+1)+65536*gC b (a+2)<8388608 then(gC b a+256*gC b (a+1)+65536*gC b (a+2):Nat)else((gC b a+256*gC b (a+1)+65536*gC b (a+2):Nat):Int)-16777216)
def sxs(n m:Nat)(b:LB):LX:=(List.range m).map λx=>Int32.ofInt (sx n b (x*n))
theorem An1(n m:Nat)(b:LB):(sxs n m b).length=m:=by simp[sxs]
theorem sx2(b:LB)(a:Nat):sx 2 b a=if gC b a+256*gC b (a+1)<32768 then((gC b a+256*gC b (a+1):Nat):Int)else((gC b a+256*gC b (a+1):Nat):Int)-65536:=rfl
theorem sx3(b:LB)(a:Nat):sx 3 b a=if gC b a+256*gC b (a+1)+65536*gC b (a+2)<8388608 then((gC b a+256*gC b (a+1)+65536*gC b (a+2):Nat):Int)else((gC b a+256*gC b (a+1)+65536*gC b (a+2):Nat):Int)-16777216:=rfl
variable (b:LB)
end Go.Pl
namespace Go.Pl
open Go Go.Lv
variable{bits:Int}{c w:Nat}
theorem Ar3(hc:c<=6)(hw:Ck (w:Int)):Cx (Bo (c:Int) (w:Int)) 8=((c*wB (w:Int):Nat):Int):=by
 have h:w=8\/w=16\/w=24:=by unfold Ck at hw;omega
 have:c=0\/c=1\/c=2\/c=3\/c=4\/c=5\/c=6:=F0
 rcases h with rfl|rfl|rfl<;>rcases this with rfl|rfl|rfl|rfl|rfl|rfl|rfl<;>rfl
theorem Aq8(hw:Ck (w:Int)):8*wB (w:Int)=w/\w<=24:=by
 have h:w=8\/w=16\/w=24:=by unfold Ck at hw;omega
 rcases h with rfl|rfl|rfl<;>exact⟨rfl,F0⟩
theorem Asp{t:Nat}(ht:t<=4000)(hc:c<=6)(hw:Ck (w:Int)):Cx (Bo (Bo (t:Int) (c:Int)) (w:Int)) 8=((t*(c*wB (w:Int)):Nat):Int):=by
 obtain⟨h1,h2⟩:=Aq8 hw;have e1:(t:Int)*(c:Int)=((t*c:Nat):Int):=by simp
 have b1:t*c<=4000*6:=Aut ht hc;have b2:t*c*w<=24000*24:=Aut b1 h2;rw[Hs (a:=(t:Int)) (by rw[e1];omega) (by rw[e1];omega),e1,Hs Ayc Ayc,<-Ato,show(8:Int)=((8:Nat):Int)from rfl,Asi];congr 1;generalize wB (w:Int)=W at*
 subst h1;rw[Nat.mul_left_comm,Nat.mul_div_cancel_left _ F0,Avc]
def smF(w:Nat)(y:LB×Int):LX:=if y.2≠0 then []else sxs (wB (w:Int)) (y.1.length/wB (w:Int)) y.1
theorem pA(z:Int):(u8 z).toNat=(z %256).toNat:=by
 have:(z %256).toNat<256:=F0
 rw[u8,Ap3,Adn F0]
theorem uC{bits:Int}(h:Ck bits):∀(l:LX) (i j:Nat),i<l.length->j<wB bits-> (Gh bits l).getD (i*wB bits+j) 0=(GP bits (l.getD i 0).toInt).getD j 0
 |[],i,j,hi,_=>by simp at hi
 |x::l,0,j,_,hj=>by
  have h1:=oB h x.toInt;have e:Gh bits (x::l)=GP bits x.toInt++Gh bits l:=by simp[Gh]
  rw[e,Nat.zero_mul,Avt,List.getD_eq_getElem?_getD,List.getD_eq_getElem?_getD,List.getElem?_append_left F0];rfl
 |x::l,i+1,j,hi,hj=>by
  have h1:=oB h x.toInt;have e:Gh bits (x::l)=GP bits x.toInt++Gh bits l:=by simp[Gh]
  have ih:=uC h l i j (by simpa using hi) hj;have e2:(i+1)*wB bits+j=(GP bits x.toInt).length+(i*wB bits+j):=by rw[Arb,Nat.one_mul,h1];omega
  rw[e,e2,List.getD_eq_getElem?_getD,List.getElem?_append_right F0,Av2,<-List.getD_eq_getElem?_getD,ih];rfl
theorem Apj(h:Ck bits)(l:LX)(hr:inR bits l)(i:Nat)(hi:i<l.length):Int32.ofInt (sx (wB bits) (Gh bits l) (i*wB bits))=l.getD i 0:=by
 have hm:l.getD i 0∈l:=by rw[List.getD_eq_getElem?_getD,List.getElem?_eq_getElem hi];exact Ap8 hi
 have hv:=hr _ hm;have g:∀j,j<wB bits->gC (Gh bits l) (i*wB bits+j)=((GP bits (l.getD i 0).toInt).getD j 0).toNat:=λj hj=>by rw[gC,uC h l i j hi hj]
 generalize l.getD i 0=x at*
 have key:sx (wB bits) (Gh bits l) (i*wB bits)=x.toInt:=by
  generalize hA:i*wB bits=a at*
  obtain rfl|rfl|rfl:=h
  ·have g0:=g 0 F4;have e1:(GP 8 x.toInt).getD 0 0=u8 (x.toInt+128):=rfl;rw[Avl,e1,pA]at g0;simp only[hB]at hv;simp at hv;have e2:wB 8=1:=rfl;rw[e2,sx,Aa8 rfl,g0];omega
  ·have g0:=g 0 F4;have g1:=g 1 F4;have e0:(GP 16 x.toInt).getD 0 0=u8 x.toInt:=rfl;have e1:(GP 16 x.toInt).getD 1 0=u8 (x.toInt/256):=rfl;rw[Avl,e0,pA]at g0;rw[e1,pA]at g1;simp only[hB]at hv;simp at hv;have e2:wB 16=2:=rfl;rw[e2,sx2,g0,g1];split<;>omega
  ·have g0:=g 0 F4;have g1:=g 1 F4;have g2:=g 2 F4;have e0:(GP 24 x.toInt).getD 0 0=u8 x.toInt:=rfl;have e1:(GP 24 x.toInt).getD 1 0=u8 (x.toInt/256):=rfl;have e3:(GP 24 x.toInt).getD 2 0=u8 (x.toInt/65536):=rfl;rw[Avl,e0,pA]at g0;rw[e1,pA]at g1;rw[e3,pA]at g2;simp only[hB]at hv;simp at hv;have e2:wB 24=3:=rfl;rw[e2,sx3,g0,g1,g2];split<;>omega
 rw[key];simp
theorem Akx(h:Ck bits)(l:LX)(hr:inR bits l):sxs (wB bits) l.length (Gh bits l)=l:=by
 refine Auy (An1 _ _ _) λi h1 h2=>?_;have:=Apj h l hr i h2;simp only[sxs,Aw2,Aw0];rw[this,List.getD_eq_getElem?_getD,List.getElem?_eq_getElem h2];rfl
theorem Gts.tC{b p:LB}{f r n A:Nat}{l:LI}{k m:Nat}{x:LX}{s:LB}{e:Int}(hw:Ck (w:Int))(g:Gts b p f c w r n A l k m x s e):smF w (s,e)=x:=by
 have hwb:=D8 (w:Int);by_cases he:e=0
 ·obtain⟨h1,h2,h3,_⟩:=g.some' he;have h4:=g.pos;have h5:=RM hw x;rw[smF,Aa2 (by simpa using he)];simp only;rw[h1,h5,Nat.mul_div_cancel _ F0];exact Akx hw x (pU hw F0 h3)
 ·rw[smF,Aa8 he,(g.none' he).2]
theorem Ax9{p:Prop}(h:p:=by rw[Aio];omega):p:=h
end Go.Pl
namespace Go.Pl
open Go Go.Lv
variable{e bits:Int}
abbrev C5:=Int×Int×Int×LX×Int
def Avj(e:Int):C5:=(0,0,0,[],e)
theorem Y8{seg p:LB}(hs:seg.length=8)(hp:p.length<=64):Xf seg p=some (seg==FD (AS p).toNat 8,0):=by
 rw[Xf,Aff p hp,Aa];simp only;rw[Aa2 (by rw[Ao,Ao,Ac,Ac,Oj,hs];simp),It,Aa]
def Al6(X:Nat->LX)(E:Nat->Int)(be:Int):Nat->Nat->LX->LX×Int
 |0,_,acc=>if be≠0 then([],38)else(acc,0)
 |j+1,k,acc=>if E k≠0 then([],E k)else Al6 X E be j (k+1) (acc++X k)
def Y0(c w r:Nat)(y:LX×Int):C5:=if y.2≠0 then Avj y.2 else((c:Int),(w:Int),(r:Int),y.1,0)
section
variable {b p:LB} {f c w r n A:Nat} {l:LI} (o:Opn b p f c w r n A l)
include o
theorem pM(a1 a2 a3 a4:Int):∀(j k q:Nat) (acc:LX),k+j=l.length->j<q-> (k=l.length-> (A:Int)+l.sum<=b.length)->acc.length<=4000*k->
  CQ b l (f:Int) (c:Int) (w:Int) (r:Int) (n:Int) a1 a2 a3 (A:Int) a4 (We p) (Al (Aq r) n) q ((A:Int)+(l.take k).sum) (k:Int) acc=
   some (Y0 c w r (Al6 (λk=>smF w (Anw b p f c w r n A l k)) (λk=>(Anw b p f c w r n A l k).2) (Auc b A l) j k acc))
 |0,k,q+1,acc,hk,_,hfit,_=>by
  have hA:=o.at';have Aql:=o.file;have hs1:=o.some1;have hsum:=o.sum;have b1:=Zv o.five l.length;have hf:=hfit F0;obtain rfl:k=l.length:=F0
  rw[Awh]at b1⊢;rw[CQ,PY,Aa2 Aym,cI,aY,Dd,Aa,rC _ Ax9,Aa,Al6,Auc];generalize HW (b.drop ((A:Int)+l.sum).toNat)=v;obtain⟨v1,v2⟩:=v;simp only;by_cases hv:v2≠0
  ·rw[Aa8 hv,Aa8 (by rw[Ao];simpa using hv),Y0,Aa8 Axz];rfl
  ·rw[Aa2 hv,Aa2 (by rw[Ao];simpa using hv),Y0,Aa2 Axz]
 |j+1,k,q+1,acc,hk,hq,hfit,hacc=>by
  have hA:=o.at';have Aql:=o.file;have hs1:=o.some1;have hsum:=o.sum;have b1:=Zv o.five k;have b2:=Zv o.five (k+1);have hkl:k<l.length:=F0
  have e2:=Yu hkl;have h5:=o.five l[k] (Ap8 _);obtain⟨m,x,s,e,g⟩:=Ae0 o k hkl;obtain⟨hc,hw,hr,hn,_⟩:=UH o.shape;have hl:=g.lens hw;rw[CQ,PY,Aa8 F2,Ch hkl,Aa,Aa,Aj (a:=(A:Int)+(l.take k).sum) F0 F0,Int.add_assoc,<-e2,Ac,Al6,g.eq];simp only;rcases g.way with⟨h1,h2⟩|⟨h1,h2,_⟩
  ·rw[Aa8 (by rw[Af,Abi];omega),Aa8 (by rw[h2];simp),h2,Y0,Aa8 Axz];rfl
  ·rw[Aa2 (by rw[Af,Abi];omega),g.mom];simp only[Aa];rw[Zp,Aa,show(b.take ((A:Int)+(l.take (k+1)).sum).toNat).drop ((A:Int)+(l.take k).sum).toNat=Akj b A l k from rfl,h2,Aa];simp only;rw[cG,cF];by_cases he:e≠0
   ·rw[Aa8 (by rw[Ao];simpa using he),Aa8 he,Y0,Aa8 he];rfl
   ·have he0:e=0:=by simpa using he
    have Aqm:=(g.some' he0).2.2.2.2;rw[Aa2 (by rw[Ao];simpa using he),Aa2 he,g.tC hw,Cy,Aa,Aj (a:=(A:Int)+(l.take k).sum) F0 F0,Int.add_assoc,<-e2,Aj];exact pM a1 a2 a3 a4 j (k+1) q (acc++x) F0 F0 (λh=>by rw[h,Awh]at Aqm;exact Aqm) Ayd
end
def nY(b:LB):LI:=Al (Aq (f3 (Td b))) (f4 (Td b))
theorem xN{c r n:Nat}(h:KT c r n=true):1<= (Al (Aq r) n).length/\ (Al (Aq r) n).length<=1000:=by
 simp only[KT,Abi]at h;rw[qW];exact⟨Nat.le_add_left _ _,h.2⟩
theorem Ach(g:Nat):∀K:Nat,(List.replicate K (g:Int)).sum=((K*g:Nat):Int)
 |0=>by simp
 |K+1=>by
  rw[Au9,As1,Ach g K,Aw5];omega
theorem cT{g n:Nat}(hn:1<=n):(Al g n).sum=(n:Int):=by
 have h:=Au0 (n-1) g;rw[Al,List.sum_append,Ach];simp only[As1,Axt];omega
theorem Abk:∀{l:LI},(∀x∈l,0<=x)->0<=l.sum
 |[],_=>by simp
 |x::l,h=>by
  have h1:=h x Ath;have h2:=Abk (l:=l) λy hy=>h y (Aqi _ hy);rw[As1];omega
theorem fJ{l:LI}(h:∀x∈l,0<=x)(i:Nat):0<= (l.take i).sum/\ (l.take i).sum<=l.sum:=by
 have h1:=Abk (l:=l.take i) λx hx=>h x (Axb hx);have h2:=Abk (l:=l.drop i) λx hx=>h x (List.mem_of_mem_drop hx);have:=J8 l i;omega
def BR(c w:Nat)(fr:LI)(k:Nat):Int:=(((fr.take k).sum.toNat*(c*wB (w:Int)):Nat):Int)
section
variable {f c w r n:Nat} (h1:Jn f c w r n=true) (h2:KT c r n=true)
include h1 h2
theorem QA:(∀x∈Al (Aq r) n,0<=x)/\ (Al (Aq r) n).sum=(n:Int)/\n<=4000:=by
 obtain⟨hc,hw,hr,hn,_⟩:=UH h1;have hfit:n<=4000/c:=by simp only[KT,Abi]at h2;exact h2.1
 have hn4:n<=4000:=by have:=Asu 4000 c;omega
 refine⟨λx hx=>?_,cT hn,hn4⟩;obtain⟨m,rfl,_⟩:=Vj (Jz r) hn hx;omega
end
theorem Aav(C W:Nat)(fr:LI):BR C W fr 0=0:=by rw[BR,Aw6,Axt];simp
theorem Aau(C W:Nat){fr:LI}(hp:∀z∈fr,0<=z){A m:Nat}(hA:A<fr.length)(hm:fr[A]=(m:Int)):BR C W fr (A+1)=BR C W fr A+((m*C*wB (W:Int):Nat):Int):=by
 have hs:0<= (fr.take A).sum:=by
  have:∀l:LI,(∀z∈l,0<=z)->0<=l.sum:=by
   intro l
   induction l with
   |nil=>intro _;simp
   |cons a l ih=>intro h;rw[As1];have:=h a Axz;have:=ih (λz hz=>h z (by simp[hz]));omega
  exact this _ λz hz=>hp z (Axb hz)
 have e:(fr.take (A+1)).sum=(fr.take A).sum+m:=by rw[NQ hA,List.sum_append,As1,Axt,hm];omega
 rw[BR,BR,e];have:((fr.take A).sum+(m:Int)).toNat=(fr.take A).sum.toNat+m:=F0
 rw[this,Arb,Avc m];omega
def Avn(bits:Int)(ch:Nat)(t x:LX):LU:=evl bits ch t (mx ch x) x.length
def Atz(bits:Int)(ch:Nat)(t x:LX):LB:=At7 (Aun ch (Avn bits ch t x) x.length)
def fV(bits:Int)(ch:Nat)(t x:LX):LB:=Atz bits ch t x++FD (He (Atz bits ch t x)).toNat 4
theorem Anb{n:Nat}(h:n<2^64):(UInt64.ofNat n).toNat=n:=by rw[Ajw];exact Adn h
structure ClipOk (c w r n:Nat) (x:LX):Prop where
 ch:1<=c/\c<=6
 bits:Ck (w:Int)
 rate:1<=r/\r<=1048576
 cnt:1<=n/\n<=4000/c
 len:x.length=n*c
 fr:(n-1)/Aq r+1<=1000
 rng:inR (w:Int) x
theorem ClipOk.le{c w r n:Nat}{x:LX}(h:ClipOk c w r n x):n<=4000/\n*c<=4000/\1<=x.length/\x.length<=4000:=by
 have h1:=Ahd c h.cnt.2;have h2:=Au0 4000 c;have h3:=Asu 4000 c;have h4:=Nat.mul_pos h.cnt.1 h.ch.1;have h5:=h.len;have:=h.cnt;omega
theorem ClipOk.w3{c w r n:Nat}{x:LX}(h:ClipOk c w r n x):w=8\/w=16\/w=24:=by
 have:=h.bits;unfold Ck at this;omega
theorem ClipOk.shape{c w r n:Nat}{x:LX}(h:ClipOk c w r n x)(f:Nat)(hf:f=1\/f=2):Jn f c w r n=true:=by
 have:=h.w3;have:=h.ch;have:=h.rate;have:=h.cnt;simp only[Jn,Abi];omega
theorem ClipOk.fit{c w r n:Nat}{x:LX}(h:ClipOk c w r n x):KT c r n=true:=by
 have:=h.cnt;have:=h.fr;simp only[KT,Abi];omega
def Auw(f c w r n:Nat):LB:=ZI++FD f 2++FD c 2++FD w 2++FD r 4++FD n 4
def Avy(f c w r n:Nat):LB:=Auw f c w r n++FD (He (Auw f c w r n)).toNat 4
theorem Ap5(b f g h k:Int)(m v w q:Nat)(a:LB)(hm:m<5)(hv:Ak ([b,f,g,h,k]:LI) (m:Int)=some (v:Int))(hw:Ak ([2,2,2,4,4]:LI) (m:Int)=some (w:Int))(h1:1<=w)(h8:w<=8)(hlt:v<256^w)(h64:v<18446744073709551616)(ha:a.length<=100):
  Oc b f g h k (q+1) (m:Int) a=Oc b f g h k q ((m+1:Nat):Int) (a++FD v w):=by
 have e64:(UInt64.ofNat v).toNat=v:=Anb F0;have hi1:Ae (m:Int) 1=((m+1:Nat):Int):=by rw[Aj];omega
 rw[Oc,LM,Aa8 F7,hv,Aa,hw,Aa,Xh,yO _ w h1 h8 (by rw[e64];exact hlt),Aa];simp only;rw[Cy (by rw[Oj];omega),Aa,hi1,e64]
def As6(l:LI):LB:=l.flatMap λx=>FD x.toNat 4
def Avv(l:LI):LB:=As6 l++FD (He (As6 l)).toNat 4
def PH(c:Nat):LX->LI->List LX
 |_,[]=>[]
 |x,m::l=>x.take (m.toNat*c)::PH c (x.drop (m.toNat*c)) l
theorem kN(c:Nat):∀(l:LI) (x:LX),(PH c x l).length=l.length
 |[],x=>rfl
 |m::l,x=>by rw[PH,Ar8,Ar8,kN c l]
theorem iS(c:Nat)(h1:1<=c):∀(l:LI) (x:LX),(∀m∈l,1<=m)->x.length=l.sum.toNat*c->∀y∈PH c x l,1<=y.length/\y.length<=x.length/\y.length %c=0/\∀v∈y,v∈x
 |[],x,_,_=>λy hy=>by simp[PH]at hy
 |m::l,x,hm,hx=>by
  have hm1:=hm m Ath;have hl:0<=l.sum:=by
   have:∀l:LI,(∀m∈l,1<=m)->0<=l.sum:=by
    intro l
    induction l with
    |nil=>intro _;simp
    |cons a l ih=>intro h;have:=ih (λm hm=>h m (Aqi _ hm));have:=h a Ath;rw[As1];omega
   exact this l λm hm'=>hm m (Aqi _ hm')
  rw[As1,show(m+l.sum).toNat=m.toNat+l.sum.toNat by omega,Arb]at hx;have hpos:1<=m.toNat*c:=Nat.mul_pos F0 h1;intro y hy;rw[PH,List.mem_cons]at hy;rcases hy with rfl|hy
  ·have hlen:(x.take (m.toNat*c)).length=m.toNat*c:=by rw[Alg];omega
   rw[hlen];exact⟨hpos,F0,Awd _ _,λv hv=>Axb hv⟩
  ·obtain⟨a1,a2,a3,a4⟩:=iS c h1 l (x.drop (m.toNat*c)) (λm hm'=>hm m (Aqi _ hm')) Ax9 y hy;rw[Aio]at a2;exact⟨a1,F0,a3,λv hv=>List.mem_of_mem_drop (a4 v hv)⟩
def yW(fs:List LB):LI:=fs.map λf=>(f.length:Int)
theorem vM(fs:List LB):(yW fs).length=fs.length:=by rw[yW,List.length_map]
def Atn(p:LB):Nat:=if p=[]then 1 else 2
def Avp(p:LB):LB:=if p=[]then []else FD (AS p).toNat 8
def Q3(c r n:Nat)(x:LX):List LX:=PH c x (Al (Aq r) n)
def frs(c w r n:Nat)(x:LX)(p:LB):List LB:=(Q3 c r n x).map (fV (w:Int) c (We p))
theorem SS{g n:Nat}(hg:1<=g)(h1:1<=n):∀m∈Al g n,1<=m:=by
 intro m hm;rw[Al,List.mem_append,List.mem_replicate,List.mem_singleton]at hm;have h:=Au0 (n-1) g;rcases hm with⟨_,rfl⟩|rfl
 ·omega
 ·omega
section
variable {c w r n:Nat} {x:LX} (h:ClipOk c w r n x)
include h
theorem ClipOk.sum:(Al (Aq r) n).sum=(n:Int):=cT h.cnt.1
omit h in
theorem Alc:(Q3 c r n x).length=(Al (Aq r) n).length:=kN _ _ _
theorem Ak0:∀y∈Q3 c r n x,1<=y.length/\y.length<=4000/\y.length %c=0/\inR (w:Int) y:=by
 intro y hy;obtain⟨a1,a2,a3,a4⟩:=iS c h.ch.1 _ _ (SS (Jz r) h.cnt.1) (by rw[h.sum,h.len,Aly]) y hy;have:=h.le;exact⟨a1,F0,a3,λv hv=>h.rng v (a4 v hv)⟩
omit h in
theorem Aph(p:LB):(frs c w r n x p).length=(Al (Aq r) n).length:=by rw[frs,List.length_map];exact kN _ _ _
end
theorem qV:∀{l:LI},(∀x∈l,0<=x)->∀k,0<= (l.take k).sum
 |[],_,k=>by simp
 |x::l,h,0=>by simp
 |x::l,h,k+1=>by
  have:=qV (l:=l) (λy hy=>h y (Aqi _ hy)) k;have:=h x Ath;rw[List.take_succ_cons,As1];omega
theorem wN(c:Nat)(h1:1<=c):∀(l:LI) (x:LX),(∀m∈l,1<=m)->x.length=l.sum.toNat*c->∀(k:Nat) (hk:k<l.length) (hk':k<(PH c x l).length),(PH c x l)[k].length=l[k].toNat*c
 |[],x,_,_=>λk hk=>absurd hk (Nat.not_lt_zero _)
 |m::l,x,hm,hx=>by
  have hm1:=hm m Ath;have hl:0<=l.sum:=by
   have:=qV (l:=l) (λy hy=>by have:=hm y (Aqi _ hy);omega) l.length;rw[Awh]at this;exact this
  rw[As1,show(m+l.sum).toNat=m.toNat+l.sum.toNat by omega,Arb]at hx;intro k hk hk';cases k with
  |zero=>simp only[PH,List.getElem_cons_zero,Alg];omega
  |succ k=>
   simp only[PH,List.getElem_cons_succ];exact wN c h1 l (x.drop (m.toNat*c)) (λm hm'=>hm m (Aqi _ hm')) Ax9 k (by simpa using hk) _
structure FileOf (c w r n:Nat) (x:LX) (p:LB) (T:Nat) (fs:List LB) (z b:LB):Prop where
 clip:ClipOk c w r n x
 pass:p.length<=64
 front:Cv b=((T:Int),0)
 le:b.length<=100000
 lens:yW fs=yW (frs c w r n x p)
 form:b.drop T=Avy (Atn p) c w r n++(Avp p++(Avv (yW (frs c w r n x p))++(fs.flatten++z)))
section
variable {c w r n:Nat} {x:LX} {p:LB} {T:Nat} {fs:List LB} {z b:LB} (h:FileOf c w r n x p T fs z b)
include h
theorem FileOf.cnt:fs.length=(frs c w r n x p).length:=by
 have:=congrArg List.length h.lens;rw[vM,vM]at this;exact this
theorem FileOf.mom{k:Nat}(hk:k<fs.length):∃(m:Nat) (hk':k<(Q3 c r n x).length),Ak (Al (Aq r) n) (k:Int)=some (m:Int)/\1<=m/\m<=4000/c/\ ((Q3 c r n x)[k]).length=m*c/\inR (w:Int) (Q3 c r n x)[k]/\ (frs c w r n x p)[k]'(by rw[<-h.cnt];exact hk)=fV (w:Int) c (We p) (Q3 c r n x)[k]:=by
 have hc:=h.clip;have hlen:fs.length=(Al (Aq r) n).length:=by rw[h.cnt];exact Aph p
 have hkf:k<(Al (Aq r) n).length:=F0
 have hk':k<(Q3 c r n x).length:=by rw[Alc];exact hkf
 have hm1:=SS (Jz r) hc.cnt.1 _ (Ap8 hkf);obtain⟨m,hm⟩:=Amj (show 0<= (Al (Aq r) n)[k] by omega);have hg:=wN c hc.ch.1 _ x (SS (Jz r) hc.cnt.1) (by rw[hc.sum,hc.len,Aly]) k hkf hk';rw[hm,Aly]at hg;have hmem:=Ak0 hc _ (Ap8 hk');have hx:=iS c hc.ch.1 _ x (SS (Jz r) hc.cnt.1) (by rw[hc.sum,hc.len,Aly]) _ (Ap8 hk');have hg':((Q3 c r n x)[k]).length=m*c:=hg;refine⟨m,hk',by rw[Ch hkf,hm],F0,?_,hg',hmem.2.2.2,?_⟩
 ·have h1:=hx.2.1;have h2:m*c<=n*c:=by rw[<-hg',<-hc.len];exact h1
  have h3:m<=n:=Nat.le_of_mul_le_mul_right h2 hc.ch.1;exact Nat.le_trans h3 hc.cnt.2
 ·simp only[frs,Aw2]
end
def Cd(e:Int):Prop:=e=0\/e=4\/e=12\/e=16\/e=22\/e=24\/e=26\/e=38
instance(e:Int):Decidable (Cd e):=by unfold Cd;infer_instance
theorem Cd.nn(h:Cd e):0<=e:=by unfold Cd at h;omega
theorem Aqq(p:LB)(N a k:Nat):Cd (RK p N a k).2.2:=by
 unfold RK
 repeat' split
 all_goals first|decide|exact .inl rfl
theorem Asl(p:LB)(N a k l:Nat):Cd (WY p N a k l).2.2:=by
 have h:=Aqq p N (a+1) l;unfold WY
 repeat' split
 all_goals first|exact h|decide|exact .inl rfl
theorem Acq(ch:Nat)(p:LB)(N:Nat):∀(j a:Nat) (out:LU),Cd (Xg ch p N j a out).2.2
 |0,a,out=>by rw[Xg];exact .inl rfl
 |j+1,a,out=>by
  rw[Xg];split
  ·exact Asl ..
  ·exact Acq ch p N j _ _
theorem Ah5(b:LB):Cd (Uj b):=by
 unfold Uj
 repeat' split
 all_goals first|decide|exact .inl rfl
theorem J1(a:LX)(b:Int):∀(q:Nat) (i e:Int),Bs a b q i=some e->Cd e
 |0,_,_,h=>by rw[Bs]at h;cases h
 |q+1,i,e,h=>by
  rw[Bs,Ey]at h;split at h
  ·cases hg:Ak a i with
   |none=>rw[hg]at h;cases h
   |some g=>
    rw[hg,Aa]at h;split at h
    ·cases h;decide
    ·rw[Aa]at h;split at h
     ·cases h;decide
     ·exact J1 a b q _ e h
  ·cases h;decide
theorem Aac{a:LX}(hb:Ck bits)(h:Bp bits a=some e):Cd e:=by
 rw[Bp,Je]at h;rw[qZ hb,Aa,Aa2 (by have:=iX bits;rw[Ay];simp;omega)]at h;split at h
 ·cases h;decide
 ·exact J1 a _ _ _ e h
theorem pE{ch n:Nat}{t:LX}{b:LB}(hb:Ck bits)(ht:t.length=16)(h1:1<=ch)(h6:ch<=6)(n1:1<=n)(n2:n<=4000/ch){l:LX}
  (h:Ev (ch:Int) bits t (n:Int) b=some (l,e)):Cd e:=by
 have hn:n*ch<=4000:=by
  have:=Ahd ch n2;have h2:=Au0 4000 ch;omega
 have hq4:=Ab6 h1 h6;generalize 4000/ch=mm at*
 have hh:=iX bits;have Ab2:Na (ch:Int) bits (n:Int)=some 0:=by
  rw[Na,AG,Aa2 Ax5,qZ hb,Aa,Aa2 Ax4,Aa,Aa2 (by simp[Ao,Af];omega),Dg Ax3,Aa,hq4,Aa2 Ax1]
 rw[Ev,Rs,Ab2,Aa,Aa2 Ax0,vK,Aa]at h;by_cases hs:Uj b≠0
 ·rw[Aa8 (by rw[Ao];simpa using hs)]at h;simp only[Aa]at h;cases h;exact Ah5 b
 have hs0:Uj b=0:=by simpa using hs
 have hlen:=uq hs0;have e4:Am (Ac b) 4=((b.length-4:Nat):Int):=by rw[Ac,Cf];omega
 rw[Aa2 (by rw[Ao,hs0];simp),e4,Dc,Aa,show((b.length-4:Nat):Int).toNat=b.length-4 from rfl]at h;have hpl:(b.take (b.length-4)).length=b.length-4:=by simp
 generalize b.take (b.length-4)=p at*
 have hr:=Adb (N:=8*p.length) (p:=p) rfl F0 h1 h6 hn;have hV:=Acq ch p (8*p.length) (n*ch) 0 [];have hat:=sV (ch:=ch) (p:=p) (N:=8*p.length) (n*ch) 0 [] F0;rw[hr,Aa]at h;generalize Xg ch p (8*p.length) (n*ch) 0 []=V at*
 obtain⟨v,at',er⟩:=V;simp only at*
 by_cases he:er≠0
 ·rw[Aa8 he]at h;simp only at h;rw[Hw,Ih,Aa8 (by rw[Ao];simpa using he)]at h;cases h;exact hV
 have he0:er=0:=by simpa using he
 have hvl:=hat.2.2 he0;simp only[List.length_nil,Avt]at hvl;rw[Aa2 he]at h;simp only at h;rw[Hw,Ih]at h;split at h
 ·cases h;decide
 ·rw[Aa2 F4]at h;have hm:v.length %ch=0:=by rw[hvl];exact Awd n ch
  obtain⟨l',e',g1,g2,g3,g4,g5⟩:=mF (v:=v) hb ht h1 h6 F0 hm;rw[g1,Aa,g2,Aa]at h;have:=Aac hb g4;by_cases hl:e'≠0
  ·rw[Aa8 hl]at h;cases h;exact this
  ·rw[Aa2 hl]at h;cases h;decide
theorem E0{ch n:Nat}{t:LX}{b:LB}(hb:Ck bits)(ht:t.length=16)(h1:1<=ch)(h6:ch<=6)(n1:1<=n)(n2:n<=4000/ch){l:LX}
  (h:Ev (ch:Int) bits t (n:Int) b=some (l,e)):0<=e:=(pE hb ht h1 h6 n1 n2 h).nn
def shI(f c w r n:Int):Bool:=decide ((f=1\/f=2)/\ (1<=c/\c<=6)/\ (w=8\/w=16\/w=24)/\ (1<=r/\r<=1048576)/\1<=n)
theorem Akt(f c w r n:Int):Oz f c w r n=some (shI f c w r n):=by
 have e2:Qi f c w r n=some (decide ((f=1\/f=2)/\ (1<=c/\c<=6)/\ (1<=r/\r<=1048576)/\1<=n)):=by
  rw[Qi,GU];congr 1;rw[Alp];simp only[Ay,Az,SK,Abd,Asx,Asv,Abi];omega
 have g:∀k:Int,geq w k=decide (w=k):=λk=>by rw[Ay,Alp];simp
 rw[Oz,GO,e2,g,g,g,shI];by_cases h8:w=8
 ·subst h8;simp
 ·by_cases h16:w=16
  ·subst h16;simp
  ·by_cases h24:w=24
   ·subst h24;simp
   ·simp[h8,h16,h24]
theorem Aoz(f c w r n:Int):Im f c w r n=some (shI f c w r n):=by
 rw[Im,shI];simp only[Ay,Dx,SK,Abd,Asx,Asv,Abi,Aw9];split
 ·rename_i h;congr 1;rw[Alp];simp only[Abd,Asx,Asv,Abi];omega
 ·rename_i h;congr 1;symm;rw[At9];omega
structure HdI (f c w r n:Int) (F C W R N:Nat):Prop where
 ef:f=F
 ec:c=C
 ew:w=W
 er:r=R
 en:n=N
 shape:Jn F C W R N=true
 fit:KT C R N=true
theorem Ag4(f c w r n:Int):(∃F C W R N:Nat,HdI f c w r n F C W R N)\/ (Jy f c w r n=some 8/\De f c w r n=some ([],8)):=by
 by_cases h:shI f c w r n=true
 ·have h':=h;simp only[shI,Abi]at h';obtain⟨F,rfl⟩:=Amj (show 0<=f by omega);obtain⟨C,rfl⟩:=Amj (show 0<=c by omega);obtain⟨W,rfl⟩:=Amj (show 0<=w by omega);obtain⟨R,rfl⟩:=Amj (show 0<=r by omega);obtain⟨N,rfl⟩:=Amj (show 0<=n by omega);have hs:Jn F C W R N=true:=by simp only[Jn,Abi];omega
  by_cases hf:KT C R N=true
  ·exact .inl ⟨F,C,W,R,N,rfl,rfl,rfl,rfl,rfl,hs,hf⟩
  ·have hf':KT C R N=false:=by simpa using hf
   refine .inr ⟨?_,?_⟩
   ·rw[Jy,kJ,Aa,hs,Aa2 Axz,zU hs,Aa,hf'];rfl
   ·rw[De,Qt,bF,Aa,hs,Aa2 Axz,oS hs,Aa,hf'];rfl
 ·have h':shI f c w r n=false:=by simpa using h
  refine .inr ⟨?_,?_⟩
  ·rw[Jy,Aoz,Aa,h'];rfl
  ·rw[De,Qt,Akt,Aa,h'];rfl
theorem HdI.check{f c w r n:Int}{F C W R N:Nat}(h:HdI f c w r n F C W R N):Jy f c w r n=some 0:=by
 obtain⟨rfl,rfl,rfl,rfl,rfl,hs,hf⟩:=h;rw[Jy,kJ,Aa,hs,Aa2 Axz,zU hs,Aa,hf];rfl
theorem HdI.nY{f c w r n:Int}{F C W R N:Nat}(h:HdI f c w r n F C W R N):De f c w r n=some (Al (Aq R) N,0):=by
 obtain⟨rfl,rfl,rfl,rfl,rfl,hs,hf⟩:=h;exact jf hs hf
theorem HdI.num{f c w r n:Int}{F C W R N:Nat}(h:HdI f c w r n F C W R N):(F=1\/F=2)/\ (1<=C/\C<=6)/\ (W=8\/W=16\/W=24)/\ (1<=R/\R<=1048576)/\1<=N/\N<=4000/C/\N<=4000/\ (N-1)/Aq R+1<=1000:=by
 obtain⟨rfl,rfl,rfl,rfl,rfl,hs,hf⟩:=h;simp only[Jn,Abi]at hs;simp only[KT,Abi]at hf;have hd:4000/C<=4000:=Asu _ _;omega
theorem HdI.lg{f c w r n:Int}{F C W R N:Nat}(h:HdI f c w r n F C W R N):Fu f c w r n=some (Al (Aq R) N):=by
 have hn:=h.num;obtain⟨rfl,rfl,rfl,rfl,rfl,hs,hf⟩:=h;rw[Fu,mL F0 F0 F0];rfl
section
variable {f c w r n:Nat} (h1:Jn f c w r n=true) (h2:KT c r n=true)
include h1 h2
theorem E7(k:Nat)(hk:k<= (Al (Aq r) n).length):∀(j i q:Nat),i+j=k->j<q->Kl (k:Int) (f:Int) (c:Int) (w:Int) (r:Int) (n:Int) (Al (Aq r) n) q (((Al (Aq r) n).take i).sum) (i:Int)=some (BR c w (Al (Aq r) n) k)
 |0,i,q+1,hi,_=>by
  obtain⟨hc,hw,hr,hn,_⟩:=UH h1;obtain⟨g1,g2,g3⟩:=QA h1 h2;have b:=fJ g1 i;obtain rfl:i=k:=F0
  have hb:((Al (Aq r) n).take i).sum.toNat*(c*wB (w:Int))<=4000*(6*3):=Aut F0 (Aut hc.2 (D8 (w:Int)).2);rw[Kl,Vo,Aa2 Ax6,IE,JN,Fx,Aa];simp only;rw[MK,Ar3 hc.2 hw,Aa,BR];have e:((Al (Aq r) n).take i).sum=((((Al (Aq r) n).take i).sum.toNat:Nat):Int):=F0
  rw[e,Hs Ayc Ayc,<-Ato];rfl
 |j+1,i,q+1,hi,hq=>by
  obtain⟨g1,g2,g3⟩:=QA h1 h2;have hK:=xN h2;have hlt:i<(Al (Aq r) n).length:=F0
  have b1:=fJ g1 i;have b2:=fJ g1 (i+1);have e:=Yu hlt;have ih:=E7 k hk j (i+1) q F0 F0;rw[e]at ih;rw[Kl,Vo,Aa8 F7,Ch hlt,Aa,Aa,Aj,Aj];exact ih
theorem U2(k:Nat)(hk:k<= (Al (Aq r) n).length):Ur (f:Int) (c:Int) (w:Int) (r:Int) (n:Int) (k:Int)=some (BR c w (Al (Aq r) n) k):=by
 have hK:=xN h2;obtain⟨g1,g2,g3⟩:=QA h1 h2;obtain⟨hc,hw,hr,hn,_⟩:=UH h1;have h:=E7 h1 h2 k hk k 0 Ba F0 F9;rw[Aw6,Axt]at h;rw[Ur,JC,Fu,mL hr.2 hn g3,Aa,Aa];exact h
theorem Aad{i:Nat}(hlt:i<(Al (Aq r) n).length):Ae (BR c w (Al (Aq r) n) i) (Cx (Bo (Bo ((Al (Aq r) n)[i]) (c:Int)) (w:Int)) 8)=BR c w (Al (Aq r) n) (i+1):=by
 obtain⟨hc,hw,hr,hn,_⟩:=UH h1;obtain⟨g1,g2,g3⟩:=QA h1 h2;have b1:=fJ g1 i;have b2:=fJ g1 (i+1);have e:=Yu hlt;have h0:=g1 _ (Ap8 hlt);have e2:(Al (Aq r) n)[i]=(((Al (Aq r) n)[i].toNat:Nat):Int):=F0
 have hb:((Al (Aq r) n).take (i+1)).sum.toNat*(c*wB (w:Int))<=4000*(6*3):=Aut F0 (Aut hc.2 (D8 (w:Int)).2);rw[e2,Asp F0 hc.2 hw,BR,BR];have e3:((Al (Aq r) n).take (i+1)).sum.toNat=((Al (Aq r) n).take i).sum.toNat+(Al (Aq r) n)[i].toNat:=F0
 rw[e3,Arb]at hb⊢;rw[Aj];omega
theorem G2(a:Nat)(ha:a<= (Al (Aq r) n).length)(o p:LB)(m:LI)(a':Int)(N:LB)(u:Bool)(v:Int):∀(j i q:Nat),i+j=a->j<q->
  Oa ((Al (Aq r) n).take a) o p (f:Int) (c:Int) (w:Int) (r:Int) (n:Int) m a' N u v q (BR c w (Al (Aq r) n) i) (i:Int)=some (xI (Ac N) (BR c w (Al (Aq r) n) a))
 |0,i,q+1,hi,_=>by
  obtain rfl:i=a:=F0
  rw[Oa,Zf,Aa2 (by rw[Af,Ac,Alg];simp;omega),LA,YY]
 |j+1,i,q+1,hi,hq=>by
  have hK:=xN h2;have hlt:i<(Al (Aq r) n).length:=F0
  have hlt2:i<((Al (Aq r) n).take a).length:=by rw[Alg];omega
  have ih:=G2 a ha o p m a' N u v j (i+1) q F0 F0;rw[Oa,Zf,Aa8 F2,Ch hlt2,Aa,List.getElem_take,Aad h1 h2 hlt,Aj];exact ih
end
theorem Aye{p:Prop}(h:p:=by simp[Ao,Af,Az,Ac];omega):p:=h
end Go.Pl
namespace Go.Pl
open Go Go.Lv
variable{s p q:LB}{α:Type}
theorem tB(l:List α):geq (Ac l) 0=decide (l=[]):=by
 cases l with
 |nil=>rfl
 |cons x l=>rw[Ay,Ac,Ar8,At8 Axz,beq_eq_false_iff_ne];omega
theorem M5(l:List α):Dm (Ac l) 0=decide (l≠ []):=by
 cases l with
 |nil=>rfl
 |cons x l=>rw[Az,Ac,Ar8,Avb Axz];simp
inductive FitD (o:LB) (f c w r n:Int) (g:LI) (a:Int) (x:LB):Prop
 |new:f=0->c=0->w=0->r=0->n=0->g=[]->a=0->x=[]->FitD o f c w r n g a x
 |head (F C W R N:Nat):HdI f c w r n F C W R N-> (o==([]:LB))=decide (F=1)->g=[]->a=0->x=[]->FitD o f c w r n g a x
 |tab (F C W R N A:Nat):HdI f c w r n F C W R N-> (o==([]:LB))=decide (F=1)->Xe g=true->g.length=(Al (Aq R) N).length->a=A->A<=g.length->FitD o f c w r n g a x
theorem Aa3(f c w r n:Int)(o:LB):Mr f c w r n o=Dp f c w r n o:=rfl
theorem zh(o p:LB)(f c w r n:Int)(g:LI)(a:Int)(x:LB)(u:Bool)(v:Int):
  (Wr o p f c w r n g a x u v=some false/\Jv o p f c w r n g a x u v=some false)\/
  (Wr o p f c w r n g a x u v=some true/\Jv o p f c w r n g a x u v=Cc o p f c w r n g a x u v/\FitD o f c w r n g a x):=by
 rw[Wr,LK,Jv,Tx];by_cases hz:f=0/\c=0/\w=0/\r=0/\n=0
 ·obtain⟨rfl,rfl,rfl,rfl,rfl⟩:=hz;rw[Aa8 F4,Aa8 F4,tB,tB,M5,M5];by_cases h:g=[]/\a=0/\x=[]
  ·obtain⟨rfl,rfl,rfl⟩:=h;exact .inr ⟨rfl,by rw[Aa2 F4], .new rfl rfl rfl rfl rfl rfl rfl rfl⟩
  ·refine .inl ⟨?_,?_⟩
   ·congr 1;rw[Bool.eq_false_iff];intro e;simp only[Abd,Abi,Ay,Asv]at e;exact h ⟨e.1.1,e.1.2,e.2⟩
   ·rw[Aa8];simp only[Asx,Abi,Ao,Aw7];by_cases e1:g=[]
    ·by_cases e2:a=0
     ·exact .inr λe3=>h ⟨e1,e2,e3⟩
     ·exact .inl (.inr e2)
    ·exact .inl (.inl e1)
 ·have hz2:¬(((geq f 0)&&((geq c 0)&&((geq w 0)&&((geq r 0)&&((geq n 0)&&true)))))=true):=by
   simp only[Abd,Ay,Asv,Axw];exact hz
  rw[Aa2 hz2,Aa2 hz2];rcases Ag4 f c w r n with⟨F,C,W,R,N,h⟩|⟨e1,e2⟩
  ·rw[h.nY,h.check,Aa,Aa,Aa3];simp only;rw[Aa2 F4,Aa2 F4,Dp];have hf:geq f 1=decide (F=1):=by rw[h.ef,Ay,Alp];simp;omega
   rw[hf];by_cases hp:(o==([]:LB))=decide (F=1)
   ·rw[Aa2 (by rw[hp];simp),Aa,Aa,Aa2 F4,Aa2 F4,ZM,KZ,Nk,Nj,tB,tB,M5];by_cases hg:g=[]
    ·subst hg;rw[Aa8 Axz,Aa8 Axz];by_cases h':a=0/\x=[]
     ·obtain⟨rfl,rfl⟩:=h';exact .inr ⟨rfl,by rw[Aa2 F4], .head F C W R N h hp rfl rfl rfl⟩
     ·refine .inl ⟨?_,?_⟩
      ·congr 1;rw[Bool.eq_false_iff];intro e;simp only[Abd,Abi,Ay,Asv]at e;exact h' e
      ·rw[Aa8];simp only[Asx,Abi,Ao,Aw7];by_cases e2:a=0
       ·exact .inr λe3=>h' ⟨e2,e3⟩
       ·exact .inl e2
    ·rw[Aa2 (by simpa using hg),Aa2 (by simpa using hg),aW,TJ,Aa,Aa];by_cases ht:Xe g=true
     ·rw[Aa8 ht,h.lg];simp only[Aa];by_cases hl:g.length=(Al (Aq R) N).length/\0<=a/\a<=g.length
      ·obtain⟨hl,ha0,ha1⟩:=hl;obtain⟨A,rfl⟩:=Amj ha0;have hA:A<= (Al (Aq R) N).length:=F0
       rw[Aa2 Aye,Aa2 F4,Aa2 Aye,Dc,Aa,ZO];have hh:=h;clear hf;obtain⟨rfl,rfl,rfl,rfl,rfl,hs,hf⟩:=hh;have hlp:=G2 hs hf A hA o p g (A:Int) x u v A 0 Ba F0 (by have:=Ax;have:=xN hf;omega);have h0:BR C W (Al (Aq R) N) 0=0:=by rw[BR,Aw6,Axt];simp
       rw[h0,show((0:Nat):Int)=0 from rfl]at hlp;rw[show((A:Int)).toNat=A from rfl,hlp,U2 hs hf A hA,Aa];by_cases hx:(x.length:Int)<=BR C W (Al (Aq R) N) A
       ·refine .inr ⟨?_,?_, .tab F C W R N A h hp ht hl rfl F0⟩
        ·rw[SK,Ac,Avb hx]
        ·rw[Aa2 Axy]
       ·refine .inl ⟨?_,?_⟩
        ·rw[SK,Ac,At8 hx]
        ·rw[Aa8 Axy]
      ·refine .inl ⟨?_,?_⟩
       ·rw[Aa8 Aye]
       ·rw[Aa2 F4,Aa8 Aye]
     ·refine .inl ⟨?_,?_⟩
      ·rw[Aa2 ht,Aa8 (by simp[Ao])]
      ·rw[Aa2 ht,Aa8 F4,Aa8 Axz]
   ·rw[Aa8 (by simpa using hp),Aa,Aa,Aa8 F4,Aa8 F4];exact .inl ⟨rfl,rfl⟩
  ·rw[e1,e2,Aa,Aa];simp only;rw[Aa8 F4,Aa8 F4];exact .inl ⟨rfl,rfl⟩
theorem Ajg(b:LB)(n:Int):Cd (UM b n).2:=by
 unfold UM
 repeat' split
 all_goals first|decide|exact .inl rfl
theorem Aie(b:LB):(Xl b).2=6\/Cd (Xl b).2:=by
 unfold Xl rJ
 repeat' split
 all_goals first|exact .inl rfl|exact .inr (Ajg _ _)|exact .inr F4
theorem Aez(b:LB):(Iv b).2=6\/Cd (Iv b).2:=by
 unfold Iv
 repeat' split
 all_goals first|exact .inl rfl|exact .inr (.inl rfl)|exact .inr F4
theorem Ajs(b:LB):(Cl b).2=6\/Cd (Cl b).2:=by
 unfold Cl;split
 ·exact Aie b
 ·exact Aez b
theorem D0(b:LB):∀(j p:Nat),p<=b.length->b.length<j+p->Cd (Cb b j p).2
 |0,p,h1,h2=>by omega
 |j+1,p,h1,h2=>by
  rw[Cb];split
  ·exact .inl rfl
  ·rename_i h6;split
   ·exact(Ajs _).resolve_left h6
   ·rename_i h0;split
    ·exact(by decide:Cd 4)
    ·have hz:Cl (b.drop p)=((Cl (b.drop p)).1,0):=by rw[Prod.ext_iff];exact⟨rfl,by simpa using h0⟩
     obtain⟨k1,k2⟩:=dN hz;rw[Aio]at k2;split
     ·exact .inl rfl
     ·exact D0 b j _ F0 F0
theorem oM(b:LB):Cd (Cv b).2:=by
 unfold Cv B0;split
 ·exact .inl rfl
 ·exact D0 b _ _ F0 F0
theorem E5(b:LB):0<= (Cv b).2:=(oM b).nn
theorem zO(b:LB):Cd (Ek b).2.2.2.2.2:=by
 unfold Ek
 repeat' split
 all_goals first|decide|exact .inl rfl
theorem qx(b:LB):0<= (Ek b).2.2.2.2.2:=(zO b).nn
theorem Ali(b:LB){n:Nat}(h:1<=n/\n<=1000):Cd (Hz b n).2:=by
 unfold Hz;rw[Aa2 (λe=>e h)]
 repeat' split
 all_goals first|decide|exact .inl rfl
theorem sw(b:LB)(n:Nat):0<= (Hz b n).2:=by
 unfold Hz
 repeat' split
 all_goals simp
def zW:LB:=[73,68,51]
def A4:LB:=[65,80,69,84,65,71,69,88]
def Qq(b s:LB):Bool:=decide (b.length<s.length)&&(b==s.take b.length)
theorem J6(b s:LB):Pq b s=some (Qq b s):=by
 rw[Pq,Qq];by_cases h:b.length<s.length
 ·rw[Aa8 Aya,Ac,Dc,Aa,Avb h,Avh];rfl
 ·rw[Aa2 Aya,At8 h];rfl
theorem Aj6(b s:LB)(h:b.length<s.length):Hv s b=some (Qq b s):=by
 rw[Hv,Gf,Aa8 Ayo,Ac,Dc,Aa,Aa,Qq,Avb h,Avh,Aly];congr 1;rw[Alp,Asv,Asv];exact eq_comm
theorem eY{b:LB}(h:¬b.length<s.length):Qq b s=false:=by rw[Qq,At8 h];rfl
theorem Ajo(b:LB):Oy b=some (Qq b zW||Qq b A4):=by
 obtain⟨q,hq⟩:∃q,Ba=q+3:=⟨Ba-3,by have:=Ax;omega⟩;have l3:Ip b (q+1) 2=some false:=by rw[Ip,Rv,Aa2 F4];rfl
 have l2:Ip b (q+2) 1=some (Qq b A4):=by
  rw[Ip,Rv,Aa8 F4,show Ak ([([73,68,51]:LB),([65,80,69,84,65,71,69,88]:LB)]:List LB) 1=some A4 from rfl,Aa,show Ae (1:Int) 1=2 from rfl];by_cases h:b.length<A4.length
  ·rw[Aa8 Aya,Aj6 b A4 h,Aa];by_cases hb:Qq b A4=true
   ·rw[Aa8 hb,hb]
   ·rw[Aa2 hb,l3];simpa using hb
  ·rw[Aa2 Aya,l3,eY h]
 rw[Oy,LH,ZE,hq,Ip,Rv,Aa8 F4,show Ak ([([73,68,51]:LB),([65,80,69,84,65,71,69,88]:LB)]:List LB) 0=some zW from rfl,Aa,show Ae (0:Int) 1=1 from rfl];by_cases h:b.length<zW.length
 ·rw[Aa8 Aya,Aj6 b zW h,Aa];by_cases hb:Qq b zW=true
  ·rw[Aa8 hb,hb];rfl
  ·rw[Aa2 hb,l2,Bool.eq_false_iff.2 hb];rfl
 ·rw[Aa2 Aya,l2,eY h];rfl
def W7(b:LB):Int×Int×Int×Int×Int×Int×Int:=
 if(Cv b).2=24 then(0,0,0,0,0,0, -1)else if(Cv b).2≠0 then(0,0,0,0,0,0,(Cv b).2)else
 if(Qq (Td b) zW||Qq (Td b) A4)=true then(0,0,0,0,0,0, -1)else
 if(Ek (Td b)).2.2.2.2.2=24 then(0,0,0,0,0,0, -1)else((Cv b).1+22,(Ek (Td b)).1,(Ek (Td b)).2.1,(Ek (Td b)).2.2.1,(Ek (Td b)).2.2.2.1,(Ek (Td b)).2.2.2.2.1,(Ek (Td b)).2.2.2.2.2)
theorem Zo(b:LB)(hb:b.length<=100000):Wb b=some (W7 b):=by
 rw[Wb,AR,XI b F0,Aa,W7];have hok:=NP (b:=b);simp only;by_cases h1:(Cv b).2=24
 ·rw[Aa8 (by rw[Ay];simpa using h1),Aa8 h1]
 rw[Aa2 (by rw[Ay];simpa using h1),Aa2 h1];by_cases h2:(Cv b).2≠0
 ·rw[Aa8 (by rw[Ao];simpa using h2),Aa8 h2]
 have h0:(Cv b).2=0:=by simpa using h2
 obtain⟨k1,k2,k3⟩:=hok h0;rw[Aa2 (by rw[Ao,h0];simp),Aa2 h2,Dd,Aa,J6,Aa,show b.drop (Cv b).1.toNat=Td b from rfl,show([73,68,51]:LB)=zW from rfl,show([65,80,69,84,65,71,69,88]:LB)=A4 from rfl];by_cases h3:Qq (Td b) zW=true
 ·rw[Aa8 h3,h3,Bool.true_or,Aa8 rfl]
 rw[Aa2 h3,J6,Aa,Bool.eq_false_iff.2 h3,Bool.false_or];by_cases h4:Qq (Td b) A4=true
 ·rw[Aa8 h4,Aa8 h4]
 have hl:(Td b).length<=b.length:=by rw[Td,Aio];omega
 rw[Aa2 h4,Aa2 h4,AO,BA,uQ _ F0,Aa];simp only;by_cases h5:(Ek (Td b)).2.2.2.2.2=24
 ·rw[Aa8 (by rw[Ay];simpa using h5),Aa8 h5]
 ·rw[Aa2 (by rw[Ay];simpa using h5),Aa2 h5,Aj]
theorem Lm{n:Nat}(h:n<=p.length):(p++q).take n=p.take n:=by rw[List.take_append_of_le_length h]
theorem lG{i:Nat}(h:i<p.length):(p++q).getD i 0=p.getD i 0:=by
 rw[List.getD_eq_getElem?_getD,List.getElem?_append_left h,<-List.getD_eq_getElem?_getD]
theorem Ou{a w:Nat}(h:a+w<=p.length:=by omega):part (p++q) a w=part p a w:=by rw[part,Lm h,part]
theorem Ah3(h:Qq p s=false)(hl:p.length<s.length):(p++q).take s.length≠s:=by
 intro e;rw[Qq,Avb hl,Avh]at h;have h1:p=s.take p.length:=by
  have:=congrArg (List.take p.length) e;rw[List.take_take,As0 F0,Lm (Ap4 _),Awh]at this;exact this
 rw[<-h1]at h;simp at h
theorem D3(q:LB)(h:(Xl p).2≠24)(h6:Qq p zW=false):Xl (p++q)=Xl p:=by
 unfold Xl at h⊢;by_cases h3:3<=p.length/\p.take 3=[73,68,51]
 ·have h3':3<= (p++q).length/\ (p++q).take 3=[73,68,51]:=⟨by rw[Ac5];omega,by rw[Lm h3.1];exact h3.2⟩;have n1:¬ ¬(3<=p.length/\p.take 3=[73,68,51]):=λf=>f h3;have n2:¬ ¬(3<= (p++q).length/\ (p++q).take 3=[73,68,51]):=λf=>f h3';rw[Aa2 n1]at h;rw[Aa2 n1,Aa2 n2];by_cases h10:p.length<10
  ·rw[Aa8 h10]at h;exact absurd rfl h
  ·have h10':¬(p++q).length<10:=by rw[Ac5];omega
   rw[Aa2 h10]at h;rw[Aa2 h10,Aa2 h10',Ou,lG F0,lG F0,lG F0];split
   ·rfl
   ·rename_i hc;rw[Aa2 hc]at h;unfold rJ UM at h⊢;rw[lG F0];generalize(TK (part p 6 4) 0).1+10+(if p.getD 5 0=16 then 10 else 0)=n at h⊢;by_cases c1:4000<n
    ·rw[Aa8 c1,Aa8 c1]
    ·rw[Aa2 c1]at h;rw[Aa2 c1,Aa2 c1];by_cases c2:(p.length:Int)<n
     ·rw[Aa8 c2]at h;exact absurd rfl h
     ·have c2':¬((p++q).length:Int)<n:=by rw[Ac5];omega
      rw[Aa2 c2,Aa2 c2',Lm F0,Ou]
 ·rw[Aa8 h3,Aa8];rintro⟨_,h5⟩;by_cases hl:3<=p.length
  ·rw[Lm hl]at h5;exact h3 ⟨hl,h5⟩
  ·exact Ah3 h6 (by simp[zW];omega) h5
theorem Aah(q:LB)(h:(Iv p).2≠24)(h6:Qq p A4=false):Iv (p++q)=Iv p:=by
 unfold Iv at h⊢;by_cases h3:8<=p.length/\p.take 8=tA
 ·have h3':8<= (p++q).length/\ (p++q).take 8=tA:=⟨by rw[Ac5];omega,by rw[Lm h3.1];exact h3.2⟩;have n1:¬ ¬(8<=p.length/\p.take 8=tA):=λf=>f h3;have n2:¬ ¬(8<= (p++q).length/\ (p++q).take 8=tA):=λf=>f h3';rw[Aa2 n1]at h;rw[Aa2 n1,Aa2 n2];by_cases h10:p.length<32
  ·rw[Aa8 h10]at h;exact absurd rfl h
  ·have h10':¬(p++q).length<32:=by rw[Ac5];omega
   have eb:BW (p++q)=BW p:=by rw[BW,BW,Ou,Ou]
   rw[Aa2 h10]at h;rw[Aa2 h10,Aa2 h10',Ou,Ou,eb,Lm (n:=32) F0];split
   ·rfl
   ·rename_i hc;rw[Aa2 hc]at h;by_cases c2:p.length<El (part p 12 4)+32
    ·rw[Aa8 c2]at h;exact absurd rfl h
    ·have c2':¬(p++q).length<El (part p 12 4)+32:=by rw[Ac5];omega
     rw[Aa2 c2,Aa2 c2',Lm F0]
 ·rw[Aa8 h3,Aa8];rintro⟨_,h5⟩;by_cases hl:8<=p.length
  ·rw[Lm hl]at h5;exact h3 ⟨hl,h5⟩
  ·exact Ah3 h6 (by simp[A4];omega) h5
theorem nX(q:LB)(h:(Cl p).2≠24)(h6:(Cl p).2=6->Qq p zW=false/\Qq p A4=false):Cl (p++q)=Cl p:=by
 have Asy:∀s:LB,s.length<=p.length->Qq p s=false:=λs hs=>eY F0;unfold Cl at h h6⊢;by_cases hT:(Xl p).2≠6
 ·rw[Aa8 hT]at h⊢;have h3:Qq p zW=false:=by
   refine Asy _ ?_;unfold Xl at hT;by_cases h3:3<=p.length/\p.take 3=[73,68,51]
   ·simp[zW];omega
   ·rw[Aa8 h3]at hT;exact absurd rfl hT
  rw[D3 q h h3,Aa8 hT]
 ·rw[Aa2 hT]at h h6⊢;have hb:Qq p zW=false/\Qq p A4=false:=by
   by_cases hA:(Iv p).2=6
   ·exact h6 hA
   ·unfold Iv at hA;by_cases h3:8<=p.length/\p.take 8=tA
    ·exact⟨Asy _ (by simp[zW];omega),Asy _ (by simp[A4];omega)⟩
    ·rw[Aa8 h3]at hA;exact absurd rfl hA
  have hT':¬(Xl (p++q)).2≠6:=by
   rw[D3 q (by simp only[ne_eq,Classical.not_not]at hT;rw[hT];decide) hb.1];exact hT
  rw[Aa2 hT',Aah q h hb.2]
theorem vI{p:LB}(q:LB):∀(j s j':Nat),s<=p.length->p.length-s<j->p.length+q.length-s<j'-> (Cb p j s).2≠24->
  ((Cb p j s).2=0->Qq (p.drop (s+(Cb p j s).1.sum.toNat)) zW=false/\Qq (p.drop (s+(Cb p j s).1.sum.toNat)) A4=false)->Cb (p++q) j' s=Cb p j s
 |0,s,j',_,hj,_,_,_=>absurd hj (Nat.not_lt_zero _)
 |j+1,s,0,_,_,hj,_,_=>absurd hj (Nat.not_lt_zero _)
 |j+1,s,j'+1,hs,hj,hj',h,hb=>by
  have ed:(p++q).drop s=p.drop s++q:=Au4 hs;rw[Cb]at h hb⊢;rw[Cb,ed];by_cases h6:(Cl (p.drop s)).2=6
  ·rw[Aa8 h6]at h hb⊢;have hb':=hb rfl;simp only[Axt,Int.toNat_zero,Avl]at hb';rw[nX q (by rw[h6];decide) (λ_=>hb'),Aa8 h6]
  ·rw[Aa2 h6]at h hb⊢;by_cases h0:(Cl (p.drop s)).2≠0
   ·rw[Aa8 h0]at h⊢;rw[nX q h (λe=>absurd e h6),Aa2 h6,Aa8 h0]
   ·rw[Aa2 h0]at h hb⊢;have h0':(Cl (p.drop s)).2=0:=by simpa using h0
    have e1:Cl (p.drop s++q)=Cl (p.drop s):=nX q (by rw[h0'];decide) (λe=>absurd e h6);rw[e1,Aa2 h6,Aa2 h0];have hok:=dN (b:=p.drop s) (n:=(Cl (p.drop s)).1) (by rw[<-h0']);rw[Aio]at hok;by_cases hm:4000<(s:Int)+(Cl (p.drop s)).1
    ·rw[Aa8 hm,Aa8 hm]
    ·rw[Aa2 hm]at h hb⊢;rw[Aa2 hm];have hl1:s+(Cl (p.drop s)).1.toNat<=p.length:=F0
     have ih:=vI (p:=p) q j (s+(Cl (p.drop s)).1.toNat) j' hl1 F0 F0;by_cases hr:(Cb p j (s+(Cl (p.drop s)).1.toNat)).2=0
     ·rw[Aa8 hr]at hb⊢;have hle1:s+(Cl (p.drop s)).1.toNat<=p.length:=F0
      have hle2:s+(Cl (p.drop s)).1.toNat<=4000:=F0
      have hi:=(fS p j (s+(Cl (p.drop s)).1.toNat) hle1 hle2 hr).1;have hsum:(0:Int)<= (Cb p j (s+(Cl (p.drop s)).1.toNat)).1.sum:=by
       have:∀l:LI,(∀x∈l,10<=x)->0<=l.sum:=by
        intro l
        induction l with
        |nil=>intro _;simp
        |cons a l ih=>intro h;rw[As1];have:=h a Axz;have:=ih (λx hx=>h x (by simp[hx]));omega
       exact this _ hi
      rw[ih (by rw[hr];decide) (λ_=>by
       have:=hb rfl;simp only[As1]at this;rw[show s+((Cl (p.drop s)).1+(Cb p j (s+(Cl (p.drop s)).1.toNat)).1.sum).toNat=s+(Cl (p.drop s)).1.toNat+(Cb p j (s+(Cl (p.drop s)).1.toNat)).1.sum.toNat by omega]at this;exact this),Aa8 hr]
     ·rw[Aa2 hr]at h⊢;rw[ih h (λe=>absurd e hr),Aa2 hr]
theorem tP(q:LB)(h:(Cv p).2≠24)(hb:(Cv p).2=0->Qq (Td p) zW=false/\Qq (Td p) A4=false):Cv (p++q)=Cv p:=by
 have key:Cb (p++q) ((p++q).length+1) 0=Cb p (p.length+1) 0:=by
  refine vI q (p.length+1) 0 ((p++q).length+1) (Nat.zero_le _) F0 Ayd ?_ ?_
  ·unfold Cv B0 at h;by_cases h0:(Cb p (p.length+1) 0).2=0
   ·rw[h0];decide
   ·rw[Aa2 h0]at h;exact h
  ·intro h0;have e:Cv p=(((0:Nat):Int)+(Cb p (p.length+1) 0).1.sum,0):=by unfold Cv B0;rw[Aa8 h0]
   have:=hb (by rw[e]);rw[Td,e]at this;simpa using this
 unfold Cv B0;rw[key]
theorem Agp(q:LB)(h:(Ek p).2.2.2.2.2≠24):Ek (p++q)=Ek p:=by
 unfold Ek at h⊢;by_cases h1:p.take (min 4 p.length)≠ZI.take (min 4 p.length)
 ·have h1':(p++q).take (min 4 (p++q).length)≠ZI.take (min 4 (p++q).length):=by
   intro e;have hle:min 4 p.length<=min 4 (p++q).length:=by rw[Ac5];omega
   have:=congrArg (List.take (min 4 p.length)) e;rw[List.take_take,List.take_take,As0 hle,Lm F0]at this;exact h1 this
  rw[Aa8 h1,Aa8 h1']
 ·rw[Aa2 h1]at h;by_cases h2:p.length<22
  ·rw[Aa8 h2]at h;exact absurd rfl h
  ·have h2':¬(p++q).length<22:=by rw[Ac5];omega
   have h1':¬(p++q).take (min 4 (p++q).length)≠ZI.take (min 4 (p++q).length):=by
    rw[As0 F0]at h1⊢;rw[Lm F0];exact h1
   have e0:f0 (p++q)=f0 p:=by unfold f0;rw[Ou]
   have e1:f1 (p++q)=f1 p:=by unfold f1;rw[Ou]
   have e2:f2 (p++q)=f2 p:=by unfold f2;rw[Ou]
   have e3:f3 (p++q)=f3 p:=by unfold f3;rw[Ou]
   have e4:f4 (p++q)=f4 p:=by unfold f4;rw[Ou]
   rw[Aa2 h1,Aa2 h1',Aa2 h2,Aa2 h2',e0,e1,e2,e3,e4,Lm F0,Ou]
theorem Amr(q:LB)(h:(W7 p).2.2.2.2.2.2≠ -1):W7 (p++q)=W7 p:=by
 unfold W7 at h⊢;by_cases h1:(Cv p).2=24
 ·rw[Aa8 h1]at h;exact absurd rfl h
 rw[Aa2 h1]at h;by_cases h2:(Cv p).2≠0
 ·rw[tP q h1 (λe=>absurd e h2),Aa2 h1,Aa8 h2,Aa2 h1,Aa8 h2]
 rw[Aa2 h2]at h;have h0:(Cv p).2=0:=by simpa using h2
 by_cases h3:(Qq (Td p) zW||Qq (Td p) A4)=true
 ·rw[Aa8 h3]at h;exact absurd rfl h
 rw[Aa2 h3]at h;have h3f:Qq (Td p) zW=false/\Qq (Td p) A4=false:=by
  simp only[Bool.not_eq_true,Aw3]at h3;exact h3
 have eF:=tP q h1 (λ_=>h3f);obtain⟨k1,k2,k3⟩:=NP h0;have eH:Td (p++q)=Td p++q:=by rw[Td,eF,Td,Au4 F0]
 by_cases h5:(Ek (Td p)).2.2.2.2.2=24
 ·rw[Aa8 h5]at h;exact absurd rfl h
 have eR:Ek (Td p++q)=Ek (Td p):=Agp q h5;have beg:∀s:LB,Qq (Td p) s=false-> (s=zW\/s=A4)->Qq (Td p++q) s=false:=by
  intro s hs hk;by_cases hl:(Td p++q).length<s.length
  ·have hp:(Td p).length<s.length:=by rw[Ac5]at hl;omega
   rw[Qq,Avb hp,Avh]at hs;rw[Qq,Avb hl,Avh];refine beq_eq_false_iff_ne.2 λe=>?_;have:=congrArg (List.take (Td p).length) e;rw[Lm (Ap4 _),Awh,List.take_take,As0 Ayd]at this;rw[<-this]at hs;simp at hs
  ·exact eY hl
 rw[eF,eH,eR,Aa2 h1,Aa2 h2,beg _ h3f.1 (.inl rfl),beg _ h3f.2 (.inr rfl),Aa2 F4,Aa2 h5,Aa2 h1,Aa2 h2,Aa2 h3]
theorem Ago(q:LB)(n:Nat)(h:(Hz p n).2≠24):Hz (p++q) n=Hz p n:=by
 unfold Hz at h⊢;by_cases h1:1<=n/\n<=1000
 ·have n1:¬ ¬(1<=n/\n<=1000):=λf=>f h1;rw[Aa2 n1]at h;rw[Aa2 n1,Aa2 n1];by_cases h2:p.length<4*n+4
  ·rw[Aa8 h2]at h;exact absurd rfl h
  ·have h2':¬(p++q).length<4*n+4:=by rw[Ac5];omega
   have et:NK (p++q) n=NK p n:=by
    unfold NK;refine Axg λi hi=>?_;rw[List.mem_range]at hi;rw[Ou]
   rw[Aa2 h2,Aa2 h2',Lm F0,Ou,et]
 ·rw[Aa8 h1,Aa8 h1]
def zu(g a:LB)(k p o u v:Int)(f:LI)(b:Int)(h:LB)(m:Bool)(n:Int):Option Int:=
if(geq k 0)then
(Iq a).bind λ(al,ba)=>
if(geq ba 24)then
Dv true 0
else
if(Bf ba 0)then
(Ah ba).bind λ(bx,bz)=>
Dv bx bz
else
(Bl a al (Ac a)).bind λda=>
(Oy da).bind λan=>
if an then
Dv true 0
else
(Bl a al (Ac a)).bind λdb=>
(Ma db).bind λ(ae,af,aa,ag,ab,bb)=>
if(geq bb 24)then
Dv true 0
else
if(Bf bb 0)then
(Ah bb).bind λ(dc,dd)=>
Dv dc dd
else
(
(Bl a (Ae al 22) (Ac a)).bind λak=>
(
Uh g ak ae af aa ag ab b m n f h))
else
if(geq (Ac f) 0)then
if(geq k 2)then
if(Cm (Ac a) 8)then
Ib true 0
else
Uf g a k p o u v b m n f h
else
Ik g a k p o u v b m n f h 0
else
if(Cm b (Ac f))then
(Ak f b).bind λ_=>
(Ak f b).bind λw=>
if(Cm (Ac a) w)then
Ff true 0
else
(Qo g).bind λ(ap,am)=>
if(Bf am 0)then
(Ah am).bind λ(de,df)=>
Ff de df
else
(De k p o u v).bind λ(ad,dg)=>
if((Bf dg 0)||(Mf b (Ac ad)))then
(Ah 8).bind λ(dh,di)=>
Ff dh di
else
CG w g a k p o u v b m n ap ad f h
else
if(Dm (Ac a) 4000)then
(Ah 38).bind λ(dj,bf)=>
Bm ((dj==true)&&((geq bf 0)&&true))
else
Uq
theorem jI(d:Bool)(e:Int):Dv d e=Bm (d&&geq e 0):=by
 rw[Dv,RF];cases d<;>simp
theorem zP(d:Bool)(e:Int):Ib d e=Bm (d&&geq e 0):=by
 rw[Ib,RX];cases d<;>simp
theorem Aa5(d:Bool)(e:Int):Ff d e=Bm (d&&geq e 0):=by
 rw[Ff,RN];cases d<;>simp
theorem Z9{o:LB}{f c w r n:Int}{g:LI}{a:Int}{x:LB}{u:Bool}{v:Int}{t1 t2:LB}{t3 t4 t5 t6 t7:Int}{t8:LI}{t9:Int}{t10:LB}{t11:Bool}{t12 e:Int}
  (h:Ag o p f c w r n g a x u v=some (t1,t2,t3,t4,t5,t6,t7,t8,t9,t10,t11,t12,e)):Cc o p f c w r n g a x u v=some (geq e (-1)):=by
 rw[Cc,Ua,h,Aa]
theorem cU{e:Int}(h:0<=e):geq e (-1)=false:=by rw[Ay,beq_eq_false_iff_ne];omega
theorem Afc(o p:LB)(c w r n:Int)(g:LI)(a:Int)(x:LB)(u:Bool)(v:Int)(hp:p.length<=100000):
  ∃B:Bool,zu o p 0 c w r n g a x u v=Bm B/\Cc o p 0 c w r n g a x u v=some B:=by
 have hT:Ag o p 0 c w r n g a x u v=Ag o p 0 c w r n g a x u v:=rfl
 conv at hT=>rhs;rw[Ag,Bj,Aa8 F4,Zo p hp,Aa,W7]
 have hfn:=E5 p;have hrn:=qx (Td p);rw[zu,Aa8 F4,OH p F0,Aa];have hok:=NP (b:=p);simp only at hT⊢;by_cases h1:(Cv p).2=24
 ·rw[Aa8 h1]at hT;simp only at hT;rw[Aa8 F4]at hT;rw[Aa8 (by rw[Ay];simpa using h1),jI];exact⟨_,rfl,Z9 hT⟩
 rw[Aa2 h1]at hT;rw[Aa2 (by rw[Ay];simpa using h1)];by_cases h2:(Cv p).2≠0
 ·rw[Aa8 h2]at hT;simp only at hT;rw[Aa8 (by rw[Ao];simpa using h2)]at hT;rw[Aa8 (by rw[Ao];simpa using h2),Ah,Aa];simp only;rw[jI];exact⟨_,rfl,(Z9 hT).trans (by rw[cU hfn];rfl)⟩
 have h0:(Cv p).2=0:=by simpa using h2
 obtain⟨k1,k2,k3⟩:=hok h0;have hl:(Td p).length=p.length-(Cv p).1.toNat:=by rw[Td,Aio]
 rw[Aa2 h2]at hT;rw[Aa2 (by rw[Ao,h0];simp),Dd,Aa,Aa,show p.drop (Cv p).1.toNat=Td p from rfl,Ajo,Aa];by_cases h3:(Qq (Td p) zW||Qq (Td p) A4)=true
 ·rw[Aa8 h3]at hT⊢;simp only at hT;rw[Aa8 F4]at hT;rw[jI];exact⟨_,rfl,Z9 hT⟩
 rw[Aa2 h3]at hT⊢;rw[pI _ F0,Aa];by_cases h5:(Ek (Td p)).2.2.2.2.2=24
 ·rw[Aa8 h5]at hT;simp only at hT;rw[Aa8 F4]at hT;rw[Aa8 (by rw[Ay];simpa using h5),jI];exact⟨_,rfl,Z9 hT⟩
 rw[Aa2 h5]at hT;rw[Aa2 (by rw[Ay];simpa using h5)];simp only at hT;by_cases h6:(Ek (Td p)).2.2.2.2.2≠0
 ·rw[Aa8 (by rw[Ao];simpa using h6)]at hT⊢;rw[Ah,Aa];simp only;rw[jI];exact⟨_,rfl,(Z9 hT).trans (by rw[cU hrn];rfl)⟩
 have h7:(Ek (Td p)).2.2.2.2.2=0:=by simpa using h6
 have h22:=(qd h7).2.1;rw[Aa2 (by rw[Ao,h7];simp),Dd,Aa,Fs,Fq,Dp]at hT;rw[Aa2 (by rw[Ao,h7];simp),Aj,Dd,Aa,Uh,SX,Mr];simp only;by_cases h8:((o==([]:LB)) !=geq (Ek (Td p)).1 1)=true
 ·rw[Aa8 h8]at hT⊢;rw[Aa]at hT⊢;rw[Ah,Aa];simp only;rw[jI];exact⟨_,rfl,Z9 hT⟩
 ·rw[Aa2 h8]at hT⊢;rw[Aa]at hT⊢;rw[Ah,Aa];simp only;rw[jI];exact⟨_,rfl,Z9 hT⟩
section
variable {f c w r n:Int} {F C W R N:Nat} (hd:HdI f c w r n F C W R N)
include hd
theorem HdI.ne0:¬(geq f 0=true):=by
 have:=hd.num;rw[Ay,Asv,hd.ef];omega
theorem wF(o p:LB)(hp:p.length<=100000)(A:Nat)(hA:A<=p.length)(a:Int)(x:LB)(u:Bool)(v:Int):
  (Ik o p f c w r n a u v [] x (A:Int)=Bm (decide ((Hz (p.drop A) (Al (Aq R) N).length).2=24)))/\
  Dl p f c w r n (A:Int)=some (if(Hz (p.drop A) (Al (Aq R) N).length).2=24 then(0,[], -1)else((A:Int)+(4*((Hz (p.drop A) (Al (Aq R) N).length).1.length:Int)+4),(Hz (p.drop A) (Al (Aq R) N).length).1,(Hz (p.drop A) (Al (Aq R) N).length).2))/\
  ((Hz (p.drop A) (Al (Aq R) N).length).2=0-> (A:Int)+(4*((Hz (p.drop A) (Al (Aq R) N).length).1.length:Int)+4)<=p.length):=by
 have hs:=K3 (p.drop A) (Al (Aq R) N).length Ax9;have hr:=Akv (p.drop A) (Al (Aq R) N).length Ax9;have hok:=Y1 (b:=p.drop A) (n:=(Al (Aq R) N).length);have hlen:(Hz (p.drop A) (Al (Aq R) N).length).1.length<=1000:=by
  unfold Hz
  repeat' split
  all_goals simp[JD]
  all_goals omega
 have hfit:(Hz (p.drop A) (Al (Aq R) N).length).2=0-> (A:Int)+(4*((Hz (p.drop A) (Al (Aq R) N).length).1.length:Int)+4)<=p.length:=by
  intro h0;obtain⟨k1,k2,k3,k4,_⟩:=hok h0;rw[k1];simp only[JD];rw[Aio]at k4;omega
 refine⟨?_,?_,hfit⟩
 ·rw[Ik,RO,hd.nY,Aa];simp only;rw[Aa2 F4,Dd,Aa,Aly,Ac,hs,Aa];generalize Hz (p.drop A) (Al (Aq R) N).length=z at*
  obtain⟨z1,z2⟩:=z;simp only at*
  by_cases h1:z2=24
  ·rw[Aa8 (by rw[Ay];simpa using h1),zP,Avb h1];rfl
  rw[Aa2 (by rw[Ay];simpa using h1),At8 h1];by_cases h2:z2≠0
  ·rw[Aa8 (by rw[Ao];simpa using h2),Ah,Aa];simp only;rw[zP];rfl
  ·have h0:z2=0:=by simpa using h2
   have:=hfit h0;rw[Aa2 (by rw[Ao,h0];simp),Ac,Abm A z1.length F0 F0,Dd,Aa,zP];rfl
 ·rw[Dl,EX,Dd,Aa,hd.lg,Aa,Ac,Aly,hr,Aa];generalize Hz (p.drop A) (Al (Aq R) N).length=z at*
  obtain⟨z1,z2⟩:=z;simp only at*
  rw[DV,EL];by_cases h1:z2=24
  ·rw[Aa8 (by rw[Ay];simpa using h1),Aa8 h1]
  ·rw[Aa2 (by rw[Ay];simpa using h1),Aa2 h1,Ac,Abm A z1.length F0 F0];congr 2
theorem Al2(o p:LB)(ho:o.length<=64)(hp:p.length<=100000)(a:Int)(x:LB)(u:Bool)(v:Int):
  ∃B:Bool,zu o p f c w r n [] a x u v=Bm B/\Cc o p f c w r n [] a x u v=some B:=by
 have hT:Ag o p f c w r n [] a x u v=Ag o p f c w r n [] a x u v:=rfl
 conv at hT=>rhs;rw[Ag,Bj,Aa2 hd.ne0,Bk,As,Aa8 F4,Ew,Ig]
 rw[zu,Aa2 hd.ne0,Aa8 F4];have fin:∀A:Nat,A<=p.length->Ag o p f c w r n [] a x u v=(Dl p f c w r n (A:Int)).bind (λ(ag,ak,w1)=>
   if(Bf w1 0)then some (o,p,f,c,w,r,n,[],a,x,u,v,w1)else(Bl p ag (Ac p)).bind λal=>some (o,al,f,c,w,r,n,ak,a,x,u,v,0))->
   ∃B:Bool,Ik o p f c w r n a u v [] x (A:Int)=Bm B/\Cc o p f c w r n [] a x u v=some B:=by
  intro A hA hT;obtain⟨t1,t2,t3⟩:=wF hd o p hp A hA a x u v;have hnn:=sw (p.drop A) (Al (Aq R) N).length;rw[t2,Aa]at hT;rw[t1];generalize Hz (p.drop A) (Al (Aq R) N).length=z at*
  obtain⟨z1,z2⟩:=z;simp only at*
  by_cases h1:z2=24
  ·rw[Aa8 h1]at hT;simp only at hT;rw[Aa8 F4]at hT;exact⟨_,rfl,(Z9 hT).trans (by rw[Avb h1];rfl)⟩
  rw[Aa2 h1]at hT;simp only at hT;by_cases h2:z2≠0
  ·rw[Aa8 (by rw[Ao];simpa using h2)]at hT;exact⟨_,rfl,(Z9 hT).trans (by rw[At8 h1,cU hnn])⟩
  ·have h0:z2=0:=by simpa using h2
   have:=t3 h0;rw[Aa2 (by rw[Ao,h0];simp),Dd,Aa]at hT;exact⟨_,rfl,(Z9 hT).trans (by rw[At8 h1];rfl)⟩
 by_cases h2:geq f 2=true
 ·rw[Aa8 h2]at hT⊢;by_cases h8:p.length<8
  ·rw[Aa8 F2]at hT⊢;rw[Aa]at hT;simp only at hT;rw[Aa8 F4]at hT;rw[zP];exact⟨_,rfl,Z9 hT⟩
  ·rw[Aa2 F2]at hT⊢;have h8':(p.take 8).length=8:=by rw[Alg];omega
   rw[Dc,Aa,C7 o ho,Aa]at hT;rw[Uf,SQ,Dc,Aa,show(8:Int).toNat=8 from rfl,Y8 h8' ho,Aa];rw[show(8:Int).toNat=8 from rfl]at hT;simp only;rw[SN,RS,Aa2 F4];by_cases he:(p.take 8==FD (AS o).toNat 8)=true
   ·rw[Aa2 (by rw[bne,he];decide)]at hT;rw[Aa2 (by rw[he];decide)];exact fin 8 F0 hT
   ·have he':(p.take 8==FD (AS o).toNat 8)=false:=by simpa using he
    rw[Aa8 (by rw[bne,he'];decide),Aa]at hT;simp only at hT;rw[Aa8 F4]at hT;rw[Aa8 (by rw[he'];decide),Ah,Aa];simp only;rw[zP];exact⟨_,rfl,Z9 hT⟩
 ·rw[Aa2 h2]at hT⊢;exact fin 0 F0 hT
end
theorem Agz{f c w r n:Int}{F C W R N:Nat}(hd:HdI f c w r n F C W R N)(o p:LB)(ho:o.length<=64)(hp:p.length<=100000)(g:LI)(hg:Xe g=true)(hl:g.length=(Al (Aq R) N).length)(A:Nat)(hA:A<=g.length)(x:LB)(hx:x.length<=14000000)(u:Bool)(v:Int):
  ∃B:Bool,zu o p f c w r n g (A:Int) x u v=Bm B/\Cc o p f c w r n g (A:Int) x u v=some B:=by
 have hc:=hd.ec;subst hc;have hg':=hg;rw[Xe,Abd,Abi,HT g 100000 F0]at hg';obtain⟨⟨g1,g2⟩,g5,g6⟩:=hg';have hT:Ag o p f (C:Int) w r n g (A:Int) x u v=Ag o p f (C:Int) w r n g (A:Int) x u v:=rfl
 conv at hT=>rhs;rw[Ag,Bj,Aa2 hd.ne0,Bk,As,Aa2 (by rw[Ay,Ac];simp;intro e;subst e;simp at g1)]
 rw[zu,Aa2 hd.ne0,Aa2 (by rw[Ay,Ac];simp;intro e;subst e;simp at g1)];by_cases hA2:A=g.length
 ·subst hA2;rw[Aa8 (by rw[Ay,Ac];simp)]at hT;rw[Aa2 Aym];by_cases h4:4000<p.length
  ·rw[Aa8 Axy]at hT⊢;rw[Ah,Aa];simp only;exact⟨_,rfl,Z9 hT⟩
  ·rw[Aa2 Axy]at hT⊢;rw[Uq,SJ];exact⟨_,rfl,Z9 hT⟩
 ·have hlt:A<g.length:=F0
  have h5:=g5 g[A] (Ap8 hlt);have hsum:=tZ g5 g[A] (Ap8 hlt);rw[Aa2 (by rw[Ay,Ac];simp;omega),Bv,Ee,Ch hlt,Aa]at hT;rw[Aa8 F2,Ch hlt,Aa,Aa];by_cases hw:(p.length:Int)<g[A]
  ·rw[Aa8 (by rw[Af,Ac];simpa using hw)]at hT⊢;rw[Aa]at hT;simp only at hT;rw[Aa8 F4]at hT;rw[Aa5];exact⟨_,rfl,Z9 hT⟩
  rw[Aa2 (by rw[Af,Ac];simpa using hw)]at hT⊢;have FC:=hd.num;have hlt2:A<(Al (Aq R) N).length:=F0
  obtain⟨m,hm,m1,m2⟩:=Vj (Jz R) FC.2.2.2.2.1 (Ap8 hlt2);have hb:Ck w:=by rw[hd.ew];unfold Ck;omega
  obtain⟨xs,e,d1,d2,d3,d4⟩:=BE (bits:=w) (ch:=C) (n:=m) (t:=We o) (p.take g[A].toNat) hb (Pb o) FC.2.1.1 FC.2.1.2 m1 F0;have hnn:=E0 hb (Pb o) FC.2.1.1 FC.2.1.2 m1 F0 d2;rw[I4 o ho,Aa];simp only;rw[Aa2 F4,hd.nY,Aa];simp only;rw[Aa2 (by simp[Ao,Dx,Ac];omega),CG,DO,Ch hlt2,Aa,Dc,Aa,Aa,Yq,Aa];simp only;rw[hm,d1,Aa];simp only;rw[UT o ho,Aa]at hT;simp only at hT;rw[Dc,Aa,Fx,Aa]at hT;simp only at hT;rw[hd.lg,Aa,Ch hlt2,Aa,Aa,hm]at hT;rw[d2,Aa]at hT;simp only at hT;rw[Eh,Eb]at hT;rw[EZ,Ut];by_cases he:e≠0
  ·rw[Aa8 (by rw[Ao];simpa using he)]at hT⊢;rw[Aa]at hT;simp only at hT;rw[Aa8 (by rw[Ao];simpa using he)]at hT;rw[Ah,Aa];simp only;rw[Aa5];exact⟨_,rfl,(Z9 hT).trans (by rw[cU hnn];rfl)⟩
  ·have he0:e=0:=by simpa using he
   obtain⟨k1,k2,k3⟩:=d3 he0;have hbl:=HL w xs;rw[Aa2 (by rw[Ao,he0];simp)]at hT⊢;rw[NU hb k2 k1,Aa,Aa]at hT;simp only at hT;rw[Aa2 F4,Cy F6,Aa,Arw,Cy,Aa,Aa,Dd,Aa]at hT;rw[jO hb k2 k1,Aa];simp only;rw[Aa2 F4,Cy,Aa,Dd,Aa,Aa5];exact⟨_,rfl,Z9 hT⟩
theorem jm(a:LI)(b:Int)(ha:a.length<=100):∀(j i q:Nat),i+j=a.length->j<q->∃r,Bt a b q (i:Int)=some r/\Mf r 0=(a.drop i).any λy=>b==y
 |0,i,q+1,hi,_=>by
  refine⟨-1,?_,?_⟩
  ·rw[Bt,Dw,Aa2 F2];rfl
  ·rw[show i=a.length by omega,Avi];rfl
 |j+1,i,q+1,hi,hq=>by
  have hlt:i<a.length:=F0
  obtain⟨r,h1,h2⟩:=jm a b ha j (i+1) q F0 F0;rw[Bt,Dw,Aa8 F2,Ch hlt,Aa,drop_cons hlt,List.any_cons];by_cases h:b=a[i]
  ·rw[Aa8 (by rw[Ay];simpa using h)];refine⟨_,rfl,?_⟩;rw[Dx,Avb F0,h];simp
  ·rw[Aa2 (by rw[Ay];simpa using h),Aj];refine⟨r,h1,?_⟩;rw[h2,beq_eq_false_iff_ne.2 h,Bool.false_or]
theorem Ai8(v:Int):∃B:Bool,Pc v=some B/\Wa v=some B:=by
 obtain⟨r,h1,h2⟩:=jm [4,12,16,22,24,26,38] v F4 7 0 Ba rfl F9;refine⟨_,?_,rfl⟩;rw[Pc,Gu,Ia,Gy,Mb];have h1':Bt [4,12,16,22,24,26,38] v Ba 0=some r:=h1;rw[h1',Aa,Aa,h2];simp only[Axa,List.any_cons,List.any_nil,Bool.or_false,Ay,Bool.or_assoc]
theorem jU(B:Bool):Bm B=some (if B=true then 0 else 8):=by
 rw[Bm,SU];cases B<;>rfl
theorem An3(a b:LB)(f g h k m:Int)(n:LI)(o:Int)(p:LB)(u:Bool)(v:Int)(hb:b.length<=16000000)(hn:n.length<=16000000)(hp:p.length<=16000000):
  Dk a b f g h k m n o p u v=some (a,b,f,g,h,k,m,n,o,p,u,v):=by
 rw[Dk,Kn,Cy F6,Aa,Aa,Kn,Cy F6,Aa,Aa,Fy,Cy F6,Aa,Aa];rfl
theorem nN(o p:LB)(f c w r n:Int)(g:LI)(a:Int)(x:LB)(u:Bool)(v:Int)(hp:p.length<=100000)(hg:g.length<=100000)(hx:x.length<=14000000):
  ∃E,Gc o p f c w r n g a x u v=some E/\Cw o p f c w r n g a x u v=some E:=by
 rw[Gc,Xa,Cw];by_cases ho:64<o.length
 ·rw[Aa8 Axy,Aa8 Axy];exact⟨8,rfl,rfl⟩
 have hO:¬(Dm (Ac o) 64=true):=by rw[Az,Ac];simp;omega
 rw[Aa2 hO,Aa2 hO];by_cases hw:(geq v 0&& !u)=true
 ·rw[Aa8 hw,Aa8 hw,An3 o p f c w r n g a x u v F0 F0 F0,Aa];simp only;rcases zh o p f c w r n g a x u v with⟨e1,e2⟩|⟨e1,e2,hd⟩
  ·rw[e1,e2,Aa,Aa,Aa2 F4,Aa8 F4,jU];exact⟨8,rfl,rfl⟩
  ·rw[e1,e2,Aa,Aa8 rfl];have key:∃B:Bool,zu o p f c w r n g a x u v=Bm B/\Cc o p f c w r n g a x u v=some B:=by
    cases hd with
    |new e1 e2 e3 e4 e5 e6 e7 e8=>subst e1;exact Afc o p c w r n g a x u v hp
    |head F C W R N h hpw e6 e7 e8=>subst e6;exact Al2 h o p F0 hp a x u v
    |tab F C W R N A h hpw ht hl ea hA=>subst ea;exact Agz h o p F0 hp g ht hl A hA x hx u v
   obtain⟨B,k1,k2⟩:=key;rw[k2,Aa];refine⟨if B=true then 0 else 8,k1.trans (jU B),?_⟩;cases B<;>rfl
 ·rw[Aa2 hw,Aa2 hw];by_cases hl:(geq (Ac p) 0&&geq (Ac g) 0)=true
  ·rw[Aa8 hl,Aa8 hl];generalize(geq f 0&&(geq c 0&&(geq w 0&&(geq r 0&&(geq n 0&&true)))))=z;by_cases hz:((z&&geq a 0)&&xI (Ac x) 12000)=true
   ·rw[Aa8 hz];simp only[Abd,SK,Ac,Abi]at hz;obtain⟨⟨z1,z2⟩,z3⟩:=hz;have hN:¬((!(z&&geq a 0)||Dm (Ac x) 12000)=true):=by rw[z1,z2,Az,Ac];simp;omega
    rw[Aa2 hN];by_cases hv:v=0
    ·have v1:geq v 0=true:=by rw[Ay];simpa using hv
     have v2:¬(Bf v 0=true):=by rw[Ao];simpa using hv
     rw[Aa8 v1,Aa2 v2,jU];exact⟨0,rfl,rfl⟩
    ·have v1:¬(geq v 0=true):=by rw[Ay];simpa using hv
     have v2:Bf v 0=true:=by rw[Ao];simpa using hv
     rw[Aa2 v1,Aa8 v2];obtain⟨B,k1,k2⟩:=Ai8 v;rw[k1,k2,Aa,Aa,jU,jU];cases u
     ·refine⟨if B=true then 0 else 8,Axz,?_⟩;cases B<;>rfl
     ·exact⟨8,rfl,rfl⟩
   ·rw[Aa2 hz,Aa8,jU]
    ·exact⟨8,rfl,rfl⟩
    ·simp only[Abd,SK,Ac,Abi]at hz;simp only[Asx,Aqg,Az,Ac,Abi];by_cases hz2:(z&&geq a 0)=true
     ·rw[Abd]at hz2;exact .inr (by have hq:¬((x.length:Int)<=12000):=λh=>hz ⟨hz2,h⟩;omega)
     ·exact .inl (by simpa using hz2)
  ·rw[Aa2 hl,Aa2 hl,Aa2 Axz,Aa8 Axz,jU];exact⟨8,rfl,rfl⟩
end Go.Pl
