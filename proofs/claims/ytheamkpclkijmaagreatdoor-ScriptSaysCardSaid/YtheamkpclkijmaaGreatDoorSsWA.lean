/- A part of a proof (see the text that ends in Proof). No conditions. -/
import Derived.Test.YtheamkpclkijmaaGreatDoorSsPA
import Derived.KernelRfl
set_option linter.unusedVariables false
set_option linter.unusedSimpArgs false
namespace Go.Lv
variable{a b:Int}{l:List UInt8}{n:Nat}{α:Type}
theorem Ak(h: -9223372036854775808<=a+b:=by omega)(h':a+b<=9223372036854775807:=by omega):Ae a b=a+b:=by rw[Aqv,Cz h h']
theorem Cm(h: -9223372036854775808<=a-b:=by omega)(h':a-b<=9223372036854775807:=by omega):Al a b=a-b:=by rw[Aq6,Cz h h']
theorem Jj(h: -9223372036854775808<=a*b:=by omega)(h':a*b<=9223372036854775807:=by omega):Ce a b=a*b:=by rw[Ah4,Cz h h']
theorem PO(c:UInt8):(Ad c:Int)=(c.toNat:Int):=by rw[Ajn,Cz]<;>have:=c.toNat_lt<;>omega
theorem Abb(c:UInt32):(Ad c:Int)=(c.toNat:Int):=by rw[Age,Cz]<;>have:=c.toNat_lt<;>omega
theorem mQ(c:UInt8):(Ad c:UInt64)=UInt64.ofNat c.toNat:=by simp only[Ad,BM,Hx]
theorem Jg(c:UInt32):(Ad c:UInt64)=UInt64.ofNat c.toNat:=by simp only[Ad,Xj,Hx]
theorem aT(c:UInt64):(Ad c:UInt8)=UInt8.ofNat c.toNat:=by simp only[Ad,Jn,Nc]
theorem mX(c:UInt32):(Ad c:UInt8)=UInt8.ofNat c.toNat:=by simp only[Ad,Xj,Nc]
theorem Xt(n:Nat):(Ad (n:Int):UInt64)=UInt64.ofNat n:=by simp only[Ad];exact Hx n
theorem R7(n:Nat):(Ad (n:Int):UInt32)=UInt32.ofNat n:=by simp only[Ad];exact Ez n
theorem Ai6(n:Nat):(Ad (n:Int):UInt8)=UInt8.ofNat n:=by simp only[Ad];exact Nc n
theorem tW{c:UInt64}(h:c.toNat<9223372036854775808):(Ad c:Int)=(c.toNat:Int):=by rw[Aga,Cz]<;>omega
theorem Aen:M2=17179869184:=F5
theorem As:36893488147419103231<Ar:=F5
theorem Cu{l:List α}(h:n<l.length:=by omega):Ah l (n:Int)=some l[n]:=by simp[Ah,h]
theorem Yp{l:List α}(x:α)(h:n<l.length):Mc l (n:Int) x=some (l.set n x):=by simp[Mc,h]
theorem MJ{l:List α}(h:0<=a:=by omega)(h1:a<=b:=by omega)(h2:b<=l.length:=by omega):Bk l a b=some ((l.take b.toNat).drop a.toNat):=by rw[Bk,Aa4 ⟨h,h1,h2⟩]
theorem Dm{l:List α}(h:0<=a:=by omega)(h1:a<=l.length:=by omega):Bk l a (Ac l)=some (l.drop a.toNat):=by
 unfold Ac;rw[MJ h h1 (Int.le_refl _),Amc,Aw1]
theorem Db{l:List α}(h:0<=b:=by omega)(h1:b<=l.length:=by omega):Bk l 0 b=some (l.take b.toNat):=by rw[MJ (Int.le_refl _) h h1];rfl
theorem Ct{l m:List α}(h:l.length+m.length<=17179869184:=by omega):Ck l m=some (l++m):=by rw[Ck,Aen,Aa4 h]
theorem G1{n:Int}{z:α}(h:0<=n:=by omega)(h':n<=17179869184:=by omega):mkI n z=some (List.replicate n.toNat z):=by rw[mkI,Aen,Aa4 ⟨h,h'⟩]
theorem Dt{b:Bool}(h:b=true):Jd b=some ():=by rw[h];rfl
theorem Aa{β:Type}(a:α)(f:α->Option β):Option.bind (some a) f=f a:=rfl
theorem drop_cons{l:List α}(h:n<l.length):l.drop n=l[n]::l.drop (n+1):=List.drop_eq_getElem_cons h
theorem PN{l:List α}(h:n<l.length):l.take (n+1)=l.take n++[l[n]]:=by rw[List.take_add_one,List.getElem?_eq_getElem h];rfl
def Et:List UInt8->Nat
 |[]=>0
 |x::r=>x.toNat+256*Et r
theorem Z3:∀l:List UInt8,Et l<256^l.length
 |[]=>by simp[Et]
 |x::r=>by
  have h:=Z3 r;have:=x.toNat_lt;simp only[Et,Asj,Ar5];omega
theorem zE:∀l m:List UInt8,Et (l++m)=Et l+256^l.length*Et m
 |[],m=>by simp[Et]
 |x::r,m=>by
  simp only[Et,Awi,zE r m,Asj,Ar5,Nat.mul_add];rw[Arf (256^r.length) 256,Au5];omega
def lC(l:List UInt8):UInt64:=UInt64.ofNat (Et l)
theorem Amh(h:l.length<=8):Et l<18446744073709551616:=by
 have h1:=Z3 l;have h2:256^l.length<=256^8:=Aer F0 h;exact Apy h1 (by simpa using h2)
theorem Aew(h:l.length<=4):Et l<4294967296:=by
 have h1:=Z3 l;have h2:256^l.length<=256^4:=Aer F0 h;exact Apy h1 (by simpa using h2)
theorem VE(h:l.length<=8):(lC l).toNat=Et l:=by
 rw[lC,Ai5,Acm (Amh h)]
theorem JO(h:l.length<=4):(Ad (lC l):Int)=(Et l:Int):=by
 have:=Aew h;rw[tW]<;>rw[VE F0];omega
def GM(n:Nat):Nat->List UInt8
 |0=>[]
 |w+1=>UInt8.ofNat n::GM (n/256) w
theorem Pn:∀(w n:Nat),(GM n w).length=w
 |0,_=>rfl
 |w+1,n=>by simp[GM,Pn w]
theorem qx:∀(w n:Nat),GM n (w+1)=GM n w++[UInt8.ofNat (n/256^w)]
 |0,n=>by simp[GM]
 |w+1,n=>by
  rw[GM,qx w (n/256),GM];simp[Awe,Ar5,Arf]
def Ko(p:List UInt8)(i:Nat):Nat:=(p.getD (i/8) 0).toNat/2^(i %8) %2
theorem Zl(p:List UInt8)(i:Nat):Ko p i<2:=Av2 _ F0
def Cy(p:List UInt8):Nat->Nat->Nat
 |_,0=>0
 |a,n+1=>Ko p a+2*Cy p (a+1) n
theorem Sf(p:List UInt8):∀(n a:Nat),Cy p a n<2^n
 |0,_=>by simp[Cy]
 |n+1,a=>by
  have:=Sf p n (a+1);have:=Zl p a;rw[Cy,Ar5];omega
theorem RH(p:List UInt8):∀(m n a:Nat),Cy p a (m+n)=Cy p a m+2^m*Cy p (a+m) n
 |0,n,a=>by simp[Cy]
 |m+1,n,a=>by
  rw[show m+1+n=(m+n)+1 by omega,Cy,Cy,RH p m n (a+1),show a+1+m=a+(m+1) by omega,Ar5,Nat.mul_add,Arf (2^m) 2,Au5];omega
theorem uj(p:List UInt8)(a:Nat):Cy p a 1=Ko p a:=by simp[Cy]
theorem O2(p:List UInt8)(a n:Nat):Cy p a (n+1)=Cy p a n+2^n*Ko p (a+n):=by rw[RH p n 1 a,uj]
theorem tO(p:List UInt8)(a:Nat):∀t:Nat,a %8+t<=8->Cy p a t=(p.getD (a/8) 0).toNat/2^(a %8) %2^t
 |0,_=>by simp[Cy,Nat.mod_one]
 |t+1,h=>by
  have h1:(a+t)/8=a/8:=F0
  have h2:(a+t) %8=a %8+t:=F0
  rw[O2,tO p a t F0,Ko,h1,h2,Nat.mod_pow_succ,Awx,Awe]
theorem O0{p:List UInt8}:∀(n a:Nat),(∀k,k<n->Ko p (a+k)=0)->Cy p a n=0
 |0,_,_=>rfl
 |n+1,a,h=>by
  have h0:=h 0 F0;rw[Cy,O0 n (a+1) λk hk=>by have:=h (k+1) F0;rwa [show a+1+k=a+(k+1) by omega]];rw[Awm]at h0;omega
def okB(p:List UInt8)(n:Nat):Prop:=n<=330000/\p.length=(n+7)/8/\∀k,n<=k->k<8*p.length->Ko p k=0
def HY(p:List UInt8)(a n:Nat):List UInt8:=(List.range ((n+7)/8)).map λj=>UInt8.ofNat (Cy p (a+8*j) (min 8 (n-8*j)))
theorem Pf(p:List UInt8)(a n:Nat):(HY p a n).length=(n+7)/8:=by simp[HY]
theorem ql(p:List UInt8):∀(n a k:Nat),k<n->Cy p a n/2^k %2=Ko p (a+k)
 |n+1,a,0,_=>by have:=Zl p a;rw[Cy];simp;omega
 |n+1,a,k+1,h=>by
  have hb:=Zl p a;have e:(Ko p a+2*Cy p (a+1) n)/2=Cy p (a+1) n:=F0
  rw[Cy,Ar5,Arf (2^k) 2,<-Awe,e,ql p n (a+1) k F0,show a+1+k=a+(k+1) by omega]
theorem Agf(p:List UInt8)(n a k:Nat)(h:n<=k):Cy p a n/2^k %2=0:=by
 have:=Sf p n a;rw[Auw (Apy this (Aer F0 h))]
theorem Ail(p:List UInt8)(a n k:Nat):Ko (HY p a n) k=if k<n then Ko p (a+k)else 0:=by
 rw[Ko];by_cases hj:k/8<(n+7)/8
 ·have e:(HY p a n).getD (k/8) 0=UInt8.ofNat (Cy p (a+8*(k/8)) (min 8 (n-8*(k/8)))):=by
   rw[List.getD_eq_getElem?_getD,List.getElem?_eq_getElem (by rw[Pf];exact hj)];simp[HY]
  have hlt:Cy p (a+8*(k/8)) (min 8 (n-8*(k/8)))<256:=by
   have:=Sf p (min 8 (n-8*(k/8))) (a+8*(k/8));have h2:2^(min 8 (n-8*(k/8)))<=2^8:=Aer F0 F0;omega
  have hu:(UInt8.ofNat (Cy p (a+8*(k/8)) (min 8 (n-8*(k/8))))).toNat=Cy p (a+8*(k/8)) (min 8 (n-8*(k/8))):=by
   rw[Apu];exact Acm hlt
  rw[e,hu];by_cases hk:k<n
  ·rw[Aa4 hk,ql p _ _ _ F0,show a+8*(k/8)+k %8=a+k by omega]
  ·rw[Aa2 hk,Agf p _ _ _ F0]
 ·have e:(HY p a n).getD (k/8) 0=0:=by
   rw[List.getD_eq_getElem?_getD,List.getElem?_eq_none (by rw[Pf];omega)];rfl
  rw[e,Aa2 F0];simp
theorem Adt(p:List UInt8)(a n:Nat)(h:n<=330000):okB (HY p a n) n:=⟨h,Pf p a n,λk hk _=>by rw[Ail,Aa2 F0]⟩
end Go.Lv
namespace Go.Pl
open Go Go.Lv
variable{p:Prop}
theorem F2(h:p:=by rw[Af,Ac];simp;omega):p:=h
theorem Axi(h:p:=by rw[Af];simp;omega):p:=h
theorem Axo(h:p:=by rw[Ek];simp;omega):p:=h
theorem Axq(h:p:=by rw[Ba];simp;omega):p:=h
theorem Axr(h:p:=by simp[Af,Au];omega):p:=h
theorem Axz(h:p:=by unfold Ac;omega):p:=h
theorem Axj(h:p:=by have:=As;omega):p:=h
theorem Axu(h:p:=by rw[Ek];simp):p:=h
theorem Ax9(h:p:=by rw[Ba];simp):p:=h
theorem Ax3(h:p:=by rw[Ba];rfl):p:=h
end Go.Pl
namespace Go.Pl
open Go Go.Lv
variable{i:Nat}{p:Prop}
theorem Ais(b:LB)(hb:b.length<4611686018427387904):∀(j q:Nat),j<=b.length->j<q->Ns b q (lC (b.drop j)) ((j:Int)-1)=some (lC b)
 |0,q+1,_,_=>by
  rw[Ns,BL,Aa2 Axu];simp[RP,QF]
 |j+1,q+1,hj,hq=>by
  rw[Ns,BL,Aa4 Axu,show((j+1:Nat):Int)-1=(j:Int) by omega,Cu,Aa,Cm];have h:Ae (Ce (256:UInt64) (lC (b.drop (j+1)))) (Ad b[j]:UInt64)=lC (b.drop j):=by
   rw[KX,KR,mQ,drop_cons (n:=j) F0,lC,lC,Et,UInt64.ofNat_add,UInt64.ofNat_mul];exact UInt64.add_comm _ _
  rw[h];exact Ais b hb j q F0 F0
theorem yx(b:LB)(hb:b.length<4611686018427387904):Du b=some (lC b):=by
 have h:=Ais b hb b.length Ar (Apn _) Axj;rw[Du,QZ,RB];have e:Al (Ac b) 1=(b.length:Int)-1:=Cm Axz Axz;rw[e,<-h,Avo];rfl
theorem Akh{n c:UInt64}(hn:n.toNat<2^i)(hc:c.toNat*2^i<18446744073709551616):vL n (Eg c i)=UInt64.ofNat (n.toNat+c.toNat*2^i):=by
 rw[Ao7];apply UInt64.toNat_inj.1;rw[UInt64.toNat_or,YY,Acm hc,Arf,Nat.or_comm,<-Aud hn,Ai5,Acm,Axc,Arf];have h:=Aud hn c.toNat;have h2:2^i*c.toNat+n.toNat<2^64:=by
  rw[h];exact Nat.or_lt_two_pow (by rw[Arf];simpa using hc) n.toNat_lt
 rw[Axc];first|exact h2|(rw[Arf];exact h2)
theorem S1(b:LB)(hb:b.length<=8):∀(j i q:Nat),i+j=b.length->j<q->BT b q (lC (b.take i)) (i:Int)=some (lC b,0)
 |0,i,q+1,hi,_=>by
  rw[BT,UA,Aa2 F2,show i=b.length by omega,Aw1];rfl
 |j+1,i,q+1,hi,hq=>by
  have hlt:i<b.length:=F0
  rw[BT,UA,Aa4 F2,Cu hlt,Aa,Jj,Dt Axo,Aa,Ak];have h:vL (lC (b.take i)) (Eg (Ad b[i]:UInt64) (GI.toZ ((8:Int)*(i:Int))).toNat)=lC (b.take (i+1)):=by
   have e:(GI.toZ ((8:Int)*(i:Int))).toNat=8*i:=by show((8:Int)*(i:Int)).toNat=_;omega
   have e2:(2:Nat)^(8*i)=256^i:=by rw[Nat.pow_mul]
   have h1:=Z3 (b.take i);rw[Ah0,As8 F0]at h1;have h3:=b[i].toNat_lt;have hle:(256:Nat)^(i+1)<=256^8:=Aer F0 F0;rw[Ar5]at hle;have h4:(Ad b[i]:UInt64).toNat=b[i].toNat:=by rw[mQ,Ai5];omega
   have h5:b[i].toNat*256^i<18446744073709551616:=by
    have:b[i].toNat*256^i<256*256^i:=Nat.mul_lt_mul_of_pos_right (by simpa using h3) (Av7 F0);simp at hle;omega
   rw[e,Akh (by rw[VE F6,e2];exact h1) (by rw[h4,e2];exact h5),VE F6,h4,e2,PN hlt];rw[lC,zE];simp only[Et,Ah0,As8 (Nat.le_of_lt hlt),Nat.mul_zero,Awm];rw[Arf]
  rw[h];exact S1 b hb j (i+1) q F0 F0
theorem zn(b:LB)(h1:1<=b.length)(h2:b.length<=8):fD b=some (lC b,0):=by
 have h:=S1 b h2 b.length 0 Ar F0 Axj;rw[fD,iJ,Aa2 (by simp[Af,Au,Ac];omega),vP];exact h
def part(b:LB)(at' w:Nat):LB:=(b.take (at'+w)).drop at'
theorem Ec{b:LB}{a w:Nat}(h:a+w<=b.length:=by omega):(part b a w).length=w:=by simp[part];omega
theorem N3(b:LB)(a w:Nat)(h1:1<=w)(h2:w<=8)(h3:a+w<=b.length)(hb:b.length<4611686018427387904):YA b (a:Int) (w:Int)=some (lC (part b a w),0):=by
 rw[YA,Aa2 Axr,Aa2 (by rw[Au,Cm Axz Axz,Ac];simp;omega),Ak,MJ,Aa];rw[show((a:Int)+(w:Int)).toNat=a+w by omega,show(a:Int).toNat=a by omega];rw[zn _ (by rw[show((b.take (a+w)).drop a).length=_ from Ec h3];exact h1) (by rw[show((b.take (a+w)).drop a).length=_ from Ec h3];exact h2),Aa];rfl
theorem uO(w:Nat)(hw:w<=1000):∀(j i q:Nat) (n:UInt64) (acc:LB),i+j=w->j<q->acc.length+j<=1000000->Hu (w:Int) q n (i:Int) acc=some (acc++GM n.toNat j)
 |0,i,q+1,n,acc,hi,_,_=>by
  rw[Hu,Rl,Aa2 Axi];simp[BQ,CF,GM]
 |j+1,i,q+1,n,acc,hi,hq,ha=>by
  rw[Hu,Rl,Aa4 Axi];have e:(Ad (CX n (256:UInt64)):UInt8)=UInt8.ofNat n.toNat:=by
   rw[aT,oo];apply UInt8.toNat_inj.1;rw[Apu,Apu,UInt64.toNat_mod]
   show n.toNat %256 %256=_;omega
  have e2:(Cq n (256:UInt64)).toNat=n.toNat/256:=by rw[qO,Aw0];rfl
  rw[Ct F6,Aa,Ak,e];have h:=uO w hw j (i+1) q (Cq n 256) (acc++[UInt8.ofNat n.toNat]) F0 F0 F6;rw[e2]at h;rw[show((i:Int)+1)=((i+1:Nat):Int) by omega,h,GM];simp
theorem C7(n:UInt64)(w:Nat)(hw:w<=1000):El n (w:Int)=some (GM n.toNat w):=by
 rw[El,CN,CD];have h:=uO w hw w 0 Ar n [] F0 Axj F6;simpa using h
theorem iO{α:Type}{l m:List α}{x y:α}(h:l.length=i):(l++x::m).set i y=l++y::m:=by subst h;simp
theorem M7(n:UInt64)(l4:LB)(w:Nat)(hl:l4.length=w)(hw:w<=8):∀(j i q:Nat),i+j=w->j<q->CP n l4 q (i:Int) (GM n.toNat i++List.replicate j 0)=some (GM n.toNat w,0)
 |0,i,q+1,hi,_=>by
  rw[CP,TU,Aa2 F2];obtain rfl:i=w:=F0
  simp[eK,vM]
 |j+1,i,q+1,hi,hq=>by
  have hlen:(GM n.toNat i++List.replicate (j+1) 0).length=i+(j+1):=by simp[Pn]
  rw[CP,TU,Aa4 F2,Jj,Dt Axo,Aa,Cu (by rw[hlen];omega),Aa,Yp _ (by rw[hlen];omega),Aa,Ak];have e:(Ad (Cs n (GI.toZ ((8:Int)*(i:Int))).toNat):UInt8)=UInt8.ofNat (n.toNat/256^i):=by
   have e:(GI.toZ ((8:Int)*(i:Int))).toNat=8*i:=by show((8:Int)*(i:Int)).toNat=_;omega
   rw[e,aT,MA,Nat.pow_mul]
  rw[e,Auv,iO (Pn _ _)];have h:=M7 n l4 w hl hw j (i+1) q F0 F0;rw[qx]at h;simpa using h
theorem Ape(n:UInt64)(w:Nat)(h1:1<=w)(h2:w<=8)(h:n.toNat<256^w):xI n (w:Int)=some true:=by
 rw[xI];by_cases h8:w=8
 ·subst h8;rw[Aa4 Ax3]
 ·rw[Aa2 Axq,Jj,Dt Axo,Aa];have e:(GI.toZ ((8:Int)*(w:Int))).toNat=8*w:=by show((8:Int)*(w:Int)).toNat=_;omega
  rw[e,wX];have:Cs n (8*w)=0:=by
   apply UInt64.toNat_inj.1;rw[MA,Nat.pow_mul];exact Auw h
  rw[this];rfl
theorem E7(n:UInt64)(w:Nat)(h1:1<=w)(h2:w<=8)(h:n.toNat<256^w):Zd n (w:Int)=some (GM n.toNat w,0):=by
 rw[Zd,fW,Aa2 Axr,Ape n w h1 h2 h,Aa,Aa2 Axl,G1,Aa,Dt Ax9,Aa,vN];have h:=M7 n (List.replicate (w:Int).toNat 0) w Axl h2 w 0 Ar F0 Axj;simpa [GM]using h
theorem Axn(h:p:=by rw[Au];simp;omega):p:=h
theorem Axm(h:p:=by rw[Am];simp):p:=h
end Go.Pl
namespace Go.Pl
open Go Go.Lv
variable{p:LB}
theorem vg(n:Nat)(h:n<4611686018427387904):Ex (n:Int) (7:Int)=((n %8:Nat):Int):=by
 have e:Ex (n:Int) (7:Int)=wrap64 ((BitVec.ofInt 64 (n:Int)&&&BitVec.ofInt 64 7).toNat:Int):=rfl;rw[e,BitVec.toNat_and,Avf,Avf];have h1:((n:Int) %((2^64:Nat):Int)).toNat=n:=F0
 have h2:((7:Int) %((2^64:Nat):Int)).toNat=2^3-1:=F5
 rw[h1,h2,Awg,Cz F0 F0]
theorem Asu(n:Nat):Y5 (n:Int) (GI.toZ (3:UInt64)).toNat=((n/8:Nat):Int):=by
 have e:Y5 (n:Int) (GI.toZ (3:UInt64)).toNat=(n:Int).fdiv 8:=rfl;rw[e,Ar0 _ F0];omega
theorem At3{t:Nat}(h:t<=8):Al (Eg (1:UInt8) t) (1:UInt8)=UInt8.ofNat (2^t-1):=by
 have:t=0\/t=1\/t=2\/t=3\/t=4\/t=5\/t=6\/t=7\/t=8:=F0
 rcases this with rfl|rfl|rfl|rfl|rfl|rfl|rfl|rfl|rfl<;>decide
theorem bitsOf(c:UInt8)(off t:Nat)(h:t<=8):(Ex (Cs c off) (Al (Eg (1:UInt8) t) (1:UInt8))).toNat=c.toNat/2^off %2^t:=by
 have hp:2^t<=2^8:=Aer F0 h;rw[At3 h,Amt,UInt8.toNat_and,Ae7,Apu,Acm (by have:=Av7 (n:=t) (show 0<2 by omega);omega),Awg]
theorem D0{k:Nat}(h:k<p.length):Ah p (k:Int)=some (p.getD k 0):=by
 rw[Cu h];simp[List.getD_eq_getElem?_getD,h]
def Vu(p:LB)(a n:Nat):UInt64:=UInt64.ofNat (Cy p a n)
theorem GA(p:LB)(a n:Nat)(h:n<=64):(Vu p a n).toNat=Cy p a n:=by
 have h1:=Sf p n a;have h2:2^n<=2^64:=Aer F0 h;rw[Vu,Ai5,Acm F0]
theorem um(p:LB)(N:Int)(a n:Nat)(hn:n<=64)(ha:a+n<=8*p.length)(hp:p.length<=1000000):∀(j h q:Nat),h+j=n->j<q->KN (a:Int) (n:Int) p N q (Vu p a h) (h:Int)=some (Vu p a n)
 |j,h,q+1,hj,hq=>by
  rw[KN,gB];by_cases hlt:h<n
  ·have e1:Ae (a:Int) (h:Int)=((a+h:Nat):Int):=by rw[Ak];omega
   have e2:Dx (Al (n:Int) (h:Int)) (Al (8:Int) (((a+h) %8:Nat):Int))=((min (n-h) (8-(a+h) %8):Nat):Int):=by
    rw[HZ,Cm,Cm];omega
   have hm:(a+h)/8<p.length:=F0
   rw[Aa4 Axi,e1,Asu,D0 hm,Aa,vg _ F0,Dt Axo,Aa,e2,Dt Axu,Aa,Dt Axu,Aa];generalize hT:min (n-h) (8-(a+h) %8)=T;have hT8:T<=8:=F0
   have hT1:1<=T:=F0
   have hb:(a+h) %8+T<=8:=F0
   have hv:=tO p (a+h) T hb;have z1:(GI.toZ (((a+h) %8:Nat):Int)).toNat=(a+h) %8:=rfl;have z2:(GI.toZ ((T:Nat):Int)).toNat=T:=rfl;have z3:(GI.toZ ((h:Nat):Int)).toNat=h:=rfl;rw[z1,z2,z3];have hx:(Ad (Ex (Cs (p.getD ((a+h)/8) 0) ((a+h) %8)) (Al (Eg (1:UInt8) T) (1:UInt8))):UInt64).toNat=Cy p (a+h) T:=by
    rw[mQ,Ai5,bitsOf _ _ _ hT8,<-hv];have:=Sf p T (a+h);have h2:2^T<=2^8:=Aer F0 hT8;omega
   have hlt2:=Sf p (h+T) a;rw[RH]at hlt2;have h64:2^(h+T)<=2^64:=Aer F0 F0;have hor:vL (Vu p a h) (Eg (Ad (Ex (Cs (p.getD ((a+h)/8) 0) ((a+h) %8)) (Al (Eg (1:UInt8) T) (1:UInt8))):UInt64) h)=Vu p a (h+T):=by
    rw[Akh (by rw[GA p a h F0];exact Sf p h a) (by rw[hx,Arf];omega),hx,GA p a h F0,Vu,RH,Arf (2^h)]
   rw[hor,Ak,show(h:Int)+((T:Nat):Int)=((h+T:Nat):Int) by omega];exact um p N a n hn ha hp (j-T) (h+T) q F0 F0
  ·rw[Aa2 Axi,show h=n by omega];rfl
theorem get_eq(p:LB)(N:Int)(a n:Nat)(hn:n<=64)(ha:a+n<=8*p.length)(hp:p.length<=1000000):qM p N (a:Int) (n:Int)=some (Vu p a n):=by
 have:=um p N a n hn ha hp n 0 Ar F0 Axj;exact this
theorem PR{n:Nat}(h:okB p n):Kk p (n:Int)=some 0:=by
 obtain⟨h1,h2,h3⟩:=h;have e7:Ae (n:Int) 7=((n+7:Nat):Int):=by rw[Ak];omega
 rw[Kk,e7,Asu,Aa2 (by simp[Af,Au,Am,Ac,h2];omega),vg _ F0];by_cases hz:n %8=0
 ·rw[Aa2 Axn]
 ·have el:Al (Ac p) 1=((p.length-1:Nat):Int):=by rw[Ac,Cm];omega
  rw[Aa4 Axn,el,D0 F0,Aa,Dt Axo,Aa];have z:(GI.toZ ((n %8:Nat):Int)).toNat=n %8:=rfl;have hs:Cs (p.getD (p.length-1) 0) (n %8)=0:=by
   apply UInt8.toNat_inj.1;rw[Ae7];have hv:=tO p n (8-n %8) F0;have h0:Cy p n (8-n %8)=0:=O0 _ _ λk hk=>h3 _ F0 F0;rw[h0,show n/8=p.length-1 by omega]at hv;have hlt:(p.getD (p.length-1) 0).toNat/2^(n %8)<2^(8-n %8):=by
    have:=(p.getD (p.length-1) 0).toNat_lt;rw[Nat.div_lt_iff_lt_mul (Av7 F0),<-Awx,show 8-n %8+n %8=8 by omega];simpa using this
   rw[Acm hlt]at hv;exact hv.symm
  rw[z,hs,Aa2 (by rw[Ace];simp)]
theorem tZ{N:Nat}(h:okB p N)(a n:Nat)(hn:n<=64):FB p (N:Int) (a:Int) (n:Int)=some (if N<a+n then(0,24)else(Vu p a n,0)):=by
 obtain⟨h1,h2,h3⟩:=h;rw[FB,PR ⟨h1,h2,h3⟩,Aa,Aa2 Axm,Aa2 Axr,Cm];by_cases hl:N<a+n
 ·rw[Aa4 Axn,Aa4 hl]
 ·rw[Aa2 Axn,get_eq p N a n hn F0 F0,Aa,Aa2 hl]
theorem Aux(c:Nat)(h:c<4611686018427387904):Cq (c:Int) (2:Int)=((c/2:Nat):Int):=by
 rw[ML,Aue F0,Cz F0 F0];omega
theorem Asv(c:Nat)(h:c<4611686018427387904):Cq (c:Int) (8:Int)=((c/8:Nat):Int):=by
 rw[ML,Aue F0,Cz F0 F0];omega
theorem Aig(c:Nat):Hk (c:Int) (8:Int)=((c %8:Nat):Int):=by rw[Hk,Awc F0];omega
theorem Avg(c:Nat):Hk (c:Int) (2:Int)=((c %2:Nat):Int):=by rw[Hk,Awc F0];omega
theorem Aec(i c:Nat)(hc:c<256):∀(j k q:Nat),k+j=i %8->j<q->Nx (i:Int) q ((c/2^k:Nat):Int) (k:Int)=some (((c/2^(i %8) %2:Nat):Int))
 |0,k,q+1,hk,_=>by
  rw[Nx,AV,Aig,Aa2 Axi,SS,SE,Avg,show k=i %8 by omega]
 |j+1,k,q+1,hk,hq=>by
  have hle:c/2^k<=c:=Asm _ _;rw[Nx,AV,Aig,Aa4 Axi,Aux _ F0,Ak,Awe,<-Ar5];exact Aec i c hc j (k+1) q F0 F0
theorem rW(p:LB)(N:Int)(i:Nat)(h:i/8<p.length)(hi:i<4611686018427387904):Ln p N (i:Int)=some ((Ko p i:Nat):Int):=by
 have hc:=(p.getD (i/8) 0).toNat_lt;have:=Aec i (p.getD (i/8) 0).toNat (by simpa using hc) (i %8) 0 Ar F0 Axj;rw[Ln,SI,Asv _ hi,D0 h,Aa,PO,SG];simpa [Ko]using this
theorem A5(p:LB)(N:Int)(a n:Nat)(ha:a+n<=8*p.length)(hp:p.length<=1000000):∀(j q:Nat),j<=n->j<q->Jq (a:Int) p N q (Vu p (a+j) (n-j)) ((j:Int)-1)=some (Vu p a n)
 |0,q+1,_,_=>by
  rw[Jq,Uh,Aa2 Axu];rfl
 |j+1,q+1,hj,hq=>by
  have hb:=Zl p (a+j);rw[Jq,Uh,show((j+1:Nat):Int)-1=(j:Int) by omega,Aa4 Axu,Ak (a:=(a:Int)) F0 F0,show(a:Int)+(j:Int)=((a+j:Nat):Int) by omega,rW p N (a+j) F0 F0,Aa,Cm];have e:Ae (Ce (2:UInt64) (Vu p (a+(j+1)) (n-(j+1)))) (Ad ((Ko p (a+j):Nat):Int):UInt64)=Vu p (a+j) (n-j):=by
   rw[KX,KR,Xt,Vu,Vu,show n-j=(n-(j+1))+1 by omega,Cy,show a+j+1=a+(j+1) by omega,UInt64.ofNat_add,UInt64.ofNat_mul];exact UInt64.add_comm _ _
  rw[e];exact A5 p N a n ha hp j q F0 F0
theorem lZ(p:LB)(N:Int)(a n:Nat)(ha:a+n<=8*p.length)(hp:p.length<=1000000):Sr p N (a:Int) (n:Int)=some (Vu p a n):=by
 have:=A5 p N a n ha hp n Ar (Apn _) Axj;have hz:Vu p (a+n) (n-n)=0:=by rw[Nat.sub_self];rfl
 rw[hz]at this;rw[Sr,HG,GX,Cm];exact this
theorem Ae8(bit:Int)(N:Nat)(l:LB):∀(j k q:Nat),k+j=N %8->j<q->Mb bit (N:Int) l q ((2^k:Nat):Int) (k:Int)=Yg bit ((2^(N %8):Nat):Int) (N:Int) l
 |0,k,q+1,hk,_=>by
  rw[Mb,Zc,Aig,Aa2 Axi,show k=N %8 by omega]
 |j+1,k,q+1,hk,hq=>by
  have hp:2^k<=2^8:=Aer F0 F0;have e:Ce ((2^k:Nat):Int) 2=((2^(k+1):Nat):Int):=by
   rw[Ar5];generalize 2^k=K at*
   rw[Jj];omega
  rw[Mb,Zc,Aig,Aa4 Axi,e,Ak];exact Ae8 bit N l j (k+1) q F0 F0
theorem D5(p:LB)(a n j:Nat)(h:j<(n+7)/8):(HY p a n)[j]'(by rw[Pf];exact h)=UInt8.ofNat (Cy p (a+8*j) (min 8 (n-8*j))):=by simp[HY]
theorem Aay(p:LB)(a t:Nat)(h:t<=8):Cy p a t<256:=by
 have h1:=Sf p t a;have h2:2^t<=2^8:=Aer F0 h;omega
def room(p:LB)(a n:Nat):LB:=if n %8=0 then HY p a n++[0]else HY p a n
theorem Zh(p:LB)(a n:Nat):(room p a n).length=n/8+1:=by
 rw[room];split<;>simp[Pf]<;>omega
theorem Aao(p:LB)(a n j:Nat)(h:j<n/8+1):(room p a n)[j]'(by rw[Zh];exact h)=UInt8.ofNat (Cy p (a+8*j) (min 8 (n-8*j))):=by
 have h0:(room p a n)[j]? =some (UInt8.ofNat (Cy p (a+8*j) (min 8 (n-8*j)))):=by
  rw[room];split
  ·by_cases hj:j<(n+7)/8
   ·rw[List.getElem?_append_left (by rw[Pf];exact hj),List.getElem?_eq_getElem (by rw[Pf];exact hj),D5 p a n j hj]
   ·rw[List.getElem?_append_right (by rw[Pf];omega),Pf,show j-(n+7)/8=0 by omega,show n-8*j=0 by omega];rfl
  ·rw[List.getElem?_eq_getElem (by rw[Pf];omega),D5 p a n j F0]
 rw[List.getElem?_eq_getElem (by rw[Zh];exact h)]at h0;exact Awu h0
theorem Aac(p:LB)(a n T:Nat)(h1:1<=T)(h:n %8+T<=8):(room p a n).set (n/8) (UInt8.ofNat (Cy p (a+8*(n/8)) (n %8+T)))=HY p a (n+T):=by
 apply Aur (by rw[Avh,Zh,Pf];omega);intro j g1 g2;rw[Avh,Zh]at g1;rw[Aw2,D5 p a (n+T) j (by rw[Pf]at g2;exact g2)];split
 ·rename_i e;subst e;rw[show min 8 (n+T-8*(n/8))=n %8+T by omega]
 ·rw[Aao p a n j g1,show min 8 (n-8*j)=8 by omega,show min 8 (n+T-8*j)=8 by omega]
theorem P4(p:LB)(a n:Nat):(room p a n)[n/8]'(by rw[Zh];omega)=UInt8.ofNat (Cy p (a+8*(n/8)) (n %8)):=by
 rw[Aao p a n _ F0,show min 8 (n-8*(n/8))=n %8 by omega]
theorem Ah9(p:LB)(a n:Nat)(hn:n<=400000):Xg (HY p a n) (n:Int) ((Ko p (a+n):Nat):Int)=some (HY p a (n+1),((n+1:Nat):Int)):=by
 have hb:=Zl p (a+n);have hp:2^(n %8)<=2^7:=Aer F0 F0;have hroom:Xg (HY p a n) (n:Int) ((Ko p (a+n):Nat):Int)=Yj ((Ko p (a+n):Nat):Int) (n:Int) (room p a n):=by
  rw[Xg,NY,Aig,room];by_cases h0:n %8=0
  ·rw[Aa4 (by rw[Ba,h0];rfl),Ct (by rw[Pf];simp;omega),Aa,Aa4 h0]
  ·rw[Aa2 Axq,Aa2 h0]
 have hl:=Ae8 ((Ko p (a+n):Nat):Int) n (room p a n) (n %8) 0 Ar F0 Axj;rw[hroom,Yj,OH,NU];refine Av6 hl ?_;have hg:Ah (room p a n) ((n/8:Nat):Int)=some (UInt8.ofNat (Cy p (a+8*(n/8)) (n %8))):=by
  rw[Cu (by rw[Zh];omega),P4]
 have hlt:=Aay p (a+8*(n/8)) (n %8+1) F0;have hsn:=O2 p (a+8*(n/8)) (n %8);rw[show a+8*(n/8)+n %8=a+n by omega]at hsn;have hm:Ce ((Ko p (a+n):Nat):Int) ((2^(n %8):Nat):Int)=((2^(n %8)*Ko p (a+n):Nat):Int):=by
  have hle:2^(n %8)*Ko p (a+n)<=2^7*1:=Aun hp F0;rw[Ah4,<-Auc,Cz F0 (by rw[Arf];omega),Arf]
 have hx:Ae (UInt8.ofNat (Cy p (a+8*(n/8)) (n %8))) (Ad (((2^(n %8)*Ko p (a+n):Nat):Int)):UInt8)=UInt8.ofNat (Cy p (a+8*(n/8)) (n %8+1)):=by
  rw[Ao1,Ai6,hsn,UInt8.ofNat_add]
 rw[Yg,NW,Asv _ F0,hg,Aa,Aa,Aa,hm,hx,Yp _ (by rw[Zh];omega),Aa,Aac p a n 1 F0 F0,Ak];rfl
theorem qQ(p:LB)(N:Int)(a n:Nat)(ha:a+n<=8*p.length)(hp:p.length<=1000000)(hn:n<=300000):∀(j m q:Nat),m+j=n->j<q->Hw ((a+n:Nat):Int) p N q ((a+m:Nat):Int) (m:Int) (HY p a m)=some (HY p a n,(n:Int))
 |0,m,q+1,hm,_=>by
  rw[Hw,Rk,Aa2 Axi,show m=n by omega];rfl
 |j+1,m,q+1,hm,hq=>by
  rw[Hw,Rk,Aa4 Axi,rW p N (a+m) F0 F0,Aa,Ah9 p a m F0,Aa];simp only;rw[Ak];exact qQ p N a n ha hp hn j (m+1) q F0 F0
theorem ko(p:LB)(N:Int)(a n:Nat)(ha:a+n<=8*p.length)(hp:p.length<=1000000)(hn:n<=300000):KQ p N (a:Int) ((a+n:Nat):Int)=some (HY p a n,(n:Int)):=by
 have:=qQ p N a n ha hp hn n 0 Ar F0 Axj;exact this
theorem Ax7{p:Prop}(h:p:=by rw[Au];simp):p:=h
end Go.Pl
namespace Go.Pl
open Go Go.Lv
variable{t:Nat}{p:Prop}
theorem Aqj(h:t<=8):Al (Eg (1:UInt64) t) (1:UInt64)=UInt64.ofNat (2^t-1):=by
 have:t=0\/t=1\/t=2\/t=3\/t=4\/t=5\/t=6\/t=7\/t=8:=F0
 rcases this with rfl|rfl|rfl|rfl|rfl|rfl|rfl|rfl|rfl<;>decide
theorem Avb(v:UInt64)(h:t<=8):(Ex v (Al (Eg (1:UInt64) t) (1:UInt64))).toNat=v.toNat %2^t:=by
 have hp:2^t<=2^8:=Aer F0 h;rw[Aqj h,C6,UInt64.toNat_and,Ai5,Acm (by have:=Av7 (n:=t) (show 0<2 by omega);omega),Awg]
theorem or8{v w i:Nat}(hv:v<2^i)(hw:w*2^i<256)(hi:i<8):vL (UInt8.ofNat v) (Eg (UInt8.ofNat w) i)=UInt8.ofNat (v+w*2^i):=by
 have hp:2^i<=2^8:=Aer F0 F0;have hpos:0<2^i:=Av7 F0;have hw2:w<256:=Aut (Nat.le_mul_of_pos_right w hpos) hw;rw[Aqq];apply UInt8.toNat_inj.1;have e1:(UInt8.ofNat v).toNat=v:=by rw[Apu,Acm F0]
 have e2:(UInt8.ofNat w).toNat=w:=by rw[Apu,Acm F0]
 rw[UInt8.toNat_or,Anx,e1,e2,Acm hw,Arf w,Nat.or_comm,<-Aud hv,Apu,Axc v];rw[Arf]at hw;have hb:2^i*w+v<256:=by
  rw[Aud hv];exact Nat.or_lt_two_pow (n:=8) hw F0
 rw[Acm hb]
theorem Aj0(p:LB)(a n T:Nat)(h:T<=n)(hn:n<=64):Cs (Vu p a n) T=Vu p (a+T) (n-T):=by
 apply UInt64.toNat_inj.1;rw[MA,GA p a n hn,GA p (a+T) (n-T) F0];have:=Sf p T a
 conv=>lhs;rw[show n=T+(n-T) by omega,RH,Nat.add_mul_div_left _ _ (Av7 F0),Auw this,Av9]
theorem Ak7(p:LB)(a n T:Nat)(h:T<=n)(hn:n<=64):(Vu p a n).toNat %2^T=Cy p a T:=by
 have:=Sf p T a;rw[GA p a n hn]
 conv=>lhs;rw[show n=T+(n-T) by omega,RH,Nat.add_mul_mod_self_left,Acm this]
theorem B7(bk:Int->Int->LB->Option (LB×Int×Int))(to':Int)(p:LB)(N fr:Int)(r6:UInt64)(a:Nat):∀(j m q:Nat),m+j<=300000->j<=64->j<q->
  Pm bk to' p N fr r6 q (Vu p (a+m) j) (j:Int) (m:Int) (HY p a m)=OR bk to' p N fr ((m+j:Nat):Int) (HY p a (m+j))
 |0,m,q+1,_,_,_=>by
  rw[Pm,OX,Aa2 Ax7];rfl
 |j+1,m,q+1,hm,hj,hq=>by
  have hroom:Pm bk to' p N fr r6 (q+1) (Vu p (a+m) (j+1)) ((j+1:Nat):Int) (m:Int) (HY p a m)=OY (Pm bk to' p N fr r6 q) to' fr p N r6 (Vu p (a+m) (j+1)) ((j+1:Nat):Int) (m:Int) (room p a m):=by
   rw[Pm,OX,Aa4 Ax7,vg m F0,room];by_cases h0:m %8=0
   ·rw[Aa4 (by rw[Ba,h0];rfl),Ct (by rw[Pf];simp;omega),Aa,Aa4 h0]
   ·rw[Aa2 Axq,Aa2 h0]
  have hl:Al (Ac (room p a m)) 1=((m/8:Nat):Int):=by
   rw[Ac,Zh,Cm];omega
  have e2:Dx ((j+1:Nat):Int) (Al (8:Int) ((m %8:Nat):Int))=((min (j+1) (8-m %8):Nat):Int):=by
   rw[HZ,Cm];omega
  rw[hroom,OY,rE,vg m F0,e2,hl];generalize hT:min (j+1) (8-m %8)=T;have hT1:1<=T:=F0
  have hT8:m %8+T<=8:=F0
  have hg:Ah (room p a m) ((m/8:Nat):Int)=some (UInt8.ofNat (Cy p (a+8*(m/8)) (m %8))):=by
   rw[Cu (by rw[Zh];omega),P4]
  have z1:(GI.toZ ((m %8:Nat):Int)).toNat=m %8:=rfl;have z2:(GI.toZ ((T:Nat):Int)).toNat=T:=rfl;have hlt:=Aay p (a+8*(m/8)) (m %8+T) F0;have hadd:=RH p (m %8) T (a+8*(m/8));rw[show a+8*(m/8)+m %8=a+m by omega]at hadd;have hbyte:(Ad (Ex (Vu p (a+m) (j+1)) (Al (Eg (1:UInt64) T) (1:UInt64))):UInt8)=UInt8.ofNat (Cy p (a+m) T):=by
   rw[aT,Avb _ F0,Ak7 p (a+m) (j+1) T F0 hj]
  have hnew:vL (UInt8.ofNat (Cy p (a+8*(m/8)) (m %8))) (Eg (UInt8.ofNat (Cy p (a+m) T)) (m %8))=UInt8.ofNat (Cy p (a+8*(m/8)) (m %8+T)):=by
   rw[or8 (Sf _ _ _) (by rw[Arf];omega) F0,hadd,Arf (2^(m %8))]
  rw[hg,z1,z2,hbyte];simp only[Aa];rw[Dt Axu,Aa,Dt Axo,Aa,hnew,Yp _ (by rw[Zh];omega),Aa,Aac p a m T hT1 hT8,pZ,pL,vg m F0,e2,hT,Dt Axu,Aa,z2,Aj0 p (a+m) (j+1) T F0 hj,Cm,Ak];have ih:=B7 bk to' p N fr r6 a (j+1-T) (m+T) q F0 F0 F0;rw[show m+T+(j+1-T)=m+(j+1) by omega]at ih;rw[<-ih,show a+m+T=a+(m+T) by omega,show((j+1:Nat):Int)-((T:Nat):Int)=((j+1-T:Nat):Int) by omega,show(m:Int)+((T:Nat):Int)=((m+T:Nat):Int) by omega]
theorem tu(p:LB)(N:Int)(a n:Nat)(ha:a+n<=8*p.length)(hp:p.length<=1000000)(hn:n<=300000):∀(j m f q:Nat),(f=m\/n<=f/\m=n)->m+j=n->f<=n+64->j<q->Xd ((a+n:Nat):Int) p N q ((a+f:Nat):Int) (m:Int) (HY p a m)=some (HY p a n,(n:Int),0)
 |j,m,f,q+1,hf,hm,hf2,hq=>by
  rw[Xd,aR];by_cases hlt:f<n
  ·obtain rfl:f=m:=F0
   have e1:Dx (64:Int) (Al ((a+n:Nat):Int) ((a+f:Nat):Int))=((min 64 (n-f):Nat):Int):=by
    rw[HZ,Cm];omega
   rw[Aa4 Axi,e1,get_eq p N (a+f) _ F0 F0 hp,Aa,aW];have h1:=B7 (Xd ((a+n:Nat):Int) p N q) ((a+n:Nat):Int) p N ((a+f:Nat):Int) (Vu p (a+f) (min 64 (n-f))) a (min 64 (n-f)) f Ar F0 F0 Axj;refine Av6 h1 ?_;rw[OR,pJ,Ak,show((a+f:Nat):Int)+64=((a+(f+64):Nat):Int) by omega];exact tu p N a n ha hp hn (j-min 64 (n-f)) (f+min 64 (n-f)) (f+64) q F0 F0 F0 F0
  ·rw[Aa2 Axi,ZP,qP,show m=n by omega]
theorem Aqu{p:LB}{N:Nat}(h:okB p N)(a n:Nat)(ha:a+n<=N)(hn:n<=300000):fY p (N:Int) (a:Int) ((a+n:Nat):Int)=some (HY p a n,(n:Int),0):=by
 obtain⟨h1,h2,h3⟩:=h;have:=tu p N a n F0 F0 hn n 0 0 Ar F0 F0 F0 Axj;rw[fY,gG,PR ⟨h1,h2,h3⟩,Aa,Aa2 Axm,Aa2 Axr,nT];exact this
theorem Ax2(h:p:=by simp[Af];omega):p:=h
theorem Axs(h:p:=by rw[Af];simp):p:=h
end Go.Pl
namespace Go.Pl
open Go Go.Lv
variable{p:LB}{n N a k l:Nat}{t s:UInt64}
def Ha(p:LB):Nat->Nat->Nat
 |_,0=>0
 |a,m+1=>if Ko p a=1 then 1+Ha p (a+1) m else 0
theorem TS(p:LB):∀(m a:Nat),Ha p a m<=m
 |0,_=>Apn _
 |m+1,a=>by rw[Ha];split<;>have:=TS p m (a+1)<;>omega
theorem vo(p:LB):∀(m a:Nat),∃s,Cy p a m+1=2^(Ha p a m+1)*s+2^Ha p a m/\ (Ha p a m=m->s=0)
 |0,a=>⟨0,by simp[Cy,Ha],λ_=>rfl⟩
 |m+1,a=>by
  have hb:=Zl p a;obtain⟨s,h1,h2⟩:=vo p m (a+1);by_cases h:Ko p a=1
  ·refine⟨s,?_,λe=>h2 ?_⟩
   ·rw[Ha,Aa4 h,Cy,h,show 1+Ha p (a+1) m+1=(Ha p (a+1) m+1)+1 by omega,show 1+Ha p (a+1) m=Ha p (a+1) m+1 by omega,Ar5,Ar5 (n:=2) (m:=Ha p (a+1) m)];rw[Ar5]at h1;generalize Cy p (a+1) m=V at*
    generalize 2^Ha p (a+1) m=W at*
    have e1:W*2*2*s=2*(W*2*s):=by rw[Nat.mul_right_comm (W*2) 2 s,Arf]
    omega
   ·rw[Ha,Aa4 h]at e;omega
  ·refine⟨Cy p (a+1) m,?_,λe=>?_⟩
   ·rw[Ha,Aa2 h,Cy];simp;omega
   ·rw[Ha,Aa2 h]at e;omega
theorem Aoy{t s:Nat}(h:2^(t+1)*s+2^t<=2^n)(ht:t<n)(x:Nat)(hx:x=2^n-(2^(t+1)*s+2^t)):x&&& (2^(t+1)*s+2^t)=2^t:=by
 have hpos:0<2^t:=Av7 F0;have hlt:2^t<2^(t+1):=by rw[Ar5];omega
 have e:x=2^n-((2^(t+1)*s+(2^t-1))+1):=by rw[hx];congr 1;omega
 apply Nat.eq_of_testBit_eq;intro i;rw[Nat.testBit_and,e,Nat.testBit_two_pow_sub_succ F0,Nat.testBit_two_pow_mul_add _ F0,Nat.testBit_two_pow_mul_add _ hlt];by_cases hi:i<t+1
 ·rw[Aa4 hi,Aa4 hi,Nat.testBit_two_pow_sub_one,Nat.testBit_two_pow];by_cases hit:t=i
  ·subst hit;simp;exact ht
  ·have:¬i=t:=λe=>hit e.symm;simp[hit]
 ·rw[Aa2 hi,Aa2 hi,Nat.testBit_two_pow];have:¬t=i:=F0
  simp[this]
theorem Ak2(a:UInt64):(D3 a).toNat=18446744073709551615-a.toNat:=by
 have h:=a.toNat_lt;have e:D3 a=UInt64.ofNat (BitVec.ofInt 64 18446744073709551615^^^BitVec.ofInt 64 (a.toNat:Int)).toNat:=Hx _;have h1:BitVec.ofInt 64 (a.toNat:Int)=a.toBitVec:=Y7 a;have h2:(BitVec.ofInt 64 18446744073709551615:BitVec 64)=BitVec.allOnes 64:=F5
 rw[e,Ai5,h1,h2,BitVec.allOnes_xor,BitVec.toNat_not];show(18446744073709551616-1-a.toNat) %18446744073709551616=18446744073709551615-a.toNat;omega
theorem Ajw(a:UInt64):(oL a).toNat=(18446744073709551616-a.toNat) %18446744073709551616:=by
 have h:=a.toNat_lt;have e:oL a=UInt64.ofNat ((0-(a.toNat:Int)) %18446744073709551616).toNat:=V9 _;rw[e,Ai5];show((0-(a.toNat:Int)) %18446744073709551616).toNat %18446744073709551616=_;omega
def Ats:LB:=[0,1,56,2,57,49,28,3,61,58,42,50,38,29,17,4,62,47,59,36,45,43,51,22,53,39,33,30,24,18,12,5,63,55,48,27,60,41,37,16,46,35,44,21,52,32,23,11,54,26,40,15,34,20,31,10,25,14,19,9,13,8,7,6]
theorem Afr:∀t:Fin 64,Ah Ats (GI.toZ (Cs (Ce (UInt64.ofNat (2^t.val)) (285870213051353865:UInt64)) (GI.toZ (58:UInt64)).toNat))=some (UInt8.ofNat t.val):=by decide +kernel
theorem Atb(x:UInt64)(t s:Nat)(ht:t<64)(h:x.toNat+(2^(t+1)*s+2^t)=18446744073709551616):Gq x=some (t:Int):=by
 have hpos:0<2^t:=Av7 F0;have hx:x.toNat=2^64-(2^(t+1)*s+2^t):=by show x.toNat=18446744073709551616-_;omega
 have hle:2^t<=2^63:=Aer F0 F0;have hne:x≠0:=by
  intro e;rw[e]at h;have h':2^t*(2*s+1)=2^64:=by
   rw[Nat.mul_add,Nat.mul_one,<-Au5,<-Ar5]
   show _=18446744073709551616;simpa using h
  have h2:2^64=2^t*2^(64-t):=by rw[<-Awx];congr 1;omega
  rw[h2]at h';have h3:=Nat.eq_of_mul_eq_mul_left hpos h';rw[show 64-t=(63-t)+1 by omega,Ar5]at h3;omega
 have hx0:x.toNat≠0:=λe=>hne (UInt64.toNat_inj.1 e);have hl:Ex x (oL x)=UInt64.ofNat (2^t):=by
  apply UInt64.toNat_inj.1;rw[C6,UInt64.toNat_and,Ajw,show(18446744073709551616-x.toNat) %18446744073709551616=2^(t+1)*s+2^t by omega,Aoy (n:=64) (by show _<=18446744073709551616;omega) ht _ hx,Ai5,Acm];exact Aut hle F5
 have hb:=Afr ⟨t,ht⟩;rw[Gq,Aa2 (by rw[wX];simpa using hne),hl];refine Av6 (congrArg (λo=>Option.bind o λc=>some (Ad c:Int)) hb) ?_;rw[Aa,PO,Apu,Acm (by show t<256;omega)]
theorem Ao8(p:LB)(a m:Nat)(hm:m<=48):Gq (D3 (Vu p a m))=some ((Ha p a m:Nat):Int):=by
 obtain⟨s,h1,h2⟩:=vo p m a;have hle:=TS p m a;have hlt:=Sf p m a;have h48:2^m<=2^48:=Aer F0 hm;have hn:(D3 (Vu p a m)).toNat=18446744073709551615-Cy p a m:=by rw[Ak2,GA p a m F0]
 have h3:(281474976710656:Nat)=2^48:=rfl;refine Atb _ (Ha p a m) s F0 ?_;rw[hn];omega
def oh(p:LB)(N a:Nat):Int×Int×Int:=
 if Ha p a (min 48 (N-a))<min 48 (N-a)then((Ha p a (min 48 (N-a)):Nat),((a+Ha p a (min 48 (N-a))+1:Nat):Int),0)else
 if Ha p a (min 48 (N-a))=48 then(48,((a+48:Nat):Int),0)else(0,0,24)
theorem Akr(h:okB p N)(a:Nat)(ha:a<N):IV p (N:Int) (a:Int)=some (oh p N a):=by
 have hN:=h.1;have e1:Dx (48:Int) (Al (N:Int) (a:Int))=((min 48 (N-a):Nat):Int):=by rw[HZ,Cm];omega
 have hle:=TS p (min 48 (N-a)) a;rw[IV,Zr,PR h,Aa,Aa2 Axm,Aa2 Axs,Aa2 Axo,e1,tZ h a _ F0,Aa2 F0,Aa];simp only;rw[VO,lN,Aa2 Axm,Ao8 p a _ F0,Aa,lP,lD,e1,oh];by_cases h1:Ha p a (min 48 (N-a))<min 48 (N-a)
 ·rw[Aa4 Axi,Aa4 h1,Ak (a:=(a:Int)) F0 F0,show Ae (0:Int) 1=1 by decide,Ak];congr 3;omega
 ·rw[Aa2 Axi,Aa2 h1,lJ,kX];by_cases h2:Ha p a (min 48 (N-a))=48
  ·rw[Aa4 (by rw[Ba,h2];rfl),Aa4 h2,h2,Ak (a:=(a:Int)) F0 F0,Ak];congr 3;omega
  ·rw[Aa2 Axq,Aa2 h2];rfl
theorem Q8(p:LB):∀(m a:Nat),Ha p a m<m->Ko p (a+Ha p a m)≠1
 |0,_,h=>by simp[Ha]at h
 |m+1,a,h=>by
  by_cases hb:Ko p a=1
  ·rw[Ha,Aa4 hb]at h⊢;have:=Q8 p m (a+1) F0;rwa [show a+(1+Ha p (a+1) m)=a+1+Ha p (a+1) m by omega]
  ·rw[Ha,Aa2 hb];exact hb
theorem O8(p:LB):∀(m a k:Nat),k<Ha p a m->Ko p (a+k)=1
 |0,a,k,h=>by simp[Ha]at h
 |m+1,a,k,h=>by
  by_cases hb:Ko p a=1
  ·rw[Ha,Aa4 hb]at h;cases k with
   |zero=>exact hb
   |succ k=>
    have:=O8 p m (a+1) k F0;rwa [show a+(k+1)=a+1+k by omega]
  ·rw[Ha,Aa2 hb]at h;omega
def unR(p:LB)(N a:Nat):Int×Int:=if(oh p N a).2.2=0 then((oh p N a).1,(oh p N a).2.1)else(-1,0)
theorem E9{p:LB}{N:Nat}(h:okB p N)(a:Nat)(ha:a<N):∀(j k q:Nat),k+j=Ha p a (min 48 (N-a))->j<q->Lr (a:Int) p (N:Int) q (k:Int)=some (unR p N a)
 |0,k,q+1,hk,_=>by
  obtain⟨hN,hl,hz⟩:=h;have hle:=TS p (min 48 (N-a)) a;have hk':k=Ha p a (min 48 (N-a)):=F0
  have e1:Ae (a:Int) (k:Int)=((a+k:Nat):Int):=by rw[Ak];omega
  have hend:Zb (a:Int) (k:Int) p (N:Int)=some (unR p N a):=by
   rw[Zb,OJ,e1];by_cases h48:k=48
   ·have hu:oh p N a=(48,((a+48:Nat):Int),0):=by rw[oh,<-hk',Aa2 F0,Aa4 h48]
    rw[Aa4 (by rw[Ba,h48];rfl),unR,hu,h48];rfl
   ·rw[Aa2 Axq];by_cases hN2:N<=a+k
    ·have hu:oh p N a=(0,0,24):=by rw[oh,<-hk',Aa2 F0,Aa2 h48]
     rw[Aa4 Axo,unR,hu];rfl
    ·have hu:oh p N a=(((k:Nat):Int),((a+k+1:Nat):Int),0):=by rw[oh,<-hk',Aa4 F0]
     rw[Aa2 Axo,unR,hu,Ak];rfl
  rw[Lr,Yx,e1];by_cases hc:a+k<N/\k<48
  ·have hb:=Zl p (a+k);have hs:=Q8 p (min 48 (N-a)) a F0;rw[<-hk']at hs;rw[Aa4 Ax2,rW p _ (a+k) F0 F0,Aa,Aa2 Axq,hend]
  ·rw[Aa2 Ax2,hend]
 |j+1,k,q+1,hk,hq=>by
  obtain⟨hN,hl,hz⟩:=h;have hle:=TS p (min 48 (N-a)) a;have hb:=O8 p (min 48 (N-a)) a k F0;have e1:Ae (a:Int) (k:Int)=((a+k:Nat):Int):=by rw[Ak];omega
  rw[Lr,Yx,e1,Aa4 Ax2,rW p _ (a+k) F0 F0,Aa,hb,Aa4 F5,Ak];exact E9 ⟨hN,hl,hz⟩ a ha j (k+1) q F0 F0
theorem Ai2(h:okB p N)(a:Nat)(ha:a<N):WX p (N:Int) (a:Int)=some (unR p N a):=by
 have hle:=TS p (min 48 (N-a)) a;have:=E9 h a ha (Ha p a (min 48 (N-a))) 0 Ar F0 Axj;exact this
theorem Ajj(h:Ha p a (min 48 (N-a))<min 48 (N-a)):oh p N a=(((Ha p a (min 48 (N-a)):Nat):Int),((a+Ha p a (min 48 (N-a))+1:Nat):Int),0):=by rw[oh,Aa4 h]
theorem Aks(h:¬Ha p a (min 48 (N-a))<min 48 (N-a))(h2:Ha p a (min 48 (N-a))=48):oh p N a=(48,((a+48:Nat):Int),0):=by rw[oh,Aa2 h,Aa4 h2]
theorem Aio(h:¬Ha p a (min 48 (N-a))<min 48 (N-a))(h2:¬Ha p a (min 48 (N-a))=48):oh p N a=(0,0,24):=by rw[oh,Aa2 h,Aa2 h2]
theorem Af4(h:okB p N)(a:Nat)(ha:N<=a):IV p (N:Int) (a:Int)=some (0,0,24):=by
 rw[IV,Zr,PR h,Aa,Aa2 Axm,Aa2 Axs,Aa4 Axo]
def TD(p:LB)(N a k:Nat):UInt32×Int×Int:=
 if N<=a then(0,0,24)else
 if Ha p a (min 48 (N-a))<min 48 (N-a)then
  (if N<a+Ha p a (min 48 (N-a))+1+k then(0,0,24)else(UInt32.ofNat (Ha p a (min 48 (N-a))*2^k+Cy p (a+Ha p a (min 48 (N-a))+1) k),((a+Ha p a (min 48 (N-a))+1+k:Nat):Int),0))
 else if Ha p a (min 48 (N-a))=48 then
  (if N<a+48+32 then(0,0,24)else if Cy p (a+48) 32/2^k<48 then(0,0,12)else(UInt32.ofNat (Cy p (a+48) 32),((a+48+32:Nat):Int),0))
 else(0,0,24)
theorem pE(h:n<=32):(Ad (Vu p a n):UInt32)=UInt32.ofNat (Cy p a n):=by
 have e:(Ad (Vu p a n):UInt32)=UInt32.ofNat (Vu p a n).toNat:=by simp only[Ad,Jn,Ez]
 rw[e,GA p a n F0]
theorem ZT(h:n<4294967296):(UInt32.ofNat n).toNat=n:=by rw[An1];exact Acm h
theorem uz(p:LB)(a:Nat)(h:n<=32):Cy p a n<4294967296:=by
 have h1:=Sf p n a;have h2:2^n<=2^32:=Aer F0 h;omega
theorem Arq{q v:Nat}(hq:q<48)(hv:v<2^k)(hk:k<=24):vL (Eg (Ad (q:Int):UInt32) k) (UInt32.ofNat v)=UInt32.ofNat (q*2^k+v):=by
 have hp:2^k<=2^24:=Aer F0 hk;have h1:q*2^k<=47*2^24:=Aun F0 hp;rw[Anw];apply UInt32.toNat_inj.1;rw[UInt32.toNat_or,xM,R7,ZT F0,ZT (n:=v) F0,Acm F0,Arf q,<-Aud hv,ZT (by rw[Arf];omega)]
theorem Ans(h:okB p N)(a k:Nat)(hk:k<=24):jC p (N:Int) (a:Int) (k:Int)=some (TD p N a k):=by
 have hN:=h.1;rw[jC,pX,PR h,Aa,Aa2 Axm,Aa2 Axr];by_cases ha:N<=a
 ·rw[Af4 h a ha,Aa,TD,Aa4 ha];rfl
 have hle:=TS p (min 48 (N-a)) a;rw[Akr h a F0,Aa];by_cases h1:Ha p a (min 48 (N-a))<min 48 (N-a)
 ·have hS:TD p N a k=if N<a+Ha p a (min 48 (N-a))+1+k then(0,0,24)else(UInt32.ofNat (Ha p a (min 48 (N-a))*2^k+Cy p (a+Ha p a (min 48 (N-a))+1) k),((a+Ha p a (min 48 (N-a))+1+k:Nat):Int),0):=by rw[TD,Aa2 ha,Aa4 h1]
  rw[Ajj h1,hS];generalize Ha p a (min 48 (N-a))=q at*
  simp only;rw[Aa2 Axm,Aa2 Axq,aZ,aG,tZ h _ k F0,Aa];by_cases h2:N<a+q+1+k
  ·rw[Aa4 h2,Aa4 h2];rfl
  ·rw[Aa2 h2,Aa2 h2];simp only;have z:(GI.toZ (k:Int)).toNat=k:=rfl;rw[Aa2 Axm,Aa4 Axi,Dt Axu,Aa,z,pE F0,Arq F0 (Sf _ _ _) hk,Ak];rfl
 ·by_cases h2:Ha p a (min 48 (N-a))=48
  ·have hS:TD p N a k=if N<a+48+32 then(0,0,24)else if Cy p (a+48) 32/2^k<48 then(0,0,12)else(UInt32.ofNat (Cy p (a+48) 32),((a+48+32:Nat):Int),0):=by rw[TD,Aa2 ha,Aa2 h1,Aa4 h2]
   have hg:=tZ h (a+48) 32 F0;rw[Aks h1 h2,hS];simp only;rw[Aa2 Axm,Aa4 Ax3,aZ,aG];refine Av6 (congrArg (λo=>Option.bind o _) hg) ?_;rw[Aa];by_cases h3:N<a+48+32
   ·rw[Aa4 h3,Aa4 h3];rfl
   ·rw[Aa2 h3,Aa2 h3];simp only;have z:(GI.toZ (k:Int)).toNat=k:=rfl;have hv:=uz p (a+48) (n:=32) F0;rw[Aa2 Axm,Aa2 Axs,PF,Dt Axu,Aa,Aa,z,pE F0,Ane];have e:(decide ((48:UInt32).toNat<= (Cs (UInt32.ofNat (Cy p (a+48) 32)) k).toNat))=decide (¬Cy p (a+48) 32/2^k<48):=by
     rw[WV,ZT hv];simp
    rw[e];by_cases h4:Cy p (a+48) 32/2^k<48
    ·rw[Aa4 (by simp[h4]),Aa4 h4]
    ·rw[Aa2 F6,Aa2 h4,Ak];rfl
  ·rw[Aio h1 h2,TD,Aa2 ha,Aa2 h1,Aa2 h2];rfl
theorem B4(k:Nat)(hk:k<=63):∀(j i q:Nat),i+j=k->j<q->Jo (k:Int) q (UInt64.ofNat (2^i)) (i:Int)=some (UInt64.ofNat (2^k))
 |0,i,q+1,hi,_=>by
  rw[Jo,Ul,Aa2 Axi,show i=k by omega];rfl
 |j+1,i,q+1,hi,hq=>by
  have e:Ce (UInt64.ofNat (2^i)) (2:UInt64)=UInt64.ofNat (2^(i+1)):=by
   rw[KR,Ar5,UInt64.ofNat_mul];rfl
  rw[Jo,Ul,Aa4 Axi,Ak,e];exact B4 k hk j (i+1) q F0 F0
theorem KT(k:Nat)(hk:k<=63):Gd (k:Int)=some (UInt64.ofNat (2^k)):=
 B4 k hk k 0 Ar F0 Axj
theorem TM(hk:k<=63):(UInt64.ofNat (2^k)).toNat=2^k:=by
 have hp:2^k<=2^63:=Aer F0 hk;rw[Ai5,Acm F0]
theorem Am8(v:UInt32)(k:Nat)(hk:k<=24):DH v (k:Int)=some ((min 48 (v.toNat/2^k):Nat):Int):=by
 have hpos:0<2^k:=Av7 F0;have hv:=v.toNat_lt;rw[DH,KT k F0,Aa,Dt (by rw[OV];simp only[Awn,ne_eq,<-Awl,TM (show k<=63 by omega)];simp),Aa];have e:(Cq (Ad v:UInt64) (UInt64.ofNat (2^k))).toNat=v.toNat/2^k:=by
  rw[qO,Aw0,Jg,TM F0,Ai5,Acm F0]
 have hle:v.toNat/2^k<=v.toNat:=Asm _ _;have e2:Dx (48:UInt64) (Cq (Ad v:UInt64) (UInt64.ofNat (2^k)))=UInt64.ofNat (min 48 (v.toNat/2^k)):=by
  apply UInt64.toNat_inj.1;rw[Ai5,Acm F0];show(if _ then _ else _:UInt64).toNat=_;rw[show(GI.toZ (Cq (Ad v:UInt64) (UInt64.ofNat (2^k))))=((v.toNat/2^k:Nat):Int) by rw[Jn,e],show GI.toZ (48:UInt64)=48 from rfl];split
  ·rw[e];omega
  ·show 48=_;omega
 rw[e2,tW (by rw[Ai5,Acm]<;>omega),Ai5,Acm F0]
theorem Aiz(h:okB p N)(a k:Nat)(hk:k<=24):IQ p (N:Int) (a:Int) (k:Int)=some (TD p N a k):=by
 obtain⟨hN,hl,hz⟩:=h;have h:okB p N:=⟨hN,hl,hz⟩;rw[IQ,NR];by_cases ha:N<=a
 ·rw[Aa4 Axo,TD,Aa4 ha]
 have hle:=TS p (min 48 (N-a)) a;rw[Aa2 Axo,Ai2 h a F0,Aa,unR];by_cases h1:Ha p a (min 48 (N-a))<min 48 (N-a)
 ·have hS:TD p N a k=if N<a+Ha p a (min 48 (N-a))+1+k then(0,0,24)else(UInt32.ofNat (Ha p a (min 48 (N-a))*2^k+Cy p (a+Ha p a (min 48 (N-a))+1) k),((a+Ha p a (min 48 (N-a))+1+k:Nat):Int),0):=by rw[TD,Aa2 ha,Aa4 h1]
  rw[Ajj h1,hS];generalize Ha p a (min 48 (N-a))=q at*
  rw[Aa4 rfl];simp only;rw[Aa2 Axq,Yz,Yn,Cm];by_cases h2:N<a+q+1+k
  ·rw[Aa4 Ax2,Aa4 h2]
  ·have hp:2^k<=2^24:=Aer F0 hk;have hm:q*2^k<=47*2^24:=Aun F0 hp;have hv:=Sf p k (a+q+1);have e:(Ad (Ae (Ce (Ad (q:Int):UInt64) (UInt64.ofNat (2^k))) (Vu p (a+q+1) k)):UInt32)=UInt32.ofNat (q*2^k+Cy p (a+q+1) k):=by
    have e1:Ae (Ce (Ad (q:Int):UInt64) (UInt64.ofNat (2^k))) (Vu p (a+q+1) k)=UInt64.ofNat (q*2^k+Cy p (a+q+1) k):=by
     rw[KX,KR,Xt,Vu,UInt64.ofNat_add,UInt64.ofNat_mul]
    rw[e1];have e2:∀x:UInt64,(Ad x:UInt32)=UInt32.ofNat x.toNat:=λx=>by simp only[Ad,Jn,Ez]
    rw[e2,Ai5,Acm F0]
   rw[Aa2 Ax2,Aa2 h2,lZ p _ _ k F0 F0,Aa,Aa4 Axi,KT k F0,Aa,e,Ak];rfl
 ·by_cases h2:Ha p a (min 48 (N-a))=48
  ·have hS:TD p N a k=if N<a+48+32 then(0,0,24)else if Cy p (a+48) 32/2^k<48 then(0,0,12)else(UInt32.ofNat (Cy p (a+48) 32),((a+48+32:Nat):Int),0):=by rw[TD,Aa2 ha,Aa2 h1,Aa4 h2]
   rw[Aks h1 h2,hS,Aa4 rfl];simp only;rw[Aa4 Ax3,Yz,Yn,Cm];by_cases h3:N<a+48+32
   ·rw[Aa4 Ax2,Aa4 h3]
   ·have hg:=lZ p (N:Int) (a+48) 32 F0 F0;have hv:=uz p (a+48) (n:=32) F0;rw[Aa2 Ax2,Aa2 h3];refine Av6 (congrArg (λo=>Option.bind o _) hg) ?_;rw[Aa,Aa2 Axs,pE F0,Am8 _ k hk,Aa,ZT hv];by_cases h4:Cy p (a+48) 32/2^k<48
    ·rw[Aa4 Axi,Aa4 h4]
    ·rw[Aa2 Axi,Aa2 h4,Ak];rfl
  ·rw[Aio h1 h2,TD,Aa2 ha,Aa2 h1,Aa2 h2];have e:(if((0:Int),(0:Int),(24:Int)).2.2=0 then(((0:Int),(0:Int),(24:Int)).1,((0:Int),(0:Int),(24:Int)).2.1)else((-1:Int),(0:Int)))=(-1,0):=F5
   rw[e];rfl
theorem Aqo{v:UInt32}{n:Int}(h:TD p N a k=(v,n,0)):(a:Int)<n/\n<=N:=by
 unfold TD at h;split at h
 ·simp at h
 split at h
 ·split at h
  ·simp at h
  ·simp only[Aep]at h;omega
 ·split at h
  ·split at h
   ·simp at h
   ·split at h
    ·simp at h
    ·simp only[Aep]at h;omega
  ·simp at h
def okD(k l:Nat)(s t:UInt64):Prop:=k<=24/\l<=24/\s.toNat<=68719476735/\t.toNat<=68719476735
theorem vk(a b:UInt64)(h:a.toNat<=b.toNat):Dx a b=a:=by
 show(if _ then _ else _)=_;rw[Jn,Jn,Aa2 F0]
theorem oG(a:UInt64):geq a a=true:=by rw[wX];simp
theorem Aqd(h:okD k l s t):RZ (k:Int) (l:Int) s t=some 0:=by
 obtain⟨h1,h2,h3,h4⟩:=h;have e1:Dx (oZ (k:Int) 0) 24=(k:Int):=by rw[HZ,Acj];omega
 have e2:Dx (oZ (l:Int) 0) 24=(l:Int):=by rw[HZ,Acj];omega
 have e3:Dx s (68719476735:UInt64)=s:=vk _ _ (by simpa using h3);have e4:Dx t (68719476735:UInt64)=t:=vk _ _ (by simpa using h4);have e5:∀a:Int,geq a a=true:=λa=>by rw[Ba];simp
 rw[RZ,JL,WG,JF,VJ,kR,e1,e2,e3,e4,e5,e5,oG,oG];rfl
def GD(s n:UInt64):UInt64:=s+n-s/16
def kS(k:Nat)(s:UInt64):Nat:=if 0<k/\s.toNat<2^(k+4)then k-1 else if k<24/\2^(k+5)<s.toNat then k+1 else k
theorem Apx(h:k<=24)(s:UInt64):kS k s<=24:=by
 unfold kS;by_cases h1:0<k/\s.toNat<2^(k+4)
 ·rw[Aa4 h1];omega
 ·rw[Aa2 h1];split<;>omega
theorem Adx(h:¬(0<k/\s.toNat<2^(k+4))):(if k<24/\2^(k+5)<s.toNat then((k+1:Nat):Int)else(k:Int))=((kS k s:Nat):Int):=by
 rw[kS,Aa2 h];split<;>rfl
theorem Adz{n:UInt64}(h:s.toNat<=68719476735)(hn:n.toNat<=4294967295):(GD s n).toNat<=68719476735:=by
 have h1:=s.toNat_lt;have e:(s+n).toNat=s.toNat+n.toNat:=by rw[UInt64.toNat_add];omega
 have e2:(s/16).toNat=s.toNat/16:=by rw[Aw0];rfl
 rw[GD,UInt64.toNat_sub_of_le _ _ (by rw[UInt64.le_iff_toNat_le,e,e2];omega),e,e2];omega
theorem xO(s n:UInt64):Ae s (Al n (Cs s (GI.toZ (4:UInt64)).toNat))=GD s n:=by
 have e:Cs s (GI.toZ (4:UInt64)).toNat=s/16:=by
  apply UInt64.toNat_inj.1;rw[MA,Aw0];rfl
 rw[e,KX,G8,GD,UInt64.sub_eq_add_neg,UInt64.sub_eq_add_neg,UInt64.add_assoc]
theorem Ad9(s n:UInt64):Al (Ae s n) (Cq s (16:UInt64))=GD s n:=by rw[KX,G8,qO,GD]
theorem Asw(h:k<=24):(Eg (16:UInt64) k).toNat=2^(k+4):=by
 have hp:2^k<=2^24:=Aer F0 h;rw[YY,Awx]
 show 16*2^k %_=2^k*16;rw[Acm F0,Arf]
theorem Arw(h:k<=24):(Eg (32:UInt64) k).toNat=2^(k+5):=by
 have hp:2^k<=2^24:=Aer F0 h;rw[YY,Awx]
 show 32*2^k %_=2^k*32;rw[Acm F0,Arf]
theorem Apo(h:0<k)(h2:s.toNat<2^(k+4)):kS k s=k-1:=by rw[kS,Aa4 ⟨h,h2⟩]
theorem Ap2(h:¬(0<k/\s.toNat<2^(k+4)))(h2:k<24)(h3:2^(k+5)<s.toNat):kS k s=k+1:=by rw[kS,Aa2 h,Aa4 ⟨h2,h3⟩]
theorem Ad6(h:¬(0<k/\s.toNat<2^(k+4)))(h2:¬(k<24/\2^(k+5)<s.toNat)):kS k s=k:=by rw[kS,Aa2 h,Aa2 h2]
theorem Ap3{α:Type}(k:Nat)(hk:k<=24)(s:UInt64)(f:Int->Option α):
  (if(Dv (k:Int) (0:Int))=true then(
   Option.bind (Jd (Kq (k:Int) (0:Int))) λ_=>
   if(Cj s (Eg (16:UInt64) (GI.toZ (k:Int)).toNat))=true then f (Al (k:Int) (1:Int))
   else(if(Cj (k:Int) (24:Int))=true then(
    Option.bind (Jd (Kq (k:Int) (0:Int))) λ_=>
    if(Dv s (Eg (32:UInt64) (GI.toZ (k:Int)).toNat))=true then f (Ae (k:Int) (1:Int))else f (k:Int))
    else f (k:Int)))
  else(if(Cj (k:Int) (24:Int))=true then(
    Option.bind (Jd (Kq (k:Int) (0:Int))) λ_=>
    if(Dv s (Eg (32:UInt64) (GI.toZ (k:Int)).toNat))=true then f (Ae (k:Int) (1:Int))else f (k:Int))
    else f (k:Int)))=f ((kS k s:Nat):Int):=by
 have z:(GI.toZ (k:Int)).toNat=k:=rfl;rw[z,Dt Axu];simp only[Aa];rw[xD,TZ,Asw hk,Arw hk];by_cases h0:0<k
 ·rw[Aa4 Axn];by_cases h1:s.toNat<2^(k+4)
  ·rw[Aa4 (by simp[h1]),Apo h0 h1,Cm];congr 1;omega
  ·rw[Aa2 F6];by_cases h2:k<24
   ·rw[Aa4 Axi];by_cases h3:2^(k+5)<s.toNat
    ·rw[Aa4 (by simp[h3]),Ap2 (λh=>h1 h.2) h2 h3,Ak];rfl
    ·rw[Aa2 F6,Ad6 (λh=>h1 h.2) (λh=>h3 h.2)]
   ·rw[Aa2 Axi,Ad6 (λh=>h1 h.2) (λh=>h2 h.1)]
 ·rw[Aa2 Axn];by_cases h2:k<24
  ·rw[Aa4 Axi];by_cases h3:2^(k+5)<s.toNat
   ·rw[Aa4 (by simp[h3]),Ap2 (λh=>h0 h.1) h2 h3,Ak];rfl
   ·rw[Aa2 F6,Ad6 (λh=>h0 h.1) (λh=>h3 h.2)]
  ·rw[Aa2 Axi,Ad6 (λh=>h0 h.1) (λh=>h2 h.1)]
theorem Ae4(k:Nat)(hk:k<=24)(s n:UInt64):Uy (k:Int) s n=some (((kS k (GD s n):Nat):Int),GD s n):=by
 have g1:Ae (k:Int) 4=((k+4:Nat):Int):=by rw[Ak];omega
 have g2:Ae (k:Int) 5=((k+5:Nat):Int):=by rw[Ak];omega
 have hp:Vt (k:Int) s n=some (if k<24/\2^(k+5)<(GD s n).toNat then((k+1:Nat):Int)else(k:Int),GD s n):=by
  rw[Vt,LZ,g2,KT _ F0,Aa,Ad9,TZ,TM F0];by_cases h2:k<24
  ·rw[Aa4 Axi];by_cases h3:2^(k+5)<(GD s n).toNat
   ·rw[Aa4 (by simp[h3]),Aa4 ⟨h2,h3⟩,Ak];rfl
   ·rw[Aa2 F6,Aa2 (λh=>h3 h.2)]
  ·rw[Aa2 Axi,Aa2 (λh=>h2 h.1)]
 rw[Uy,KI,g1,KT _ F0,Aa,Ad9,xD,TM F0,hp];by_cases h0:0<k
 ·rw[Aa4 Axn];by_cases h1:(GD s n).toNat<2^(k+4)
  ·rw[Aa4 (by simp[h1]),Apo h0 h1,Cm];congr 2;omega
  ·rw[Aa2 F6,Adx (λh=>h1 h.2)]
 ·rw[Aa2 Axn,Adx (λh=>h0 h.1)]
def ji(v:UInt32):UInt64:=UInt64.ofNat v.toNat
theorem Ajb(v:UInt32):(ji v).toNat<=4294967295:=by have:=v.toNat_lt;rw[ji,Ai5,Acm F0];omega
def vG(k:Nat)(v:UInt32):UInt32:=UInt32.ofNat (v.toNat-2^k)
def lK(l:Nat)(t:UInt64)(k:Nat)(v:UInt32):Nat:=if v.toNat<2^k then l else kS l (GD t (ji (vG k v)))
def lT(t:UInt64)(k:Nat)(v:UInt32):UInt64:=if v.toNat<2^k then t else GD t (ji (vG k v))
theorem Aie(h:okD k l s t)(v:UInt32):okD (kS k (GD s (ji v))) (lK l t k v) (GD s (ji v)) (lT t k v):=by
 obtain⟨h1,h2,h3,h4⟩:=h;refine⟨Apx h1 _,?_,Adz h3 (Ajb v),?_⟩
 ·unfold lK;split; · exact h2
  exact Apx h2 _
 ·unfold lT;split; · exact h4
  exact Adz h4 (Ajb _)
theorem Aq3(k l:Nat)(s t:UInt64)(hk:k<=24)(v:UInt32):II (k:Int) (l:Int) s t v=some (decide (v.toNat<2^k)):=by
 have:=v.toNat_lt;rw[II,KT k F0,Aa,xD,TM F0,Jg,Ai5,Acm F0]
theorem left_eq(k l:Nat)(s t:UInt64)(hk:k<=24)(v:UInt32)(h:¬v.toNat<2^k):EO (k:Int) (l:Int) s t v=some (vG k v):=by
 have:=v.toNat_lt;have e2:∀x:UInt64,(Ad x:UInt32)=UInt32.ofNat x.toNat:=λx=>by simp only[Ad,Jn,Ez]
 have e3:(UInt64.ofNat v.toNat).toNat=v.toNat:=by rw[Ai5,Acm F0]
 rw[EO,KT k F0,Aa,e2,G8,Jg,UInt64.toNat_sub_of_le _ _ (by rw[UInt64.le_iff_toNat_le,TM F0,e3];omega),TM F0,e3,vG]
theorem Ahf(h:okD k l s t)(v:UInt32):Ye (k:Int) (l:Int) s t v=some (((kS k (GD s (ji v)):Nat):Int),((lK l t k v:Nat):Int),GD s (ji v),lT t k v):=by
 obtain⟨h1,h2,h3,h4⟩:=h;have hp:∀(r1:Int) (r2:UInt64),Sa v (k:Int) (l:Int) s t r1 r2=some (((kS k (GD s (ji v)):Nat):Int),r1,GD s (ji v),r2):=by
  intro r1 r2;rw[Sa,FF,Jg,Ae4 k h1,Aa];rfl
 rw[Ye,DM,Aq3 k l s t h1,Aa];by_cases hv:v.toNat<2^k
 ·rw[Aa2 (by simp[hv]),hp,lK,Aa4 hv,lT,Aa4 hv]
 ·rw[Aa4 F6,left_eq k l s t h1 v hv,Aa,Jg,Ae4 l h2,Aa];simp only;rw[hp,lK,Aa2 hv,lT,Aa2 hv];rfl
theorem Ajg(k l:Nat)(s t:UInt64)(hk:k<=24)(v:UInt32):IY (k:Int) (l:Int) s t v=some (if v.toNat<2^k then(0,v)else(1,vG k v)):=by
 have hp:2^k<=2^24:=Aer F0 hk;have hpos:0<2^k:=Av7 F0;have hl:=v.toNat_lt;have z:(GI.toZ (k:Int)).toNat=k:=rfl;have e1:geq (Cs v k) (0:UInt32)=decide (v.toNat<2^k):=by
  rw[V4,Akf];simp only[As1,<-UInt32.toNat_inj,WV,Acr]
  show _/_=0↔_;rw[Nat.div_eq_zero_iff];omega
 have e2:¬v.toNat<2^k->Al v (Eg (1:UInt32) k)=vG k v:=by
  intro h;have e3:(Eg (1:UInt32) k).toNat=2^k:=by rw[xM];show 1*2^k %_=_;rw[Acm F0,Nat.one_mul]
  apply UInt32.toNat_inj.1;rw[oq,UInt32.toNat_sub_of_le _ _ (by rw[UInt32.le_iff_toNat_le,e3];omega),e3,vG,ZT F0]
 rw[IY,Dt Axu,Aa,Aa,z,e1];by_cases h:v.toNat<2^k
 ·rw[Aa4 (by simp[h]),Aa4 h]
 ·rw[Aa2 F6,Aa2 h,e2 h]
abbrev Rd:=UInt32×Int×Int×Int×UInt64×UInt64×Int
theorem yE(h:okD k l s t)(v:UInt32)(r:Int):ZU (k:Int) (l:Int) s t v r=some (v,r,((kS k (GD s (ji v)):Nat):Int),((lK l t k v:Nat):Int),GD s (ji v),lT t k v,0):=by
 obtain⟨h1,h2,h3,h4⟩:=h;have hp:∀(x:Int) (y:UInt64),FY v r (k:Int) s x y=some (v,r,((kS k (GD s (ji v)):Nat):Int),x,GD s (ji v),y,0):=by
  intro x y;rw[FY,rB,Jg,xO,Ap3 k h1];rw[nY,qK,lB,kQ,Jg,xO];rfl
 rw[ZU,ZQ,Ajg k l s t h1,Aa];by_cases hv:v.toNat<2^k
 ·rw[Aa4 hv];simp only;rw[Aa2 Ax9,hp,lK,Aa4 hv,lT,Aa4 hv]
 ·rw[Aa2 hv];simp only;rw[Aa4 Ax3,Jg,xO,Ap3 l h2 _ (λx=>FY v r (k:Int) s x (GD t (UInt64.ofNat (vG k v).toNat))),hp,lK,Aa2 hv,lT,Aa2 hv];rfl
def ZS(p:LB)(N a k l:Nat):UInt32×Int×Int:=
 if N<=a then(0,0,24)else
 if Ko p a=0 then(if N<a+1+k then(0,0,24)else(UInt32.ofNat (Cy p (a+1) k),((a+1+k:Nat):Int),0))else
 if(TD p N (a+1) l).2.2≠0 then(0,0,(TD p N (a+1) l).2.2)else
 if 4294967295<(TD p N (a+1) l).1.toNat+2^k then(0,0,12)else(UInt32.ofNat ((TD p N (a+1) l).1.toNat+2^k),(TD p N (a+1) l).2.1,0)
theorem Are(h:(ZS p N a k l).2.2=0):(a:Int)<(ZS p N a k l).2.1/\ (ZS p N a k l).2.1<=N:=by
 revert h
 unfold ZS;split
 ·simp
 split
 ·split
  ·simp
  ·simp only;omega
 ·split
  ·intro h;contradiction
  ·rename_i h1;split
   ·simp
   ·intro _;have:=Aqo (p:=p) (N:=N) (a:=a+1) (k:=l) (v:=(TD p N (a+1) l).1) (n:=(TD p N (a+1) l).2.1) (by
     have e:(TD p N (a+1) l).2.2=0:=by simpa using h1
     rw[<-e])
    simp only;omega
theorem Anp(h:okB p N)(a:Nat)(hd:okD k l s t):IK p (N:Int) (a:Int) (k:Int) (l:Int) s t=
  some (if(ZS p N a k l).2.2≠0 then(0,0,0,0,0,0,(ZS p N a k l).2.2)else((ZS p N a k l).1,(ZS p N a k l).2.1,((kS k (GD s (ji (ZS p N a k l).1)):Nat):Int),((lK l t k (ZS p N a k l).1:Nat):Int),GD s (ji (ZS p N a k l).1),lT t k (ZS p N a k l).1,0)):=by
 obtain⟨h1,h2,h3,h4⟩:=hd;have hd:okD k l s t:=⟨h1,h2,h3,h4⟩;have hN:=h.1;have hg:=tZ h a 1 F0;have hb:=Zl p a;rw[IK,bI,PR h,Aa,Aa2 Axm,Aqd hd,Aa,Aa2 Axm,rC,ZX];refine Av6 (congrArg (λo=>Option.bind o _) hg) ?_;rw[Aa];by_cases ha:N<=a
 ·have hS:ZS p N a k l=(0,0,24):=by rw[ZS,Aa4 ha]
  rw[Aa4 F0,hS];rfl
 rw[Aa2 F0];simp only;have e0:geq (Vu p a 1) (0:UInt64)=decide (Ko p a=0):=by
  rw[wX,Akf];simp only[As1,<-Awl,Acr,GA p a 1 F0,uj];rfl
 have e1:Ae (a:Int) 1=((a+1:Nat):Int):=by rw[Ak];omega
 rw[Aa2 Axm,e0,e1];by_cases hz:Ko p a=0
 ·rw[Aa4 (by simp[hz]),tZ h (a+1) k F0,Aa];by_cases h5:N<a+1+k
  ·have hS:ZS p N a k l=(0,0,24):=by rw[ZS,Aa2 ha,Aa4 hz,Aa4 h5]
   rw[Aa4 h5,hS];rfl
  ·have hS:ZS p N a k l=(UInt32.ofNat (Cy p (a+1) k),((a+1+k:Nat):Int),0):=by rw[ZS,Aa2 ha,Aa4 hz,Aa2 h5]
   rw[Aa2 h5,hS];simp only;rw[Aa2 Axm,yE hd,pE F0,Ak];rfl
 ·rw[Aa2 (by simp[hz]),Ans h (a+1) l h2,Aa];have hp:2^k<=2^24:=Aer F0 h1;by_cases h5:(TD p N (a+1) l).2.2≠0
  ·have hS:ZS p N a k l=(0,0,(TD p N (a+1) l).2.2):=by rw[ZS,Aa2 ha,Aa2 hz,Aa4 h5]
   rw[hS];generalize TD p N (a+1) l=R at*
   obtain⟨v,n,e⟩:=R;simp only at*
   rw[Aa4 (by rw[Am];simpa using h5),Aa4 h5]
  ·have hv:=(TD p N (a+1) l).1.toNat_lt;have z:(GI.toZ (k:Int)).toNat=k:=rfl;have e3:(Eg (1:UInt32) k).toNat=2^k:=by rw[xM];show 1*2^k %_=_;rw[Acm F0,Nat.one_mul]
   by_cases h6:4294967295<(TD p N (a+1) l).1.toNat+2^k
   ·have hS:ZS p N a k l=(0,0,12):=by rw[ZS,Aa2 ha,Aa2 hz,Aa2 h5,Aa4 h6]
    rw[hS];generalize TD p N (a+1) l=R at*
    obtain⟨v,n,e⟩:=R;simp only at*
    rw[Aa2 (by rw[Am];simpa using h5),Dt Axu,Aa,z,Aa4 (by rw[Ad0,xK,UInt32.toNat_add,e3];simp;omega),Aa4 F5]
   ·have hS:ZS p N a k l=(UInt32.ofNat ((TD p N (a+1) l).1.toNat+2^k),(TD p N (a+1) l).2.1,0):=by rw[ZS,Aa2 ha,Aa2 hz,Aa2 h5,Aa2 h6]
    rw[hS];generalize TD p N (a+1) l=R at*
    obtain⟨v,n,e⟩:=R;simp only at*
    have e4:Ae v (Eg (1:UInt32) k)=UInt32.ofNat (v.toNat+2^k):=by
     apply UInt32.toNat_inj.1;rw[xK,UInt32.toNat_add,e3,ZT F0,Acm F0]
    rw[Aa2 (by rw[Am];simpa using h5),Dt Axu,Aa,z,Aa2 (by rw[Ad0,xK,UInt32.toNat_add,e3];simp;omega),e4,yE hd];rfl
theorem Ak6(h:okB p N)(a:Nat)(k l:Nat)(s t:UInt64)(h1:k<=24)(h2:l<=24):IL p (N:Int) (a:Int) (k:Int) (l:Int) s t=some (ZS p N a k l):=by
 have hN:=h.1;have hl:=h.2.1;have hb:=Zl p a;rw[IL];by_cases ha:N<=a
 ·rw[Aa4 Axo,ZS,Aa4 ha]
 rw[Aa2 Axo,rW p _ a F0 F0,Aa,Cm (a:=(N:Int)) (b:=(a:Int)) F0 F0,Cm];have e1:Ae (a:Int) 1=((a+1:Nat):Int):=by rw[Ak];omega
 rw[e1];by_cases hz:Ko p a=0
 ·rw[Aa4 (by rw[Ba];simp[hz])];by_cases h5:N<a+1+k
  ·rw[Aa4 Axi,ZS,Aa2 ha,Aa4 hz,Aa4 h5]
  ·rw[Aa2 Axi,lZ p _ (a+1) k F0 F0,Aa,ZS,Aa2 ha,Aa4 hz,Aa2 h5,pE F0,Ak];rfl
 ·rw[Aa2 Axq,Aiz h (a+1) l h2,Aa];have hp:2^k<=2^24:=Aer F0 h1;have hv:=(TD p N (a+1) l).1.toNat_lt;have e2:∀x:UInt64,(Ad x:UInt32)=UInt32.ofNat x.toNat:=λx=>by simp only[Ad,Jn,Ez]
  by_cases h5:(TD p N (a+1) l).2.2≠0
  ·have hS:ZS p N a k l=(0,0,(TD p N (a+1) l).2.2):=by rw[ZS,Aa2 ha,Aa2 hz,Aa4 h5]
   rw[hS];generalize TD p N (a+1) l=R at*
   obtain⟨v,n,e⟩:=R;simp only at*
   rw[Aa4 (by rw[Am];simpa using h5)]
  ·have hsum:∀v:UInt32,(Ae (Ad v:UInt64) (UInt64.ofNat (2^k))).toNat=v.toNat+2^k:=by
    intro v;have:=v.toNat_lt;have:=Av7 (n:=k) (show 0<2 by omega);rw[KX,UInt64.toNat_add,Jg,TM F0,Ai5];omega
   by_cases h6:4294967295<(TD p N (a+1) l).1.toNat+2^k
   ·have hS:ZS p N a k l=(0,0,12):=by rw[ZS,Aa2 ha,Aa2 hz,Aa2 h5,Aa4 h6]
    rw[hS];generalize TD p N (a+1) l=R at*
    obtain⟨v,n,e⟩:=R;simp only at*
    rw[Aa2 (by rw[Am];simpa using h5),KT k F0,Aa,Aa4 (by rw[TZ,hsum];simpa using h6)]
   ·have hS:ZS p N a k l=(UInt32.ofNat ((TD p N (a+1) l).1.toNat+2^k),(TD p N (a+1) l).2.1,0):=by rw[ZS,Aa2 ha,Aa2 hz,Aa2 h5,Aa2 h6]
    rw[hS];generalize TD p N (a+1) l=R at*
    obtain⟨v,n,e⟩:=R;simp only at*
    rw[Aa2 (by rw[Am];simpa using h5),KT k F0,Aa,Aa2 (by rw[TZ,hsum];simpa using h6),e2,hsum]
theorem Axp{p:Prop}(h:p:=by rw[Am];simp;omega):p:=h
theorem Ax0{p:Prop}(h:p:=by rw[<-Auc];omega):p:=h
end Go.Pl
namespace Go.Pl
open Go Go.Lv
variable{out v:LU}
abbrev DuN:=Nat×Nat×UInt64×UInt64
def okN(d:DuN):Prop:=okD d.1 d.2.1 d.2.2.1 d.2.2.2
def nxt(d:DuN)(v:UInt32):DuN:=(kS d.1 (GD d.2.2.1 (ji v)),lK d.2.1 d.2.2.2 d.1 v,GD d.2.2.1 (ji v),lT d.2.2.2 d.1 v)
def Z5:DuN:=(10,10,16384,16384)
theorem Ajl:okN Z5:=⟨F5,F5,F5,F5⟩
theorem Arj{d:DuN}(h:okN d)(v:UInt32):okN (nxt d v):=Aie h v
abbrev DuL:=Int×Int×UInt64×UInt64×Unit
def toI(d:DuN):DuL:=((d.1:Int),(d.2.1:Int),d.2.2.1,d.2.2.2,())
def fZ(ch:Nat)(v:LU)(c:Nat):Nat->DuN
 |0=>Z5
 |m+1=>if m %ch=c then nxt (fZ ch v c m) (v.getD m 0)else fZ ch v c m
theorem sR(ch:Nat)(v:LU)(c:Nat):∀m,okN (fZ ch v c m)
 |0=>Ajl
 |m+1=>by rw[fZ];split;exact Arj (sR ch v c m) _;exact sR ch v c m
theorem Ae6(ch:Nat)(v w:LU)(c:Nat):∀m,m<=v.length->fZ ch (v++w) c m=fZ ch v c m
 |0,_=>rfl
 |m+1,h=>by
  have e:(v++w).getD m 0=v.getD m 0:=by simp[List.getD_eq_getElem?_getD,List.getElem?_append_left (show m<v.length by omega)]
  rw[fZ,fZ,Ae6 ch v w c m F0,e]
theorem V0(ch:Nat)(v:LU)(c:Nat):∀m,m<=c->c<ch->fZ ch v c m=Z5
 |0,_,_=>rfl
 |m+1,h,h2=>by rw[fZ,Aa2 (by rw[Acm F0];omega),V0 ch v c m F0 h2]
theorem zl(ch:Nat)(v:LU)(c i:Nat)(hi:i %ch=c)(hc:c<ch):∀j,j<ch->fZ ch v c (i+1+j)=fZ ch v c (i+1)
 |0,_=>rfl
 |j+1,h=>by
  have hne:(i+1+j) %ch≠c:=by
   intro e;have h1:(i+(1+j)) %ch=i %ch:=by rw[hi,<-e];congr 1;omega
   have h2:(1+j) %ch=0:=by
    have h3:=Nat.sub_mod_eq_zero_of_mod_eq h1;rwa [Awz]at h3
   rw[Acm F0]at h2;omega
  rw[show i+1+(j+1)=(i+1+j)+1 by omega,fZ,Aa2 hne,zl ch v c i hi hc j F0]
theorem Aj1(ch:Nat)(v:LU)(c i:Nat)(hi:i %ch=c)(hc:c<ch):fZ ch v c (i+ch)=nxt (fZ ch v c i) (v.getD i 0):=by
 have h:=zl ch v c i hi hc (ch-1) F0;rw[show i+1+(ch-1)=i+ch by omega]at h;rw[h,fZ,Aa4 hi]
theorem G9{l:LU}{k:Nat}(h:k<l.length):Ah l (k:Int)=some (l.getD k 0):=by
 rw[Cu h];simp[List.getD_eq_getElem?_getD,h]
theorem yD(a b:Nat):Hk (a:Int) (b:Int)=((a %b:Nat):Int):=by rw[Hk,Awc F0];omega
theorem vV(ch:Nat)(v:LU)(hch:1<=ch)(Ase:ch<=6)(hv:v.length<=4000):∀(j i q:Nat),i %ch=v.length %ch->i<=v.length->v.length-i<=j->j<q->
  Mk (ch:Int) v q (i:Int) ((fZ ch v (v.length %ch) i).1:Int) ((fZ ch v (v.length %ch) i).2.1:Int) (fZ ch v (v.length %ch) i).2.2.1 (fZ ch v (v.length %ch) i).2.2.2=
   some (((fZ ch v (v.length %ch) v.length).1:Int),((fZ ch v (v.length %ch) v.length).2.1:Int),(fZ ch v (v.length %ch) v.length).2.2.1,(fZ ch v (v.length %ch) v.length).2.2.2)
 |j,i,q+1,hi,hl,hj,hq=>by
  have hc:v.length %ch<ch:=Av2 _ F0;rw[Mk,FD];by_cases h:i<v.length
  ·have h1:=Ahf (sR ch v (v.length %ch) i) (v.getD i 0);rw[Aa4 F2,G9 h,Aa,h1,Aa];have hle:i+ch<=v.length:=by
    have h2:=Nat.div_add_mod i ch;have h3:=Nat.div_add_mod v.length ch;rw[hi]at h2;have h4:ch*(i/ch)<ch*(v.length/ch):=F0
    have h5:=Nat.lt_of_mul_lt_mul_left h4;have h6:ch*(i/ch+1)<=ch*(v.length/ch):=Nat.mul_le_mul_left _ h5;rw[Nat.mul_add]at h6;omega
   have ih:=vV ch v hch Ase hv (j-ch) (i+ch) q (by rw[Axa];exact hi) hle F0 F0;rw[Aj1 ch v _ i hi hc]at ih;simp only;rw[Ak];exact ih
  ·rw[Aa2 F2,show i=v.length by omega];rfl
theorem Agm(ch:Nat)(v:LU)(hch:1<=ch)(Ase:ch<=6)(hv:v.length<=4000):Qk (ch:Int) v=some (((fZ ch v (v.length %ch) v.length).1:Int),((fZ ch v (v.length %ch) v.length).2.1:Int),(fZ ch v (v.length %ch) v.length).2.2.1,(fZ ch v (v.length %ch) v.length).2.2.2):=by
 have hc:v.length %ch<ch:=Av2 _ F0;have hle:v.length %ch<=v.length:=Nat.mod_le _ _;have h:=vV ch v hch Ase hv v.length (v.length %ch) Ar (by rw[Nat.mod_mod]) hle F0 Axj;rw[V0 ch v _ _ (Apn _) hc]at h;rw[Qk,EA,Nf,Aa];simp only;rw[Dt Axp,Aa,Ac,yD];exact h
def now(ch:Nat)(v:LU):DuN:=fZ ch v (v.length %ch) v.length
def xR(N a:Nat):Nat:=min 81 (N-a)
def Mg(ch:Nat)(p:LB)(N a:Nat)(out:LU):UInt32×Int×Int:=ZS (HY p a (xR N a)) (xR N a) 0 (now ch out).1 (now ch out).2.1
def Xr(ch:Nat)(p:LB)(N:Nat):Nat->Nat->LU->LU×Nat×Int
 |0,a,out=>(out,a,0)
 |j+1,a,out=>if(Mg ch p N a out).2.2≠0 then(out,a,(Mg ch p N a out).2.2)else Xr ch p N j (a+(Mg ch p N a out).2.1.toNat) (out++[(Mg ch p N a out).1])
theorem iX{ch:Nat}{p:LB}{N a:Nat}(h:(Mg ch p N a out).2.2=0):0<(Mg ch p N a out).2.1/\ (Mg ch p N a out).2.1<=xR N a:=by
 have:=Are h;exact⟨this.1,this.2⟩
theorem R8{ch:Nat}{p:LB}{N a:Nat}(h:(Mg ch p N a out).2.2=0):((a:Int)+(Mg ch p N a out).2.1)=((a+(Mg ch p N a out).2.1.toNat:Nat):Int):=by
 have:=iX h;omega
def sts(ch:Nat)(v:LU):List DuL:=(List.range 6).map λc=>toI (fZ ch v c v.length)
theorem Aed{ch:Nat}{c:Nat}(h:c<6):Ah (sts ch v) (c:Int)=some (toI (fZ ch v c v.length)):=by
 rw[Cu (by simp[sts];exact h)];simp[sts]
theorem Ao3{ch:Nat}{c:Nat}(x:UInt32)(h:c<6)(hc:c=v.length %ch):Mc (sts ch v) (c:Int) (toI (nxt (fZ ch v c v.length) x))=some (sts ch (v++[x])):=by
 rw[Yp _ (by simp[sts];exact h)];congr 1;apply Aur (by simp[sts]);intro i h1 h2;rw[Aw2];simp only[sts,Aw3,Awp];have e:(v++[x]).getD v.length 0=x:=by simp
 rw[Aa7,List.length_singleton,fZ,e,Ae6 ch v [x] i v.length (Apn _)];by_cases hi:c=i
 ·subst hi;rw[Aa4 rfl,Aa4 hc.symm]
 ·rw[Aa2 hi,Aa2 F0]
section
variable {p:LB} {N ch n:Nat}
theorem jr(hp:okB p N)(h1:1<=ch)(h6:ch<=6)(hn:n*ch<=4000):∀(j a q:Nat) (out:LU),out.length+j=n*ch->j<q->a<=N->
  My (ch:Int) (n:Int) p (N:Int) q (a:Int) (out.length:Int) (sts ch out) out=
   some (if(Xr ch p N j a out).2.2≠0 then([],0,(Xr ch p N j a out).2.2)else((Xr ch p N j a out).1,((Xr ch p N j a out).2.1:Int),0))
 |j,a,q+1,out,hj,hq,ha=>by
  have hN:=hp.1;have hnn:n<=n*ch:=Nat.le_mul_of_pos_right n F0;have em:Ce (n:Int) (ch:Int)=((n*ch:Nat):Int):=by rw[Jj Ax0 Ax0,Auc]
  rw[My,Tc,em];cases j with
  |zero=>
   rw[Aa2 Axi];rfl
  |succ j=>
   have hc:out.length %ch<6:=Apy (Av2 _ F0) h6;have ew:Dx (Ae (a:Int) 81) (N:Int)=((a+xR N a:Nat):Int):=by rw[HZ,Ak];unfold xR;omega
   have hw:a+xR N a<=N:=by unfold xR;omega
   have hw2:xR N a<=81:=by unfold xR;omega
   have hd:=Anp (Adt p a (xR N a) F0) 0 (sR ch out (out.length %ch) out.length);have Ama:ZS (HY p a (xR N a)) (xR N a) 0 (fZ ch out (out.length %ch) out.length).1 (fZ ch out (out.length %ch) out.length).2.1=Mg ch p N a out:=rfl;rw[Aa4 Axi,ew,Aqu hp a _ hw F0,Aa];simp only;rw[Aa2 Axm,Dt Axp,Aa,yD,Aed hc,Aa,Aa];refine Av6 (congrArg (λo=>Option.bind o _) hd) ?_;rw[Aa,Ama,Xr];by_cases he:(Mg ch p N a out).2.2≠0
   ·rw[Aa4 he,Aa4 he];simp only;rw[Sg,AN,Aa4 (by rw[Am];simpa using he),Aa4 he]
   ·have he0:(Mg ch p N a out).2.2=0:=by simpa using he
    have hok:=iX he0;have hset:=Ao3 (ch:=ch) (v:=out) (Mg ch p N a out).1 hc rfl;rw[Aa2 he,Aa2 he];simp only;rw[Sg,AN,Aa2 Axm,Dt Axp,Aa,yD,Aed hc,Aa];refine Av6 (congrArg (λo=>Option.bind o _) hset) ?_;rw[Aa,QH,RY,Ct F6,Aa,Ak,Ak,R8 he0];have ih:=jr hp h1 h6 hn j (a+(Mg ch p N a out).2.1.toNat) q (out++[(Mg ch p N a out).1]) F6 F0 F0;rw[Aa7,List.length_singleton]at ih;exact ih
theorem Afj{p:LB}(hN:N=8*p.length)(hN2:N<=330000)(h1:1<=ch)(h6:ch<=6)(hn:n*ch<=4000):∀(j a q:Nat) (out:LU),out.length+j=n*ch->j<q->a<=N->
  Fi (ch:Int) (n:Int) p q (a:Int) (out.length:Int) out=
   if(Xr ch p N j a out).2.2≠0 then some ((Xr ch p N j a out).1,(Xr ch p N j a out).2.2)else Uo ((Xr ch p N j a out).2.1:Int) p (Xr ch p N j a out).1
 |j,a,q+1,out,hj,hq,ha=>by
  have hnn:n<=n*ch:=Nat.le_mul_of_pos_right n F0;have em:Ce (n:Int) (ch:Int)=((n*ch:Nat):Int):=by rw[Jj Ax0 Ax0,Auc]
  have e8:Ce (8:Int) (Ac p)=(N:Int):=by rw[Ac,Jj];omega
  rw[Fi,HO,em];cases j with
  |zero=>
   rw[Aa2 Axi];rfl
  |succ j=>
   have ew:Dx (Ae (a:Int) 81) (N:Int)=((a+xR N a:Nat):Int):=by rw[HZ,Ak];unfold xR;omega
   have hw:a+xR N a<=N:=by unfold xR;omega
   have hw2:xR N a<=81:=by unfold xR;omega
   have hpre:(Option.bind Nf λ(r_4,r_5,r_6,r_7)=>
     if(Kq (out.length:Int) (ch:Int))=true then(
     Option.bind (Qk (ch:Int) out) λ(r_8,r_9,r_10,r_11)=>
     Js (Fi (ch:Int) (n:Int) p q) (ch:Int) (n:Int) p (a:Int) (out.length:Int) out r_8 r_9 r_10 r_11)
     else Js (Fi (ch:Int) (n:Int) p q) (ch:Int) (n:Int) p (a:Int) (out.length:Int) out r_4 r_5 r_6 r_7)=
     Js (Fi (ch:Int) (n:Int) p q) (ch:Int) (n:Int) p (a:Int) (out.length:Int) out ((now ch out).1:Int) ((now ch out).2.1:Int) (now ch out).2.2.1 (now ch out).2.2.2:=by
    rw[Nf,Aa];by_cases hc:ch<=out.length
    ·simp only;rw[Aa4 Axo,Agm ch out h1 h6 F0,Aa];rfl
    ·have e:now ch out=Z5:=by rw[now,Acm F0,V0 ch out _ _ (Apn _) F0]
     simp only;rw[Aa2 Axo,e];rfl
   have hd:=Ak6 (Adt p a (xR N a) F0) 0 (now ch out).1 (now ch out).2.1 (now ch out).2.2.1 (now ch out).2.2.2 (sR ch out _ _).1 (sR ch out _ _).2.1;have Ama:ZS (HY p a (xR N a)) (xR N a) 0 (now ch out).1 (now ch out).2.1=Mg ch p N a out:=rfl;rw[Aa4 Axi,hpre,Js,HH,e8,ew,ko p (N:Int) a _ F0 F0 F0,Aa];simp only;refine Av6 (congrArg (λo=>Option.bind o _) hd) ?_;rw[Aa,Ama,Xr];by_cases he:(Mg ch p N a out).2.2≠0
   ·rw[Aa4 he,Aa4 (by rw[Am];simpa using he),Aa4 he]
   ·have he0:(Mg ch p N a out).2.2=0:=by simpa using he
    have hok:=iX he0;have ih:=Afj hN hN2 h1 h6 hn j (a+(Mg ch p N a out).2.1.toNat) q (out++[(Mg ch p N a out).1]) F6 F0 F0;have hx:=R8 he0;rw[Aa7,List.length_singleton]at ih;rw[Aa2 he];generalize Mg ch p N a out=R at*
    obtain⟨v,nx,e⟩:=R;simp only at*
    rw[Aa2 (by rw[Am];simpa using he),Ct F6,Aa,Ak,Ak,hx];exact ih
end
theorem wU{ch:Nat}{p:LB}{N:Nat}:∀(j a:Nat) (out:LU),a<=N-> (Xr ch p N j a out).2.1<=N/\ (Xr ch p N j a out).1.length<=out.length+j/\ ((Xr ch p N j a out).2.2=0-> (Xr ch p N j a out).1.length=out.length+j)
 |0,a,out,h=>⟨h,Apn _,λ_=>rfl⟩
 |j+1,a,out,h=>by
  rw[Xr];split
  ·rename_i he;exact⟨h,Axl,λe=>absurd e he⟩
  ·rename_i he;have hok:=iX (ch:=ch) (p:=p) (N:=N) (a:=a) (out:=out) (by simpa using he);have hw:a+xR N a<=N:=by unfold xR;omega
   have ih:=wU (ch:=ch) (p:=p) (N:=N) j (a+(Mg ch p N a out).2.1.toNat) (out++[(Mg ch p N a out).1]) F0;rw[Aa7,List.length_singleton]at ih;exact⟨ih.1,F0,λe=>by have:=ih.2.2 e;omega⟩
theorem mq(ch n:Int)(b:LB)(N:Int):BJ ch n b N 0 (List.replicate 6 ((0:Int),(0:Int),(0:UInt64),(0:UInt64),()))=PY ch n b N (List.replicate 6 ((10:Int),(10:Int),(16384:UInt64),(16384:UInt64),())):=by
 have e:Ar=(Ar-7)+1+1+1+1+1+1+1:=by have:=As;omega
 rw[BJ,e];rfl
theorem values_eq{p:LB}{N ch n:Nat}(hp:okB p N)(h1:1<=ch)(h6:ch<=6)(hn:n*ch<=4000):EK (ch:Int) (n:Int) p (N:Int)=
  some (if(Xr ch p N (n*ch) 0 []).2.2≠0 then([],0,(Xr ch p N (n*ch) 0 []).2.2)else((Xr ch p N (n*ch) 0 []).1,((Xr ch p N (n*ch) 0 []).2.1:Int),0)):=by
 have h:=jr hp h1 h6 hn (n*ch) 0 Ar [] Axl Axj F0;rw[EK,EJ,mq];exact h
theorem Q1(p:LB)(x:LU)(N:Nat)(hN:N=8*p.length)(hN2:N<=330000):∀(j a q:Nat),a+j=N->j<q->Ju p x q (a:Int)=some (x,if Cy p a j=0 then 0 else 12)
 |0,a,q+1,ha,_=>by
  have e8:Ce (8:Int) (Ac p)=(N:Int):=by rw[Ac,Jj];omega
  rw[Ju,Ub,e8,Aa2 Axi,Cy,Aa4 rfl];rfl
 |j+1,a,q+1,ha,hq=>by
  have e8:Ce (8:Int) (Ac p)=(N:Int):=by rw[Ac,Jj];omega
  have hb:=Zl p a;rw[Ju,Ub,e8,Aa4 Axi,rW p _ a F0 F0,Aa,Cy];by_cases h:Ko p a=0
  ·rw[Aa2 (by rw[Am];simp[h]),Ak,h];have ih:=Q1 p x N hN hN2 j (a+1) q F0 F0;rw[show((a:Int)+1)=((a+1:Nat):Int) by omega,ih];congr 2;by_cases hv:Cy p (a+1) j=0
   ·rw[Aa4 hv,Aa4 F0]
   ·rw[Aa2 hv,Aa2 F0]
  ·rw[Aa4 Axp,Aa2 F0]
theorem Aef{p:LB}{N ch n:Nat}(hN:N=8*p.length)(hN2:N<=330000)(h1:1<=ch)(h6:ch<=6)(hn:n*ch<=4000):DJ (ch:Int) (n:Int) p=
  some (if(Xr ch p N (n*ch) 0 []).2.2≠0 then((Xr ch p N (n*ch) 0 []).1,(Xr ch p N (n*ch) 0 []).2.2)else
   ((Xr ch p N (n*ch) 0 []).1,if 7<N-(Xr ch p N (n*ch) 0 []).2.1\/Cy p (Xr ch p N (n*ch) 0 []).2.1 (N-(Xr ch p N (n*ch) 0 []).2.1)≠0 then 12 else 0)):=by
 have h:=Afj hN hN2 h1 h6 hn (n*ch) 0 Ar [] Axl Axj F0;have hat:=(wU (ch:=ch) (p:=p) (N:=N) (n*ch) 0 [] F0).1;have e8:Ce (8:Int) (Ac p)=(N:Int):=by rw[Ac,Jj];omega
 rw[DJ,LC];refine Av6 h ?_;generalize Xr ch p N (n*ch) 0 []=V at*
 obtain⟨v,a,e⟩:=V;simp only at*
 by_cases he:e≠0
 ·rw[Aa4 he,Aa4 he]
 ·rw[Aa2 he,Aa2 he,Uo,GU,e8,Cm];by_cases h7:7<N-a
  ·rw[Aa4 Axn,Aa4 (.inl h7)]
  ·rw[Aa2 Axn,GY,Q1 p v N hN hN2 (N-a) a Ar F0 Axj];by_cases hv:Cy p a (N-a)=0
   ·rw[Aa4 hv,Aa2 F0]
   ·rw[Aa2 hv,Aa4 (.inr hv)]
theorem iw(n:Int):(GI.ofZ n:Int32)=Int32.ofInt n:=rfl
theorem UL(a:Int32):GI.toZ a=a.toInt:=rfl
theorem WW(a b:Int32):Ae a b=a+b:=by
 rw[Ae,UL,UL,iw,Int32.ofInt_add,Atq,Atq]
theorem zH(a b:Int32):Al a b=a-b:=by
 rw[Al,UL,UL,iw,Int32.ofInt_sub,Atq,Atq]
theorem Ad3(a b:Int32):geq a b=(a==b):=by
 rw[geq,UL,UL,Akf];simp[Int32.toInt_inj]
def fQ(p:Nat->Bool)(a b:LX):LX:=(List.range a.length).map λk=>if p k=true then a.getD k 0 else b.getD k 0
section
variable {p q:Nat->Bool} {a b:LX}
theorem aU:(fQ p a b).length=a.length:=by simp[fQ]
theorem Oa{k:Nat}(h:k<a.length):a.getD k 0=a[k]:=by simp[List.getD_eq_getElem?_getD,h]
theorem CE{k:Nat}(h:k<(fQ p a b).length):(fQ p a b)[k]=if p k=true then a.getD k 0 else b.getD k 0:=by simp[fQ]
theorem UR{k:Nat}(h:k<a.length):Ah (fQ p a b) (k:Int)=some (if p k=true then a.getD k 0 else b.getD k 0):=by
 rw[Cu (by rw[aU];exact h),CE]
theorem CC(h:∀k,k<a.length->p k=q k):fQ p a b=fQ q a b:=by
 apply Awy;intro k hk;rw[h k (List.mem_range.1 hk)]
theorem qR{k:Nat}(h:k<a.length):Mc (fQ p a b) (k:Int) (a.getD k 0)=some (fQ (λj=>p j||decide (j=k)) a b):=by
 rw[Yp _ (by rw[aU];exact h)];congr 1;apply Aur (by simp[aU]);intro i h1 h2;rw[Aw2,CE,CE];by_cases hi:k=i
 ·subst hi;simp
 ·have:¬i=k:=λe=>hi e.symm;simp[hi,this]
theorem qF(h:∀k,k<a.length->p k=true):fQ p a b=a:=by
 apply Aur (by simp[aU]);intro i h1 h2;rw[CE,Aa4 (h i h2),Oa h2]
theorem oF(hl:b.length=a.length)(h:∀k,k<a.length->p k=false):fQ p a b=b:=by
 apply Aur (by simp[aU,hl]);intro i h1 h2;rw[CE,h i F0];simp[List.getD_eq_getElem?_getD,h2]
end
theorem Ax4{p:Prop}(h:p:=by rw[Ba];decide):p:=h
end Go.Pl
namespace Go.Pl
open Go Go.Lv
variable{s bits:Int}{x w:Int32}{t p a b:LX}{i:Nat}
theorem xV(a b:Int32):Ce a b=a*b:=by
 rw[Ce,UL,UL,iw,Int32.ofInt_mul,Atq,Atq]
theorem FP(a:Int32): -2147483648<=a.toInt/\a.toInt<2147483648:=⟨a.le_toInt,a.toInt_lt⟩
theorem Fv(a:Int32):(Ad a:Int)=a.toInt:=by
 have:=FP a
 show wrap64 a.toInt=_;rw[Cz]<;>omega
theorem PT(n:Int):(Ad n:Int32)=Int32.ofInt n:=rfl
theorem Ag2(x:Int):Int32.ofInt (x %4294967296)=Int32.ofInt x:=by
 apply Int32.toInt_inj.1;rw[Awf,Awf];exact Int.emod_bmod x 4294967296
theorem xC(x:Int):Dc x=some (Int32.ofInt x):=by
 have e1:(Ad x:UInt64).toNat=(x %18446744073709551616).toNat:=by
  rw[uw,Ai5,Acm F0]
 have e2:(Ad (Ad x:UInt64):UInt32).toNat=(x %4294967296).toNat:=by
  have e:(Ad (Ad x:UInt64):UInt32)=UInt32.ofNat (Ad x:UInt64).toNat:=by simp only[Ad,Jn,Ez]
  rw[e,An1,e1];show(x %18446744073709551616).toNat %4294967296=_;omega
 have e3:(Ad (Ad (Ad x:UInt64):UInt32):Int32)=Int32.ofInt ((Ad (Ad x:UInt64):UInt32).toNat:Int):=rfl;rw[Dc,e3,e2,<-Ag2 x];congr 2;omega
theorem oN(a b:Int32):Dc (Ae (Ad a:Int) (Ad b:Int))=some (a+b):=by
 have:=FP a;have:=FP b;rw[Fv,Fv,Ak,xC,Int32.ofInt_add,Atq,Atq]
theorem Akq(a b:Int32):Dc (Ce (Ad a:Int) (Ad b:Int))=some (a*b):=by
 have ha:=FP a;have hb:=FP b;have h1: -9223372036854775808<=a.toInt*b.toInt/\a.toInt*b.toInt<=9223372036854775807:=by
  have h2:(a.toInt*b.toInt).natAbs<=2147483648*2147483648:=by
   rw[Int.natAbs_mul];exact Aun F0 F0
  omega
 rw[Fv,Fv,Jj h1.1 h1.2,xC,Int32.ofInt_mul,Atq,Atq]
def OkF(s:Int)(t p:LX):Prop:=(s=9\/s=10)/\t.length=16/\p.length=16
theorem sL(h:OkF s t p):IU s t p=some 0:=by
 obtain⟨rfl|rfl,_,_⟩:=h<;>rfl
theorem g32{l:LX}{k:Nat}(h:k<l.length):Ah l (k:Int)=some (l.getD k 0):=by
 rw[Cu h];simp[List.getD_eq_getElem?_getD,h]
def gC(t p:LX):Nat->Int32
 |0=>0
 |i+1=>gC t p i+t.getD i 0*p.getD i 0
def half(s:Int):Int32:=if s=9 then 256 else 512
def gF(s:Int)(t p:LX):Int32:=Int32.ofInt ((half s+gC t p 16).toInt.fdiv (if s=9 then 512 else 1024))
theorem P2{s:Int}{t p:LX}(h:OkF s t p):∀(j i q:Nat),i+j=16->j<q->Tu t s p q (half s+gC t p i) (i:Int)=some (gF s t p,0)
 |0,i,q+1,hi,_=>by
  obtain rfl:i=16:=F0
  have hs:=h.1;rw[Tu,JJ,Aa2 Axs,VQ,lQ,Dt Axo,Aa];obtain rfl|rfl:=hs<;>rfl
 |j+1,i,q+1,hi,hq=>by
  obtain⟨hs,ht,hp⟩:=h;rw[Tu,JJ,Aa4 Axi,g32 F0,Aa,g32 F0,Aa,Aa,Ak (b:=1) F0 F0,WW,xV,Int32.add_assoc];exact P2 ⟨hs,ht,hp⟩ j (i+1) q F0 F0
theorem Akd(h:OkF s t p):RN s t p=some (gF s t p,0):=by
 have hs:=h.1;have h1:=P2 h 16 0 Ar F0 Axj;have e:Eg (1:Int32) (GI.toZ (Al s (1:Int))).toNat=half s+gC t p 0:=by
  obtain rfl|rfl:=hs<;>rfl
 rw[RN,VM,sL h,Aa,Aa2 Axm,Dt (by rw[Ek,Cm];simp;omega),Aa,lF,e];exact h1
theorem G7{s:Int}{t p:LX}(ht:t.length=16)(hp:p.length=16){g:Int32}(hg:gC t p 16=g):∀(j i q:Nat),i+j=16->j<q->Lw s t p q (gC t p i).toInt (i:Int)=some g
 |0,i,q+1,hi,_=>by
  obtain rfl:i=16:=F0
  rw[Lw,Yd,Aa2 Axs,NT,OO,PT,Atq,hg]
 |j+1,i,q+1,hi,hq=>by
  have ih:=G7 (s:=s) ht hp hg j (i+1) q F0 F0;rw[gC]at ih;rw[Lw,Yd,Aa4 Axi,g32 F0,g32 F0,Aa,Aa,Aa,Aa,Akq,Aa,<-Fv (gC t p i),oN,Aa,Fv,Ak];exact ih
theorem Ajh(h:OkF s t p):WT s t p=some (gC t p 16):=
 G7 h.2.1 h.2.2 rfl 16 0 Ar F0 Axj
theorem Ahj(x n:Int)(hn:n=512\/n=1024\/n=16\/n=32):(if x.tmod n<0 then x.tdiv n-1 else x.tdiv n)=x.fdiv n:=by
 have hs:n.sign=1:=by obtain rfl|rfl|rfl|rfl:=hn<;>rfl
 rw[Int.tdiv_eq_ediv,Int.tmod_eq_emod,hs,Ar0 _ F0];by_cases h:0<=x\/n∣x
 ·rw[Aa4 h,Aa4 h];obtain rfl|rfl|rfl|rfl:=hn<;>(rw[Aa2 F0];omega)
 ·rw[Aa2 h,Aa2 h];obtain rfl|rfl|rfl|rfl:=hn<;>(rw[Aa4 F0];omega)
theorem H7(x n:Int)(hn:n=512\/n=1024\/n=16\/n=32)(h: -1000000000000<=x)(h':x<=1000000000000): -1000000000000<=x.tdiv n/\x.tdiv n<=1000000000000:=by
 have hs:n.sign=1:=by obtain rfl|rfl|rfl|rfl:=hn<;>rfl
 rw[Int.tdiv_eq_ediv,hs];by_cases h:0<=x\/n∣x
 ·rw[Aa4 h];obtain rfl|rfl|rfl|rfl:=hn<;>omega
 ·rw[Aa2 h];obtain rfl|rfl|rfl|rfl:=hn<;>omega
theorem Atd(x n:Int)(hn:n=512\/n=1024\/n=16\/n=32)(h: -1000000000000<=x)(h':x<=1000000000000):Cq x n=x.tdiv n:=by
 have:=H7 x n hn h h';rw[ML,Cz F0 F0]
theorem xu(x n:Int)(hn:n=512\/n=1024\/n=16\/n=32)(h: -1000000000000<=x)(h':x<=1000000000000):
  (if(Cj (Hk x n) (0:Int))=true then some (Ad (Al (Cq x n) (1:Int)):Int32)else some (Ad (Cq x n):Int32))=some (Int32.ofInt (x.fdiv n)):=by
 have hb:=H7 x n hn h h';rw[Af,Hk,Atd x n hn h h',Cm,PT,PT,<-Ahj x n hn];by_cases hx:x.tmod n<0
 ·rw[Aa4 (by simpa using hx),Aa4 hx]
 ·rw[Aa2 (by simpa using hx),Aa2 hx]
theorem Am2(h:OkF s t p):EF s t p=some (gF s t p):=by
 obtain⟨hs,ht,hp⟩:=h;have h:OkF s t p:=⟨hs,ht,hp⟩;have hx:=FP (gC t p 16+half s);have key:∀n:Int,(n=512\/n=1024)-> (half s).toInt=n/2->gF s t p=Int32.ofInt ((half s+gC t p 16).toInt.fdiv n)->Ww s t p n=some (gF s t p):=by
  intro n hn hh hg;have e2:Cq n (2:Int)=(half s).toInt:=by rw[hh];obtain rfl|rfl:=hn<;>rfl
  rw[Ww,JW,Ajh h,Aa,e2,<-Fv (half s),oN,Aa,Dt Axp,Aa,Aa,Fv,xu _ n F0 F0 F0,hg,Int32.add_comm]
 rw[EF,KB];obtain rfl|rfl:=hs
 ·rw[Aa4 Ax3];exact key 512 (.inl rfl) rfl rfl
 ·rw[Aa2 Ax4];exact key 1024 (.inr rfl) rfl rfl
def jl(i:Nat):Int32:=if i=0 then 4 else if i<4 then 2 else 1
def sg(x:Int32):Int32:=if x.toInt<0 then -1 else if 0<x.toInt then 1 else 0
def M8(t p:LX)(w:Int32):LX:=(List.range 16).map λi=>t.getD i 0+jl i*sg (p.getD i 0)*sg w
theorem JN(t p:LX)(w:Int32):(M8 t p w).length=16:=by simp[M8]
theorem X0(t p:LX)(w:Int32)(h:i<16):(M8 t p w).getD i 0=t.getD i 0+jl i*sg (p.getD i 0)*sg w:=by
 rw[Oa (by rw[JN];exact h)];simp[M8]
theorem step_eq(i:Nat):XB (i:Int)=some (jl i):=by
 rw[XB,jl];by_cases h:i=0
 ·rw[Aa4 (by rw[Ba];simp[h]),Aa4 h]
 ·rw[Aa2 Axq,Aa2 h];by_cases h2:i<4
  ·rw[Aa4 Axi,Aa4 h2]
  ·rw[Aa2 Axi,Aa2 h2]
theorem Agi(i:Nat):FX (i:Int)=some (jl i):=by
 rw[FX,jl];by_cases h:i=0
 ·rw[Aa4 (by rw[Ba];simp[h]),Aa4 h]
 ·rw[Aa2 Axq,Aa2 h];by_cases h2:i<4
  ·rw[Aa4 (by rw[RW];simp;omega),Aa4 h2]
  ·rw[Aa2 (by rw[RW];simp;omega),Aa2 h2]
theorem X2(a b:Int32):Cj a b=decide (a.toInt<b.toInt):=rfl
theorem Abw(a b:Int32):Dv a b=decide (b.toInt<a.toInt):=rfl
theorem sign_eq(x:Int32):Ur x=some (sg x):=by
 rw[Ur,sg,X2,Abw,show(0:Int32).toInt=0 from rfl];by_cases h:x.toInt<0
 ·rw[Aa4 (by simpa using h),Aa4 h]
 ·rw[Aa2 (by simpa using h),Aa2 h];by_cases h2:0<x.toInt
  ·rw[Aa4 (by simpa using h2),Aa4 h2]
  ·rw[Aa2 (by simpa using h2),Aa2 h2]
theorem Aek:sg 0=0:=rfl
theorem toInt_ne(h:x≠0):x.toInt≠0:=λe=>h (Int32.toInt_inj.1 (by rw[e];rfl))
theorem U6(h:x.toInt<0):sg x= -1:=by rw[sg,Aa4 h]
theorem U7(h:x≠0)(h2:¬x.toInt<0):sg x=1:=by
 have:=toInt_ne h;rw[sg,Aa2 h2,Aa4 F0]
theorem jB(i:Nat):jl i=4\/jl i=2\/jl i=1:=by
 unfold jl;by_cases h:i=0
 ·rw[Aa4 h];exact .inl rfl
 ·rw[Aa2 h];split;exact .inr (.inl rfl);exact .inr (.inr rfl)
theorem Agt(hx:x≠0)(hw:w≠0)(h:(x.toInt<0)=(w.toInt<0))(i:Nat):jl i*sg x*sg w=jl i:=by
 by_cases h1:x.toInt<0
 ·rw[U6 h1,U6 (by rw[<-h];exact h1)];obtain e|e|e:=jB i<;>rw[e]<;>decide
 ·rw[U7 hx h1,U7 hw (by rw[<-h];exact h1)];obtain e|e|e:=jB i<;>rw[e]<;>decide
theorem Abg(hx:x≠0)(hw:w≠0)(h:¬(x.toInt<0)=(w.toInt<0))(i:Nat)(a:Int32):a+jl i*sg x*sg w=a-jl i:=by
 have key:jl i*sg x*sg w=-jl i:=by
  by_cases h1:x.toInt<0
  ·have h2:¬w.toInt<0:=λh2=>h (propext ⟨λ_=>h2,λ_=>h1⟩);rw[U6 h1,U7 hw h2];obtain e|e|e:=jB i<;>rw[e]<;>decide
  ·have h2:w.toInt<0:=Decidable.by_contra λh2=>h (propext ⟨λh3=>absurd h3 h1,λh3=>absurd h3 h2⟩);rw[U7 hx h1,U6 h2];obtain e|e|e:=jB i<;>rw[e]<;>decide
 rw[key,Int32.sub_eq_add_neg]
def qL(i:Nat):Nat->Bool:=λj=>decide (j<i)
theorem I3(h:i<a.length):Mc (fQ (qL i) a b) (i:Int) (a.getD i 0)=some (fQ (qL (i+1)) a b):=by
 rw[qR h];congr 1;apply CC;intro k _;rw[Akf];simp only[qL,Ash,Acr];omega
theorem Ahb(e:a.getD i 0=b.getD i 0):fQ (qL i) a b=fQ (qL (i+1)) a b:=by
 apply Awy;intro k _;simp only[qL,Acr];by_cases h1:k<i
 ·rw[Aa4 h1,Aa4 F0]
 ·by_cases h2:k=i
  ·subst h2;rw[Aa2 h1,Aa4 F0,e]
  ·rw[Aa2 h1,Aa2 F0]
theorem zy(h:i<a.length):Ah (fQ (qL i) a b) (i:Int)=some (b.getD i 0):=by
 rw[UR h,Aa2 (by simp[qL])]
theorem S8{s:Int}{t p:LX}{w:Int32}(hw:w≠0)(ht:t.length=16)(hp:p.length=16):∀(j i q:Nat),i+j=16->j<q->To w p s q (i:Int) (fQ (qL i) (M8 t p w) t)=some (s,M8 t p w,p,0)
 |0,i,q+1,hi,_=>by
  obtain rfl:i=16:=F0
  rw[To,JK,Aa2 Axs,qF (λk hk=>by rw[JN]at hk;simpa [qL]using hk)];rfl
 |j+1,i,q+1,hi,hq=>by
  have hl:=JN t p w;have hg:=X0 t p w (i:=i) F0;rw[To,JK,Aa4 Axi,g32 F0,Aa,Ak (b:=1) F0 F0,zy F0,step_eq];simp only[Aa];rw[WW,zH,Ad3,X2,X2,show(0:Int32).toInt=0 from rfl];have ih:=S8 (s:=s) hw ht hp j (i+1) q F0 F0;by_cases hx:p.getD i 0=0
  ·rw[Aa4 (by rw[hx];rfl),Ahb (by rw[hg,hx,Aek,Int32.mul_zero,Int32.zero_mul,Int32.add_zero])];exact ih
  ·rw[Aa2 (by simpa using hx)];by_cases hs:((p.getD i 0).toInt<0)=(w.toInt<0)
   ·rw[Aa4 (by rw[As1];simp only[hs]),show t.getD i 0+jl i=(M8 t p w).getD i 0 by rw[hg,Agt hx hw hs],I3 F0,Aa];exact ih
   ·rw[Aa2 (by rw[As1,decide_eq_decide];exact λh=>hs (propext h)),show t.getD i 0-jl i=(M8 t p w).getD i 0 by rw[hg,Abg hx hw hs],I3 F0,Aa];exact ih
theorem Ah6(p:LX)(ht:t.length=16):M8 t p 0=t:=by
 apply Aur (by rw[JN,ht]);intro i h1 h2;have:=X0 t p 0 (i:=i) F0;rw[Oa h1,Oa h2]at this;rw[this,Aek,Int32.mul_zero,Int32.add_zero]
theorem Aj7(h:OkF s t p)(w:Int32):bL s t p w=some (s,M8 t p w,p,0):=by
 rw[bL,VY,sL h,Aa,Aa2 Axm,Ad3];by_cases hw:w=0
 ·rw[Aa4 (by simpa using hw),hw,Ah6 p h.2.1]
 ·have h1:=S8 (s:=s) hw h.2.1 h.2.2 16 0 Ar F0 Axj;rw[oF (by rw[JN,h.2.1]) (λk _=>by simp[qL])]at h1;rw[Aa2 (by simpa using hw)];exact h1
theorem pO{s:Int}{t p:LX}{w:Int32}(ht:t.length=16)(hp:p.length=16):∀(j i q:Nat),i+j=16->j<q->Hz w s p q (i:Int) (fQ (qL i) (M8 t p w) t)=some (s,M8 t p w,p)
 |0,i,q+1,hi,_=>by
  obtain rfl:i=16:=F0
  rw[Hz,Qw,Aa2 Axs,qF (λk hk=>by rw[JN]at hk;simpa [qL]using hk)];rfl
 |j+1,i,q+1,hi,hq=>by
  have hl:=JN t p w;have hg:=X0 t p w (i:=i) F0;rw[Hz,Qw,Aa4 Axi,g32 (l:=p) F0,Ak (b:=1) F0 F0,zy F0,Agi,sign_eq w,Aa,Aa,Aa,Aa,Aa,sign_eq,Aa,Aa,Aa,WW,xV,xV,<-hg,I3 F0,Aa];exact pO ht hp j (i+1) q F0 F0
theorem Acy(h:OkF s t p)(w:Int32):JV s t p w=some (s,M8 t p w,p):=by
 have h1:=pO (s:=s) (w:=w) h.2.1 h.2.2 16 0 Ar F0 Axj;rw[oF (by rw[JN,h.2.1]) (λk _=>by simp[qL])]at h1;exact h1
theorem Anb(h:p.length=16):∃a0 a1 a2 a3 a4 a5 a6 a7 a8 a9 b0 b1 b2 b3 b4 b5,p=[a0,a1,a2,a3,a4,a5,a6,a7,a8,a9,b0,b1,b2,b3,b4,b5]:=by
 match p,h with
 |[a0,a1,a2,a3,a4,a5,a6,a7,a8,a9,b0,b1,b2,b3,b4,b5],_=>exact⟨a0,a1,a2,a3,a4,a5,a6,a7,a8,a9,b0,b1,b2,b3,b4,b5,rfl⟩
theorem Ams(h:OkF s t p)(x:Int32):jI s t p x=some (s,t,x::p.take 15,0):=by
 obtain⟨hs,ht,hp⟩:=h;rw[jI,OZ,sL ⟨hs,ht,hp⟩,Aa,Aa2 Axm,show aK (16:Int) 1 16=some ()from rfl,Aa,show aK (16:Int) 0 16=some ()from rfl,Aa,aO,oK];obtain⟨a0,a1,a2,a3,a4,a5,a6,a7,a8,a9,b0,b1,b2,b3,b4,b5,rfl⟩:=Anb hp;rfl
def W2(p:LX)(i:Nat):LX:=(List.range 16).map λk=>if k<=i then p.getD k 0 else p.getD (k-1) 0
theorem AF(p:LX)(i:Nat):(W2 p i).length=16:=by simp[W2]
theorem Anz(p:LX)(i k:Nat)(h:k<16):(W2 p i).getD k 0=if k<=i then p.getD k 0 else p.getD (k-1) 0:=by
 rw[Oa (by rw[AF];exact h)];simp[W2]
theorem An7(p:LX)(i:Nat)(h:i+1<16):Mc (W2 p (i+1)) ((i+1:Nat):Int) (p.getD i 0)=some (W2 p i):=by
 rw[Yp _ (by rw[AF];exact h)];congr 1;apply Aur (by simp[AF]);intro k h1 h2;rw[AF]at h2;rw[Aw2];simp only[W2,Aw3,Awp];by_cases hk:i+1=k
 ·subst hk;rw[Aa4 rfl,Aa2 F0];rfl
 ·rw[Aa2 hk];by_cases h3:k<=i
  ·rw[Aa4 F0,Aa4 h3]
  ·rw[Aa2 F0,Aa2 h3]
theorem vT(s:Int)(t p:LX)(x:Int32)(hp:p.length=16):∀(i q:Nat),i<16->i<q->Iv x s t q (i:Int) (W2 p i)=some (s,t,x::p.take 15)
 |0,q+1,_,_=>by
  have hg:Ah (W2 p 0) (0:Int)=some ((W2 p 0).getD 0 0):=g32 (l:=W2 p 0) (k:=0) (by rw[AF];omega);have hset:Mc (W2 p 0) (0:Int) x=some ((W2 p 0).set 0 x):=Yp (l:=W2 p 0) (n:=0) x (by rw[AF];omega);rw[Iv,Ta,Aa2 Ax7,DE,DZ,hg,Aa,hset,Aa];congr 3;apply Aur (by simp[AF,hp]);intro k h1 h2;rw[Avh,AF]at h1;rw[Aw2];cases k with
  |zero=>rw[Aa4 rfl];rfl
  |succ k=>
   rw[Aa2 F0];simp only[W2,Aw3,Awp,List.getElem_cons_succ,List.getElem_take];rw[Aa2 F0,Nat.add_sub_cancel,Oa F0]
 |i+1,q+1,hi,hq=>by
  have hg:=g32 (l:=W2 p (i+1)) (k:=i) (by rw[AF];omega);rw[Anz p (i+1) i F0,Aa4 F0]at hg;have e1:Al ((i+1:Nat):Int) (1:Int)=(i:Int):=by rw[Cm];omega
  have hg2:=g32 (l:=W2 p (i+1)) (k:=i+1) (by rw[AF];omega);rw[Iv,Ta,Aa4 Ax7,e1,hg,Aa,Aa,hg2,Aa,An7 p i hi,Aa];exact vT s t p x hp i q F0 F0
theorem Ag4(hp:p.length=16)(x:Int32):NO s t p x=some (s,t,x::p.take 15):=by
 have h:=vT s t p x hp 15 Ar F0 Axj;have e:W2 p 15=p:=by
  apply Aur (by rw[AF,hp]);intro k h1 h2;rw[AF]at h1;simp only[W2,Aw3,Awp];rw[Aa4 F0,Oa h2]
 rw[e]at h;exact h
theorem Aip(h:OkF s t p)(w x:Int32):OkF s (M8 t p w) (x::p.take 15):=⟨h.1,JN _ _ _,by simp[h.2.2]⟩
theorem Aoe(h:OkF s t p)(y:Int32):iA s t p y=some (y+gF s t p,s,M8 t p y,(y+gF s t p)::p.take 15,0):=by
 rw[iA,Akd h,Aa];simp only;rw[Aa2 Axm,WW,ZI,Aj7 h,Aa];simp only;rw[Ams (s:=s) (t:=M8 t p y) (p:=p) ⟨h.1,JN _ _ _,h.2.2⟩,Aa];rfl
theorem Afn(h:OkF s t p)(y:Int32):Vy s t p y=some (y+gF s t p,s,M8 t p y,(y+gF s t p)::p.take 15):=by
 rw[Vy,Am2 h,Aa,oN,Aa,Acy h,Aa];simp only;rw[Ag4 h.2.2,Aa]
def sB(bits:Int):Int:=if bits=16 then 9 else 10
def shB(bits:Int):Int:=if bits=8 then 4 else 5
def Dd(bits:Int):Prop:=bits=8\/bits=16\/bits=24
def gs(sh:Int)(last:Int32):Int32:=Ad (Y5 (Al (Eg (Ad last:Int) sh.toNat) (Ad last)) sh.toNat)
theorem Atk(bits:Int):sB bits=9\/sB bits=10:=by unfold sB;split<;>simp
theorem An8(bits:Int):0<=shB bits:=by unfold shB;split<;>omega
theorem Avd(h:Dd bits)(t:LX):qA bits t=some (sB bits,t,List.replicate 16 0,0):=by
 obtain rfl|rfl|rfl:=h<;>rfl
theorem Ar6(h:Dd bits):fP bits=some (shB bits,0):=by
 obtain rfl|rfl|rfl:=h<;>rfl
theorem Aqr{sh:Int}(h:0<=sh)(last:Int32):TC sh last=some (gs sh last):=by
 rw[TC,Dt (by rw[Ek];simpa using h),Aa,Aa];rfl
theorem Aq8(h:Dd bits)(last:Int32):Wg bits last=some (gs (shB bits) last,0):=by
 rw[Wg,Ar6 h,Aa];simp only;rw[Aa2 Axm,Aqr (An8 bits),Aa]
theorem Acv(h:Dd bits)(last:Int32)(t p:LX):Wd bits last (sB bits) t p=some 0:=by
 rw[Wd,Avd h,Aa];simp only;rw[Aa2 (by rw[Am,Am];simp)]
theorem Af7(h:Dd bits)(hF:OkF (sB bits) t p)(last y:Int32):
  Lo bits last (sB bits) t p y=some (y+gF (sB bits) t p+gs (shB bits) last,bits,y+gF (sB bits) t p+gs (shB bits) last,sB bits,M8 t p y,(y+gF (sB bits) t p)::p.take 15,0):=by
 rw[Lo,Acv h,Aa,Aa2 Axm,Aq8 h,Aa];simp only;rw[Aoe hF,Aa];simp only;rw[WW]
theorem tL(sh:Int)(hs:sh=4\/sh=5)(last:Int32):Qn sh last=some (gs sh last):=by
 have hl:=FP last;have key:∀n:Int,n=16\/n=32->gs sh last=Int32.ofInt (((n-1)*last.toInt).fdiv n)->So last n=some (gs sh last):=by
  intro n hn hg;have e:Ce (Al n (1:Int)) (Ad last:Int)=(n-1)*last.toInt:=by
   obtain rfl|rfl:=hn<;>(rw[Fv,Cm,Jj])
  rw[So,DI,Dt Axp,Aa,Aa,e,xu _ n F0 (by obtain rfl|rfl:=hn<;>omega) (by obtain rfl|rfl:=hn<;>omega),hg]
 rw[Qn,FL];obtain rfl|rfl:=hs
 ·rw[Aa2 Ax4];refine key 16 (.inl rfl) ?_;have e:Eg (Ad last:Int) (4:Int).toNat=last.toInt*16:=by
   rw[Fv];show wrap64 (last.toInt*2^4)=_;rw[Cz]<;>omega
  rw[gs,e,Fv,Cm,PT]
  show Int32.ofInt ((last.toInt*16-last.toInt).fdiv 16)=_;congr 2;omega
 ·rw[Aa4 Ax3];refine key 32 (.inr rfl) ?_;have e:Eg (Ad last:Int) (5:Int).toNat=last.toInt*32:=by
   rw[Fv];show wrap64 (last.toInt*2^5)=_;rw[Cz]<;>omega
  rw[gs,e,Fv,Cm,PT]
  show Int32.ofInt ((last.toInt*32-last.toInt).fdiv 32)=_;congr 2;omega
theorem Aht(h:Dd bits)(hF:OkF (sB bits) t p)(last y:Int32):
  Vv bits last (sB bits) t p y=some (y+gF (sB bits) t p+gs (shB bits) last,bits,y+gF (sB bits) t p+gs (shB bits) last,sB bits,M8 t p y,(y+gF (sB bits) t p)::p.take 15):=by
 have hb:Yq bits last (sB bits) t p=some (Ad (gs (shB bits) last):Int):=by
  rw[Yq];obtain rfl|rfl|rfl:=h
  ·rw[Aa4 Ax3,tL 4 (.inl rfl),Aa];rfl
  ·rw[Aa2 Ax4,tL 5 (.inr rfl),Aa];rfl
  ·rw[Aa2 Ax4,tL 5 (.inr rfl),Aa];rfl
 rw[Vv,Afn hF,Aa];simp only;rw[hb,Aa,oN,Aa]
theorem At7(h:Dd bits)(t:LX):WN bits t=some (bits,0,sB bits,t,List.replicate 16 0,0):=by
 obtain rfl|rfl|rfl:=h<;>rfl
def bP(n:UInt32):Int32:=if n.toNat %2=0 then Int32.ofInt ((n.toNat/2:Nat):Int)else Int32.ofInt (-((n.toNat/2:Nat):Int)-1)
theorem zi(a b:Int32):(Yw a b).toBitVec=a.toBitVec^^^b.toBitVec:=by
 show(Int32.ofInt ((BitVec.ofInt 32 a.toBitVec.toInt^^^BitVec.ofInt 32 b.toBitVec.toInt).toNat:Int)).toBitVec=_;rw[BitVec.ofInt_toInt,BitVec.ofInt_toInt,Int32.toBitVec_ofInt,BitVec.ofInt_natCast,BitVec.ofNat_toNat,BitVec.setWidth_eq]
theorem At6(m:Nat)(h:m<2147483648):Yw (Int32.ofInt (m:Int)) (Int32.ofInt (-1))=Int32.ofInt (-(m:Int)-1):=by
 apply Int32.toBitVec_inj.1;have e1:(Int32.ofInt (-1)).toBitVec=BitVec.allOnes 32:=F5
 rw[zi,e1,BitVec.xor_allOnes,Int32.toBitVec_ofInt,Int32.toBitVec_ofInt];apply BitVec.eq_of_toNat_eq;rw[BitVec.toNat_not,Avf,Avf];omega
theorem Ajz(n:UInt32):Xq n=some (bP n):=by
 have hn:=n.toNat_lt;have e1:(Ad (Cs n (GI.toZ (1:UInt64)).toNat):Int32)=Int32.ofInt ((n.toNat/2:Nat):Int):=by
  show Int32.ofInt ((Cs n 1).toNat:Int)=_;rw[WV]
 have e2:(Ad (Ex n (1:UInt32)):Int32)=Int32.ofInt ((n.toNat %2:Nat):Int):=by
  show Int32.ofInt ((Ex n (1:UInt32)).toNat:Int)=_;rw[qp,UInt32.toNat_and]
  show Int32.ofInt ((n.toNat&&&1:Nat):Int)=_;rw[Nat.and_one_is_mod]
 rw[Xq,e1,e2,bP];congr 1;by_cases h:n.toNat %2=0
 ·have e3:oL (Int32.ofInt ((n.toNat %2:Nat):Int))=Int32.ofInt 0:=by rw[h];decide
  rw[Aa4 h,e3];apply Int32.toBitVec_inj.1;rw[zi,show(Int32.ofInt 0).toBitVec=0#32 from rfl,BitVec.xor_zero]
 ·have e3:oL (Int32.ofInt ((n.toNat %2:Nat):Int))=Int32.ofInt (-1):=by rw[show n.toNat %2=1 by omega];decide
  rw[Aa2 h,e3,At6 _ F0]
theorem Am9(n:UInt32):DW n=some (bP n):=by
 have hn:=n.toNat_lt;have e1:geq (CX n (2:UInt32)) (0:UInt32)=decide (n.toNat %2=0):=by
  rw[V4,ni,Akf];simp only[As1,<-UInt32.toNat_inj,UInt32.toNat_mod,Acr];rfl
 rw[DW,e1,bP];by_cases h:n.toNat %2=0
 ·rw[Aa4 (by simpa using h),Aa4 h,pz];rfl
 ·have e2:(Ad n:Int)=(n.toNat:Int):=Abb n;rw[Aa2 (by simpa using h),Aa2 h,e2,Ak,Abv,Cz F0 F0,ML,Int.tdiv_eq_ediv,PT];congr 2;rw[Aa4 (.inr F0),Cz F0 F0];omega
theorem Axk{p:Prop}(h:p:=by rw[Au,Ac];simp;omega):p:=h
end Go.Pl
namespace Go.Pl
open Go Go.Lv
theorem qm{c:Prop} [Decidable c](h:c):Jd (decide c)=some ():=by rw[Au0 h];rfl
def unV(f:Nat->Int32)(ch:Nat):Nat->Int32
 |0=>if 1<ch then f (ch-1)+Cq (f (ch-2)) (2:Int32)else f (ch-1)
 |j+1=>unV f ch j-f (ch-2-j)
def A9(ch:Nat)(m:LX):LX:=(List.range m.length).map λk=>unV (λi=>m.getD (k-k %ch+i) 0) ch (ch-1-k %ch)
theorem iZ(ch:Nat)(m:LX):(A9 ch m).length=m.length:=by simp[A9]
theorem xE{ch:Nat}{m:LX}{a i:Nat}(ha:a %ch=0)(hi:i<ch)(h:a+i<m.length):(A9 ch m).getD (a+i) 0=unV (λi=>m.getD (a+i) 0) ch (ch-1-i):=by
 have hb:(a+i) %ch=i:=by rw[Nat.add_mod,ha,Av9,Nat.mod_mod,Acm hi]
 rw[Oa (by rw[iZ];exact h)];simp only[A9,Aw3,Awp,hb];rw[show a+i-i=a by omega]
section
variable (ch:Nat) (m:LX)
theorem Ai9(h1:1<=ch)(h6:ch<=6)(hm:m.length %ch=0)(hl2:m.length<=4000):XY (ch:Int) m=some 0:=by
 rw[XY,Aa2 Axr,Aa2 Axk,Dt Axp,Aa,Aa2];rw[Am,Hk,Ac,<-Int.ofNat_tmod,hm];simp
theorem xS(bk:Int->LX->Option (LX×Int))(at':Nat)(h1:1<=ch)(h6:ch<=6)(hm:at' %ch=0)(hl:at'+ch<=m.length)(hl2:m.length<=4000):∀(i q:Nat),i<=ch-1->i<q->
  Xn bk (ch:Int) (at':Int) q ((i:Int)-1) (fQ (λk=>decide (k<at'\/ (at'+i<=k/\k<at'+ch))) (A9 ch m) m)=bk ((at'+ch:Nat):Int) (fQ (λk=>decide (k<at'+ch)) (A9 ch m) m)
 |0,q+1,hi,_=>by
  have e4:Ae (at':Int) (ch:Int)=((at'+ch:Nat):Int):=by rw[Ak];omega
  rw[Xn,OU,Aa2 Axu,aL,pS,e4];congr 1;apply CC;intro k _;rw[Akf];simp;omega
 |i+1,q+1,hi,hq=>by
  have hlen:=iZ ch m;have e2:Ae (at':Int) (ch:Int)-(at':Int)=(ch:Int):=by rw[Ak];omega
  have e3:Ae (i:Int) 1=((i+1:Nat):Int):=by rw[Ak];omega
  have hv:((A9 ch m).getD (at'+(i+1)) 0-m.getD (at'+i) 0)=(A9 ch m).getD (at'+i) 0:=by
   rw[xE hm F0 F0,xE hm F0 F0,show ch-1-i=(ch-1-(i+1))+1 by omega,unV,show ch-2-(ch-1-(i+1))=i by omega]
  rw[Xn,OU,show((i+1:Nat):Int)-1=(i:Int) by omega,Aa4 Axu,e2,e3,qm F0,Aa,qm F0,Aa,
   show(at':Int)+((i+1:Nat):Int)=((at'+(i+1):Nat):Int) by omega,show(at':Int)+(i:Int)=((at'+i:Nat):Int) by omega,
   UR F0,Aa,UR F0,Aa,Aa,Aa4 F6,Aa2 F6,zH,hv,qR F0,Aa,Cm]
  have ih:=xS bk at' h1 h6 hm hl hl2 i q F0 F0;rw[<-ih];congr 1;apply CC;intro k _;rw[Akf];simp;omega
theorem xw{at' ch n:Nat}(ha:at' %ch=0)(hm:n %ch=0)(h:at'<n):at'+ch<=n:=by
 have d1:=Nat.div_add_mod at' ch;have d2:=Nat.div_add_mod n ch;rw[ha,Awm]at d1;rw[hm,Awm]at d2;have hlt:at'/ch<n/ch:=by
  rcases Awv (at'/ch) (n/ch)with h'|h'
  ·exact h'
  ·have:=Nat.mul_le_mul_left ch h';omega
 have:=Nat.mul_le_mul_left ch (show at'/ch+1<=n/ch from hlt);rw[Nat.mul_add]at this;omega
theorem N4(h1:1<=ch)(h6:ch<=6)(hm:m.length %ch=0)(hl2:m.length<=4000):∀(j at' q:Nat),at' %ch=0->at'<=m.length->m.length-at'<=j->j<q->
  Sm (ch:Int) q (at':Int) (fQ (λk=>decide (k<at')) (A9 ch m) m)=some (A9 ch m,0)
 |j,at',q+1,ha,hle,hj,hq=>by
  have hlen:=iZ ch m;have hl:Ac (fQ (λk=>decide (k<at')) (A9 ch m) m)=(m.length:Int):=by rw[Ac,aU,hlen]
  rw[Sm,ZK,hl];by_cases h:at'<m.length
  ·have hb:=xw ha hm h;obtain⟨j,rfl⟩:∃k,j=k+1:=⟨j-1,F0⟩;have e1:Al (Ae (at':Int) (ch:Int)-(at':Int)) 1=((ch-1:Nat):Int):=by rw[Ak,Cm];omega
   have e2:Ae (at':Int) (ch:Int)-(at':Int)=(ch:Int):=by rw[Ak];omega
   have e4:Ae (at':Int) (ch:Int)=((at'+ch:Nat):Int):=by rw[Ak];omega
   have hi:=xS ch m (Sm (ch:Int) q) at' h1 h6 ha hb hl2 (ch-1) Ar F0 Axj;have hrest:=N4 h1 h6 hm hl2 j (at'+ch) q (by rw[Axa,ha]) hb F0 F0;have hstart:aS (Sm (ch:Int) q) (ch:Int) (at':Int) (fQ (λk=>decide (k<at'\/ (at'+(ch-1)<=k/\k<at'+ch))) (A9 ch m) m)=some (A9 ch m,0):=by
    have e6:Al ((ch-1:Nat):Int) 1=((ch-1:Nat):Int)-1:=Cm;rw[aS,ZE,ZO,e1,e6];exact Av6 hi hrest
   rw[Aa4 Axi,show aK (m.length:Int) (at':Int) (Ae (at':Int) (ch:Int))=some () by rw[e4,aK,qm];omega,Aa,e1,e2];have hlast:=xE (m:=m) ha (show ch-1<ch by omega) F0;rw[show ch-1-(ch-1)=0 by omega,unV]at hlast;by_cases hc:1<ch
   ·have e5:Al ((ch-1:Nat):Int) 1=((ch-2:Nat):Int):=by rw[Cm];omega
    rw[Aa4 hc]at hlast;rw[Aa4 Axn,qm F0,Aa,e5,qm F0,Aa,show(at':Int)+((ch-1:Nat):Int)=((at'+(ch-1):Nat):Int) by omega,show(at':Int)+((ch-2:Nat):Int)=((at'+(ch-2):Nat):Int) by omega,
     UR F0,Aa,UR F0,Aa,Aa,Aa2 Axl,Aa2 Axl,WW,<-hlast,qR F0,Aa]
    rw[<-hstart];congr 1;apply CC;intro k _;rw[Akf];simp;omega
   ·have hc1:ch=1:=F0
    rw[Aa2 Axn,<-hstart];congr 1;rw[Aa2 hc]at hlast;apply Awy;intro k hk;by_cases hk2:k=at'
    ·subst hk2;rw[Aa2 Axl,Aa4 F6];rw[show k+(ch-1)=k by omega]at hlast;exact hlast.symm
    ·by_cases hk3:k<at'
     ·rw[Aa4 F6,Aa4 F6]
     ·rw[Aa2 F6,Aa2 F6]
  ·rw[Aa2 Axi,qF (λk hk=>by simp;omega)];rfl
theorem Anh(h1:1<=ch)(h6:ch<=6)(hm:m.length %ch=0)(hl2:m.length<=4000):pF (ch:Int) m=some (A9 ch m,0):=by
 have hlen:=iZ ch m;have h:=N4 ch m h1 h6 hm hl2 m.length 0 Ar Axl F0 F0 Axj;rw[pF,iG,Ai9 ch m h1 h6 hm hl2,Aa,Aa2 Axm,Dy,Ct F6,Aa,Aa,Arh,pY];rw[oF hlen.symm (λk _=>by simp)]at h;exact h
end
def tX(f:Nat->Int32)(ch:Nat):LX:=(List.range ch).map λi=>unV f ch (ch-1-i)
theorem XP(f:Nat->Int32)(ch:Nat):(tX f ch).length=ch:=by simp[tX]
theorem qX(f:Nat->Int32){ch i:Nat}(h:i<ch):(tX f ch).getD i 0=unV f ch (ch-1-i):=by
 rw[Oa (by rw[XP];exact h)];simp[tX]
theorem Akv(a b:Int32):Dc (Al (Ad a:Int) (Ad b:Int))=some (a-b):=by
 have:=FP a;have:=FP b;rw[Fv,Fv,Cm,xC,Int32.ofInt_sub,Atq,Atq]
theorem Ag1(a b:Int32):Dc (Ae (Ad a:Int) (Cq (Ad b:Int) (2:Int)))=some (a+Cq b (2:Int32)):=by
 have:=FP a;have hb:=FP b;have hd: -2147483648<=b.toInt.tdiv 2/\b.toInt.tdiv 2<=2147483648:=by
  rw[Int.tdiv_eq_ediv,show Int.sign 2=1 from rfl];by_cases h:0<=b.toInt\/2∣b.toInt
  ·rw[Aa4 h];omega
  ·rw[Aa2 h];omega
 have e:Cq b (2:Int32)=Int32.ofInt (b.toInt.tdiv 2):=rfl;rw[Fv,Fv,ML,Cz F0 F0,Ak,xC,Int32.ofInt_add,Atq,e]
theorem oY(seg z:LX)(ch:Nat)(h6:ch<=6)(hs:seg.length=ch)(hz:z.length=ch):∀(i q:Nat),i+1<=ch->i<q->
  Hv seg q ((i:Int)-1) (fQ (λk=>decide (i<=k)) (tX (λi=>seg.getD i 0) ch) z)=some (tX (λi=>seg.getD i 0) ch)
 |0,q+1,hi,_=>by
  rw[Hv,Rh,Aa2 Axu,qF (λk hk=>by simp)];rfl
 |i+1,q+1,hi,hq=>by
  have hlen:=XP (λi=>seg.getD i 0) ch;have e3:Ae (i:Int) 1=((i+1:Nat):Int):=by rw[Ak];omega
  have hv:(tX (λi=>seg.getD i 0) ch).getD (i+1) 0-seg.getD i 0=(tX (λi=>seg.getD i 0) ch).getD i 0:=by
   rw[qX _ F0,qX _ F0,show ch-1-i=(ch-1-(i+1))+1 by omega,unV,show ch-2-(ch-1-(i+1))=i by omega]
  rw[Hv,Rh,show((i+1:Nat):Int)-1=(i:Int) by omega,Aa4 Axu,e3,UR F0,Aa,g32 F0,Aa,Aa,Aa4 Axl,Akv,Aa,UR F0,Aa,hv,qR F0,Aa,Cm];have ih:=oY seg z ch h6 hs hz i q F0 F0;rw[<-ih];congr 1;apply CC;intro k _;rw[Akf];simp;omega
theorem zm{l:LX}{i:Nat}(v:Int32)(h:i<l.length):(l.set i v).getD i 0=v:=by
 rw[Oa (by rw[Avh];exact h)];simp
theorem Aa9(seg:LX)(ch:Nat)(h1:1<=ch)(h6:ch<=6)(hs:seg.length=ch):Ws seg=some (tX (λi=>seg.getD i 0) ch):=by
 have hlen:=XP (λi=>seg.getD i 0) ch;have hzl:(List.replicate ch (0:Int32)).length=ch:=by simp
 have e1:Al (Ac seg) 1=((ch-1:Nat):Int):=by rw[Ac,hs,Cm];omega
 have e2:Al (Ac seg) 2=((ch-1:Nat):Int)-1:=by rw[Ac,hs,Cm];omega
 have hlast:=qX (λi=>seg.getD i 0) (show ch-1<ch by omega);rw[show ch-1-(ch-1)=0 by omega,unV]at hlast;have hend:∀z:LX,z.length=ch->z.getD (ch-1) 0=(tX (λi=>seg.getD i 0) ch).getD (ch-1) 0->Qz seg z=some (tX (λi=>seg.getD i 0) ch):=by
  intro z hz hzl;have h:=oY seg z ch h6 hs hz (ch-1) Ar F0 Axj;have e:fQ (λk=>decide (ch-1<=k)) (tX (λi=>seg.getD i 0) ch) z=z:=by
   apply Aur (by rw[aU,hlen,hz]);intro k k1 k2;rw[CE];by_cases hk:ch-1<=k
   ·obtain rfl:k=ch-1:=F0
    rw[Aa4 Axl,<-hzl,Oa k2]
   ·rw[Aa2 (by simpa using hk),Oa k2]
  rw[e]at h;rw[Qz,CU,e2];exact h
 rw[Ws,BU,Ac,hs,G1,Aa,Dt Ax9,Aa];rw[Ac,hs]at e1;rw[Ac,hs]at e2;have hz1:(List.replicate (Int.toNat (ch:Int)) (0:Int32)).length=ch:=by simp
 have hs1:=g32 (l:=seg) (k:=ch-1) F0;rw[e1,hs1,Aa,g32 F0,Aa,Yp _ F0,Aa];by_cases hc:1<ch
 ·rw[Aa4 hc]at hlast;have e3:((ch-1:Nat):Int)-1=((ch-2:Nat):Int):=F0
  have hs2:=g32 (l:=seg) (k:=ch-2) F0;rw[Aa4 Axn,Aa,e2,e3,hs2,Aa,Ag1,Aa,g32 (by rw[Avh];omega),Aa,Yp _ (by rw[Avh];omega),Aa];refine hend _ Axl ?_;rw[hlast,zm _ (by rw[Avh];omega)]
 ·rw[Aa2 hc]at hlast;rw[Aa2 Axn];refine hend _ Axl ?_;rw[hlast,zm _ F0]
theorem Aob(ch:Nat)(m:LX)(h1:1<=ch)(h6:ch<=6)(hm:m.length %ch=0)(hl2:m.length<=4000):Sd (ch:Int) m=some 0:=by
 rw[Sd,Aa2 Axr,Aa2 Axk,Dt Axp,Aa,Aa2];rw[Au,Hk,Ac,<-Int.ofNat_tmod,hm];simp
theorem uP(ch:Nat)(m:LX)(h1:1<=ch)(h6:ch<=6)(hm:m.length %ch=0)(hl2:m.length<=4000):∀(j at' q:Nat),at' %ch=0->at'<=m.length->m.length-at'<=j->j<q->
  Pp (ch:Int) m q (at':Int) ((A9 ch m).take at')=some (A9 ch m,0)
 |j,at',q+1,ha,hle,hj,hq=>by
  have hlen:=iZ ch m;rw[Pp,MB];by_cases h:at'<m.length
  ·have hb:=xw ha hm h;have e4:Ae (at':Int) (ch:Int)=((at'+ch:Nat):Int):=by rw[Ak];omega
   have hrest:=uP ch m h1 h6 hm hl2 (j-1) (at'+ch) q (by rw[Axa,ha]) hb F0 F0;have hseg:((m.take (at'+ch)).drop at').length=ch:=by simp;omega
   have htl:((A9 ch m).take at').length=at':=by simp[hlen];omega
   rw[Aa4 F2,e4,MJ,Aa,show((at'+ch:Nat):Int).toNat=at'+ch from rfl,show(at':Int).toNat=at' from rfl,Aa9 _ ch h1 h6 hseg,Aa,Ct (by rw[htl,XP];omega),Aa];have e:(A9 ch m).take at'++tX (λi=>((m.take (at'+ch)).drop at').getD i 0) ch=(A9 ch m).take (at'+ch):=by
    apply Aur (by rw[Aa7,htl,XP,Ah0,hlen];omega);intro k k1 k2;rw[Ah0,hlen]at k2;rw[List.getElem_append,List.getElem_take];by_cases hk:k<at'
    ·rw[dif_pos (by rw[htl];exact hk),List.getElem_take]
    ·rw[dif_neg (by rw[htl];exact hk)];have hu:=xE (m:=m) ha (show k-at'<ch by omega) F0;rw[show at'+(k-at')=k by omega,Oa F0]at hu;have hx:∀n,n<=ch->unV (λi=>((m.take (at'+ch)).drop at').getD i 0) ch n=unV (λi=>m.getD (at'+i) 0) ch n:=by
      have hf:∀i,i<ch-> ((m.take (at'+ch)).drop at').getD i 0=m.getD (at'+i) 0:=by
       intro i hi;rw[Oa F0,Oa F0];simp
      intro n
      induction n with
      |zero=>
       intro _;rw[unV,unV,hf _ F0];split
       ·rw[hf _ F0]
       ·rfl
      |succ n ih=>intro hn;rw[unV,unV,ih F0,hf _ F0]
     have hy:=qX (λi=>((m.take (at'+ch)).drop at').getD i 0) (show k-at'<ch by omega);rw[Oa (by rw[XP];omega)]at hy;rw[hu,<-hx _ F0,<-hy];congr 1;rw[htl]
   rw[e];exact hrest
  ·rw[Aa2 F2,Aus F0];rfl
theorem Agp(ch:Nat)(m:LX)(h1:1<=ch)(h6:ch<=6)(hm:m.length %ch=0)(hl2:m.length<=4000):DY (ch:Int) m=some (A9 ch m,0):=by
 have h:=uP ch m h1 h6 hm hl2 m.length 0 Ar Axl F0 F0 Axj;rw[DY,JZ,Aob ch m h1 h6 hm hl2,Aa,Aa2 Axm];exact h
def pre{α:Type}(ch c:Nat)(f:α->Nat->α)(a0:α):Nat->α
 |0=>a0
 |m+1=>if m %ch=c then f (pre ch c f a0 m) m else pre ch c f a0 m
theorem Afb{α:Type}(ch c:Nat)(f:α->Nat->α)(a0:α):∀m,m<=c->c<ch->pre ch c f a0 m=a0
 |0,_,_=>rfl
 |m+1,h,h2=>by rw[pre,Aa2 (by rw[Acm F0];omega),Afb ch c f a0 m F0 h2]
theorem jo{α:Type}(ch c i:Nat)(f:α->Nat->α)(a0:α)(hi:i %ch=c)(hc:c<ch):∀j,j<ch->pre ch c f a0 (i+1+j)=pre ch c f a0 (i+1)
 |0,_=>rfl
 |j+1,h=>by
  have hne:(i+1+j) %ch≠c:=by
   intro e;have h1:(i+(1+j)) %ch=i %ch:=by rw[hi,<-e];congr 1;omega
   have h2:(1+j) %ch=0:=by
    have h3:=Nat.sub_mod_eq_zero_of_mod_eq h1;rwa [Awz]at h3
   rw[Acm F0]at h2;omega
  rw[show i+1+(j+1)=(i+1+j)+1 by omega,pre,Aa2 hne,jo ch c i f a0 hi hc j F0]
theorem Ajf{α:Type}(ch c i:Nat)(f:α->Nat->α)(a0:α)(hi:i %ch=c)(hc:c<ch):pre ch c f a0 (i+ch)=f (pre ch c f a0 i) i:=by
 have h:=jo ch c i f a0 hi hc (ch-1) F0;rw[show i+1+(ch-1)=i+ch by omega]at h;rw[h,pre,Aa4 hi]
abbrev CS:=Int32×LX×LX
def Aib(bits:Int)(s:CS)(y:Int32):Int32:=y+gF (sB bits) s.2.1 s.2.2+gs (shB bits) s.1
def Aeg(bits:Int)(s:CS)(y:Int32):CS:=(Aib bits s y,M8 s.2.1 s.2.2 y,(y+gF (sB bits) s.2.1 s.2.2)::s.2.2.take 15)
def cst(bits:Int)(ch:Nat)(t:LX)(v:LU)(c:Nat):Nat->CS:=pre ch c (λs i=>Aeg bits s (bP (v.getD i 0))) (0,t,List.replicate 16 0)
def OkC(bits:Int)(s:CS):Prop:=OkF (sB bits) s.2.1 s.2.2
theorem Ac3(bits:Int)(ch:Nat){t:LX}(ht:t.length=16)(v:LU)(c:Nat):∀m,OkC bits (cst bits ch t v c m)
 |0=>⟨Atk bits,ht,by simp[cst,pre]⟩
 |m+1=>by
  have ih:=Ac3 bits ch ht v c m;rw[cst,pre];split
  ·exact Aip ih _ _
  ·exact ih
def J3(bits:Int)(ch:Nat)(t:LX)(v:LU):LX:=(List.range v.length).map λi=>Aib bits (cst bits ch t v (i %ch) i) (bP (v.getD i 0))
theorem jF(bits:Int)(ch:Nat)(t:LX)(v:LU):(J3 bits ch t v).length=v.length:=by simp[J3]
theorem Aez(bits:Int)(ch:Nat)(t:LX)(v:LU){i:Nat}(h:i<v.length):(J3 bits ch t v).getD i 0=Aib bits (cst bits ch t v (i %ch) i) (bP (v.getD i 0)):=by
 rw[Oa (by rw[jF];exact h)];simp[J3]
abbrev CL:=Int×Int32×(Int×LX×LX×Unit)×Unit
def toC(bits:Int)(s:CS):CL:=(bits,s.1,(sB bits,s.2.1,s.2.2,()),())
def cts(bits:Int)(ch:Nat)(t:LX)(v:LU)(i:Nat):List CL:=(List.range 6).map λc=>toC bits (cst bits ch t v c i)
theorem Ao0{bits:Int}{ch:Nat}{t:LX}{v:LU}{i c:Nat}(h:c<6):Ah (cts bits ch t v i) (c:Int)=some (toC bits (cst bits ch t v c i)):=by
 rw[Cu (by simp[cts];exact h)];simp[cts]
theorem qb(bits:Int)(ch:Nat)(t:LX)(v:LU)(c m:Nat):cst bits ch t v c (m+1)=if m %ch=c then Aeg bits (cst bits ch t v c m) (bP (v.getD m 0))else cst bits ch t v c m:=rfl
theorem Aom{bits:Int}{ch:Nat}{t:LX}{v:LU}{i c:Nat}(h:c<6)(hc:i %ch=c):Mc (cts bits ch t v i) (c:Int) (toC bits (Aeg bits (cst bits ch t v c i) (bP (v.getD i 0))))=some (cts bits ch t v (i+1)):=by
 rw[Yp _ (by simp[cts];exact h)];congr 1;apply Aur (by simp[cts]);intro k h1 h2;rw[Aw2];simp only[cts,Aw3,Awp];by_cases hk:c=k
 ·subst hk;rw[Aa4 rfl,qb,Aa4 hc]
 ·rw[Aa2 hk,qb,Aa2 F0]
section
variable {bits:Int} {ch:Nat} {t:LX} {v:LU}
theorem ku(hb:Dd bits)(ht:t.length=16)(h1:1<=ch)(h6:ch<=6)(hv:v.length<=4000):∀(j i q:Nat),i+j=v.length->j<q->
  Ja v (ch:Int) bits q (i:Int) (cts bits ch t v i) ((J3 bits ch t v).take i)=Lu (ch:Int) bits (J3 bits ch t v)
 |0,i,q+1,hi,_=>by
  rw[Ja,Lt,Aa2 F2,Aus (by rw[jF];omega)]
 |j+1,i,q+1,hi,hq=>by
  have hlen:=jF bits ch t v;have hc:i %ch<6:=Apy (Av2 _ F0) h6;have hok:=Ac3 bits ch ht v (i %ch) i;have hs:=Aom (bits:=bits) (ch:=ch) (t:=t) (v:=v) (i:=i) hc rfl;have hx:=Aez bits ch t v (i:=i) F0;have hcb:=Af7 hb hok (cst bits ch t v (i %ch) i).1 (bP (v.getD i 0));have ih:=ku hb ht h1 h6 hv j (i+1) q F0 F0;rw[PN F0,<-Oa F0,hx]at ih;rw[Ja,Lt,Aa4 F2,G9 F0,Aa,Dt Axp,Aa,yD,Ao0 hc,Aa,Aa,Ajz,Aa];refine Av6 (congrArg (λo=>Option.bind o _) hcb) ?_;rw[Aa];simp only;rw[Yo,OB,Aa2 Axm,yD];refine Av6 (congrArg (λo=>Option.bind o _) hs) ?_;rw[Aa,Ct F6,Aa,Ak];exact ih
theorem Ahn(hb:Dd bits)(ht:t.length=16)(h1:1<=ch)(h6:ch<=6)(hv:v.length<=4000):Tk (ch:Int) bits t v=Lu (ch:Int) bits (J3 bits ch t v):=by
 have h:=ku hb ht h1 h6 hv v.length 0 Ar F0 Axj;have e:Ar=(Ar-7)+1+1+1+1+1+1+1:=by have:=As;omega
 have hs:Yt v (ch:Int) bits t 0 (List.replicate 6 ((0:Int),(0:Int32),((0:Int),(List.replicate 16 (0:Int32)),(List.replicate 16 (0:Int32)),()),()))=OP v (ch:Int) bits (cts bits ch t v 0):=by
  rw[Yt,e];obtain rfl|rfl|rfl:=hb<;>rfl
 rw[Tk,BH,hs];exact h
theorem O7(bk:Int->LX->Option LX)(hb:Dd bits)(ht:t.length=16)(h1:1<=ch)(h6:ch<=6)(hv:v.length<=4000)(z:LX)(c:Nat)(hc:c<ch):∀(j i q:Nat),i %ch=c->v.length-i<=j->i<=5000->j<q->
  Li bk v (ch:Int) bits t (c:Int) q (i:Int) (fQ (λk=>decide (k %ch<c\/ (k %ch=c/\k<i))) (J3 bits ch t v) z) bits (cst bits ch t v c i).1 (sB bits) (cst bits ch t v c i).2.1 (cst bits ch t v c i).2.2=
   bk ((c+1:Nat):Int) (fQ (λk=>decide (k %ch<c+1)) (J3 bits ch t v) z)
 |j,i,q+1,hi,hj,hi5,hq=>by
  have hlen:=jF bits ch t v;rw[Li,CG];by_cases h:i<v.length
  ·have hok:=Ac3 bits ch ht v c i;have hst:=Aht hb hok (cst bits ch t v c i).1 (bP (v.getD i 0));have hx:=Aez bits ch t v (i:=i) h;rw[hi]at hx;have ih:=O7 bk hb ht h1 h6 hv z c hc (j-1) (i+ch) q (by rw[Axa];exact hi) F0 F0 F0;have Apv:cst bits ch t v c (i+ch)=Aeg bits (cst bits ch t v c i) (bP (v.getD i 0)):=Ajf ch c i _ _ hi hc;rw[Apv]at ih;have hset:=qR (p:=λk=>decide (k %ch<c\/ (k %ch=c/\k<i))) (a:=J3 bits ch t v) (b:=z) (k:=i) F0;rw[hx]at hset;have Aa3:fQ (λj=>decide (j %ch<c\/ (j %ch=c/\j<i))||decide (j=i)) (J3 bits ch t v) z=fQ (λk=>decide (k %ch<c\/ (k %ch=c/\k<i+ch))) (J3 bits ch t v) z:=by
    apply CC;intro k _;rw[Akf];simp only[Ash,Acr];constructor
    ·rintro((h1|h1)|h1)
     ·exact .inl h1
     ·exact .inr ⟨h1.1,F0⟩
     ·subst h1;exact .inr ⟨hi,F0⟩
    ·rintro(h1|⟨h1,h2⟩)
     ·exact .inl (.inl h1)
     ·by_cases h3:k<i
      ·exact .inl (.inr ⟨h1,h3⟩)
      ·refine .inr ?_;have h4:(i+(k-i)) %ch=i %ch:=by rw[show i+(k-i)=k by omega,h1,hi]
       have h5:=Nat.sub_mod_eq_zero_of_mod_eq h4;rw[Awz,Acm F0]at h5;omega
   rw[Aa3]at hset;rw[Aa4 F2,G9 h,Aa,Am9,Aa];refine Av6 (congrArg (λo=>Option.bind o _) hst) ?_;rw[Aa];simp only;rw[CO,CH,UR F0,Aa];refine Av6 (congrArg (λo=>Option.bind o _) hset) ?_;rw[Aa,BP,CA,Ak];exact ih
  ·rw[Aa2 F2,BY,CM,Ak];have Aa3:fQ (λk=>decide (k %ch<c\/ (k %ch=c/\k<i))) (J3 bits ch t v) z=fQ (λk=>decide (k %ch<c+1)) (J3 bits ch t v) z:=by
    apply CC;intro k hk;rw[Akf];simp only[Acr];omega
   rw[Aa3];rfl
theorem Q7(hb:Dd bits)(ht:t.length=16)(h1:1<=ch)(h6:ch<=6)(hv:v.length<=4000)(z:LX):∀(j c q:Nat),c+j=ch->j<q->
  Fu v (ch:Int) bits t q (c:Int) (fQ (λk=>decide (k %ch<c)) (J3 bits ch t v) z)=Qx (ch:Int) bits (J3 bits ch t v)
 |0,c,q+1,hc,_=>by
  rw[Fu,Qy,Aa2 Axi,qF (λk hk=>by have:=Av2 k (show 0<ch by omega);simp;omega)]
 |j+1,c,q+1,hc,hq=>by
  have ih:=Q7 hb ht h1 h6 hv z j (c+1) q F0 F0;have hin:=O7 (Fu v (ch:Int) bits t q) hb ht h1 h6 hv z c F0 v.length c Ar (Acm F0) F0 F0 Axj;have h0:cst bits ch t v c c=(0,t,List.replicate 16 0):=Afb ch c _ _ c (Apn _) F0;rw[h0]at hin;have Aa3:fQ (λk=>decide (k %ch<c\/ (k %ch=c/\k<c))) (J3 bits ch t v) z=fQ (λk=>decide (k %ch<c)) (J3 bits ch t v) z:=by
   apply CC;intro k hk;have:=Nat.mod_le k ch;rw[Akf];simp only[Acr];omega
  rw[Aa3]at hin;rw[Fu,Qy,Aa4 Axi,At7 hb,Aa];simp only;rw[CK];exact Av6 hin ih
theorem Ag3(hb:Dd bits)(ht:t.length=16)(h1:1<=ch)(h6:ch<=6)(hv:v.length<=4000)(hm:v.length %ch=0):Ql (ch:Int) bits t v=some (A9 ch (J3 bits ch t v)):=by
 have hlen:=jF bits ch t v;have h:=Q7 hb ht h1 h6 hv (List.replicate v.length 0) ch 0 Ar F0 Axj;rw[oF (by rw[hlen];simp) (λk _=>by simp)]at h;rw[Ql,DS,Ac,G1,Aa,Dt Ax9,Aa,CV];refine Av6 h ?_;rw[Qx,CI,Agp ch _ h1 h6 (by rw[hlen];exact hm) F0,Aa]
end
def hB(bits:Int):Int:=if bits=8 then 128 else if bits=16 then 32768 else 8388608
theorem Ai8{bits:Int}(h:Dd bits):CT bits=some (Int32.ofInt (-(hB bits)),Int32.ofInt (hB bits-1),0):=by
 obtain rfl|rfl|rfl:=h<;>decide
theorem vA{bits:Int}(h:Dd bits):Vo bits=some (hB bits):=by
 obtain rfl|rfl|rfl:=h<;>rfl
theorem mG(bits:Int):0<hB bits/\hB bits<=8388608:=by
 unfold hB;split; · omega
 ·split<;>omega
theorem B2{bits:Int}(h:Dd bits)(l:LX)(hl:l.length<=4000):∀(j i q:Nat),i+j=l.length->j<q->
  Qv (Int32.ofInt (-(hB bits))) (Int32.ofInt (hB bits-1)) l q (i:Int)=Bv l (hB bits) q (i:Int)
 |0,i,q+1,hi,_=>by
  rw[Qv,DK,Bv,Ff,Aa2 F2,Aa2 F2];rfl
 |j+1,i,q+1,hi,hq=>by
  have hh:=mG bits;have ih:=B2 h l hl j (i+1) q F0 F0;have e1:(Int32.ofInt (-(hB bits))).toInt= -(hB bits):=by rw[Awf,Axb (by show -(4294967296/2:Int)<= _;omega) (by show _<(4294967296+1)/2;omega)]
  have e2:(Int32.ofInt (hB bits-1)).toInt=hB bits-1:=by rw[Awf,Axb (by show -(4294967296/2:Int)<= _;omega) (by show _<(4294967296+1)/2;omega)]
  rw[Qv,DK,Bv,Ff,Aa4 F2,Aa4 F2,g32 F0,Aa,Aa,Aa,Fv,Abv,Cz F0 F0,Ak,X2,Abw,e1,e2,Af,Ek];generalize(l.getD i 0).toInt=X;by_cases h1:X< -(hB bits)
  ·rw[Aa4 F6,Aa4 F6]
  ·rw[Aa2 (c:=decide (X<0-hB bits)=true) F6];by_cases h2:hB bits<=X
   ·rw[Aa4 F6,Aa4 F6]
   ·rw[Aa2 F6,Aa2 F6];exact ih
theorem E5{bits:Int}(h:Dd bits)(l:LX)(hl:l.length<=4000):Wf bits l=Bq bits l:=by
 have hh:=mG bits;rw[Wf,RS,Ai8 h,Aa,Bq,Jt,vA h,Aa];simp only;rw[Aa2 Axm,Aa2 Axk,Aa2 Axq,Aa2 Axk];exact B2 h l hl l.length 0 Ar F0 Axj
theorem Ac9{bits:Int}(h:Dd bits)(l:LX)(hl:l.length<=4000):∃e,Bq bits l=some e:=by
 have hh:=mG bits;have key:∀(j i q:Nat),i+j=l.length->j<q->∃e,Bv l (hB bits) q (i:Int)=some e:=by
  intro j
  induction j with
  |zero=>
   intro i q hi hq;obtain⟨q,rfl⟩:∃k,q=k+1:=⟨q-1,F0⟩;rw[Bv,Ff,Aa2 F2];exact⟨_,rfl⟩
  |succ j ih=>
   intro i q hi hq;obtain⟨q,rfl⟩:∃k,q=k+1:=⟨q-1,F0⟩;rw[Bv,Ff,Aa4 F2,g32 F0,Aa,Aa,Ak];split
   ·exact⟨_,rfl⟩
   ·split
    ·exact⟨_,rfl⟩
    ·exact ih (i+1) q F0 F0
 obtain⟨e,he⟩:=key l.length 0 Ar F0 Axj;rw[Bq,Jt,vA h,Aa,Aa2 Axq,Aa2 Axk];exact⟨e,he⟩
theorem pN{bits:Int}{ch:Nat}{t:LX}{v:LU}(hb:Dd bits)(ht:t.length=16)(h1:1<=ch)(h6:ch<=6)(hv:v.length<=4000)(hm:v.length %ch=0):
  ∃l e,Ql (ch:Int) bits t v=some l/\Yv (ch:Int) bits l=some (if e≠0 then([],e)else(l,0))/\Tk (ch:Int) bits t v=some (if e≠0 then([],e)else(l,0))/\Bq bits l=some e/\l.length=v.length:=by
 have hlen:=jF bits ch t v;have hul:=iZ ch (J3 bits ch t v);obtain⟨e,he⟩:=Ac9 hb (A9 ch (J3 bits ch t v)) F0;refine⟨A9 ch (J3 bits ch t v),e,Ag3 hb ht h1 h6 hv hm,?_,?_,he,F0⟩
 ·rw[Yv,he,Aa];by_cases h:e=0
  ·rw[Aa2 (by rw[Am];simpa using h),Aa2 (by simpa using h)]
  ·rw[Aa4 (by rw[Am];simpa using h),Aa4 h]
 ·rw[Ahn hb ht h1 h6 hv,Lu,NP,Anh ch _ h1 h6 (by rw[hlen];exact hm) F0,Aa];simp only;rw[Aa2 Axm,E5 hb _ F0,he,Aa];by_cases h:e=0
  ·rw[Aa2 (by rw[Am];simpa using h),Aa2 (by simpa using h)]
  ·rw[Aa4 (by rw[Am];simpa using h),Aa4 h]
def fJ(s:Nat):Nat:=(s/2)^^^ (if s %2=1 then 3988292384 else 0)
theorem G6{s:Nat}(h:s<4294967296):fJ s<4294967296:=by
 unfold fJ;exact Atr (n:=32) F6 (by split<;>decide)
theorem tq(x y:Nat):(x^^^y)/2=(x/2)^^^ (y/2):=by
 have:=Nat.shiftRight_xor_distrib (a:=x) (b:=y) (i:=1);simpa [Nat.shiftRight_eq_div_pow]using this
theorem Agu(x y:Nat):fJ (x^^^y)=fJ x^^^fJ y:=by
 have h:(x^^^y) %2=(x %2+y %2) %2:=by
  have:=Nat.xor_mod_two_eq_one (a:=x) (b:=y);have h1:(x^^^y) %2<2:=Av2 _ F0;omega
 simp only[fJ,tq,h];have hx:x %2=0\/x %2=1:=F0
 have hy:y %2=0\/y %2=1:=F0
 rcases hx with hx|hx<;>rcases hy with hy|hy<;>simp only[hx,hy]<;>simp
 ·rw[Auu]
 ·rw[Auu,Axd (y/2),Auu,Axd 3988292384 (y/2)]
 ·rw[Auu,Axd 3988292384,Auu,Nat.xor_self];simp
def Ya:Nat->Nat->Nat
 |0,s=>s
 |k+1,s=>Ya k (fJ s)
theorem Q0:∀(k x y:Nat),Ya k (x^^^y)=Ya k x^^^Ya k y
 |0,_,_=>rfl
 |k+1,x,y=>by rw[Ya,Agu,Q0 k];rfl
theorem N6:∀(k h:Nat),Ya k (2^k*h)=h
 |0,h=>by simp[Ya]
 |k+1,h=>by
  have:fJ (2^(k+1)*h)=2^k*h:=by
   rw[Ar5,Arf (2^k) 2,Au5,fJ,Aa2 F0,Nat.mul_div_cancel_left _ F0];simp
  rw[Ya,this,N6 k]
theorem yK:∀(k:Nat) {s:Nat},s<4294967296->Ya k s<4294967296
 |0,_,h=>h
 |k+1,_,h=>yK k (G6 h)
def vD(s c:Nat):Nat:=Ya 8 (s^^^c)
theorem yG{s c:Nat}(h:s<4294967296)(hc:c<256):vD s c<4294967296:=yK 8 (Atr (n:=32) (by simpa using h) F6)
theorem su{s c:Nat}(hc:c<256):vD s c=(s/256)^^^Ya 8 ((s %256)^^^c):=by
 have h:s=(2^8*(s/256))^^^ (s %256):=by
  have h1:s %256<2^8:=by simpa using Av2 s (by omega:256>0)
  have:=Aud h1 (s/256);have h2:2^8*(s/256)|||s %256=(2^8*(s/256))^^^ (s %256):=by
   apply Nat.eq_of_testBit_eq;intro i;rw[Nat.testBit_or,Nat.testBit_xor];by_cases hi:i<8
   ·have:(2^8*(s/256)).testBit i=false:=by rw[Nat.testBit_two_pow_mul];simp;omega
    rw[this];simp
   ·have:(s %256).testBit i=false:=Nat.testBit_lt_two_pow (Apy h1 (Aer F0 F0));rw[this];simp
  omega
 rw[vD]
 conv=>lhs;rw[h]
 rw[Auu,Q0,N6]
def Af8(s:Nat)(l:LB):Nat:=l.foldl (λs c=>vD s c.toNat) s
def Hl(b:LB):UInt32:=4294967295-UInt32.ofNat (Af8 4294967295 b)
theorem Am5(s:UInt32)(c:Nat)(hc:c<256):FH s (Ad (CX (UInt8.ofNat c) (2:UInt8)):Int)=some (UInt32.ofNat (s.toNat/2^^^ (if(s.toNat^^^c) %2=1 then 3988292384 else 0))):=by
 have h1:(Ad (CX (UInt8.ofNat c) (2:UInt8)):Int)=((c %2:Nat):Int):=by
  rw[PO,Aor,UInt8.toNat_mod,Apu];show((c %256 %2:Nat):Int)=_;omega
 have h2:geq (CX s (2:UInt32)) (1:UInt32)=decide (s.toNat %2=1):=by
  rw[V4,ni,Akf];simp only[As1,Acr];rw[<-UInt32.toNat_inj,UInt32.toNat_mod];rfl
 have h3:Cq s (2:UInt32)=UInt32.ofNat (s.toNat/2):=by
  apply UInt32.toNat_inj.1;rw[pz,UInt32.toNat_div,An1]
  show s.toNat/2=_;have:=s.toNat_lt;omega
 have h4:Yw (Cq s (2:UInt32)) (3988292384:UInt32)=UInt32.ofNat (s.toNat/2^^^3988292384):=by
  apply UInt32.toNat_inj.1;rw[h3,oB,UInt32.toNat_xor,An1,An1];have:=s.toNat_lt;rw[Acm (a:=s.toNat/2) F0,Acm]
  ·rfl
  ·exact Atr (n:=32) F0 F5
 have hx:(s.toNat^^^c) %2=(s.toNat %2+c %2) %2:=by
  have:=Nat.xor_mod_two_eq_one (a:=s.toNat) (b:=c);have h1:(s.toNat^^^c) %2<2:=Av2 _ F0;omega
 have hs:s.toNat %2=0\/s.toNat %2=1:=F0
 have hc2:c %2=0\/c %2=1:=F0
 rw[FH,JP,h1,h2,hx];rcases hs with hs|hs<;>rcases hc2 with hc2|hc2<;>simp[hs,hc2,Ba,KA,KS,oB,h3]
theorem uX:∀(j i q:Nat) (s:UInt32) (c:Nat),i+j=8->j<q->c<2^j->Kv q s (UInt8.ofNat c) (i:Int)=some (UInt32.ofNat (Ya j (s.toNat^^^c)))
 |0,i,q+1,s,c,hi,_,hc=>by
  obtain rfl:i=8:=F0
  obtain rfl:c=0:=by simpa using hc
  rw[Kv,Wu,Aa2 Axs,MG,LH,Ya];simp
 |j+1,i,q+1,s,c,hi,hq,hc=>by
  have hc8:c<256:=Apy hc (show 2^(j+1)<=2^8 from Aer F0 F0);rw[Kv,Wu,Aa4 Axi,Am5 s c hc8,Aa,Ak];have e:Cq (UInt8.ofNat c) (2:UInt8)=UInt8.ofNat (c/2):=by
   apply UInt8.toNat_inj.1;rw[Aoc,UInt8.toNat_div,Apu,Apu]
   show c %256/2=_;omega
  rw[e];have h:=uX j (i+1) q (UInt32.ofNat (s.toNat/2^^^ (if(s.toNat^^^c) %2=1 then 3988292384 else 0))) (c/2) F0 F0 (by rw[Ar5]at hc;omega);rw[show((i:Int)+1)=((i+1:Nat):Int) by omega,h,An1,Ya];congr 3;have:=s.toNat_lt;rw[Acm,fJ,tq,Auu,Auu,Axd (c/2)];exact Atr (n:=32) F0 (by split<;>decide)
theorem An9(s:UInt32)(c:UInt8):UM s c=some (UInt32.ofNat (vD s.toNat c.toNat)):=by
 have h:=uX 8 0 Ar s c.toNat F0 Axj (by simpa using c.toNat_lt);rw[UInt8.ofNat_toNat]at h;exact h
theorem kZ(b:LB)(hb:b.length<4611686018427387904):∀(j i q:Nat) (s:UInt32),i+j=b.length->j<q->Ir b q s (i:Int)=some (UInt32.ofNat (Af8 s.toNat (b.drop i)))
 |0,i,q+1,s,hi,_=>by
  rw[Ir,Rw,Aa2 F2,show i=b.length by omega,Avo];simp[GG,EI,Af8]
 |j+1,i,q+1,s,hi,hq=>by
  have hlt:i<b.length:=F0
  rw[Ir,Rw,Aa4 F2,Cu hlt,Aa,An9,Aa,Ak];have h:=kZ b hb j (i+1) q (UInt32.ofNat (vD s.toNat b[i].toNat)) F0 F0;rw[show((i:Int)+1)=((i+1:Nat):Int) by omega,h,drop_cons hlt,An1,Acm (yG s.toNat_lt b[i].toNat_lt)];rfl
theorem Aif(b:LB)(hb:b.length<4611686018427387904):Tl b=some (Hl b):=by
 have h:=kZ b hb b.length 0 Ar 4294967295 F0 Axj;rw[Tl,NQ,EC,EZ,show((0:Int))=((0:Nat):Int)from rfl,h,Aa,oq];rfl
theorem Aot(c:UInt32):Yw (Cs c (GI.toZ (1:UInt64)).toNat) (Ce (3988292384:UInt32) (Ex c (1:UInt32)))=UInt32.ofNat (fJ c.toNat):=by
 apply UInt32.toNat_inj.1;have e:(GI.toZ (1:UInt64)).toNat=1:=rfl;have h1:(Cs c 1).toNat=c.toNat/2:=by rw[WV]
 have h2:(Ce (3988292384:UInt32) (Ex c (1:UInt32))).toNat=if c.toNat %2=1 then 3988292384 else 0:=by
  rw[Alb,qp,UInt32.toNat_mul,UInt32.toNat_and]
  show 3988292384*(c.toNat&&&1) %4294967296=_;rw[Nat.and_one_is_mod];have:c.toNat %2=0\/c.toNat %2=1:=F0
  rcases this with h|h<;>simp[h]
 rw[e,oB,UInt32.toNat_xor,h1,h2,An1,Acm (G6 c.toNat_lt)];rfl
theorem kg(Hj:Int->LU->Option (UInt32×Int))(s:UInt32)(b:LB)(x:Int)(t:LU):∀(j i q:Nat) (c:UInt32),i+j=8->j<q->
  Qs Hj s b x t q c (i:Int)=EB Hj s b x (UInt32.ofNat (Ya j c.toNat)) t
 |0,i,q+1,c,hi,_=>by
  obtain rfl:i=8:=F0
  rw[Qs,DQ,Aa2 Axs,Ya,UInt32.ofNat_toNat]
 |j+1,i,q+1,c,hi,hq=>by
  rw[Qs,DQ,Aa4 Axi,Aot,Ak,show((i:Int)+1)=((i+1:Nat):Int) by omega,kg Hj s b x t j (i+1) q _ F0 F0,An1,Acm (G6 c.toNat_lt)];rfl
def tbl(n:Nat):LU:=(List.range n).map λi=>UInt32.ofNat (Ya 8 i)
theorem Afc(s:UInt32)(b:LB):∀(j i q:Nat),i+j=256->j<q->Na s b q (i:Int) (tbl i++List.replicate j 0)=RE s b (tbl 256)
 |0,i,q+1,hi,_=>by
  obtain rfl:i=256:=F0
  rw[Na,FO,Aa2 Axs];simp
 |j+1,i,q+1,hi,hq=>by
  have hlen:(tbl i++List.replicate (j+1) 0).length=i+(j+1):=by simp[tbl]
  rw[Na,FO,Aa4 Axi,QC];have h:=kg (Na s b q) s b (i:Int) (tbl i++List.replicate (j+1) 0) 8 0 Ar (Ad (i:Int)) F0 Axj;rw[show((0:Int))=((0:Nat):Int)from rfl,h,EB,fS,Cu (by rw[hlen];omega),Aa,Yp _ (by rw[hlen];omega),Aa,gS,eQ,Ak];have e:(Ad (i:Int):UInt32).toNat=i:=by rw[R7,An1,Acm F0]
  rw[e,Auv,iO (by simp[tbl])];have h2:=Afc s b j (i+1) q F0 F0;have h3:tbl (i+1)=tbl i++[UInt32.ofNat (Ya 8 i)]:=by simp[tbl,List.range_succ]
  rw[h3]at h2;rw[show((i:Int)+1)=((i+1:Nat):Int) by omega,<-h2];simp
theorem Ano{i:Nat}(h:i<256):Ah (tbl 256) (i:Int)=some (UInt32.ofNat (Ya 8 i)):=by
 rw[Cu (by simpa [tbl]using h)];simp[tbl]
theorem Alq(s:UInt32)(c:UInt8):Ah (tbl 256) (GI.toZ (Yw (Ad s:UInt8) c))=some (UInt32.ofNat (Ya 8 ((s.toNat %256)^^^c.toNat))):=by
 have e:GI.toZ (Yw (Ad s:UInt8) c)=(((s.toNat %256)^^^c.toNat:Nat):Int):=by
  rw[BM,Adr,UInt8.toNat_xor,mX,Apu]
 rw[e,Ano];exact Atr (n:=8) F6 (by simpa using c.toNat_lt)
theorem Agq(s:UInt32)(c:UInt8):Yw (Cs s (GI.toZ (8:UInt64)).toNat) (UInt32.ofNat (Ya 8 ((s.toNat %256)^^^c.toNat)))=UInt32.ofNat (vD s.toNat c.toNat):=by
 apply UInt32.toNat_inj.1;have hlt:Ya 8 ((s.toNat %256)^^^c.toNat)<4294967296:=yK 8 (Atr (n:=32) F6 (by have:=c.toNat_lt;simp;omega));have e:(GI.toZ (8:UInt64)).toNat=8:=rfl;rw[e,oB,UInt32.toNat_xor,WV,An1,An1,Acm hlt,Acm (yG s.toNat_lt c.toNat_lt),su c.toNat_lt]
theorem yj(b:LB)(hb:b.length<4611686018427387904):∀(j i q:Nat) (s:UInt32),i+j=b.length->j<q->Rb b (tbl 256) q s (i:Int)=some (UInt32.ofNat (Af8 s.toNat (b.drop i)),0)
 |0,i,q+1,s,hi,_=>by
  rw[Rb,FM,Aa2 F2,show i=b.length by omega,Avo];simp[QR,fF,Af8]
 |j+1,i,q+1,s,hi,hq=>by
  have hlt:i<b.length:=F0
  rw[Rb,FM,Aa4 F2,Cu hlt,Aa,Alq,Aa,Aa,Agq,Ak];have h:=yj b hb j (i+1) q (UInt32.ofNat (vD s.toNat b[i].toNat)) F0 F0;rw[show((i:Int)+1)=((i+1:Nat):Int) by omega,h,drop_cons hlt,An1,Acm (yG s.toNat_lt b[i].toNat_lt)];rfl
theorem Am1(s:UInt32)(b:LB)(hb:b.length<=100000):bC s b=some (UInt32.ofNat (Af8 s.toNat b),0):=by
 have h:=Afc s b 256 0 Ar F0 Axj;have h2:=yj b F0 b.length 0 Ar s F0 Axj;rw[bC,VV,Aa2 Axk,eV];refine Av6 h ?_;rw[RE,QU,fG,RA,RI];exact h2
theorem Ai3(a:UInt32):D3 a=4294967295-a:=by
 have h:=a.toNat_lt;have e:D3 a=UInt32.ofNat (BitVec.ofInt 32 4294967295^^^BitVec.ofInt 32 (a.toNat:Int)).toNat:=Ez _;apply UInt32.toNat_inj.1;rw[e,An1,UInt32.toNat_sub_of_le _ _ (by rw[UInt32.le_iff_toNat_le];show a.toNat<=4294967295;omega)];have h1:BitVec.ofInt 32 (a.toNat:Int)=a.toBitVec:=Z1 a;have h2:(BitVec.ofInt 32 4294967295:BitVec 32)=BitVec.allOnes 32:=F5
 rw[h1,h2,BitVec.allOnes_xor,BitVec.toNat_not];show(4294967296-1-a.toNat) %4294967296=4294967295-a.toNat;omega
theorem Ab2(b:LB)(hb:b.length<=100000):Xf b=some (Hl b,0):=by
 rw[Xf,Am1 _ _ hb,Aa];simp only[Am,Ai3];rfl
theorem Adl:∀{l m:LB},l.length=m.length->Et l=Et m->l=m
 |[],[],_,_=>rfl
 |x::l,y::m,h,e=>by
  simp only[Et]at e;have hx:=x.toNat_lt;have hy:=y.toNat_lt;have h1:x=y:=UInt8.toNat_inj.1 F0;rw[h1,Adl (l:=l) (m:=m) (by simpa using h) F0]
theorem Y3:∀(w n:Nat),Et (GM n w)=n %256^w
 |0,n=>by simp[GM,Et,Nat.mod_one]
 |w+1,n=>by
  rw[GM,Et,Y3 w (n/256),Apu,show(256:Nat)^(w+1)=256*256^w by rw[Ar5,Arf],Nat.mod_mul]
def Ux(b:LB):Int:=
 if b.length<5 then 24 else if 41254<b.length then 4 else if(Hl (b.take (b.length-4))).toNat≠Et (b.drop (b.length-4))then 22 else 0
theorem xg(b:LB):EN b=some (if Ux b≠0 then([],Ux b)else(b.take (b.length-4),0)):=by
 rw[EN];by_cases h1:b.length<5
 ·have hS:Ux b=24:=by rw[Ux,Aa4 h1]
  rw[Aa4 F2,hS];rfl
 rw[Aa2 F2];by_cases h2:41254<b.length
 ·have hS:Ux b=4:=by rw[Ux,Aa2 h1,Aa4 h2]
  rw[Aa4 Axk,hS];rfl
 have e4:Al (Ac b) 4=((b.length-4:Nat):Int):=by rw[Ac,Cm];omega
 have hd:(b.drop (b.length-4)).length=4:=by simp;omega
 rw[Aa2 Axk,e4,Db,Aa,show((b.length-4:Nat):Int).toNat=b.length-4 from rfl,Ab2 _ F6,Aa];simp only;rw[Aa2 Axm,Dm,Aa,show((b.length-4:Nat):Int).toNat=b.length-4 from rfl,zn _ F0 F0,Aa];have hne:Bi (lC (b.drop (b.length-4))) (Ad (Hl (b.take (b.length-4))):UInt64)=decide ((Hl (b.take (b.length-4))).toNat≠Et (b.drop (b.length-4))):=by
  have hlt:=(Hl (b.take (b.length-4))).toNat_lt;rw[OV,Akf];simp only[Awn,ne_eq,<-Awl,Acr];rw[VE F0,Jg,Ai5,Acm F0];exact⟨λh e=>h e.symm,λh e=>h e.symm⟩
 simp only;rw[hne,Aa];by_cases h3:(Hl (b.take (b.length-4))).toNat≠Et (b.drop (b.length-4))
 ·have hS:Ux b=22:=by rw[Ux,Aa2 h1,Aa2 h2,Aa4 h3]
  rw[Aa4 (by simp[h3]),hS];rfl
 ·have hS:Ux b=0:=by rw[Ux,Aa2 h1,Aa2 h2,Aa2 h3]
  rw[Aa2 (by rw[Aum h3];decide),hS];rfl
theorem Agz(b:LB)(hb:b.length<=1000000):Yl b=some (b++GM (Hl b).toNat 4):=by
 have h:∀k:Nat,(Ad (Cs (Hl b) k):UInt8)=UInt8.ofNat ((Hl b).toNat/2^k):=by
  intro k;rw[mX,WV]
 have h0:(Ad (Hl b):UInt8)=UInt8.ofNat (Hl b).toNat:=mX _;have h1:=h 8;have h2:=h 16;have h3:=h 24;rw[Yl,Aif b F0,Aa,Ct F6,Aa,Ct F6,Aa,h0,show(GI.toZ (8:UInt64)).toNat=8 from rfl,show(GI.toZ (16:UInt64)).toNat=16 from rfl,show(GI.toZ (24:UInt64)).toNat=24 from rfl,h1,h2,h3];simp only[GM,Awe,Arh]
theorem zA(b:LB):Qm b=some (Ux b):=by
 rw[Qm];by_cases h1:b.length<5
 ·rw[Aa4 F2,Ux,Aa4 h1]
 rw[Aa2 F2];by_cases h2:41254<b.length
 ·rw[Aa4 Axk,Ux,Aa2 h1,Aa4 h2]
 have e4:Al (Ac b) 4=((b.length-4:Nat):Int):=by rw[Ac,Cm];omega
 have hd:(b.drop (b.length-4)).length=4:=by simp;omega
 rw[Aa2 Axk,e4,Db,Aa,show((b.length-4:Nat):Int).toNat=b.length-4 from rfl,Agz _ F6,Aa];have hlt:=(Hl (b.take (b.length-4))).toNat_lt;have hiff:(b.take (b.length-4)++GM (Hl (b.take (b.length-4))).toNat 4 !=b)=decide ((Hl (b.take (b.length-4))).toNat≠Et (b.drop (b.length-4))):=by
  rw[Akf];simp only[Awn,ne_eq,Acr];constructor
  ·intro h e;apply h;have:GM (Hl (b.take (b.length-4))).toNat 4=b.drop (b.length-4):=Adl (by rw[Pn,hd]) (by rw[Y3,Acm F0,e]);rw[this,Av3]
  ·intro h e;apply h;have hx:GM (Hl (b.take (b.length-4))).toNat 4=b.drop (b.length-4):=by
    have e2:b.take (b.length-4)++GM (Hl (b.take (b.length-4))).toNat 4=b.take (b.length-4)++b.drop (b.length-4):=by rw[e,Av3]
    exact List.append_cancel_left e2
   rw[<-hx,Y3,Acm F0]
 rw[hiff];by_cases h3:(Hl (b.take (b.length-4))).toNat≠Et (b.drop (b.length-4))
 ·rw[Aa4 (by simp[h3]),Ux,Aa2 h1,Aa2 h2,Aa4 h3]
 ·rw[Aa2 (by rw[Aum h3];decide),Ux,Aa2 h1,Aa2 h2,Aa2 h3]
theorem Aak{b:LB}(h:Ux b=0):5<=b.length/\b.length<=41254:=by
 unfold Ux at h;split at h
 ·simp at h
 ·split at h
  ·simp at h
  ·omega
theorem Adi{c:Nat}(h1:1<=c)(h6:c<=6):Cq (4000:Int) (c:Int)=((4000/c:Nat):Int):=by
 have:c=1\/c=2\/c=3\/c=4\/c=5\/c=6:=F0
 rcases this with rfl|rfl|rfl|rfl|rfl|rfl<;>rfl
theorem Amo(p:LB)(h:p.length<=41250):okB p (8*p.length):=⟨F0,F0,λk h1 h2=>by omega⟩
theorem TW{bits:Int}{ch n:Nat}{t:LX}(b:LB)(hb:Dd bits)(ht:t.length=16)(h1:1<=ch)(h6:ch<=6)(n1:1<=n)(n2:n<=4000/ch):
  ∃l e,Qq (ch:Int) bits t (n:Int) b=some (l,e)/\Fa (ch:Int) bits t (n:Int) b=some (l,e)/\ (e=0->Bq bits l=some 0/\l.length<=4000/\l.length=n*ch)/\ (e≠0->l=[]):=by
 have hn:n*ch<=4000:=by
  have:=Adh ch n2;have h2:=Avs 4000 ch;omega
 have hq4:=Adi h1 h6;generalize 4000/ch=mm at*
 have hck:Tt (ch:Int) bits=some 0:=by
  have hr:∃x y,CT bits=some (x,y,0):=⟨_,_,Ai8 hb⟩;obtain⟨x,y,hr⟩:=hr;rw[Tt,hr,Aa];simp only;rw[Aa2 (by simp[Am,Af,Au];omega)]
 have hh:=mG bits;have Adg:Nu (ch:Int) bits (n:Int)=some 0:=by
  rw[Nu,BF,Aa2 Axr,vA hb,Aa,Aa2 Axq,Aa,Aa2 (by simp[Am,Af];omega),Dt Axp,Aa,hq4,Aa2 Axn]
 rw[Qq,Fa,Tg,hck,Adg,Aa,Aa,Aa2 Axm,Aa2 Axi,Dt Axp,Aa,hq4,Aa2 Axn,Aa2 Axm,xg,zA];by_cases hs:Ux b≠0
 ·rw[Aa4 hs];simp only[Aa];rw[Aa4 (by rw[Am];simpa using hs),Aa4 (by rw[Am];simpa using hs)];exact⟨[],Ux b,rfl,rfl,λe=>absurd e hs,λ_=>rfl⟩
 have hs0:Ux b=0:=by simpa using hs
 have hlen:=Aak hs0;have e4:Al (Ac b) 4=((b.length-4:Nat):Int):=by rw[Ac,Cm];omega
 rw[Aa2 hs,hs0];simp only[Aa];rw[Aa2 Axm,Aa2 Axm,e4,Db,Aa,show((b.length-4:Nat):Int).toNat=b.length-4 from rfl];have hpl:(b.take (b.length-4)).length=b.length-4:=by simp
 generalize b.take (b.length-4)=p at*
 have e8:Ce (8:Int) (Ac p)=((8*p.length:Nat):Int):=by rw[Ac,Jj];omega
 have hp:=Amo p F0;have hv:=values_eq hp h1 h6 hn;have hr:=Aef (N:=8*p.length) (p:=p) rfl F0 h1 h6 hn;have hat:=wU (ch:=ch) (p:=p) (N:=8*p.length) (n*ch) 0 [] F0;rw[Z2,Aa2 Axk,Cw,Ct F6,Aa,Aa,Aa,Arh,e8];simp only;rw[Aa2 Axm,hv,hr,Aa,Aa];generalize Xr ch p (8*p.length) (n*ch) 0 []=V at*
 obtain⟨v,at',e⟩:=V;simp only at*
 by_cases he:e≠0
 ·rw[Aa4 he,Aa4 he];simp only;rw[Aa4 (by rw[Am];simpa using he),If,Iu,Aa4 (by rw[Am];simpa using he)];exact⟨[],e,rfl,rfl,λh=>absurd h he,λ_=>rfl⟩
 have he0:e=0:=by simpa using he
 have hvl:=hat.2.2 he0;simp only[List.length_nil,Av9]at hvl;rw[Aa2 he,Aa2 he];simp only;rw[Aa2 Axm,Cm,show((8*p.length:Nat):Int)-(at':Int)=((8*p.length-at':Nat):Int) by omega,If,Iu];by_cases h7:7<8*p.length-at'
 ·have hE:(if 7<8*p.length-at'\/Cy p at' (8*p.length-at')≠0 then(12:Int)else 0)=12:=Aa4 (.inl h7);rw[Aa4 Axo,hE,Aa4 F5];exact⟨[],12,rfl,rfl,λh=>absurd h F5,λ_=>rfl⟩
 rw[Aa2 Axo,tZ hp at' _ F0,Aa2 F0,Aa];have hz:Bi (Vu p at' (8*p.length-at')) (0:UInt64)=decide (Cy p at' (8*p.length-at')≠0):=by
  rw[OV,Akf];simp only[Awn,ne_eq,<-Awl,Acr];rw[GA p _ _ F0];rfl
 simp only;rw[hz];by_cases hv0:Cy p at' (8*p.length-at')≠0
 ·have hE:(if 7<8*p.length-at'\/Cy p at' (8*p.length-at')≠0 then(12:Int)else 0)=12:=Aa4 (.inr hv0);rw[Aa4 (by simp[hv0]),hE,Aa4 F5];exact⟨[],12,rfl,rfl,λh=>absurd h F5,λ_=>rfl⟩
 have hm:v.length %ch=0:=by rw[hvl];exact Awk n ch
 obtain⟨l,e,g1,g2,g3,g4,g5⟩:=pN (v:=v) hb ht h1 h6 F0 hm;have hE:(if 7<8*p.length-at'\/Cy p at' (8*p.length-at')≠0 then(12:Int)else 0)=0:=Aa2 F0;rw[Aa2 (by rw[Aum hv0];decide),hE,Aa2 F5,g1,g3,Aa,Aa,g2];by_cases hl:e≠0
 ·rw[Aa4 hl];exact⟨[],e,rfl,rfl,λh=>absurd h hl,λ_=>rfl⟩
 ·rw[Aa2 hl];have hl0:e=0:=by simpa using hl
  exact⟨l,0,rfl,rfl,λ_=>⟨by rw[g4,hl0],F0,F0⟩,λe=>absurd rfl e⟩
def mxV(f:Nat->Int32)(ch i:Nat):Int32:=if i+1<ch then f (i+1)-f i else if 1<ch then f (ch-1)-Cq (f (ch-1)-f (ch-2)) (2:Int32)else f (ch-1)
def mx(ch:Nat)(x:LX):LX:=(List.range x.length).map λk=>mxV (λi=>x.getD (k-k %ch+i) 0) ch (k %ch)
def Atw(x:Int32):UInt32:=UInt32.ofNat (if 0<=x.toInt then 2*x.toInt.toNat else 2*(-x.toInt-1).toNat+1)
def Au2(bits:Int)(s:CS)(x:Int32):Int32:=x-gs (shB bits) s.1-gF (sB bits) s.2.1 s.2.2
def evl(bits:Int)(ch:Nat)(t m:LX):Nat->LU
 |0=>[]
 |i+1=>evl bits ch t m i++[Atw (Au2 bits (cst bits ch t (evl bits ch t m i) (i %ch) i) (m.getD i 0))]
def tb(l:List Bool)(k:Nat):Nat:=if l.getD k false=true then 1 else 0
theorem Amn(b:Bool)(l:List Bool):tb (b::l) 0=if b=true then 1 else 0:=rfl
theorem Anr(b:Bool)(l:List Bool)(k:Nat):tb (b::l) (k+1)=tb l k:=by simp[tb]
def At(p:LB)(a:Nat)(c:List Bool):Prop:=∀i,i<c.length->Ko p (a+i)=tb c i
theorem At.cons{p:LB}{a:Nat}{b:Bool}{c:List Bool}(h:At p a (b::c)):Ko p a=(if b=true then 1 else 0)/\At p (a+1) c:=by
 have h0:=h 0 Axl;rw[Awm,Amn]at h0;refine⟨h0,λi hi=>?_⟩;have:=h (i+1) F6;rw[Anr]at this;rw[show a+1+i=a+(i+1) by omega,this]
def Adn:Nat->Nat->List Bool
 |_,0=>[]
 |v,n+1=>decide (v %2=1)::Adn (v/2) n
def Asz(l v:Nat):List Bool:=if 48<=v/2^l then List.replicate 48 true++Adn v 32 else List.replicate (v/2^l) true++(false::Adn (v %2^l) l)
def Aty(k l:Nat)(v:UInt32):List Bool:=if v.toNat<2^k then false::Adn v.toNat k else true::Asz l (v.toNat-2^k)
def bv:List Bool->Nat
 |[]=>0
 |b::r=>(if b=true then 1 else 0)+2*bv r
def Atp(c:List Bool):LB:=(List.range ((c.length+7)/8)).map λj=>UInt8.ofNat (bv ((c.drop (8*j)).take 8))
def At4(ch:Nat)(V:LU):Nat->List Bool
 |0=>[]
 |i+1=>At4 ch V i++Aty (now ch (V.take i)).1 (now ch (V.take i)).2.1 (V.getD i 0)
def P64:Nat:=4823603603198064275
def MY(s:Nat):Nat:=(2*s %18446744073709551616)^^^ (s/9223372036854775808*P64)
theorem YS{s:Nat}(h:s<18446744073709551616):MY s<18446744073709551616:=by
 have h1:s/9223372036854775808=0\/s/9223372036854775808=1:=F0
 exact Atr (n:=64) (Av2 _ F5) (by rcases h1 with e|e<;>rw[e]<;>decide)
theorem Afg(x y:Nat):(x^^^y)/9223372036854775808=(x/9223372036854775808)^^^ (y/9223372036854775808):=by
 have:=Nat.shiftRight_xor_distrib (a:=x) (b:=y) (i:=63);simpa [Nat.shiftRight_eq_div_pow]using this
theorem Ael(x y:Nat):2*(x^^^y) %18446744073709551616=(2*x %18446744073709551616)^^^ (2*y %18446744073709551616):=by
 have h1:=Nat.shiftLeft_xor_distrib (a:=x) (b:=y) (i:=1);have h2:=Nat.xor_mod_two_pow (a:=2*x) (b:=2*y) (n:=64);have e:2*(x^^^y)=(2*x)^^^ (2*y):=by simpa [Nat.shiftLeft_eq,Arf]using h1
 rw[e];exact h2
theorem Anv{a b:Nat}(ha:a=0\/a=1)(hb:b=0\/b=1)(p:Nat):(a^^^b)*p=(a*p)^^^ (b*p):=by
 rcases ha with rfl|rfl<;>rcases hb with rfl|rfl<;>simp
theorem Auz(a b c d:Nat):(a^^^b)^^^ (c^^^d)=(a^^^c)^^^ (b^^^d):=by
 rw[Auu,Auu,<-Auu b c d,Axd b c,Auu c b d]
theorem Ab0{x y:Nat}(hx:x<18446744073709551616)(hy:y<18446744073709551616):MY (x^^^y)=MY x^^^MY y:=by
 rw[MY,MY,MY,Ael,Afg,Anv F0 F0,Auz]
def Oq:Nat->Nat->Nat
 |0,s=>s
 |k+1,s=>Oq k (MY s)
theorem rV:∀(k:Nat) {s:Nat},s<18446744073709551616->Oq k s<18446744073709551616
 |0,_,h=>h
 |k+1,_,h=>rV k (YS h)
theorem A4:∀(k:Nat) {x y:Nat},x<18446744073709551616->y<18446744073709551616->Oq k (x^^^y)=Oq k x^^^Oq k y
 |0,_,_,_,_=>rfl
 |k+1,x,y,hx,hy=>by rw[Oq,Ab0 hx hy,A4 k (YS hx) (YS hy)];rfl
theorem xU:∀(k h:Nat),2^k*h<18446744073709551616->Oq k h=2^k*h
 |0,h,_=>by simp[Oq]
 |k+1,h,hl=>by
  have hpos:0<2^k:=Av7 F0;rw[Ar5,Au5]at hl;have h2:2*h<18446744073709551616:=Aut (Nat.le_mul_of_pos_left _ hpos) hl;have:MY h=2*h:=by rw[MY,Acm h2,show h/9223372036854775808=0 by omega];simp
  rw[Oq,this,xU k _ hl,Ar5,Au5]
def gR(s c:Nat):Nat:=Oq 8 (s^^^ (c*72057594037927936))
theorem c56{c:Nat}(hc:c<256):c*72057594037927936<18446744073709551616:=F0
theorem tD{s c:Nat}(h:s<18446744073709551616)(hc:c<256):gR s c<18446744073709551616:=rV 8 (Atr (n:=64) h (c56 hc))
theorem Anj(s:Nat):s=(s/72057594037927936*72057594037927936)^^^ (s %72057594037927936):=by
 have h1:s %72057594037927936<2^56:=Av2 _ F5;have:=Aud h1 (s/72057594037927936);have h2:2^56*(s/72057594037927936)|||s %72057594037927936=(2^56*(s/72057594037927936))^^^ (s %72057594037927936):=by
  apply Nat.eq_of_testBit_eq;intro i;rw[Nat.testBit_or,Nat.testBit_xor];by_cases hi:i<56
  ·have:(2^56*(s/72057594037927936)).testBit i=false:=by rw[Nat.testBit_two_pow_mul];simp;omega
   rw[this];simp
  ·have:(s %72057594037927936).testBit i=false:=Nat.testBit_lt_two_pow (Apy h1 (Aer F0 F0));rw[this];simp
 rw[Arf (s/72057594037927936)]
 show s=(2^56*(s/72057594037927936))^^^ _;rw[<-h2,<-this];have:=Nat.div_add_mod s 72057594037927936
 show s=72057594037927936*_+_;omega
theorem Afw(a c:Nat):(a^^^c)*72057594037927936=(a*72057594037927936)^^^ (c*72057594037927936):=by
 have h1:=Nat.shiftLeft_xor_distrib (a:=a) (b:=c) (i:=56);simpa [Nat.shiftLeft_eq]using h1
theorem V3{s c:Nat}(h:s<18446744073709551616)(hc:c<256):gR s c=(256*s %18446744073709551616)^^^Oq 8 (((s/72057594037927936)^^^c)*72057594037927936):=by
 have hs:s/72057594037927936<2^8:=by show _<256;omega
 have hx:(s/72057594037927936)^^^c<256:=Atr (n:=8) hs (by simpa using hc);have hl:s %72057594037927936<72057594037927936:=Av2 _ F5;rw[gR]
 conv=>lhs;rw[Anj s]
 rw[Axd (s/72057594037927936*72057594037927936),Auu,<-Afw,A4 8 F0 (c56 hx),xU 8 _ (by show 256*_<_;omega)];congr 1
 show 256*(s %72057594037927936)=_;omega
def zJ(s:Nat)(l:LB):Nat:=l.foldl (λs c=>gR s c.toNat) s
theorem J9{n:Nat}(h:n<18446744073709551616):(UInt64.ofNat n).toNat=n:=by rw[Ai5];exact Acm h
theorem Aqc(s:UInt64)(bit:Nat)(hb:bit=0\/bit=1):FI s (bit:Int)=some (UInt64.ofNat ((2*s.toNat %18446744073709551616)^^^ (((s.toNat/9223372036854775808)^^^bit)*P64))):=by
 have hs:=s.toNat_lt;have ht:s.toNat/9223372036854775808=0\/s.toNat/9223372036854775808=1:=F0
 have e1:(Ce s (2:UInt64)).toNat=2*s.toNat %18446744073709551616:=by
  rw[KR,UInt64.toNat_mul];show s.toNat*2 %_=_;rw[Arf]
 have hlt:2*s.toNat %18446744073709551616<18446744073709551616:=Av2 _ F5;have ey:Yw (Ce s (2:UInt64)) (4823603603198064275:UInt64)=UInt64.ofNat ((2*s.toNat %18446744073709551616)^^^P64):=by
  apply UInt64.toNat_inj.1;rw[yC,UInt64.toNat_xor,e1,J9 (Atr (n:=64) hlt F5)];rfl
 have en:Ce s (2:UInt64)=UInt64.ofNat (2*s.toNat %18446744073709551616):=by
  apply UInt64.toNat_inj.1;rw[e1,J9 hlt]
 have eg:Kq s (9223372036854775808:UInt64)=decide (s.toNat/9223372036854775808=1):=by
  rw[Amm,decide_eq_decide]
  show 9223372036854775808<=s.toNat↔_;omega
 have hp:∀b:Bool,Vs s b=some (if b=true then UInt64.ofNat ((2*s.toNat %18446744073709551616)^^^P64)else UInt64.ofNat (2*s.toNat %18446744073709551616)):=by
  intro b;rw[Vs,LK,ey,en];cases b<;>rfl
 rw[FI,KK,hp,hp,eg];rcases hb with rfl|rfl<;>rcases ht with h|h<;>rw[h]<;>simp[Ba]
theorem vW(c:UInt8):∀(j q:Nat) (s:UInt64),j<=8->j<q->Kw c q s ((2^j/2:Nat):Int)=some (UInt64.ofNat (Oq j (s.toNat^^^ (c.toNat %2^j*2^(64-j)))))
 |0,q+1,s,_,_=>by
  rw[Kw,Wz,Aa2 Ax7,JR,LV];simp[Oq,Nat.mod_one]
 |j+1,q+1,s,hj,hq=>by
  have hc:=c.toNat_lt;have hs:=s.toNat_lt;have hj2:2^j<=2^7:=Aer F0 F0;have hpos:0<2^j:=Av7 F0;have e1:2^(j+1)/2=2^j:=by rw[Ar5];omega
  have e2:Cq ((2^j:Nat):Int) 2=((2^j/2:Nat):Int):=by
   generalize 2^j=K at*
   rw[ML,Aue F0,Cz F0 F0];omega
  have e3:Hk (Cq (Ad c:Int) ((2^j:Nat):Int)) (2:Int)=((c.toNat/2^j %2:Nat):Int):=by
   have hX:=Asm c.toNat (2^j);rw[PO,ML,<-Int.ofNat_tdiv];generalize c.toNat/2^j=X at*
   rw[Cz F0 F0,Hk,Awc F0];omega
  have hbit:c.toNat/2^j %2=0\/c.toNat/2^j %2=1:=F0
  rw[Kw,Wz,e1,Aa4 (by rw[Au,Acr];omega),Dt (by rw[Am,Awn];omega),Aa,e3,Aqc s _ hbit,Aa,e2,vW c j q _ F0 F0];congr 2;rw[Oq];congr 1;have hx:c.toNat %2^(j+1)*2^(64-(j+1))=(c.toNat/2^j %2)*9223372036854775808+c.toNat %2^j*2^(63-j):=by
   have h63:(9223372036854775808:Nat)=2^j*2^(63-j):=by rw[<-Awx,show j+(63-j)=63 by omega]
   rw[Nat.mod_pow_succ,h63,show 64-(j+1)=63-j by omega,Arr,Axc,Au5,Nat.mul_left_comm]
  have hr:c.toNat %2^j<2^j:=Av2 _ hpos;have Axy:c.toNat %2^j*2^(63-j)<9223372036854775808:=by
   have h63:(9223372036854775808:Nat)=2^j*2^(63-j):=by rw[<-Awx,show j+(63-j)=63 by omega]
   rw[h63];exact Nat.mul_lt_mul_of_pos_right hr (Av7 F0)
  have h64:c.toNat %2^j*2^(64-j)=2*(c.toNat %2^j*2^(63-j)):=by
   rw[show 64-j=(63-j)+1 by omega,Ar5,<-Au5,Arf]
  rw[hx,h64];generalize c.toNat %2^j*2^(63-j)=R at*
  generalize c.toNat/2^j %2=b at*
  have ht:s.toNat/9223372036854775808=0\/s.toNat/9223372036854775808=1:=F0
  have hp:((s.toNat/9223372036854775808^^^b)*P64)<18446744073709551616:=by
   rcases ht with h|h<;>rcases hbit with h2|h2<;>rw[h,h2]<;>decide
  rw[J9 (Atr (n:=64) (Av2 _ F5) hp),MY,Ael,Afg,show(b*9223372036854775808+R)/9223372036854775808=b by omega,show 2*(b*9223372036854775808+R) %18446744073709551616=2*R by omega,Auu,Auu,Axd (2*R)]
theorem Aqk(c:UInt8)(s:UInt64):TB s c=some (UInt64.ofNat (gR s.toNat c.toNat)):=by
 have h:=vW c 8 Ar s (Apn _) Axj;have hc:=c.toNat_lt;rw[Acm (show c.toNat<2^8 by simpa using hc)]at h;exact h
theorem lL(b:LB)(hb:b.length<4611686018427387904):∀(j i q:Nat) (s:UInt64),i+j=b.length->j<q->Iq b q s (i:Int)=some (UInt64.ofNat (zJ s.toNat (b.drop i)))
 |0,i,q+1,s,hi,_=>by
  rw[Iq,Sk,Aa2 F2,show i=b.length by omega,Avo];simp[EW,EY,zJ]
 |j+1,i,q+1,s,hi,hq=>by
  have hlt:i<b.length:=F0
  have hc:=b[i].toNat_lt;rw[Iq,Sk,Aa4 F2,Cu hlt,Aa,Aqk,Aa,Ak];have h:=lL b hb j (i+1) q (UInt64.ofNat (gR s.toNat b[i].toNat)) F0 F0;rw[show((i:Int)+1)=((i+1:Nat):Int) by omega,h,drop_cons hlt,J9 (tD s.toNat_lt (by simpa using hc))];rfl
def BS(b:LB):UInt64:=UInt64.ofNat (zJ 0 b)
theorem yh(b:LB)(hb:b.length<=100000):Yi 0 b=some (BS b):=
 lL b F0 b.length 0 Ar 0 F0 Axj
theorem Ab3(c:UInt64):Yw (Eg c (GI.toZ (1:UInt64)).toNat) (Ce (4823603603198064275:UInt64) (Cs c (GI.toZ (63:UInt64)).toNat))=UInt64.ofNat (MY c.toNat):=by
 have hc:=c.toNat_lt;apply UInt64.toNat_inj.1;have h1:(Eg c (GI.toZ (1:UInt64)).toNat).toNat=2*c.toNat %18446744073709551616:=by
  rw[show(GI.toZ (1:UInt64)).toNat=1 from rfl,YY,Arf]
 have h2:(Ce (4823603603198064275:UInt64) (Cs c (GI.toZ (63:UInt64)).toNat)).toNat=c.toNat/9223372036854775808*P64:=by
  rw[show(GI.toZ (63:UInt64)).toNat=63 from rfl,KR,UInt64.toNat_mul,MA]
  show 4823603603198064275*(c.toNat/9223372036854775808) %18446744073709551616=_;have h1:c.toNat/9223372036854775808=0\/c.toNat/9223372036854775808=1:=F0
  rcases h1 with e|e<;>rw[e]<;>decide
 rw[yC,UInt64.toNat_xor,h1,h2,J9 (YS hc)];rfl
theorem uR(Hj:Int->LQ->Option (UInt64×Int))(s:UInt64)(b:LB)(x:Int)(t:LQ):∀(j i q:Nat) (c:UInt64),i+j=8->j<q->
  Ri Hj s b x t q c (i:Int)=DR Hj s b x (UInt64.ofNat (Oq j c.toNat)) t
 |0,i,q+1,c,hi,_=>by
  obtain rfl:i=8:=F0
  rw[Ri,DD,Aa2 Axs,Oq,UInt64.ofNat_toNat]
 |j+1,i,q+1,c,hi,hq=>by
  rw[Ri,DD,Aa4 Axi,Ab3,Ak,show((i:Int)+1)=((i+1:Nat):Int) by omega,uR Hj s b x t j (i+1) q _ F0 F0,J9 (YS c.toNat_lt)];rfl
def VA(n:Nat):LQ:=(List.range n).map λi=>UInt64.ofNat (Oq 8 (i*72057594037927936))
theorem zN(s:UInt64)(b:LB):∀(j i q:Nat),i+j=256->j<q->Nt s b q (i:Int) (VA i++List.replicate j 0)=RM s b (VA 256)
 |0,i,q+1,hi,_=>by
  obtain rfl:i=256:=F0
  rw[Nt,EG,Aa2 Axs];simp
 |j+1,i,q+1,hi,hq=>by
  have hlen:(VA i++List.replicate (j+1) 0).length=i+(j+1):=by simp[VA]
  rw[Nt,EG,Aa4 Axi,SL];have h:=uR (Nt s b q) s b (i:Int) (VA i++List.replicate (j+1) 0) 8 0 Ar (Eg (Ad (i:Int):UInt64) (GI.toZ (56:UInt64)).toNat) F0 Axj;rw[show((0:Int))=((0:Nat):Int)from rfl,h,DR,eS,Cu (by rw[hlen];omega),Aa,Yp _ (by rw[hlen];omega),Aa,fA,eE,Ak];have e:(Eg (Ad (i:Int):UInt64) (GI.toZ (56:UInt64)).toNat).toNat=i*72057594037927936:=by
   rw[YY,Xt,J9 F0]
   show i*72057594037927936 %18446744073709551616=_;omega
  rw[e,Auv,iO (by simp[VA])];have h2:=zN s b j (i+1) q F0 F0;have h3:VA (i+1)=VA i++[UInt64.ofNat (Oq 8 (i*72057594037927936))]:=by simp[VA,List.range_succ]
  rw[h3]at h2;rw[show((i:Int)+1)=((i+1:Nat):Int) by omega,<-h2];simp
theorem Ag0{i:Nat}(h:i<256):Ah (VA 256) (i:Int)=some (UInt64.ofNat (Oq 8 (i*72057594037927936))):=by
 rw[Cu (by simpa [VA]using h)];simp[VA]
theorem Aau(s:UInt64)(c:UInt8):Ah (VA 256) (GI.toZ (Yw (Ad (Cs s (GI.toZ (56:UInt64)).toNat):UInt8) c))=some (UInt64.ofNat (Oq 8 (((s.toNat/72057594037927936)^^^c.toNat)*72057594037927936))):=by
 have hs:=s.toNat_lt;have e:GI.toZ (Yw (Ad (Cs s (GI.toZ (56:UInt64)).toNat):UInt8) c)=(((s.toNat/72057594037927936)^^^c.toNat:Nat):Int):=by
  have e2:((Ad (Cs s (GI.toZ (56:UInt64)).toNat):UInt8)).toNat=s.toNat/72057594037927936:=by
   rw[aT,Apu,MA]
   show s.toNat/72057594037927936 %256=_;omega
  rw[BM,Adr,UInt8.toNat_xor,e2]
 rw[e,Ag0];exact Atr (n:=8) (by show _<256;omega) (by simpa using c.toNat_lt)
theorem V5(s:UInt64)(c:UInt8):Yw (Eg s (GI.toZ (8:UInt64)).toNat) (UInt64.ofNat (Oq 8 (((s.toNat/72057594037927936)^^^c.toNat)*72057594037927936)))=UInt64.ofNat (gR s.toNat c.toNat):=by
 have hs:=s.toNat_lt;have hc:c.toNat<256:=by simpa using c.toNat_lt
 apply UInt64.toNat_inj.1;have hlt:Oq 8 (((s.toNat/72057594037927936)^^^c.toNat)*72057594037927936)<18446744073709551616:=rV 8 (c56 (Atr (n:=8) (by show _<256;omega) (by simpa using c.toNat_lt)));have e:(GI.toZ (8:UInt64)).toNat=8:=rfl;rw[e,yC,UInt64.toNat_xor,YY,J9 hlt,J9 (tD hs hc),V3 hs hc,Arf s.toNat]
theorem uV(b:LB)(s0:UInt64)(hb:b.length<4611686018427387904):∀(j i q:Nat) (s:UInt64),i+j=b.length->j<q->Ra b s0 (VA 256) q s (i:Int)=some (UInt64.ofNat (zJ s.toNat (b.drop i)),0)
 |0,i,q+1,s,hi,_=>by
  rw[Ra,ED,Aa2 F2,show i=b.length by omega,Avo];simp[RR,eO,fX,fV,zJ]
 |j+1,i,q+1,s,hi,hq=>by
  have hlt:i<b.length:=F0
  have hc:=b[i].toNat_lt;rw[Ra,ED,Aa4 F2,Cu hlt,Aa,Aau,Aa,Aa,V5,Ak];have h:=uV b s0 hb j (i+1) q (UInt64.ofNat (gR s.toNat b[i].toNat)) F0 F0;rw[show((i:Int)+1)=((i+1:Nat):Int) by omega,h,drop_cons hlt,J9 (tD s.toNat_lt (by simpa using hc))];rfl
theorem zk(b:LB)(hb:b.length<=100000):XH b=some (BS b,0):=by
 have h:=zN 0 b 256 0 Ar F0 Axj;have h2:=uV b 0 F0 b.length 0 Ar 0 F0 Axj;have hn:aV 0 b=some (BS b,0):=by
  rw[aV,WB,Aa2 Axk,fL];refine Av6 h ?_;rw[RM,QE,QP];exact h2
 rw[XH,hn,Aa]
theorem Af3(p:LB)(hp:p.length<=64):EV p=some (GM (BS p).toNat 8,0):=by
 rw[EV,tB,Aa2 Axk,zk p F0,Aa,Aa];simp only;have h:=E7 (BS p) 8 F0 F0 (by simpa using(BS p).toNat_lt);rw[Aa2 Axm];exact congrArg (λo=>Option.bind o λx:LB×Int=>some (x.1,x.2)) h
theorem M0(p:LB)(hp:p.length<=64):Wp p=some (GM (BS p).toNat 8):=by
 have h:=C7 (BS p) 8 F0;rw[Wp,UG,yh p F0,Aa,Aa];exact congrArg (λo=>Option.bind o λl=>some l) h
def s8(n:Nat):Int32:=Int32.ofInt (if n<128 then(n:Int)else(n:Int)-256)
def UC(d:UInt64)(n:Nat):LX:=(List.range n).map λi=>s8 (d.toNat/256^i %256)
theorem XT(d:UInt64)(n:Nat):(UC d n).length=n:=by simp[UC]
theorem G4(d:UInt64)(n:Nat):UC d (n+1)=UC d n++[s8 (d.toNat/256^n %256)]:=by simp[UC,List.range_succ]
theorem bm8(z:Nat):(z:Int).bmod Int8.size=if z %256<128 then((z %256:Nat):Int)else((z %256:Nat):Int)-256:=by
 rw[show Int8.size=256 from rfl,Int.bmod_def];split<;>split<;>omega
theorem Aem(d:UInt64):∀(j i q:Nat),i+j=8->j<q->IX d q (i:Int) (UC d i++List.replicate (16-i) 0)=some (UC d 8++List.replicate 8 0)
 |0,i,q+1,hi,_=>by
  obtain rfl:i=8:=F0
  rw[IX,bK,Aa2 Axs];rfl
 |j+1,i,q+1,hi,hq=>by
  have hlen:(UC d i++List.replicate (16-i) 0).length=16:=by simp[XT];omega
  have ih:=Aem d j (i+1) q F0 F0;have e8:Ce (8:Int) (i:Int)=((8*i:Nat):Int):=by rw[Jj];omega
  have ev:(Ad (Ad (Cs d (GI.toZ (((8*i:Nat):Int))).toNat):Int8):Int32)=s8 (d.toNat/256^i %256):=by
   have e1:(Cs d (GI.toZ (((8*i:Nat):Int))).toNat).toNat=d.toNat/256^i:=by
    rw[show(GI.toZ (((8*i:Nat):Int))).toNat=8*i from rfl,MA,Nat.pow_mul]
   show Int32.ofInt (Int8.ofInt ((Cs d (GI.toZ (((8*i:Nat):Int))).toNat).toNat:Int)).toInt=_;rw[e1,s8,Int8.toInt_ofInt,bm8]
  rw[IX,bK,Aa4 Axi,e8,Dt Axo,Aa,ev,Cu,Aa,Yp _ F0,Aa,Ak,show 16-i=(15-i)+1 by omega,Auv,iO (XT d i)];rw[G4,show 16-(i+1)=15-i by omega,Ame]at ih;exact ih
theorem Ai4(d:UInt64):∀(j i q:Nat) (e:UInt64),i+j=8->j<q->e.toNat=d.toNat/256^i->Km q e (i:Int) (UC d i++List.replicate (16-i) 0)=some (UC d 8++List.replicate 8 0)
 |0,i,q+1,e,hi,_,he=>by
  obtain rfl:i=8:=F0
  rw[Km,AM,Aa2 Axs];rfl
 |j+1,i,q+1,e,hi,hq,he=>by
  have hlen:(UC d i++List.replicate (16-i) 0).length=16:=by simp[XT];omega
  have hq2:(Cq e (256:UInt64)).toNat=d.toNat/256^(i+1):=by
   rw[qO,Aw0,he,Ar5,<-Awe];rfl
  have ih:=Ai4 d j (i+1) q (Cq e (256:UInt64)) F0 F0 hq2;have ev:(Ad (CX e (256:UInt64)):Int32)=Int32.ofInt ((d.toNat/256^i %256:Nat):Int):=by
   show Int32.ofInt ((CX e (256:UInt64)).toNat:Int)=_;rw[oo,UInt64.toNat_mod,he];rfl
  have hz:d.toNat/256^i %256<256:=Av2 _ F0;have et:(Int32.ofInt ((d.toNat/256^i %256:Nat):Int)).toInt=((d.toNat/256^i %256:Nat):Int):=by
   rw[Awf,Axb (by show -(4294967296/2:Int)<= _;omega) (by show _<(4294967296+1)/2;omega)]
  have hp8:∀x:Int32,x=s8 (d.toNat/256^i %256)->AU (Km q) e (i:Int) (UC d i++List.replicate (16-i) 0) x=some (UC d 8++List.replicate 8 0):=by
   intro x hx;rw[AU,RO,hx,Cu,Aa,Yp _ F0,Aa,Ak,show 16-i=(15-i)+1 by omega,Auv,iO (XT d i)];rw[G4,show 16-(i+1)=15-i by omega,Ame]at ih;exact ih
  rw[Km,AM,Aa4 Axi,ev,Abw,et,show(127:Int32).toInt=127 from rfl];by_cases h:d.toNat/256^i %256<128
  ·rw[Aa2 (by simp only[Acr];omega)];exact hp8 _ (by rw[s8,Aa4 h])
  ·rw[Aa4 (by simp only[Acr];omega)];refine hp8 _ ?_;rw[s8,Aa2 h,zH,Int32.ofInt_sub];rfl
def IW(p:LB):LX:=UC (BS p) 8++List.replicate 8 0
theorem AO(p:LB):(IW p).length=16:=by simp[IW,XT]
theorem Q6(p:LB)(hp:p.length<=64):Tv p=some (IW p,0):=by
 have h:=Aem (BS p) 8 0 Ar F0 Axj;have h2:U4 (BS p)=some (IW p):=h;rw[Tv,Aa2 Axk,zk p F0,Aa];simp only;rw[Aa2 Axm,h2,Aa]
theorem pU(p:LB)(hp:p.length<=64):Uw p=some (IW p,0):=by
 have h:=Ai4 (BS p) 8 0 Ar (BS p) F0 Axj Axl;have h2:cE (BS p)=some (IW p):=h;rw[Uw,Aa2 Axk,YE,UD,Aa2 Axk,yh p F0,Aa,Aa,Aa];simp only;rw[h2,Aa]
def u8(z:Int):UInt8:=UInt8.ofNat (z %256).toNat
theorem T8(z:Int):u8 (z %256)=u8 z:=by rw[u8,u8];congr 2;omega
def wB(bits:Int):Nat:=if bits=8 then 1 else if bits=16 then 2 else 3
theorem Ald{bits:Int}(h:Dd bits):Cq bits 8=(wB bits:Int):=by obtain rfl|rfl|rfl:=h<;>rfl
theorem mg(bits:Int):1<=wB bits/\wB bits<=3:=by
 unfold wB;split; · omega
 ·split<;>omega
def jR(bits:Int)(x:Int):LB:=if bits=8 then [u8 (x+128)]else if bits=16 then [u8 x,u8 (x/256)]else [u8 x,u8 (x/256),u8 (x/65536)]
theorem jm(bits x:Int):(jR bits x).length<=3:=by
 unfold jR;split; · simp
 ·split<;>simp
theorem Ajx(x:Int32)(k:Nat)(hk:k<=32):(Ad (Cs x k):UInt8)=u8 (x.toInt.fdiv (2^k)):=by
 have h:=FP x;have e:Cs x k=Int32.ofInt (x.toInt.fdiv (2^k)):=by
  show Int32.ofInt (x.toInt.fdiv (2^min k 32))=_;rw[As8 hk]
 have hb: -2147483648<=x.toInt.fdiv (2^k)/\x.toInt.fdiv (2^k)<2147483648:=by
  have hpos:(0:Int)<2^k:=Int.pow_pos F0;rw[Ar0 _ F0];constructor
  ·refine(Int.le_ediv_iff_mul_le hpos).2 ?_;have:(1:Int)<=2^k:=F0
   have h2: -2147483648*(2^k:Int)<= -2147483648*1:=Int.mul_le_mul_of_nonpos_left F0 this;omega
  ·refine Int.ediv_lt_of_lt_mul hpos ?_;have:(1:Int)<=2^k:=F0
   have h2:(2147483648:Int)*1<=2147483648*2^k:=Int.mul_le_mul_of_nonneg_left this F0;omega
 show UInt8.ofNat ((Cs x k).toInt %256).toNat=_;rw[e,Awf,Axb (by show -(4294967296/2:Int)<= _;omega) (by show _<(4294967296+1)/2;omega)];rfl
section
variable (bk:Int->LB->Option (LB×Int)) (l:LX)
theorem wS{bits:Int}(h:Dd bits)(c:Int32)(x:Int)(i q:Nat)(acc:LB)(hi:i<wB bits)(ha:acc.length<=100000):
  Jh bk bits l c x (q+1) (i:Int) acc=Jh bk bits l c x q ((i+1:Nat):Int) (acc++[u8 (c.toInt.fdiv (2^(8*i)))]):=by
 have hw:=mg bits;have e8:Ce (8:Int) (i:Int)=((8*i:Nat):Int):=by rw[Jj];omega
 rw[Jh,Zz,Ald h,Aa4 Axi,e8,Dt Axo,Aa,show(GI.toZ (((8*i:Nat):Int))).toNat=8*i from rfl,Ajx _ _ F0,Ct F6,Aa,Ak];rfl
theorem Ab1{bits:Int}(h:Dd bits)(c:Int32)(x:Int)(q:Nat)(acc:LB):Jh bk bits l c x (q+1) ((wB bits:Nat):Int) acc=bk (Ae x 1) acc:=by
 rw[Jh,Zz,Ald h,Aa2 Axs,MR,cM]
theorem Aqi{bits:Int}(h:Dd bits)(c:Int32)(x:Int)(acc:LB)(ha:acc.length<=90000)(hr: -(hB bits)<=c.toInt/\c.toInt<hB bits):
  Pd bk bits l x acc (if bits=8 then Ae c (128:Int32)else c)=bk (Ae x 1) (acc++jR bits c.toInt):=by
 have e:Ar=(Ar-4)+1+1+1+1:=by have:=As;omega
 have hc:=FP c;rw[Pd,MH,NJ,e];have g0:=λ(c:Int32) q acc ha=>wS bk l h c x 0 q acc (by have:=mg bits;omega) ha;obtain rfl|rfl|rfl:=h
 ·have hh:hB 8=128:=rfl;rw[hh]at hr;have e1:(Ae c (128:Int32)).toInt=c.toInt+128:=by
   show(Int32.ofInt (c.toInt+(128:Int32).toInt)).toInt=_;rw[show(128:Int32).toInt=128 from rfl,Awf,Axb (by show -(4294967296/2:Int)<= _;omega) (by show _<(4294967296+1)/2;omega)]
  have g1:=Ab1 bk l (bits:=8) (.inl rfl) (Ae c (128:Int32)) x (Ar-4+1+1);rw[Aa4 rfl,show(0:Int)=((0:Nat):Int)from rfl,g0 _ _ _ F0];refine Av6 (g1 _) ?_;rw[e1,jR,Aa4 rfl]
  show bk _ (acc++[u8 ((c.toInt+128).fdiv 1)])=_;rw[Int.fdiv_one]
 ·have g1:=λq acc ha=>wS bk l (bits:=16) (.inr (.inl rfl)) c x 1 q acc F5 ha;have g2:=Ab1 bk l (bits:=16) (.inr (.inl rfl)) c x (Ar-4+1);rw[Aa2 F5,show(0:Int)=((0:Nat):Int)from rfl,g0 _ _ _ F0,g1 _ _ F6];refine Av6 (g2 _) ?_;rw[jR,Aa2 F5,Aa4 rfl,Ame]
  show bk _ (acc++[u8 (c.toInt.fdiv 1),u8 (c.toInt.fdiv 256)])=_;rw[Int.fdiv_one,Ar0 _ F0]
 ·have g1:=λq acc ha=>wS bk l (bits:=24) (.inr (.inr rfl)) c x 1 q acc F5 ha;have g2:=λq acc ha=>wS bk l (bits:=24) (.inr (.inr rfl)) c x 2 q acc F5 ha;have g3:=Ab1 bk l (bits:=24) (.inr (.inr rfl)) c x (Ar-4);rw[Aa2 F5,show(0:Int)=((0:Nat):Int)from rfl,g0 _ _ _ F0,g1 _ _ F6,g2 _ _ F6];refine Av6 (g3 _) ?_;rw[jR,Aa2 F5,Aa2 F5,Ame,Ame]
  show bk _ (acc++[u8 (c.toInt.fdiv 1),u8 (c.toInt.fdiv 256),u8 (c.toInt.fdiv 65536)])=_;rw[Int.fdiv_one,Ar0 _ F0,Ar0 _ F0]
end
def Nv(bits:Int)(l:LX):LB:=l.flatMap λx=>jR bits x.toInt
theorem JC(bits:Int):∀l:LX,(Nv bits l).length<=3*l.length
 |[]=>by simp[Nv]
 |x::l=>by
  have h1:=JC bits l;have h2:=jm bits x.toInt;simp only[Nv,List.flatMap_cons,Aa7,Asj]at*
  omega
def inR(bits:Int)(l:LX):Prop:=∀x∈l, -(hB bits)<=x.toInt/\x.toInt<hB bits
theorem Ads{bits:Int}(h:Dd bits)(l:LX)(hl:l.length<=4000)(hr:inR bits l):∀(j i q:Nat),i+j=l.length->j<q->Gi bits l q (i:Int) (Nv bits (l.take i))=some (Nv bits l,0)
 |0,i,q+1,hi,_=>by
  rw[Gi,AE,Aa2 F2,Aus F0];rfl
 |j+1,i,q+1,hi,hq=>by
  have hlt:i<l.length:=F0
  have ih:=Ads h l hl hr j (i+1) q F0 F0;have hlen:=JC bits (l.take i);have hx:=hr l[i] (Asd _);have h1:=Aqi (Gi bits l q) l h l[i] (i:Int) (Nv bits (l.take i)) (by rw[Ah0]at hlen;omega) hx;rw[Gi,AE,Aa4 F2,Cu hlt,Aa];have e:(if(geq bits (8:Int))=true then Pd (Gi bits l q) bits l (i:Int) (Nv bits (l.take i)) (Ae l[i] (128:Int32))else Pd (Gi bits l q) bits l (i:Int) (Nv bits (l.take i)) l[i])=Pd (Gi bits l q) bits l (i:Int) (Nv bits (l.take i)) (if bits=8 then Ae l[i] (128:Int32)else l[i]):=by
   by_cases h8:bits=8
   ·rw[Aa4 (by rw[Ba];simpa using h8),Aa4 h8]
   ·rw[Aa2 (by rw[Ba];simpa using h8),Aa2 h8]
  rw[e,h1,Ak];rw[PN hlt]at ih;have e2:Nv bits (l.take i++[l[i]])=Nv bits (l.take i)++jR bits l[i].toInt:=by unfold Nv;rw[List.flatMap_append,List.flatMap_singleton]
  rw[e2]at ih;exact ih
theorem S5{bits:Int}(h:Dd bits){l:LX}(hl:l.length<=4000)(hc:Bq bits l=some 0):inR bits l:=by
 have hh:=mG bits;have key:∀(j i q:Nat),i+j=l.length->j<q->Bv l (hB bits) q (i:Int)=some 0->∀k,i<=k-> (hk:k<l.length)-> -(hB bits)<=l[k].toInt/\l[k].toInt<hB bits:=by
  intro j
  induction j with
  |zero=>intro i q hi hq _ k h1 h2;omega
  |succ j ih=>
   intro i q hi hq hs k h1 h2;obtain⟨q,rfl⟩:∃k,q=k+1:=⟨q-1,F0⟩;rw[Bv,Ff,Aa4 F2,Cu,Aa,Aa,Fv,Abv,Cz F0 F0,Ak,Af,Ek]at hs;by_cases g1:l[i].toInt<0-hB bits
   ·rw[Aa4 (by simpa using g1)]at hs;simp at hs
   ·rw[Aa2 (by simpa using g1)]at hs;by_cases g2:hB bits<=l[i].toInt
    ·rw[Aa4 (by simpa using g2)]at hs;simp at hs
    ·rw[Aa2 (by simpa using g2)]at hs;by_cases hk:k=i
     ·subst hk;omega
     ·exact ih (i+1) q F0 F0 hs k F0 h2
 rw[Bq,Jt,vA h,Aa,Aa2 Axq,Aa2 Axk]at hc;have:=key l.length 0 Ar F0 Axj hc;intro x hx;obtain⟨k,hk,rfl⟩:=List.getElem_of_mem hx;exact this k F0 hk
theorem B5{bits:Int}(h:Dd bits){l:LX}(hl:l.length<=4000)(hc:Bq bits l=some 0):Rq bits l=some (Nv bits l,0):=by
 have h1:=Ads h l hl (S5 h hl hc) l.length 0 Ar F0 Axj;rw[Rq,RT,E5 h l hl,hc,Aa,Aa2 Axm];exact h1
theorem Amg{bits:Int}(h:Dd bits)(x:Int32)(hr: -(hB bits)<=x.toInt/\x.toInt<hB bits):HU bits x=some (jR bits x.toInt):=by
 have hx:=FP x;have gu:∀z:Int,(Ad z:UInt8)=u8 z:=λz=>rfl;have hq:∀n:Int,0<=n->n<=20000000->Cq n (256:Int)=n/256/\Cq n (65536:Int)=n/65536:=by
  intro n h1 h2;constructor<;>(rw[ML,Aue h1,Cz F0 F0])
 have hm:∀n:Int,0<=n->Hk n (256:Int)=n %256:=λn h1=>by rw[Hk,Awc h1]
 rw[HU,OG,Fv];obtain rfl|rfl|rfl:=h
 ·rw[Aa4 Ax3,Ak,gu,jR,Aa4 rfl]
 ·have hh:hB 16=32768:=rfl;rw[hh]at hr;have hp:∀n:Int,0<=n->n<=70000->u8 n=u8 x.toInt->u8 (n/256)=u8 (x.toInt/256)->Ly 16 n=some (jR 16 x.toInt):=by
   intro n h1 h2 h3 h4;rw[Ly,Ys,Aa2 Ax4,hm n h1,(hq n h1 F0).1,hm _ F0,gu,gu,T8,T8,h3,h4,jR,Aa2 F5,Aa4 rfl]
  rw[Aa2 Ax4];by_cases hn:x.toInt<0
  ·rw[Aa4 (by rw[Af];simpa using hn),vA (.inr (.inl rfl)),Aa,hh,Jj,Ak];refine hp _ F0 F0 ?_ ?_
   ·rw[u8,u8];congr 2;omega
   ·rw[u8,u8];congr 2;omega
  ·rw[Aa2 (by rw[Af];simpa using hn)];exact hp _ F0 F0 rfl rfl
 ·have hh:hB 24=8388608:=rfl;rw[hh]at hr;have hp:∀n:Int,0<=n->n<=16777215->u8 n=u8 x.toInt->u8 (n/256)=u8 (x.toInt/256)->u8 (n/65536)=u8 (x.toInt/65536)->Ly 24 n=some (jR 24 x.toInt):=by
   intro n h1 h2 h3 h4 h5;rw[Ly,Ys,Aa4 Ax3,hm n h1,(hq n h1 F0).1,(hq n h1 F0).2,hm _ F0,gu,gu,gu,T8,T8,h3,h4,h5,Ct Axl,Aa,jR,Aa2 F5,Aa2 F5];rfl
  rw[Aa2 Ax4];by_cases hn:x.toInt<0
  ·rw[Aa4 (by rw[Af];simpa using hn),vA (.inr (.inr rfl)),Aa,hh,Jj,Ak];refine hp _ F0 F0 ?_ ?_ ?_
   ·rw[u8,u8];congr 2;omega
   ·rw[u8,u8];congr 2;omega
   ·rw[u8,u8];congr 2;omega
  ·rw[Aa2 (by rw[Af];simpa using hn)];exact hp _ F0 F0 rfl rfl rfl
theorem Adp{bits:Int}(h:Dd bits)(l:LX)(hl:l.length<=4000)(hr:inR bits l):∀(j i q:Nat),i+j=l.length->j<q->Jv bits l q (i:Int) (Nv bits (l.take i))=some (Nv bits l,0)
 |0,i,q+1,hi,_=>by
  rw[Jv,Ug,Aa2 F2,Aus F0];rfl
 |j+1,i,q+1,hi,hq=>by
  have hlt:i<l.length:=F0
  have ih:=Adp h l hl hr j (i+1) q F0 F0;have hlen:=JC bits (l.take i);have hol:=jm bits l[i].toInt;rw[Ah0]at hlen;have e2:Nv bits (l.take i++[l[i]])=Nv bits (l.take i)++jR bits l[i].toInt:=by unfold Nv;rw[List.flatMap_append,List.flatMap_singleton]
  rw[PN hlt,e2]at ih;rw[Jv,Ug,Aa4 F2,Cu hlt,Aa,Amg h _ (hr l[i] (Asd _)),Aa,Ct,Aa,Ak];exact ih
theorem iV{bits:Int}(h:Dd bits){l:LX}(hl:l.length<=4000)(hc:Bq bits l=some 0):Rz bits l=some (Nv bits l,0):=by
 have h1:=Adp h l hl (S5 h hl hc) l.length 0 Ar F0 Axj;rw[Rz,HI,hc,Aa,Aa2 Axm];exact h1
theorem Aya{p:Prop}(h:p:=by rw[Ek,Ac,Ac];simp;omega):p:=h
theorem Ayc{p:Prop}(h:p:=by rw[Ak]<;>omega):p:=h
end Go.Pl
namespace Go.Pl
open Go Go.Lv
variable{b:LB}{p:Prop}
def VU:LB->Nat->Int×Int
 |[],n=>((n:Int),0)
 |c::r,n=>if 128<=c.toNat then(0,12)else VU r (128*n+c.toNat)
theorem Afe:∀(l:LB) (n k:Nat),n<128^k->0<= (VU l n).1/\ (VU l n).1<((128^(k+l.length):Nat):Int)
 |[],n,k,h=>by simp[VU];exact_mod_cast h
 |c::r,n,k,h=>by
  rw[VU];split
  ·have:0<128^(k+(c::r).length):=Av7 F0;exact⟨Int.le_refl _,by simp only;exact_mod_cast this⟩
  ·have:=Afe r (128*n+c.toNat) (k+1) (by rw[Ar5];omega);rw[Asj,show k+(r.length+1)=k+1+r.length by omega];exact this
theorem or7(n c:Nat)(hn:n<268435456)(hc:c<128):vL (Eg (n:Int) (GI.toZ (7:UInt64)).toNat) (c:Int)=((128*n+c:Nat):Int):=by
 have e:(GI.toZ (7:UInt64)).toNat=7:=rfl;have h1:Eg (n:Int) 7=((2^7*n:Nat):Int):=by
  have:Eg (n:Int) 7=wrap64 ((n:Int)*2^7):=rfl;rw[this,Cz F0 F0];omega
 rw[e,h1];have h2:vL ((2^7*n:Nat):Int) (c:Int)=wrap64 ((BitVec.ofInt 64 ((2^7*n:Nat):Int)|||BitVec.ofInt 64 (c:Int)).toNat:Int):=rfl;rw[h2,BitVec.toNat_or,Avf,Avf];have h3:(((2^7*n:Nat):Int) %((2^64:Nat):Int)).toNat=2^7*n:=F0
 have h4:((c:Int) %((2^64:Nat):Int)).toNat=c:=F0
 rw[h3,h4,<-Aud (by simpa using hc),Cz F0 F0]
theorem Ae5(b:LB)(hb:b.length=4):∀(j i q n:Nat),i+j=4->j<q->n<128^i->Mr b q (n:Int) (i:Int)=some (VU (b.drop i) n)
 |0,i,q+1,n,hi,_,_=>by
  rw[Mr,Xi,Aa2 F2,show b.drop i=[] by simp;omega];rfl
 |j+1,i,q+1,n,hi,hq,hn=>by
  have hlt:i<b.length:=F0
  have hn2:n<268435456:=Apy hn (show 128^i<=128^4 from Aer F0 F0);rw[Mr,Xi,Aa4 F2,Cu hlt,Aa,drop_cons hlt,VU,Aln];by_cases hc:128<=b[i].toNat
  ·rw[Aa4 F6,Aa4 hc]
  ·rw[Aa2 F6,Aa2 hc,PO,or7 n _ hn2 F0,Ak];exact Ae5 b hb j (i+1) q _ F0 F0 (by rw[Ar5];omega)
theorem Alj(b:LB)(hb:b.length=4):∀(j i q n:Nat),i+j=4->j<q->n<128^i->Jz b q (n:Int) (i:Int)=some (VU (b.drop i) n)
 |0,i,q+1,n,hi,_,_=>by
  rw[Jz,Uj,Aa2 Axi,show b.drop i=[] by simp;omega];rfl
 |j+1,i,q+1,n,hi,hq,hn=>by
  have hlt:i<b.length:=F0
  have hn2:n<268435456:=Apy hn (show 128^i<=128^4 from Aer F0 F0);rw[Jz,Uj,Aa4 Axi,Cu hlt,Aa,drop_cons hlt,VU,Ajv];have h128:(128:UInt8).toNat=128:=rfl;by_cases hc:128<=b[i].toNat
  ·rw[Aa4 (by simpa using hc),Aa4 hc]
  ·have h3:=b[i].toNat_lt;rw[Aa2 (by simpa using hc),Aa2 hc,Aa,PO,Jj,Ak,Ak];have:=Alj b hb j (i+1) q (128*n+b[i].toNat) F0 F0 (by rw[Ar5];omega);rw[<-this];rfl
theorem Abz(b:LB)(hb:b.length=4):JI b=some (VU b 0):=by
 have h:=Ae5 b hb 4 0 Ar 0 F0 Axj Axl;rw[JI,JA,Aa2 (by rw[Am,Ac];simp;omega),WU];exact h
theorem Ahh(b:LB)(hb:b.length=4):AZ b=some (VU b 0):=by
 have h:=Alj b hb 4 0 Ar 0 F0 Axj Axl;rw[AZ,HJ,Aa2 (by rw[Am,Ac];simp;omega),GV];exact h
theorem Abm(hb:b.length=4):0<= (VU b 0).1/\ (VU b 0).1<268435456:=by
 have:=Afe b 0 0 Axl;rw[hb]at this;simpa using this
theorem aA(s p:LB):Lm s p=some (decide (p.length<=s.length/\s.take p.length=p)):=by
 rw[Lm];by_cases h:p.length<=s.length
 ·rw[Aa4 Aya,show Ac p=(p.length:Int)from rfl,Db,Aa,Ji,Aa,Amc];congr 1;rw[Akf];simp[h]
 ·rw[Aa2 Aya];simp[h]
def XF(b:LB)(n:Int):Int×Int:=
 if 4000<n then(0,4)else if(b.length:Int)<n then(0,24)else
 if b.getD 5 0=16/\ (b.take n.toNat).drop (n-10).toNat≠ [51,68,73]++part b 3 7 then(0,12)else(n,0)
def vJ(b:LB)(r:Int):Int×Int:=XF b (r+10+(if b.getD 5 0=16 then 10 else 0))
def Xx(b:LB):Int×Int:=
 if ¬(3<=b.length/\b.take 3=[73,68,51])then(0,6)else if b.length<10 then(0,24)else
 if(VU (part b 6 4) 0).2≠0\/b.getD 4 0≠0\/ ¬((b.getD 5 0=0/\2<= (b.getD 3 0).toNat/\ (b.getD 3 0).toNat<=4)\/ (b.getD 5 0=16/\b.getD 3 0=4))then(0,12)else
 vJ b (VU (part b 6 4) 0).1
theorem mB{i:Nat}(h:i<b.length):Ah b (i:Int)=some (b.getD i 0):=by
 rw[Cu h];simp[List.getD_eq_getElem?_getD,h]
theorem Pq(a w:Nat)(h:a+w<=b.length:=by omega):Bk b (a:Int) ((a+w:Nat):Int)=some (part b a w):=by
 rw[MJ];rfl
theorem Anm(b:LB)(r:Int)(h10:10<=b.length)(h0:0<=r)(h1:r<268435456):Vx b r=some (vJ b r):=by
 have g5:Ah b (5:Int)=some (b.getD 5 0):=mB (i:=5) F0;have key:∀n:Int,10<=n->n<268435500->Vr b n=some (XF b n):=by
  intro n hn hn2;rw[Vr,KU,XF];by_cases c1:4000<n
  ·rw[Aa4 (by rw[Au];simpa using c1),Aa4 c1]
  ·rw[Aa2 (by rw[Au];simpa using c1),Aa2 c1];by_cases c2:(b.length:Int)<n
   ·rw[Aa4 (by rw[Af,Ac];simpa using c2),Aa4 c2]
   ·have e3:Bk b (3:Int) (10:Int)=some (part b 3 7):=Pq 3 7;rw[Aa2 (by rw[Af,Ac];simpa using c2),Aa2 c2,g5,Aa];by_cases c3:b.getD 5 0=16
    ·rw[Aa4 (by rw[RF];simpa using c3),Cm,MJ,Aa,e3,Aa,Ct (by rw[Ec];simp),Aa];by_cases c4:(b.take n.toNat).drop (n-10).toNat=[51,68,73]++part b 3 7
     ·rw[Aa2 (by simpa using c4),Aa2 (by intro h;exact h.2 c4)]
     ·rw[Aa4 (by simpa using c4),Aa4 ⟨c3,c4⟩]
    ·rw[Aa2 (by rw[RF];simpa using c3),Aa2 (λh=>c3 h.1)]
 rw[Vx,JY,g5,Aa,vJ];by_cases c3:b.getD 5 0=16
 ·rw[Aa4 (by rw[RF];simpa using c3),Ak Ayc Ayc,Ak,key _ F0 F0,Aa4 c3,show 10+r+10=r+10+10 by omega]
 ·rw[Aa2 (by rw[RF];simpa using c3),Ak,key _ F0 F0,Aa2 c3,show 10+r=r+10+0 by omega]
theorem Akw(b:LB)(hb:b.length<4611686018427387904):DT b=some (Xx b):=by
 rw[DT,KC,Xx];by_cases h3:3<=b.length
 ·rw[Aa2 F2,Db,Aa];by_cases hp:b.take 3=[73,68,51]
  ·rw[Aa2 (by simpa using hp),Aa2 (by simp[h3,hp]),ME,KH];by_cases h10:b.length<10
   ·rw[Aa4 F2,Aa4 h10]
   ·have e6:Bk b (6:Int) (10:Int)=some (part b 6 4):=Pq 6 4;have g3:Ah b (3:Int)=some (b.getD 3 0):=mB (i:=3) F0;have g4:Ah b (4:Int)=some (b.getD 4 0):=mB (i:=4) F0;have g5:Ah b (5:Int)=some (b.getD 5 0):=mB (i:=5) F0;obtain⟨v1,v2⟩:=Abm (b:=part b 6 4) (Ec);rw[Aa2 F2,Aa2 h10,e6,Aa,Ahh _ (Ec),Aa];have ht:=Anm b (VU (part b 6 4) 0).1 F0 v1 v2;generalize VU (part b 6 4) 0=v at*
    obtain⟨v,e⟩:=v;simp only at ht v1 v2⊢;simp only[Aa,g3,g4,g5,ht];generalize b.getD 3 0=x at*
    generalize b.getD 4 0=y at*
    generalize b.getD 5 0=z at*
    simp only[Ace,Aq4,Aln,Am];by_cases he:e=0<;>by_cases hy:y=0<;>by_cases hz:z=0<;>by_cases hz2:z=16<;>by_cases hx:x=4<;>by_cases hx2:x.toNat<2<;>by_cases hx4:4<x.toNat<;>simp_all<;>(rw[Aa2 F0,Aa2 F0])
  ·rw[Aa4 (by simpa using hp),Aa4 (by simp[hp])]
 ·rw[Aa4 F2,Aa4 (by simp[h3])]
theorem M5(b:LB)(n:Int)(h10:10<=b.length)(hn:10<=n)(hn2:n<268435500):MN b (b.getD 5 0) n=some (XF b n):=by
 rw[MN,bZ];by_cases c1:4000<n
 ·rw[Aa4 (by rw[Au];simpa using c1),XF,Aa4 c1]
 ·rw[Aa2 (by rw[Au];simpa using c1)];by_cases c2:(b.length:Int)<n
  ·rw[Aa4 (by rw[Af,Ac];simpa using c2),XF,Aa2 c1,Aa4 c2]
  ·have e3:Bk b (3:Int) (10:Int)=some (part b 3 7):=Pq 3 7;rw[Aa2 (by rw[Af,Ac];simpa using c2)];by_cases c3:b.getD 5 0=16
   ·have hl:((b.take n.toNat).drop (n-10).toNat).length=10:=by simp;omega
    have ht:XF b n=if(b.take n.toNat).drop (n-10).toNat≠ [51,68,73]++part b 3 7 then(0,12)else(n,0):=by rw[XF,Aa2 c1,Aa2 c2];simp only[c3,true_and]
    rw[Aa4 (by rw[RF];simpa using c3),Cm,MJ,Aa,ht];generalize(b.take n.toNat).drop (n-10).toNat=f at*
    rw[Db,Aa,Dm,Aa,e3,Aa,Ji,Aa];have hf:f=f.take 3++f.drop 3:=(Av3 3 f).symm;by_cases c4:f=[51,68,73]++part b 3 7
    ·subst c4;simp
    ·by_cases c5:f.take 3=[51,68,73]
     ·have:f.drop 3≠part b 3 7:=λh=>c4 (by rw[hf,c5,h]);simp only[Awi,Arh]at c4;simp[c4,c5,this]
     ·simp only[Awi,Arh]at c4;simp[c4,c5]
   ·rw[Aa2 (by rw[RF];simpa using c3),XF,Aa2 c1,Aa2 c2,Aa2 (λh=>c3 h.1)]
theorem Aka(b:LB)(r:Int)(h10:10<=b.length)(h0:0<=r)(h1:r<268435456):NH b r (b.getD 5 0)=some (vJ b r):=by
 rw[NH,cJ,vJ];by_cases c3:b.getD 5 0=16
 ·rw[Aa4 (by rw[RF];simpa using c3),Ak Ayc Ayc,Ak,M5 b _ h10 F0 F0,Aa4 c3]
 ·rw[Aa2 (by rw[RF];simpa using c3),Ak,M5 b _ h10 F0 F0,Aa2 c3];simp
theorem Ahc(b:LB)(hb:b.length<4611686018427387904):OS b=some (Xx b):=by
 rw[OS,AA,aA,Aa];by_cases hp:3<=b.length/\b.take 3=[73,68,51]
 ·rw[Aa2 (by simpa using hp)];by_cases h10:b.length<10
  ·rw[Aa4 F2,Xx,Aa2 (λh=>h hp),Aa4 h10]
  ·have e6:Bk b (6:Int) (10:Int)=some (part b 6 4):=Pq 6 4;have g3:Ah b (3:Int)=some (b.getD 3 0):=mB (i:=3) F0;have g4:Ah b (4:Int)=some (b.getD 4 0):=mB (i:=4) F0;have g5:Ah b (5:Int)=some (b.getD 5 0):=mB (i:=5) F0;obtain⟨v1,v2⟩:=Abm (b:=part b 6 4) (Ec);have ht:=Aka b (VU (part b 6 4) 0).1 F0 v1 v2;rw[Aa2 F2,g3,Aa,g5,Aa,MQ,NG,e6,Aa,Abz _ (Ec),Aa,Xx,Aa2 (λh=>h hp),Aa2 h10];generalize VU (part b 6 4) 0=v at*
   obtain⟨v,e⟩:=v;simp only at ht v1 v2⊢;simp only[Aa,g4,MI,bO];generalize b.getD 3 0=x at*
   generalize b.getD 4 0=y at*
   generalize b.getD 5 0=z at*
   simp only[Ace,Arx,RF,Ajv,Am];have e2:(2:UInt8).toNat=2:=rfl;have e4:(4:UInt8).toNat=4:=rfl;by_cases he:e=0<;>by_cases hy:y=0<;>by_cases hz:z=0<;>by_cases hz2:z=16<;>by_cases hx:x=4<;>by_cases hx2:2<=x.toNat<;>by_cases hx4:x.toNat<=4<;>simp_all
 ·rw[Aa4 (by rw[Ap1,Asl];exact hp),Xx,Aa4 hp]
theorem Al0{n:Int}(h:Xx b=(n,0)):10<=n/\n<=b.length/\n<=4000:=by
 unfold Xx at h;split at h; · simp at h
 split at h; · simp at h
 split at h; · simp at h
 rename_i h10 _;obtain⟨v1,v2⟩:=Abm (b:=part b 6 4) (Ec);unfold vJ at h;generalize hm:(VU (part b 6 4) 0).1+10+(if b.getD 5 0=16 then 10 else 0)=m at h;unfold XF at h;split at h; · simp at h
 split at h; · simp at h
 split at h; · simp at h
 simp only[Aep,Axg]at h;subst h;refine⟨?_,F0,F0⟩;rw[<-hm];split<;>omega
theorem Ayd(h:p:=by rw[Af,Ac];simp):p:=h
theorem Axt(h:p:=by rw[Ec];omega):p:=h
theorem Ax5(h:p:=by simp[Pn]):p:=h
end Go.Pl
namespace Go.Pl
open Go Go.Lv
def wZ:LB:=[65,80,69,84,65,71,69,88]
def Oz(n m fl:Nat):LB:=wZ++GM 2000 4++GM (n+32) 4++GM m 4++GM fl 4++List.replicate 8 0
theorem VD{n:Nat}(h:n<18446744073709551616):(UInt64.ofNat n).toNat=n:=by rw[Ai5,Acm h]
theorem jH(n m:Int)(fl:UInt64)(c:UInt64)(i q:Nat)(acc:LB)(hi:i<6)(hc:Ah ([(2000:UInt64),(Ad (Ae n (32:Int)):UInt64),(Ad m:UInt64),fl,(0:UInt64),(0:UInt64)]:LQ) (i:Int)=some c)(h:c.toNat<4294967296)(ha:acc.length<=1000000):
  BN n m fl (q+1) (i:Int) acc=BN n m fl q ((i+1:Nat):Int) (acc++GM c.toNat 4):=by
 have hb:=E7 c 4 F0 F0 (by simpa using h);rw[BN,aD,Aa4 F2,hc,Aa,Aa,show((4:Int))=((4:Nat):Int)from rfl,hb,Aa];simp only;rw[Ct (by rw[Pn];omega),Aa,Ak];rfl
theorem yJ(n m:Nat)(fl:UInt64)(hn:n<=3000)(hm:m<=1000)(hf:fl.toNat<4294967296):iT (n:Int) (m:Int) fl=some (Oz n m fl.toNat):=by
 have e1:(Ad (Ae (n:Int) (32:Int)):UInt64).toNat=n+32:=by rw[Ak,show(n:Int)+32=((n+32:Nat):Int) by omega,Xt,VD F0]
 have e2:(Ad (m:Int):UInt64).toNat=m:=by rw[Xt,VD F0]
 have hF:Ar=(Ar-7)+1+1+1+1+1+1+1:=by have:=As;omega
 rw[iT,nF,yW,hF];rw[show((0:Int))=((0:Nat):Int)from rfl,jH n m fl 2000 0 _ _ F0 rfl F5 Axl,jH n m fl _ 1 _ _ F0 rfl (by rw[e1];omega) Ax5,jH n m fl _ 2 _ _ F0 rfl (by rw[e2];omega) Ax5,
  jH n m fl fl 3 _ _ F0 rfl hf Ax5,jH n m fl 0 4 _ _ F0 rfl F5 Ax5,jH n m fl 0 5 _ _ F0 rfl F5 Ax5,e1,e2]
 rw[BN,aD,Aa2 Ayd,mR,E3,Oz];have z:GM (0:UInt64).toNat 4++GM (0:UInt64).toNat 4=List.replicate 8 0:=F5
 have z2:GM (2000:UInt64).toNat 4=GM 2000 4:=rfl;rw[Ame _ (GM (0:UInt64).toNat 4),z,z2];rfl
theorem rF(n m:Nat)(fl:UInt64)(hn:n<=3000)(hm:m<=1000)(hf:fl.toNat<4294967296):Rf (n:Int) (m:Int) fl=some (Oz n m fl.toNat):=by
 have e1:(Ad (Ae (n:Int) (32:Int)):UInt64).toNat=n+32:=by rw[Ak,show(n:Int)+32=((n+32:Nat):Int) by omega,Xt,VD F0]
 have e2:(Ad (m:Int):UInt64).toNat=m:=by rw[Xt,VD F0]
 have w:∀c:UInt64,El c 4=some (GM c.toNat 4):=λc=>C7 c 4 F0;have z2:GM (2000:UInt64).toNat 4=GM 2000 4:=rfl;rw[Rf];simp only[w,e1,e2,Aa];rw[Ct Ax5,Aa,Ct Ax5,Aa,Ct Ax5,Aa,Ct Ax5,Aa,G1,Aa,Ct Ax5,Aa,z2];rfl
theorem PL{b:LB}{a w k:Nat}(h:a+w<=k):part (b.take k) a w=part b a w:=by rw[part,part,List.take_take,As8 h]
def CW(b:LB):Bool:=decide (Et (part b 12 4)<32\/3032<Et (part b 12 4)\/1000<Et (part b 16 4))
theorem Alf(b:LB)(h:20<=b.length):(((Cj (lC (part b 12 4)) (32:UInt64))||(Dv (lC (part b 12 4)) (3032:UInt64)))||(Dv (lC (part b 16 4)) (1000:UInt64)))=CW b:=by
 rw[xD,TZ,TZ,VE Axt,VE Axt,CW];show((decide (Et (part b 12 4)<32)||decide (3032<Et (part b 12 4)))||decide (1000<Et (part b 16 4)))=_;simp[Bool.or_assoc]
theorem sP(b:LB)(h:20<=b.length)(hb:CW b=false):Al (Ad (lC (part b 12 4)):Int) (32:Int)=((Et (part b 12 4)-32:Nat):Int)/\ (Ad (lC (part b 16 4)):Int)=((Et (part b 16 4):Nat):Int)/\Et (part b 12 4)-32<=3000/\Et (part b 16 4)<=1000:=by
 simp only[CW,Asl]at hb;refine⟨?_,JO Axt,F0,F0⟩;rw[JO Axt,Cm];omega
theorem aI(b:LB)(fl:UInt64)(h:20<=b.length)(hl:b.length<4611686018427387904)(hf:fl.toNat<4294967296):
  PQ b fl=some (if CW b=true then(0,0,false)else(((Et (part b 12 4)-32:Nat):Int),((Et (part b 16 4):Nat):Int),b==Oz (Et (part b 12 4)-32) (Et (part b 16 4)) fl.toNat)):=by
 have a1:YA b 12 4=some (lC (part b 12 4),0):=N3 b 12 4 F0 F0 F0 hl;have a2:YA b 16 4=some (lC (part b 16 4),0):=N3 b 16 4 F0 F0 F0 hl;rw[PQ,a1,Aa];simp only;rw[a2,Aa];simp only;rw[Alf b h];cases hb:CW b with
 |true=>rfl
 |false=>
  obtain⟨i1,i2,i3,i4⟩:=sP b h hb;rw[i1,i2,yJ _ _ _ i3 i4 hf];rfl
theorem jq(b:LB)(h:20<=b.length)(hl:b.length<4611686018427387904):
  Us b=some (if CW b=true then(0,0,false)else(((Et (part b 12 4)-32:Nat):Int),((Et (part b 16 4):Nat):Int),true)):=by
 have a1:Bk b 12 16=some (part b 12 4):=Pq 12 4;have a2:Bk b 16 20=some (part b 16 4):=Pq 16 4;rw[Us,a1,Aa,yx _ Axt,Aa,a2,Aa,yx _ Axt,Aa,Alf b h];cases hb:CW b with
 |true=>rfl
 |false=>
  obtain⟨i1,i2,i3,i4⟩:=sP b h hb;rw[i1,i2];rfl
def Jl(b:LB):Int×Int:=
 if ¬(8<=b.length/\b.take 8=wZ)then(0,6)else if b.length<32 then(0,24)else
 if CW b=true\/b.take 32≠Oz (Et (part b 12 4)-32) (Et (part b 16 4)) 2684354560 then(0,12)else
 if b.length<Et (part b 12 4)+32 then(0,24)else
 if(b.take (Et (part b 12 4)+32)).drop (Et (part b 12 4))≠Oz (Et (part b 12 4)-32) (Et (part b 16 4)) 2147483648 then(0,12)else(((Et (part b 12 4)+32:Nat):Int),0)
theorem qj(b:LB):CW (b.take 32)=CW b:=by rw[CW,CW,PL F0,PL F0]
section
variable {b:LB}
theorem fa1(h:¬(8<=b.length/\b.take 8=wZ)):Jl b=(0,6):=by rw[Jl,Aa4 h]
theorem fa2(h:8<=b.length/\b.take 8=wZ)(h2:b.length<32):Jl b=(0,24):=by rw[Jl,Aa2 (λh'=>h' h),Aa4 h2]
variable (h:8<=b.length/\b.take 8=wZ) (h2:¬b.length<32)
include h h2
theorem fa3(h3:CW b=true):Jl b=(0,12):=by rw[Jl,Aa2 (λh'=>h' h),Aa2 h2,Aa4 (.inl h3)]
theorem fa4(h4:b.take 32≠Oz (Et (part b 12 4)-32) (Et (part b 16 4)) 2684354560):Jl b=(0,12):=by rw[Jl,Aa2 (λh'=>h' h),Aa2 h2,Aa4 (.inr h4)]
variable (h3:CW b=false) (h4:b.take 32=Oz (Et (part b 12 4)-32) (Et (part b 16 4)) 2684354560)
include h3 h4
theorem fa5(h5:b.length<Et (part b 12 4)+32):Jl b=(0,24):=by
 rw[Jl,Aa2 (λh'=>h' h),Aa2 h2,Aa2 (λh'=>h'.elim (λe=>by rw[h3]at e;cases e) λe=>e h4),Aa4 h5]
theorem fa6(h5:¬b.length<Et (part b 12 4)+32)(h6:(b.take (Et (part b 12 4)+32)).drop (Et (part b 12 4))≠Oz (Et (part b 12 4)-32) (Et (part b 16 4)) 2147483648):Jl b=(0,12):=by
 rw[Jl,Aa2 (λh'=>h' h),Aa2 h2,Aa2 (λh'=>h'.elim (λe=>by rw[h3]at e;cases e) λe=>e h4),Aa2 h5,Aa4 h6]
theorem fa7(h5:¬b.length<Et (part b 12 4)+32)(h6:(b.take (Et (part b 12 4)+32)).drop (Et (part b 12 4))=Oz (Et (part b 12 4)-32) (Et (part b 16 4)) 2147483648):Jl b=(((Et (part b 12 4)+32:Nat):Int),0):=by
 rw[Jl,Aa2 (λh'=>h' h),Aa2 h2,Aa2 (λh'=>h'.elim (λe=>by rw[h3]at e;cases e) λe=>e h4),Aa2 h5,Aa2 (λh'=>h' h6)]
end
theorem Abs(b:LB)(hl:b.length<4611686018427387904):iW b=some (Jl b):=by
 rw[iW,aA,Aa];by_cases hp:8<=b.length/\b.take 8=wZ
 ·rw[Aa2 (by simpa [wZ]using hp)];by_cases h32:b.length<32
  ·rw[Aa4 F2,fa2 hp h32]
  ·have t:=aI (b.take 32) 2684354560 F6 F6 F5;rw[qj,PL F0,PL F0]at t;rw[Aa2 F2,Db,Aa,show(32:Int).toNat=32 from rfl,t,Aa];cases hb:CW b with
   |true=>rw[fa3 hp h32 hb];simp
   |false=>
    obtain⟨i1,i2,i3,i4⟩:=sP b F0 hb;have i5:32<=Et (part b 12 4):=by simp only[CW,Asl]at hb;omega
    simp only[Ap6,Av4,false_or];by_cases c1:b.take 32=Oz (Et (part b 12 4)-32) (Et (part b 16 4)) 2684354560
    ·have c1':b.take 32=Oz (Et (part b 12 4)-32) (Et (part b 16 4)) (2684354560:UInt64).toNat:=c1;rw[Aa2 (by simpa using c1'),Ak];have e1:((Et (part b 12 4)-32:Nat):Int)+64=((Et (part b 12 4)+32:Nat):Int):=F0
     rw[e1];by_cases c2:b.length<Et (part b 12 4)+32
     ·rw[Aa4 F2,fa5 hp h32 hb c1 c2]
     ·rw[Aa2 F2,Cm,MJ,Aa,yJ _ _ _ i3 i4 F5,Aa,Ji,Aa];rw[show(((Et (part b 12 4)+32:Nat):Int)).toNat=Et (part b 12 4)+32 by omega,show(((Et (part b 12 4)+32:Nat):Int)-32).toNat=Et (part b 12 4) by omega];by_cases c3:(b.take (Et (part b 12 4)+32)).drop (Et (part b 12 4))=Oz (Et (part b 12 4)-32) (Et (part b 16 4)) 2147483648
      ·have c3':(b.take (Et (part b 12 4)+32)).drop (Et (part b 12 4))=Oz (Et (part b 12 4)-32) (Et (part b 16 4)) (2147483648:UInt64).toNat:=c3;rw[Aa2 (by simpa using c3'),fa7 hp h32 hb c1 c2 c3]
      ·have c3':¬(b.take (Et (part b 12 4)+32)).drop (Et (part b 12 4))=Oz (Et (part b 12 4)-32) (Et (part b 16 4)) (2147483648:UInt64).toNat:=c3;rw[Aa4 (by simpa using c3'),fa6 hp h32 hb c1 c2 c3]
    ·have c1':¬b.take 32=Oz (Et (part b 12 4)-32) (Et (part b 16 4)) (2684354560:UInt64).toNat:=c1;rw[Aa4 (by simpa using c1'),fa4 hp h32 c1]
 ·rw[Aa4 (by rw[Ap1,Asl];exact hp),fa1 hp]
theorem Agc(b:LB)(hl:b.length<4611686018427387904):AS b=some (Jl b):=by
 rw[AS,GR];by_cases h8:8<=b.length
 ·rw[Aa2 F2,Db,Aa,show(8:Int).toNat=8 from rfl];by_cases ha:b.take 8=wZ
  ·have hp:=And.intro h8 ha;rw[Aa2 (by simpa [wZ]using ha),HD,GW];by_cases h32:b.length<32
   ·rw[Aa4 F2,fa2 hp h32]
   ·have t:=jq (b.take 32) F6 F6;rw[qj,PL F0,PL F0]at t;rw[Aa2 F2,Db,Aa,show(32:Int).toNat=32 from rfl,t,Aa];cases hb:CW b with
    |true=>rw[fa3 hp h32 hb];simp
    |false=>
     obtain⟨i1,i2,i3,i4⟩:=sP b F0 hb;have i5:32<=Et (part b 12 4):=by simp only[CW,Asl]at hb;omega
     simp only[Ap6,Av4,false_or,Aa,Awo];rw[Uz,rF _ _ _ i3 i4 F5,Aa,Aa];by_cases c1:b.take 32=Oz (Et (part b 12 4)-32) (Et (part b 16 4)) 2684354560
     ·have c1':b.take 32=Oz (Et (part b 12 4)-32) (Et (part b 16 4)) (2684354560:UInt64).toNat:=c1;rw[Aa2 (by simpa using c1'),HQ,HE,Ak];have e1:64+((Et (part b 12 4)-32:Nat):Int)=((Et (part b 12 4)+32:Nat):Int):=F0
      rw[e1];by_cases c2:b.length<Et (part b 12 4)+32
      ·rw[Aa4 F2,fa5 hp h32 hb c1 c2]
      ·rw[Aa2 F2,Cm,MJ,Aa,Lk,Aa4 rfl,rF _ _ _ i3 i4 F5,Aa,Aa];rw[show(((Et (part b 12 4)+32:Nat):Int)).toNat=Et (part b 12 4)+32 by omega,show(((Et (part b 12 4)+32:Nat):Int)-32).toNat=Et (part b 12 4) by omega];by_cases c3:(b.take (Et (part b 12 4)+32)).drop (Et (part b 12 4))=Oz (Et (part b 12 4)-32) (Et (part b 16 4)) 2147483648
       ·have c3':(b.take (Et (part b 12 4)+32)).drop (Et (part b 12 4))=Oz (Et (part b 12 4)-32) (Et (part b 16 4)) (2147483648:UInt64).toNat:=c3;rw[Aa2 (by simpa using c3'),fa7 hp h32 hb c1 c2 c3]
       ·have c3':¬(b.take (Et (part b 12 4)+32)).drop (Et (part b 12 4))=Oz (Et (part b 12 4)-32) (Et (part b 16 4)) (2147483648:UInt64).toNat:=c3;rw[Aa4 (by simpa using c3'),fa6 hp h32 hb c1 c2 c3]
     ·have c1':¬b.take 32=Oz (Et (part b 12 4)-32) (Et (part b 16 4)) (2684354560:UInt64).toNat:=c1;rw[Aa4 (by simpa using c1'),fa4 hp h32 c1]
  ·rw[Aa4 (by simpa [wZ]using ha),fa1 (λh=>ha h.2)]
 ·rw[Aa4 F2,fa1 (λh=>h8 h.1)]
theorem Ahk{b:LB}{n:Int}(h:Jl b=(n,0)):64<=n/\n<=b.length:=by
 unfold Jl at h;split at h; · simp at h
 split at h; · simp at h
 split at h; · simp at h
 rename_i hb;split at h; · simp at h
 split at h; · simp at h
 simp only[Aep,Axg]at h;have hb':¬CW b=true:=λe=>hb (.inl e);simp only[CW,Acr]at hb';omega
def Cr(b:LB):Int×Int:=if(Xx b).2≠6 then Xx b else Jl b
theorem size_eq(b:LB)(hl:b.length<4611686018427387904):Wc b=some (Cr b):=by
 rw[Wc,Ahc b hl,Aa,Abs b hl];by_cases h:(Xx b).2=6
 ·simp[Cr,h,Am]
 ·simp[Cr,h,Am]
theorem gM{b:LB}{n:Int}(h:Cr b=(n,0)):10<=n/\n<=b.length:=by
 unfold Cr at h;split at h
 ·have:=Al0 h;omega
 ·have:=Ahk h;omega
def Cg(b:LB):Nat->Nat->LI×Int
 |0,_=>([],6)
 |j+1,p=>if(Cr (b.drop p)).2=6 then([],0)else if(Cr (b.drop p)).2≠0 then([],(Cr (b.drop p)).2)else
  if 4000<(p:Int)+(Cr (b.drop p)).1 then([],4)else
  if(Cg b j (p+(Cr (b.drop p)).1.toNat)).2=0 then((Cr (b.drop p)).1::(Cg b j (p+(Cr (b.drop p)).1.toNat)).1,0)else([],(Cg b j (p+(Cr (b.drop p)).1.toNat)).2)
theorem jJ(b:LB):∀(j p:Nat),p<=b.length->p<=4000-> (Cg b j p).2=0-> (∀x∈(Cg b j p).1,10<=x)/\ (p:Int)+(Cg b j p).1.sum<=b.length/\ (p:Int)+(Cg b j p).1.sum<=4000
 |0,p,_,_,h=>by simp[Cg]at h
 |j+1,p,hp,hq,h=>by
  rw[Cg]at h⊢;split at h
  ·rename_i h6;rw[Aa4 h6];simp;omega
  ·rename_i h6;split at h
   ·rename_i h0;exact absurd h h0
   ·rename_i h0;rw[Aa2 h6,Aa2 h0];have hz:Cr (b.drop p)=((Cr (b.drop p)).1,0):=by rw[Prod.ext_iff];exact⟨rfl,Classical.not_not.1 h0⟩
    have hs:=gM hz;rw[Ah1]at hs;split at h
    ·simp at h
    ·rename_i h4;rw[Aa2 h4];split at h
     ·rename_i h00;rw[Aa4 h00];obtain⟨i1,i2,i3⟩:=jJ b j _ F0 F0 h00;refine⟨λx hx=>?_,?_,?_⟩
      ·rcases List.mem_cons.1 hx with rfl|hx
       ·exact hs.1
       ·exact i1 x hx
      ·simp only[Aup];omega
      ·simp only[Aup];omega
     ·rename_i h00;exact absurd h h00
def K2(b:LB)(j p:Nat):Int×Int:=if(Cg b j p).2=0 then((p:Int)+(Cg b j p).1.sum,0)else(0,(Cg b j p).2)
theorem D6(b:LB)(hl:b.length<4611686018427387904):∀(j p q:Nat),p<=b.length->p<=4000->b.length-p<j->j<=q->Ts b q (p:Int)=some (K2 b j p)
 |0,p,q,_,_,h,_=>by omega
 |j+1,p,q,hp,hp4,hj,hq=>by
  obtain⟨q,rfl⟩:∃k,q=k+1:=⟨q-1,F0⟩;rw[Ts,Dm,Aa,Amc,size_eq _ F6,Aa,Ba,Ba,Am,K2];by_cases h6:(Cr (b.drop p)).2=6
  ·rw[Aa4 (by simpa using h6)];have:Cg b (j+1) p=([],0):=by rw[Cg,Aa4 h6]
   rw[this];simp
  ·rw[Aa2 (by simpa using h6)];by_cases h0:(Cr (b.drop p)).2=0
   ·have hz:Cr (b.drop p)=((Cr (b.drop p)).1,0):=by rw[Prod.ext_iff];exact⟨rfl,h0⟩
    have hs:=gM hz;rw[Ah1]at hs;rw[Ak,Au];by_cases h4:4000<(p:Int)+(Cr (b.drop p)).1
    ·rw[Aa4 (by simp[h0];omega)];have:Cg b (j+1) p=([],4):=by rw[Cg,Aa2 h6,Aa2 (λh=>h h0),Aa4 h4]
     rw[this];simp
    ·rw[Aa2 (by simp[h0];omega),Aa2 (by simpa using h0)];have ih:=D6 b hl j (p+(Cr (b.drop p)).1.toNat) q F0 F0 F0 F0;rw[show(p:Int)+(Cr (b.drop p)).1=((p+(Cr (b.drop p)).1.toNat:Nat):Int) by omega,ih,K2];have:Cg b (j+1) p=if(Cg b j (p+(Cr (b.drop p)).1.toNat)).2=0 then((Cr (b.drop p)).1::(Cg b j (p+(Cr (b.drop p)).1.toNat)).1,0)else([],(Cg b j (p+(Cr (b.drop p)).1.toNat)).2):=by
      rw[Cg,Aa2 h6,Aa2 (λh=>h h0),Aa2 h4]
     rw[this];by_cases hr:(Cg b j (p+(Cr (b.drop p)).1.toNat)).2=0
     ·simp only[hr,Axf,Aup];congr 2;omega
     ·simp only[hr,Av4]
   ·rw[Aa2 (by simp[h0]),Aa4 (by simpa using h0)];have:Cg b (j+1) p=([],(Cr (b.drop p)).2):=by rw[Cg,Aa2 h6,Aa4 h0]
    rw[this];simp[h0]
def Ait(b:LB)(j p:Nat)(xs:LI):LI×Int:=if(Cg b j p).2=0 then(xs++(Cg b j p).1,0)else([],(Cg b j p).2)
theorem Aiy(bk:Int->LI->Option (LI×Int))(b:LB)(p:Nat)(hp:p<=b.length)(xs:LI)(hx:xs.length<=4000)(hl:b.length<4611686018427387904):Un (Oi bk b) b (p:Int) xs=Oi bk b (p:Int) xs (Cr (b.drop p)).1 (Cr (b.drop p)).2:=by
 have hf:=Agc (b.drop p) F6;rw[Un,Dm,Aa,Amc,Akw _ F6,Aa];by_cases h:(Xx (b.drop p)).2=6
 ·simp[Cr,h,Ba,hf]
 ·simp[Cr,h,Ba]
theorem Q4(b:LB)(hl:b.length<4611686018427387904):∀(j p q:Nat) (xs:LI),p<=b.length->p<=4000->b.length-p<j->j<=q->xs.length<=p->Ny b q (p:Int) xs=some (Ait b j p xs)
 |0,p,q,_,_,_,h,_,_=>by omega
 |j+1,p,q,xs,hp,hp4,hj,hq,hx=>by
  obtain⟨q,rfl⟩:∃k,q=k+1:=⟨q-1,F0⟩;rw[Ny,Aiy _ b p hp xs F0 hl,Oi,HC,Ba,Am,Ait];by_cases h6:(Cr (b.drop p)).2=6
  ·rw[Aa4 (by simpa using h6)];have:Cg b (j+1) p=([],0):=by rw[Cg,Aa4 h6]
   rw[this];simp
  ·rw[Aa2 (by simpa using h6)];by_cases h0:(Cr (b.drop p)).2=0
   ·have hz:Cr (b.drop p)=((Cr (b.drop p)).1,0):=by rw[Prod.ext_iff];exact⟨rfl,h0⟩
    have hs:=gM hz;rw[Ah1]at hs;rw[Aa2 (by simpa using h0),Ak,Au];by_cases h4:4000<(p:Int)+(Cr (b.drop p)).1
    ·rw[Aa4 F6];have:Cg b (j+1) p=([],4):=by rw[Cg,Aa2 h6,Aa2 (λh=>h h0),Aa4 h4]
     rw[this];simp
    ·rw[Aa2 F6,Ct F6,Aa];have ih:=Q4 b hl j (p+(Cr (b.drop p)).1.toNat) q (xs++[(Cr (b.drop p)).1]) F0 F0 F0 F0 F6;rw[show(p:Int)+(Cr (b.drop p)).1=((p+(Cr (b.drop p)).1.toNat:Nat):Int) by omega,ih,Ait];have:Cg b (j+1) p=if(Cg b j (p+(Cr (b.drop p)).1.toNat)).2=0 then((Cr (b.drop p)).1::(Cg b j (p+(Cr (b.drop p)).1.toNat)).1,0)else([],(Cg b j (p+(Cr (b.drop p)).1.toNat)).2):=by
      rw[Cg,Aa2 h6,Aa2 (λh=>h h0),Aa2 h4]
     rw[this];by_cases hr:(Cg b j (p+(Cr (b.drop p)).1.toNat)).2=0
     ·simp only[hr,Axf];simp
     ·simp only[hr,Av4]
   ·rw[Aa4 (by simpa using h0)];have:Cg b (j+1) p=([],(Cr (b.drop p)).2):=by rw[Cg,Aa2 h6,Aa4 h0]
    rw[this];simp[h0]
theorem wY:∀{l:LI},(∀x∈l,10<=x)->0<=l.sum/\ (l.length:Int)<=l.sum
 |[],_=>by simp
 |x::l,h=>by
  have h1:=h x Ave;have h2:=wY (l:=l) λy hy=>h y (Asi _ hy);simp only[Aup,Asj];omega
theorem xY(r:Int)(l:LI)(hl:l.length<=4000)(hx:∀x∈l,10<=x):∀(j i q:Nat) (n:Int),i+j=l.length->j<q->0<=n->n+(l.drop i).sum<=4000->Jr r l q n (i:Int)=some (n+(l.drop i).sum,r)
 |0,i,q+1,n,hi,_,_,_=>by
  rw[Jr,Tw,Aa2 F2,show i=l.length by omega,Avo];simp[HP,GQ]
 |j+1,i,q+1,n,hi,hq,hn,hs=>by
  have hlt:i<l.length:=F0
  rw[drop_cons hlt,Aup]at hs⊢;have h1:=hx l[i] (Asd hlt);have h2:=wY (l:=l.drop (i+1)) λy hy=>hx y (List.mem_of_mem_drop hy);rw[Jr,Tw,Aa4 F2,Cu hlt,Aa,Aa,Ak,Ak];have ih:=xY r l hl hx j (i+1) q (n+l[i]) F0 F0 F0 F0;rw[show((i:Int)+1)=((i+1:Nat):Int) by omega,ih];congr 2;omega
def Dk(b:LB):Int×Int:=K2 b (b.length+1) 0
theorem QD(b:LB)(hl:b.length<4611686018427387904):Kz b=some (Dk b):=by
 have:=D6 b hl (b.length+1) 0 Ar F0 F0 F0 Axj;exact this
theorem ZY(b:LB)(hl:b.length<4611686018427387904):Td b=some (Dk b):=by
 have h:=Q4 b hl (b.length+1) 0 Ar [] F0 F0 F0 Axj Axl;have h':QM b=some (Ait b (b.length+1) 0 []):=h;rw[Td,HA,h',Aa,Dk,K2,Ait];have ho:=jJ b (b.length+1) 0 F0 F0;by_cases h0:(Cg b (b.length+1) 0).2=0
 ·obtain⟨i1,i2,i3⟩:=ho h0;have hp:=wY i1;simp only[h0,Axf,Arh];have:=xY 0 (Cg b (b.length+1) 0).1 F0 i1 (Cg b (b.length+1) 0).1.length 0 Ar 0 F0 Axj F0 (by simpa using i3);simpa [Ty]using this
 ·simp only[h0,Av4];have:=xY (Cg b (b.length+1) 0).2 [] Axl Axl 0 0 Ar 0 Axl Axj F0 Axl;simpa [Ty]using this
theorem PM{b:LB}(h:(Dk b).2=0):0<= (Dk b).1/\ (Dk b).1<=b.length/\ (Dk b).1<=4000:=by
 unfold Dk K2 at h⊢;split at h
 ·rename_i h0;rw[Aa4 h0];obtain⟨i1,i2,i3⟩:=jJ b (b.length+1) 0 F0 F0 h0;have hp:=wY i1;exact⟨by simp;omega,i2,i3⟩
 ·rename_i h0;exact absurd h h0
theorem Axw{p:Prop}(h:p:=by rw[Af,Ac,Ac];simp;omega):p:=h
end Go.Pl
namespace Go.Pl
open Go Go.Lv
def Bf(r:Nat):Nat:=max 1 (256*r/245)
theorem Xs(r:Nat):1<=Bf r:=Nat.le_max_left _ _
theorem A6{r:Nat}(h:r<=1048576):Bf r<=1100000:=by unfold Bf;omega
theorem xq{r:Nat}(h:r<=1048576):oZ (1:Int) (Cq (Ce (256:Int) (r:Int)) (245:Int))=(Bf r:Int):=by
 rw[Jj,ML,Aue F0,Cz F0 F0,Acj,Bf];omega
def Ao(g n:Nat):LI:=List.replicate ((n-1)/g) (g:Int)++[((n-(n-1)/g*g:Nat):Int)]
theorem uW(g n:Nat):(Ao g n).length=(n-1)/g+1:=by simp[Ao]
theorem L4{g n:Nat}(h:n<=g)(h1:1<=n):Ao g n=[(n:Int)]:=by
 rw[Ao,Auw F0];simp
theorem Aat{g n:Nat}(hg:1<=g)(h:g<n):Ao g n=(g:Int)::Ao g (n-g):=by
 have e:(n-1)/g=(n-g-1)/g+1:=by rw[<-Nat.add_div_right _ F0];congr 1;omega
 rw[Ao,Ao,e,Auv,Awi];congr 4;have:=Avs (n-g-1) g;rw[Arr,Nat.one_mul];omega
theorem nZ{g n:Nat}(hg:1<=g)(h1:1<=n):(n+g-1)/g=(n-1)/g+1:=by
 rw[<-Nat.add_div_right _ F0];congr 1;omega
theorem L9{r:Nat}(h1:1<=r)(h:r<=1048576):Rt (r:Int)=some ((Bf r:Int),0):=by
 rw[Rt,Aa2 Axr,xq h]
theorem Ajt{r:Nat}(h:r<=1048576):Vd (r:Int)=some (Bf r:Int):=by rw[Vd,xq h]
theorem zR{r n:Nat}(h1:1<=r)(h:r<=1048576)(n1:1<=n)(n2:n<=4000):Zk (r:Int) (n:Int)=some (if 1000<(n-1)/Bf r+1 then(0,4)else((((n-1)/Bf r+1:Nat):Int),0)):=by
 have hp:=Xs r;have hl:=A6 h;have e:Cq (Al (Ae (n:Int) (Bf r:Int)) (1:Int)) (Bf r:Int)=(((n-1)/Bf r+1:Nat):Int):=by
  have:(n+Bf r-1)/Bf r<=n+Bf r-1:=Asm _ _;rw[Ak,Cm,ML,Aue F0,show(n:Int)+(Bf r:Int)-1=((n+Bf r-1:Nat):Int) by omega,<-Int.natCast_ediv,nZ hp n1];rw[nZ hp n1]at this;generalize(n-1)/Bf r=k at*
  exact Cz F0 F0
 rw[Zk,L9 h1 h,Aa];simp only;rw[Aa2 Axm,Aa2 Axr,Dt Axp,Aa,e];by_cases hk:1000<(n-1)/Bf r+1
 ·rw[Aa4 Axn,Aa4 hk]
 ·rw[Aa2 Axn,Aa2 hk]
theorem E6{r:Nat}(h:r<=1048576):∀(j n q:Nat) (acc:LI),n<=4000->n<=j->j<q->acc.length+n<=10000->Fg (r:Int) q (n:Int) acc=some (acc++(if n=0 then []else Ao (Bf r) n))
 |0,n,q+1,acc,hn,hj,hq,ha=>by
  obtain rfl:n=0:=F0
  rw[Fg,Jw,Aa2 Ax7];simp[Oj,Oc]
 |j+1,n,q+1,acc,hn,hj,hq,ha=>by
  have hp:=Xs r;have hl:=A6 h;by_cases h0:n=0
  ·subst h0;rw[Fg,Jw,Aa2 Ax7];simp[Oj,Oc]
  ·rw[Fg,Jw,Aa4 Axn,Ajt h,Aa,Ct F6,Aa,Aa,Cm,HZ];by_cases hs:n<=Bf r
   ·rw[show min (n:Int) (Bf r:Int)=(n:Int) by omega,Aa2 h0,L4 hs F0];have hz:∃k,q=k+1:=⟨q-1,F0⟩;obtain⟨q,rfl⟩:=hz;rw[Fg,Jw,Aa2 Axn];simp[Oj,Oc]
   ·rw[show min (n:Int) (Bf r:Int)=(Bf r:Int) by omega,show(n:Int)-(Bf r:Int)=((n-Bf r:Nat):Int) by omega,E6 h j (n-Bf r) q _ F0 F0 F0 F6,Aa2 F0,Aa2 h0,Aat hp (show Bf r<n by omega)];simp
theorem C0{r n:Nat}(h:r<=1048576)(n1:1<=n)(n2:n<=4000):Nq (r:Int) (n:Int)=some (Ao (Bf r) n):=by
 have:=E6 h n n Ar [] n2 (Apn _) Axj F6;rw[Nq,GZ,GP,this,Aa2 F0];rfl
theorem mul_one(m:Nat)(h:m<=100000):Zs (1:UInt64) (UInt64.ofNat m)=some (0,UInt64.ofNat m):=by
 have y1:(UInt64.ofNat m).toNat=m:=VD F0;have s1:Cs (1:UInt64) (GI.toZ (32:UInt64)).toNat=0:=F5
 have s2:Cs (UInt64.ofNat m) (GI.toZ (32:UInt64)).toNat=0:=by
  apply UInt64.toNat_inj.1;rw[MA,y1];exact Auw (Aut h F5)
 have s0:Cs (0:UInt64) (GI.toZ (32:UInt64)).toNat=0:=F5
 have a1:Ex (1:UInt64) (4294967295:UInt64)=1:=F5
 have a0:Ex (0:UInt64) (4294967295:UInt64)=0:=F5
 have a2:Ex (UInt64.ofNat m) (4294967295:UInt64)=UInt64.ofNat m:=by
  apply UInt64.toNat_inj.1;rw[C6,UInt64.toNat_and,y1]
  show m&&& (2^32-1)=m;rw[Awg,Acm F0]
 have m1:∀x:UInt64,Ce 1 x=x:=λx=>by rw[KR,UInt64.one_mul]
 have m0:∀x:UInt64,Ce 0 x=0:=λx=>by rw[KR,UInt64.zero_mul]
 have p0:∀x:UInt64,Ae 0 x=x:=λx=>by rw[KX,UInt64.zero_add]
 have p1:∀x:UInt64,Ae x 0=x:=λx=>by rw[KX,UInt64.add_zero]
 rw[Zs,MT];simp only[s1,s2,a1,a2,m1,m0,p0,p1,s0,a0,Aa]
theorem uQ(v:Int)(m:Nat)(hm:m<=100000):∀(j n q:Nat),1<=n->n<=m->m-n<=j->j<q->Ey q (n:Int) (List.replicate n v++List.replicate (m-n) 0)=some (List.replicate m v)
 |j,n,q+1,hn,hnm,hj,hq=>by
  have hlen:Ac (List.replicate n v++List.replicate (m-n) 0)=(m:Int):=by simp[Ac];omega
  rw[Ey,Hg,hlen];by_cases h:n<m
  ·obtain⟨j,rfl⟩:∃k,j=k+1:=⟨j-1,F0⟩;rw[Aa4 Axi];have v1:aK (m:Int) (n:Int) (m:Int)=some ():=by rw[aK,Dt];simp;omega
   have v2:aK (m:Int) (0:Int) (n:Int)=some ():=by rw[aK,Dt];simp;omega
   have e1:KY (List.replicate n v++List.replicate (m-n) 0) (0:Int) ((n:Int)-0)=List.replicate n v:=by
    simp[KY]
   rw[v1,Aa,v2,Aa,e1];have e2:FG ((m:Int)-(n:Int)) (List.replicate n v).length=((min n (m-n):Nat):Int):=by
    rw[FG,List.length_replicate];split<;>omega
   have e3:Qr (List.replicate n v++List.replicate (m-n) 0) (n:Int) ((m:Int)-(n:Int)) (List.replicate n v)=List.replicate (n+min n (m-n)) v++List.replicate (m-(n+min n (m-n))) 0:=by
    have t1:((m:Int)-(n:Int)).toNat=m-n:=F0
    have t2:(List.replicate n v++List.replicate (m-n) (0:Int)).take n=List.replicate n v:=by simp
    rw[Qr,t1,Amc,t2,List.take_replicate,List.length_replicate,<-Ame,List.replicate_append_replicate,List.drop_append,List.length_replicate,Nat.min_comm (m-n) n];simp only[List.drop_replicate];rw[show n-(n+min n (m-n))=0 by omega,List.replicate_zero,Arh,show m-n-(n+min n (m-n)-n)=m-(n+min n (m-n)) by omega]
   rw[e2,e3,Ak,show(n:Int)+((min n (m-n):Nat):Int)=((n+min n (m-n):Nat):Int) by omega];exact uQ v m hm j (n+min n (m-n)) q F0 F0 F0 F0
  ·rw[Aa2 Axi];obtain rfl:n=m:=F0
   simp[Jm,Om]
theorem Aho(v:Int)(m:Nat)(hm:m<=100000):Oh [v] (m:Int)=some (List.replicate m v):=by
 have y1:(UInt64.ofNat m).toNat=m:=VD F0;have c1:(Ad (Ac [v]):UInt64)=1:=by rfl
 have c2:(Ad (m:Int):UInt64)=UInt64.ofNat m:=Xt m;have c3:(Ad (UInt64.ofNat m):Int)=(m:Int):=by rw[tW F0,y1]
 rw[Oh,Qc,Aa2 Axs,Zv,Py,c1,c2,mul_one m hm,Aa];simp only;rw[Aa2 (by rw[TZ,TZ,y1];simp;show m<=9223372036854775807;omega),Zo,Qe,c3,G1,Aa,Dt Ax9,Aa,Zt,Amc];by_cases h0:m=0
 ·subst h0;have hF:Ar=(Ar-1)+1:=by have:=As;omega
  rw[hF,Ey,Hg];simp[Ac,hH,FG,Af,Jm,Om]
 ·have:=uQ v m hm m 1 Ar F0 F0 F0 Axj;have e1:FG (Ac (List.replicate m (0:Int))) [v].length=((1:Nat):Int):=by simp[FG,Ac];omega
  have e2:hH (List.replicate m (0:Int)) [v]=List.replicate 1 v++List.replicate (m-1) 0:=by
   obtain⟨k,rfl⟩:∃k,m=k+1:=⟨m-1,F0⟩;simp[hH]
  rw[e1,e2,this]
theorem Ag7(l m:LI)(h:l.length+m.length<=1000000):Nz [l,m]=some (l++m):=by
 have hF:Ar=(Ar-3)+1+1+1:=by have:=As;omega
 rw[Nz,Qb,Zj];have g0:Ah [l,m] (0:Int)=some l:=rfl;have g1:Ah [l,m] (1:Int)=some m:=rfl;have l2:Ac [l,m]=2:=rfl;have h3:Ou [l,m] []=some (l++m):=by
  rw[Ou,On,Ot,hF,Em,Gs,l2,Aa4 F5,g0,Aa,Ct F6,Aa,Arh,show Ae (0:Int) 1=1 by decide,
   Em,Gs,l2,Aa4 F5,g1,Aa,Ct,Aa,show Ae (1:Int) 1=2 by decide,Em,Gs,l2,Aa2 F5]
  rfl
 rw[hF,Ew,He,l2,Aa4 F5,g0,Aa,Ak Axz Axz,Aa2 Ayd,show Ae (0:Int) 1=1 by decide,
  Ew,He,l2,Aa4 F5,g1,Aa,Ak Axz Axz,Aa2 Axw,show Ae (1:Int) 1=2 by decide,
  Ew,He,l2,Aa2 F5,Xw,Ox,Aa2 Axw,Xz,Oo]
 have z:Al (0:Int) 0=0:=F5
 have n0:(0:Int)+Ac l+Ac m=((l.length+m.length:Nat):Int):=by simp[Ac]
 rw[z,n0,Cm,Int.sub_zero];by_cases hp:0<l.length+m.length
 ·rw[Aa4 Axn,show aK (0:Int) 0 0=some ()from rfl,Aa,G1,Aa,Ct F6,Aa];rw[show aK (Ac ([]++List.replicate ((l.length+m.length:Nat):Int).toNat (0:Int))) 0 0=some () by rw[aK,Dt];simp[Ac];omega,Aa];simp only[KY,Int.sub_self,Int.toNat_zero,Awr];exact h3
 ·rw[Aa2 Axn];exact h3
theorem Alk{r n:Nat}(h1:1<=r)(h:r<=1048576)(n1:1<=n)(n2:n<=4000)(hk:(n-1)/Bf r+1<=1000):TK (r:Int) (n:Int)=some (Ao (Bf r) n,0):=by
 have hp:=Xs r;have hl:=A6 h;have hd:=Avs (n-1) (Bf r);rw[TK,zR h1 h n1 n2,Aa2 F0,Aa];simp only;rw[Aa2 Axm,L9 h1 h,Aa];simp only;rw[Ao];generalize(n-1)/Bf r=k at*
 have e1:Al ((k+1:Nat):Int) 1=(k:Int):=by rw[Cm];omega
 have e2:(k:Int)*(Bf r:Int)=((k*Bf r:Nat):Int):=by simp
 rw[e1,Aho _ _ F0,Aa,Jj (by rw[e2];omega) (by rw[e2];omega),e2,Cm,RJ,Ag7 _ _ F6,Aa,Aa,show(n:Int)-((k*Bf r:Nat):Int)=((n-k*Bf r:Nat):Int) by omega]
def Kt(f c w r n:Nat):Bool:=decide ((f=1\/f=2)/\ (1<=c/\c<=6)/\ (w=8\/w=16\/w=24)/\ (1<=r/\r<=1048576)/\1<=n)
def RC(c r n:Nat):Bool:=decide (n<=4000/c/\ (n-1)/Bf r+1<=1000)
theorem eL(f c w r n:Nat):Px (f:Int) (c:Int) (w:Int) (r:Int) (n:Int)=some (Kt f c w r n):=by
 have e2:Rg (f:Int) (c:Int) (w:Int) (r:Int) (n:Int)=some (decide ((f=1\/f=2)/\ (1<=c/\c<=6)/\ (1<=r/\r<=1048576)/\1<=n)):=by
  rw[Rg,IH];congr 1;rw[Akf];simp only[Ba,Au,RW,Aa5,Ash,As1,Acr];omega
 have g:∀k:Nat,geq (w:Int) (k:Int)=decide (w=k):=λk=>by rw[Ba,Akf];simp;omega
 have g8:geq (w:Int) (8:Int)=decide (w=8):=g 8;have g16:geq (w:Int) (16:Int)=decide (w=16):=g 16;have g24:geq (w:Int) (24:Int)=decide (w=24):=g 24;rw[Px,IE,e2,g8,g16,g24,Kt];by_cases h8:w=8
 ·subst h8;simp
 ·by_cases h16:w=16
  ·subst h16;simp
  ·by_cases h24:w=24
   ·subst h24;simp
   ·simp[h8,h16,h24]
theorem nL(f c w r n:Nat):Jb (f:Int) (c:Int) (w:Int) (r:Int) (n:Int)=some (Kt f c w r n):=by
 rw[Jb,Kt];simp only[Ba,Ek,RW,Aa5,Ash,As1,Acr,Awq];split
 ·rename_i h;congr 1;rw[Akf];simp only[Aa5,Ash,As1,Acr];omega
 ·rename_i h;congr 1;symm;rw[Asl];omega
theorem Apt{c:Nat}(h:1<=c):Cq (4000:Int) (c:Int)=((4000/c:Nat):Int):=by
 have:4000/c<=4000:=Asm _ _;rw[ML,Aue F0,show(4000:Int)=((4000:Nat):Int)from rfl,<-Int.natCast_ediv];generalize 4000/c=k at*
 exact Cz F0 F0
theorem sO{f c w r n:Nat}(h:Kt f c w r n=true):LR (f:Int) (c:Int) (w:Int) (r:Int) (n:Int)=some (RC c r n):=by
 simp only[Kt,Acr]at h;have hd:4000/c<=4000:=Asm _ _;rw[LR,Dt Axp,Aa,Apt F0,RC];generalize 4000/c=m at*
 by_cases h1:n<=m
 ·rw[Aa2 Axn,zR F0 F0 F0 F0,Aa];generalize(n-1)/Bf r+1=k;by_cases h2:1000<k
  ·rw[Aa4 h2];simp[Ba,RW];omega
  ·rw[Aa2 h2];simp[Ba,RW,h1];omega
 ·rw[Aa4 Axn];simp[h1]
theorem I7{f c w r n:Nat}(h:Kt f c w r n=true):Vl (f:Int) (c:Int) (w:Int) (r:Int) (n:Int)=some (!RC c r n):=by
 simp only[Kt,Acr]at h;have hd:4000/c<=4000:=Asm _ _;rw[Vl,Dt Axp,Aa,Apt F0,RC];generalize 4000/c=m at*
 by_cases h1:n<=m
 ·rw[Aa2 Axn,C0 F0 F0 F0,Aa,Ac,uW];generalize(n-1)/Bf r+1=k;congr 1;rw[Au,Akf];simp only[Acr,Ap1,Asl];omega
 ·rw[Aa4 Axn];simp[h1]
def cF:LB:=[84,84,65,49]
def f0(b:LB):Nat:=Et (part b 4 2)
def f1(b:LB):Nat:=Et (part b 6 2)
def f2(b:LB):Nat:=Et (part b 8 2)
def f3(b:LB):Nat:=Et (part b 10 4)
def f4(b:LB):Nat:=Et (part b 14 4)
abbrev H6:=Int×Int×Int×Int×Int×Int
def Fc(b:LB):H6:=
 if b.take (min 4 b.length)≠cF.take (min 4 b.length)then(0,0,0,0,0,12)else if b.length<22 then(0,0,0,0,0,24)else
 if(Hl (b.take 18)).toNat≠Et (part b 18 4)then(0,0,0,0,0,22)else
 if Kt (f0 b) (f1 b) (f2 b) (f3 b) (f4 b)=false then(0,0,0,0,0,12)else
 if RC (f1 b) (f3 b) (f4 b)=false then(0,0,0,0,0,4)else((f0 b:Int),(f1 b:Int),(f2 b:Int),(f3 b:Int),(f4 b:Int),0)
section
variable {b:LB}
theorem rs1(h:b.take (min 4 b.length)≠cF.take (min 4 b.length)):Fc b=(0,0,0,0,0,12):=by rw[Fc,Aa4 h]
variable (h:b.take (min 4 b.length)=cF.take (min 4 b.length))
include h
theorem rs2(h2:b.length<22):Fc b=(0,0,0,0,0,24):=by rw[Fc,Aa2 (λe=>e h),Aa4 h2]
variable (h2:¬b.length<22)
include h2
theorem rs3(h3:(Hl (b.take 18)).toNat≠Et (part b 18 4)):Fc b=(0,0,0,0,0,22):=by rw[Fc,Aa2 (λe=>e h),Aa2 h2,Aa4 h3]
variable (h3:(Hl (b.take 18)).toNat=Et (part b 18 4))
include h3
theorem rs4(h4:Kt (f0 b) (f1 b) (f2 b) (f3 b) (f4 b)=false):Fc b=(0,0,0,0,0,12):=by rw[Fc,Aa2 (λe=>e h),Aa2 h2,Aa2 (λe=>e h3),Aa4 h4]
variable (h4:Kt (f0 b) (f1 b) (f2 b) (f3 b) (f4 b)=true)
include h4
theorem rs5(h5:RC (f1 b) (f3 b) (f4 b)=false):Fc b=(0,0,0,0,0,4):=by rw[Fc,Aa2 (λe=>e h),Aa2 h2,Aa2 (λe=>e h3),Aa2 (by rw[h4];simp),Aa4 h5]
theorem rs6(h5:RC (f1 b) (f3 b) (f4 b)=true):Fc b=((f0 b:Int),(f1 b:Int),(f2 b:Int),(f3 b:Int),(f4 b:Int),0):=by rw[Fc,Aa2 (λe=>e h),Aa2 h2,Aa2 (λe=>e h3),Aa2 (by rw[h4];simp),Aa2 (by rw[h5];simp)]
end
theorem Aic(b:LB)(h2:¬b.length<22):Bi (Ad (Hl (b.take 18)):UInt64) (lC (part b 18 4))=decide ((Hl (b.take 18)).toNat≠Et (part b 18 4)):=by
 rw[OV,Jg,Akf];simp only[Awn,ne_eq,Acr];rw[<-Awl,VD (by have:=(Hl (b.take 18)).toNat_lt;omega),VE Axt]
theorem eG(b:LB)(a w:Nat)(i q:Nat)(l:LI)(hi:i<5)(hl:l.length=5)(hw:Ah ([2,2,2,4,4]:LI) (i:Int)=some (w:Int))(h1:1<=w)(h4:w<=4)(ha:a+w<=b.length)(hb:b.length<4611686018427387904):
  Mz b (q+1) (a:Int) (i:Int) l=Mz b q ((a+w:Nat):Int) ((i+1:Nat):Int) (l.set i (Et (part b a w):Int)):=by
 rw[Mz,DO,Aa4 Axi,hw,Aa,N3 b a w h1 F0 ha hb,Aa];simp only;rw[Cu,Aa,Yp _ F0,Aa,JO (by rw[Ec ha];omega),Ak,Ak];rfl
theorem Ajo(b:LB)(h22:¬b.length<22)(hb:b.length<4611686018427387904):QY b 4 0 (List.replicate 5 0)=DN [(f0 b:Int),(f1 b:Int),(f2 b:Int),(f3 b:Int),(f4 b:Int)]:=by
 have hF:Ar=(Ar-6)+1+1+1+1+1+1:=by have:=As;omega
 rw[QY,hF,show(4:Int)=((4:Nat):Int)from rfl,show(0:Int)=((0:Nat):Int)from rfl];rw[eG b 4 2 0 _ _ F0 Axl rfl F0 F0 F0 hb,eG b 6 2 1 _ _ F0 Axl rfl F0 F0 F0 hb,eG b 8 2 2 _ _ F0 Axl rfl F0 F0 F0 hb,
  eG b 10 4 3 _ _ F0 Axl rfl F0 F0 F0 hb,eG b 14 4 4 _ _ F0 Axl rfl F0 F0 F0 hb,Mz,DO,Aa2 Axs]
 rfl
theorem Ava(b:LB):Ic [84,84,65,49] (b.take (min 4 b.length))=some (decide (b.take (min 4 b.length)=cF.take (min 4 b.length))):=by
 have hl:(b.take (min 4 b.length)).length=min 4 b.length:=by rw[Ah0];omega
 rw[Ic,Gl,Aa4 (by rw[Ek,Ac,Ac,hl];simp;omega),Ac,hl,Db F0 F6,Aa,Aa,Amc];congr 1;rw[Akf];rw[Acr,As1];exact eq_comm
theorem Ato(b:LB):Dx (4:Int) (Ac b)=((min 4 b.length:Nat):Int):=by rw[HZ,Ac];omega
theorem tF(b:LB)(hb:b.length<4611686018427387904):Pk b=some (Fc b):=by
 rw[Pk,RX,Ato,Db,Aa,Amc,Ava,Aa];by_cases h:b.take (min 4 b.length)=cF.take (min 4 b.length)
 ·rw[Aa2 (by simpa using h)];by_cases h2:b.length<22
  ·rw[Aa4 F2,rs2 h h2]
  ·have a1:YA b 18 4=some (lC (part b 18 4),0):=N3 b 18 4 F0 F0 F0 hb;rw[Aa2 F2,a1,Aa];simp only;rw[Db,Aa,show(18:Int).toNat=18 from rfl,Ab2 _ F6,Aa];simp only;rw[Aic b h2];by_cases h3:(Hl (b.take 18)).toNat=Et (part b 18 4)
   ·rw[Aa2 (by simpa using h3),Ajo b h2 hb,DN,gY];rw[show Ah [(f0 b:Int),(f1 b:Int),(f2 b:Int),(f3 b:Int),(f4 b:Int)] 0=some (f0 b:Int)from rfl,show Ah [(f0 b:Int),(f1 b:Int),(f2 b:Int),(f3 b:Int),(f4 b:Int)] 1=some (f1 b:Int)from rfl,show Ah [(f0 b:Int),(f1 b:Int),(f2 b:Int),(f3 b:Int),(f4 b:Int)] 2=some (f2 b:Int)from rfl,
     show Ah [(f0 b:Int),(f1 b:Int),(f2 b:Int),(f3 b:Int),(f4 b:Int)] 3=some (f3 b:Int)from rfl,show Ah [(f0 b:Int),(f1 b:Int),(f2 b:Int),(f3 b:Int),(f4 b:Int)] 4=some (f4 b:Int)from rfl]
    simp only[Aa,eL];cases h4:Kt (f0 b) (f1 b) (f2 b) (f3 b) (f4 b)with
    |false=>rw[rs4 h h2 h3 h4];rfl
    |true=>
     rw[sO h4,Aa2 Axl,Aa];cases h5:RC (f1 b) (f3 b) (f4 b)with
     |false=>rw[rs5 h h2 h3 h4 h5];rfl
     |true=>rw[rs6 h h2 h3 h4 h5];rfl
   ·rw[Aa4 (by simpa using h3),rs3 h h2 h3]
 ·rw[Aa4 (by simpa using h),rs1 h]
theorem yI(b:LB)(hb:b.length<4611686018427387904):Vi b=some (Fc b):=by
 rw[Vi,KD,Ato,Db,Aa,Amc,Db F0 F6,Aa,Amc];by_cases h:b.take (min 4 b.length)=cF.take (min 4 b.length)
 ·rw[Aa2 (by rw[h];simp[cF]),LG,KG];by_cases h2:b.length<22
  ·rw[Aa4 F2,rs2 h h2]
  ·have a1:Bk b 18 22=some (part b 18 4):=Pq 18 4;have c1:Bk b 4 6=some (part b 4 2):=Pq 4 2;have c2:Bk b 6 8=some (part b 6 2):=Pq 6 2;have c3:Bk b 8 10=some (part b 8 2):=Pq 8 2;have c4:Bk b 10 14=some (part b 10 4):=Pq 10 4;have c5:Bk b 14 18=some (part b 14 4):=Pq 14 4;have hs:Bi (lC (part b 18 4)) (Ad (Hl (b.take 18)):UInt64)=decide ((Hl (b.take 18)).toNat≠Et (part b 18 4)):=by
    rw[<-Aic b h2,OV,OV,Akf];simp only[Awn,ne_eq];exact not_congr eq_comm
   have lp:∀a w,a+w<=b.length->Du (part b a w)=some (lC (part b a w)):=λa w h=>yx _ (by rw[Ec h];omega);rw[Aa2 F2,a1,Aa,Db,Aa,show(18:Int).toNat=18 from rfl,lp _ _ F0,Aa,Aif _ F6,Aa,hs];by_cases h3:(Hl (b.take 18)).toNat=Et (part b 18 4)
   ·rw[Aa2 (by simpa using h3),LM,KP,c1,Aa,c2,Aa,c3,Aa,c4,Aa,c5,Aa,lp _ _ F0,Aa,lp _ _ F0,Aa,lp _ _ F0,Aa,lp _ _ F0,Aa,lp _ _ F0,Aa,
     LA,KO,JO Axt,JO Axt,JO Axt,JO Axt,JO Axt]
    rw[show Et (part b 4 2)=f0 b from rfl,show Et (part b 6 2)=f1 b from rfl,show Et (part b 8 2)=f2 b from rfl,show Et (part b 10 4)=f3 b from rfl,show Et (part b 14 4)=f4 b from rfl,nL,Aa];cases h4:Kt (f0 b) (f1 b) (f2 b) (f3 b) (f4 b)with
    |false=>rw[rs4 h h2 h3 h4];rfl
    |true=>
     rw[I7 h4,Aa2 Axl,Aa];cases h5:RC (f1 b) (f3 b) (f4 b)with
     |false=>rw[rs5 h h2 h3 h4 h5];rfl
     |true=>rw[rs6 h h2 h3 h4 h5];rfl
   ·rw[Aa4 (by simpa using h3),rs3 h h2 h3]
 ·rw[Aa4 (by simpa [cF]using h),rs1 h]
theorem za{b:LB}(h:(Fc b).2.2.2.2.2=0):Fc b=((f0 b:Int),(f1 b:Int),(f2 b:Int),(f3 b:Int),(f4 b:Int),0)/\22<=b.length/\Kt (f0 b) (f1 b) (f2 b) (f3 b) (f4 b)=true/\RC (f1 b) (f3 b) (f4 b)=true:=by
 unfold Fc at h⊢;split at h; · simp at h
 rename_i c1;rw[Aa2 c1];split at h; · simp at h
 rename_i c2;rw[Aa2 c2];split at h; · simp at h
 rename_i c3;rw[Aa2 c3];split at h; · simp at h
 rename_i c4;rw[Aa2 c4];split at h; · simp at h
 rename_i c5;rw[Aa2 c5];exact⟨rfl,F0,by simpa using c4,by simpa using c5⟩
theorem sw{f c w r n:Nat}(h:Kt f c w r n=true)(h2:RC c r n=true):Dz (f:Int) (c:Int) (w:Int) (r:Int) (n:Int)=some (Ao (Bf r) n,0):=by
 have hc:Rr (f:Int) (c:Int) (w:Int) (r:Int) (n:Int)=some 0:=by
  rw[Rr,eL,Aa,h,Aa2 Axl,sO h,Aa,h2];rfl
 have hd:4000/c<=4000:=Asm _ _;simp only[Kt,Acr]at h;simp only[RC,Acr]at h2;rw[Dz,hc,Aa,Aa2 Axm,Alk F0 F0 F0 F0 h2.2];rfl
def okL:LI->Int->Bool
 |[],_=>true
 |x::l,left=>decide (5<=x/\x<=left)&&okL l (left-x)
theorem Aqw:∀l:LI,(∀x∈l,5<=x)->0<=l.sum
 |[],_=>by simp
 |x::l,h=>by
  have h1:=h x Ave;have h2:=Aqw l λy hy=>h y (Asi _ hy);rw[Aup];omega
theorem PB:∀(l:LI) (left:Int),0<=left-> (okL l left=true↔(∀x∈l,5<=x)/\l.sum<=left)
 |[],left,h=>by simp[okL];exact h
 |x::l,left,h=>by
  rw[okL,Aa5,Acr,Aup];by_cases hx:5<=x/\x<=left
  ·rw[PB l (left-x) F0];constructor
   ·rintro⟨_,h1,h2⟩;exact⟨λy hy=>(List.mem_cons.1 hy).elim (λe=>e▸hx.1) (h1 y),F0⟩
   ·rintro⟨h1,h2⟩;exact⟨hx,λy hy=>h1 y (Asi _ hy),F0⟩
  ·constructor
   ·rintro⟨h1,_⟩;exact absurd h1 hx
   ·rintro⟨h1,h2⟩;have h3:=h1 x Ave;have:0<=l.sum:=Aqw l λy hy=>h1 y (Asi _ hy);omega
theorem G2(l:LI)(hl:l.length<=1000):∀(j i q:Nat) (left:Int),i+j=l.length->j<q->0<=left->left<=100000->Rc l q left (i:Int)=some (if okL (l.drop i) left=true then 0 else 8)
 |0,i,q+1,left,hi,_,_,_=>by
  rw[Rc,GB,Aa2 F2,show i=l.length by omega,Avo];rfl
 |j+1,i,q+1,left,hi,hq,h0,h1=>by
  have hlt:i<l.length:=F0
  rw[Rc,GB,Aa4 F2,Cu hlt,Aa,drop_cons hlt];by_cases h:5<=l[i]/\l[i]<=left
  ·rw[Aa2 Axr,Cm,Ak];have ih:=G2 l hl j (i+1) q (left-l[i]) F0 F0 F0 F0;rw[show((i:Int)+1)=((i+1:Nat):Int) by omega,ih];simp[okL,h]
  ·rw[Aa4 Axr];have:okL (l[i]::l.drop (i+1)) left=false:=by rw[okL,Aum h];rfl
   rw[this];rfl
def BB(l:LI):Bool:=decide (1<=l.length/\l.length<=1000)&&okL l 100000
theorem jf(l:LI)(hl:l.length<=1000):Pv l=some (if BB l=true then 0 else 8):=by
 rw[Pv,FE,BB];by_cases h:1<=l.length
 ·rw[Aa2 (by rw[Ba,Au,Ac];simp;constructor;(intro e;subst e;simp at h);omega),gA];have:=G2 l hl l.length 0 Ar 100000 F0 Axj F0 F0;rw[Aw4]at this;rw[Au0 (show 1<=l.length/\l.length<=1000 from⟨h,hl⟩),Avi];exact this
 ·have:l=[]:=by
   cases l with
   |nil=>rfl
   |cons _ _=>simp at h
  subst this;rfl
theorem Q2(l:LI)(hl:l.length<=1000):∀(j i q:Nat) (s:Int),i+j=l.length->j<q->0<=s->s<=100000*(i:Int)->Ka l q s (i:Int)=some (if(∀x∈l.drop i,5<=x/\x<=100000)/\s+(l.drop i).sum<=100000 then 0 else 8)
 |0,i,q+1,s,hi,_,_,_=>by
  rw[Ka,Uk,Aa2 F2,show i=l.length by omega,Avo,FC,FT];by_cases h:s<=100000
  ·rw[Aa2 Axn,Aa4 F6]
  ·rw[Aa4 Axn,Aa2 F6]
 |j+1,i,q+1,s,hi,hq,h0,h1=>by
  have hlt:i<l.length:=F0
  rw[Ka,Uk,Aa4 F2,Cu hlt,Aa,drop_cons hlt];by_cases h5:l[i]<5
  ·rw[Aa4 (by rw[Af];simpa using h5),Aa2 (λh=>by have:=(h.1 l[i] Ave).1;omega)]
  ·rw[Aa2 (by rw[Af];simpa using h5),Aa];by_cases h6:100000<l[i]
   ·rw[Aa4 (by rw[Au];simpa using h6),Aa2 (λh=>by have:=(h.1 l[i] Ave).2;omega)]
   ·rw[Aa2 (by rw[Au];simpa using h6),HF,HB,Cu hlt,Aa,Ak,Ak];have ih:=Q2 l hl j (i+1) q (s+l[i]) F0 F0 F0 F0;rw[show((i:Int)+1)=((i+1:Nat):Int) by omega,ih];have e:((∀x∈l.drop (i+1),5<=x/\x<=100000)/\s+l[i]+(l.drop (i+1)).sum<=100000)↔((∀x∈l[i]::l.drop (i+1),5<=x/\x<=100000)/\s+(l[i]::l.drop (i+1)).sum<=100000):=by
     rw[Aup,List.forall_mem_cons,Int.add_assoc];constructor
     ·rintro⟨a,b⟩;exact⟨⟨F0,a⟩,b⟩
     ·rintro⟨⟨_,a⟩,b⟩;exact⟨a,b⟩
    simp only[e]
theorem T4:∀{l:LI},(∀x∈l,5<=x)->∀x∈l,x<=l.sum
 |[],_,x,hx=>by simp at hx
 |y::l,h,x,hx=>by
  have h1:=h y Ave;have h2:=Aqw l λz hz=>h z (Asi _ hz);rw[Aup];rcases List.mem_cons.1 hx with rfl|hx
  ·omega
  ·have:=T4 (l:=l) (λz hz=>h z (Asi _ hz)) x hx;omega
theorem Aaj(l:LI)(hl:l.length<=1000):Hm l=some (if BB l=true then 0 else 8):=by
 rw[Hm,Tx,BB];by_cases h:1<=l.length
 ·have:=Q2 l hl l.length 0 Ar 0 F0 Axj F0 F0;rw[Aa2 (by rw[Af,Au,Ac];simp;omega),HN];refine Av6 this ?_;rw[Aw4,Au0 (show 1<=l.length/\l.length<=1000 from⟨h,hl⟩),Avi];have e:((∀x∈l,5<=x/\x<=100000)/\0+l.sum<=100000)↔okL l 100000=true:=by
   rw[PB l 100000 F0,Int.zero_add];constructor
   ·rintro⟨a,b⟩;exact⟨λx hx=>(a x hx).1,b⟩
   ·rintro⟨a,b⟩;exact⟨λx hx=>⟨a x hx,Int.le_trans (T4 a x hx) b⟩,b⟩
  simp only[e]
 ·have:l=[]:=by
   cases l with
   |nil=>rfl
   |cons _ _=>simp at h
  subst this;rfl
theorem eA(l:LI):Pv l=some (if BB l=true then 0 else 8):=by
 by_cases hl:l.length<=1000
 ·exact jf l hl
 ·rw[Pv,FE,Aa4 Axk,BB,Aum F0];rfl
theorem VR(l:LI):Hm l=some (if BB l=true then 0 else 8):=by
 by_cases hl:l.length<=1000
 ·exact Aaj l hl
 ·rw[Hm,Tx,Aa4 Axk,BB,Aum F0];rfl
theorem Acq(l:LI)(hl:l.length<=1000)(hx:∀x∈l,0<=x/\x<4294967296):Pv l=some (if BB l=true then 0 else 8):=eA l
theorem Af2(l:LI)(hl:l.length<=1000)(hx:∀x∈l,0<=x/\x<4294967296):Hm l=some (if BB l=true then 0 else 8):=VR l
def PH(b:LB)(n:Nat):LI:=(List.range n).map λi=>(Et (part b (4*i) 4):Int)
theorem KM(b:LB)(n:Nat):(PH b n).length=n:=by simp[PH]
theorem O1(b:LB)(n:Nat):PH b (n+1)=PH b n++[(Et (part b (4*n) 4):Int)]:=by simp[PH,List.range_succ]
theorem Ado(b:LB)(n:Nat)(h:4*n<=b.length):∀x∈PH b n,0<=x/\x<4294967296:=by
 intro x hx;simp only[PH,List.mem_map,List.mem_range]at hx;obtain⟨i,hi,rfl⟩:=hx;have:=Aew (l:=part b (4*i) 4) Axt;omega
def Jf(b:LB)(n:Nat):LI×Int:=
 if ¬(1<=n/\n<=1000)then([],2)else if b.length<4*n+4 then([],24)else if(Hl (b.take (4*n))).toNat≠Et (part b (4*n) 4)then([],22)else
 if BB (PH b n)=true then(PH b n,0)else([],12)
theorem Aeo{b:LB}{n:Nat}(h:1<=n/\n<=1000)(h2:¬b.length<4*n+4):Bi (Ad (Hl (b.take (4*n))):UInt64) (lC (part b (4*n) 4))=decide ((Hl (b.take (4*n))).toNat≠Et (part b (4*n) 4)):=by
 rw[OV,Jg,Akf];simp only[Awn,ne_eq,Acr];rw[<-Awl,VD (by have:=(Hl (b.take (4*n))).toNat_lt;omega),VE Axt]
section
variable {b:LB} {n:Nat}
theorem ss1(h:¬(1<=n/\n<=1000)):Jf b n=([],2):=by rw[Jf,Aa4 h]
variable (h:1<=n/\n<=1000)
include h
theorem ss2(h2:b.length<4*n+4):Jf b n=([],24):=by rw[Jf,Aa2 (λe=>e h),Aa4 h2]
variable (h2:¬b.length<4*n+4)
include h2
theorem ss3(h3:(Hl (b.take (4*n))).toNat≠Et (part b (4*n) 4)):Jf b n=([],22):=by rw[Jf,Aa2 (λe=>e h),Aa2 h2,Aa4 h3]
theorem ss4(h3:(Hl (b.take (4*n))).toNat=Et (part b (4*n) 4)):Jf b n=if BB (PH b n)=true then(PH b n,0)else([],12):=by rw[Jf,Aa2 (λe=>e h),Aa2 h2,Aa2 (λe=>e h3)]
end
theorem P7(b:LB)(l8:LI)(n:Nat)(hn:n<=1000)(h8:l8.length=n)(hb:4*n+4<=b.length)(hb2:b.length<4611686018427387904):∀(j i q:Nat),i+j=n->j<q->Tp b l8 q (i:Int) (PH b i++List.replicate j 0)=JD (PH b n)
 |0,i,q+1,hi,_=>by
  obtain rfl:i=n:=F0
  rw[Tp,JH,Aa2 F2];simp
 |j+1,i,q+1,hi,hq=>by
  have hlen:(PH b i++List.replicate (j+1) 0).length=i+(j+1):=by simp[KM]
  have ha:=N3 b (4*i) 4 F0 F0 F0 hb2;rw[Tp,JH,Aa4 F2,Jj,show(4:Int)*(i:Int)=((4*i:Nat):Int) by omega,show(4:Int)=((4:Nat):Int)from rfl,ha,Aa];simp only;rw[Cu (by rw[hlen];omega),Aa,Yp _ (by rw[hlen];omega),Aa,JO Axt,Ak,Auv,iO (KM _ _)];have ih:=P7 b l8 n hn h8 hb hb2 j (i+1) q F0 F0;rw[O1]at ih;rw[show((i:Int)+1)=((i+1:Nat):Int) by omega,<-ih];simp
theorem S9(b:LB)(n:Nat)(hb:b.length<=100100):RL b (n:Int)=some (Jf b n):=by
 rw[RL,WI];by_cases h:1<=n/\n<=1000
 ·rw[Aa2 Axr,Jj,Ak];by_cases h2:b.length<4*n+4
  ·rw[Aa4 F2,ss2 h h2]
  ·have ha:YA b (4*(n:Int)) 4=some (lC (part b (4*n) 4),0):=by
    rw[show(4:Int)*(n:Int)=((4*n:Nat):Int) by omega];exact N3 b (4*n) 4 F0 F0 F0 F0
   rw[Aa2 F2,ha,Aa];simp only;rw[Db,Aa,show(4*(n:Int)).toNat=4*n by omega,Ab2 _ F6,Aa];simp only;rw[Aeo h h2];by_cases h3:(Hl (b.take (4*n))).toNat=Et (part b (4*n) 4)
   ·have hlp:=P7 b (List.replicate n 0) n F0 Axl F0 F0 n 0 Ar F0 Axj;rw[Aa2 (by simpa using h3),G1,Aa,Dt Ax9,Aa,lE,Amc];refine Av6 (hlp) ?_;rw[JD,lX,Acq _ (by rw[KM];omega) (Ado b n F0),Aa,ss4 h h2 h3];cases BB (PH b n)<;>rfl
   ·rw[Aa4 (by simpa using h3),ss3 h h2 h3]
 ·rw[Aa4 Axr,ss1 h]
theorem lI(b:LB)(n:Nat)(hn:n<=1000)(hb:4*n+4<=b.length)(hb2:b.length<4611686018427387904):∀(j i q:Nat),i+j=n->j<q->Ku b (n:Int) q (i:Int) (PH b i)=Wi (PH b n)
 |0,i,q+1,hi,_=>by
  obtain rfl:i=n:=F0
  rw[Ku,Wb,Aa2 Axs]
 |j+1,i,q+1,hi,hq=>by
  have hc:Bk b ((4:Int)*(i:Int)) ((4:Int)*(i:Int)+4)=some (part b (4*i) 4):=by
   rw[show(4:Int)*(i:Int)=((4*i:Nat):Int) by omega];exact Pq (4*i) 4
  rw[Ku,Wb,Aa4 Axi,Jj,Ak,hc,Aa,yx _ Axt,Aa,Ct (by rw[KM];simp;omega),Aa,
   JO Axt,Ak,<-O1]
  exact lI b n hn hb hb2 j (i+1) q F0 F0
theorem Alc(b:LB)(n:Nat)(hb:b.length<=100100):FJ b (n:Int)=some (Jf b n):=by
 rw[FJ,JU];by_cases h:1<=n/\n<=1000
 ·rw[Aa2 Axr,Jj,Ak];by_cases h2:b.length<4*n+4
  ·rw[Aa4 F2,ss2 h h2]
  ·have hc:Bk b ((4:Int)*(n:Int)) ((4:Int)*(n:Int)+4)=some (part b (4*n) 4):=by
    rw[show(4:Int)*(n:Int)=((4*n:Nat):Int) by omega];exact Pq (4*n) 4
   have hs:Bi (lC (part b (4*n) 4)) (Ad (Hl (b.take (4*n))):UInt64)=decide ((Hl (b.take (4*n))).toNat≠Et (part b (4*n) 4)):=by
    rw[<-Aeo h h2,OV,OV,Akf];simp only[Awn,ne_eq];exact not_congr eq_comm
   rw[Aa2 F2,hc,Aa,Db,Aa,show(4*(n:Int)).toNat=4*n by omega,yx _ Axt,Aa,Aif _ F6,Aa,hs];by_cases h3:(Hl (b.take (4*n))).toNat=Et (part b (4*n) 4)
   ·have hlp:=lI b n F0 F0 F0 n 0 Ar F0 Axj;rw[Aa2 (by simpa using h3),KF,JT,LO];refine Av6 hlp ?_;rw[Wi,KV,Af2 _ (by rw[KM];omega) (Ado b n F0),Aa,ss4 h h2 h3];cases BB (PH b n)<;>rfl
   ·rw[Aa4 (by simpa using h3),ss3 h h2 h3]
 ·rw[Aa4 Axr,ss1 h]
theorem oz{b:LB}{n:Nat}(h:(Jf b n).2=0):Jf b n=(PH b n,0)/\1<=n/\n<=1000/\4*n+4<=b.length/\ (∀x∈PH b n,5<=x)/\ (PH b n).sum<=100000:=by
 unfold Jf at h⊢;split at h; · simp at h
 rename_i c1;rw[Aa2 c1];split at h; · simp at h
 rename_i c2;rw[Aa2 c2];split at h; · simp at h
 rename_i c3;rw[Aa2 c3];split at h
 ·rename_i c4;rw[Aa4 c4];have c4':=c4;rw[BB,Aa5,PB _ _ F0]at c4';exact⟨rfl,F0,F0,F0,c4'.2.1,c4'.2.2⟩
 ·simp at h
def Ui(b:LB):LB:=b.drop (Dk b).1.toNat
theorem Ac1(A K:Nat)(h:A<=200000)(hk:K<=1000):Ae (Ae (A:Int) (Ce 4 (K:Int))) 4=((A+4*K+4:Nat):Int):=by
 rw[Jj,Ak (a:=(A:Int)) F0 F0,Ak];omega
theorem Ahe(l:LI)(i:Nat):(l.take i).sum+(l.drop i).sum=l.sum:=by
 conv=>rhs;rw[<-Av3 i l,List.sum_append]
theorem lA{l:LI}{i:Nat}(h:i<l.length):(l.take (i+1)).sum=(l.take i).sum+l[i]:=by
 rw[PN h,List.sum_append];simp
theorem IA{g n:Nat}(hg:1<=g)(hn:1<=n){x:Int}(h:x∈Ao g n):∃m:Nat,x=m/\1<=m/\m<=n:=by
 have hmul:=Avs (n-1) g;rw[Ao,List.mem_append]at h;rcases h with h|h
 ·rw[List.mem_replicate]at h;have h1:1<= (n-1)/g:=Nat.pos_of_ne_zero h.1;have:=Adh g h1;exact⟨g,h.2,hg,F0⟩
 ·rw[List.mem_singleton]at h;exact⟨_,h,F0,F0⟩
theorem oJ{f c w r n:Nat}(h:Kt f c w r n=true):(1<=c/\c<=6)/\Dd (w:Int)/\ (1<=r/\r<=1048576)/\1<=n/\ (f=1\/f=2):=by
 simp only[Kt,Acr]at h;refine⟨h.2.1,?_,h.2.2.2.1,h.2.2.2.2,h.1⟩;rcases h.2.2.1 with rfl|rfl|rfl
 ·exact .inl rfl
 ·exact .inr (.inl rfl)
 ·exact .inr (.inr rfl)
theorem Axx{p:Prop}(h:p:=by rw[Ah0];omega):p:=h
end Go.Pl
namespace Go.Pl
open Go Go.Lv
theorem Aqf(n m:Nat):Oz n m 0≠Oz n m 2147483648:=by
 intro h;simp[Oz,GM,wZ]at h
def Cp(b:LB):LB:=b.drop (b.length-32)
theorem qo{b:LB}(h:32<=b.length):(Cp b).length=32:=by rw[Cp,Ah1];omega
def HM(t:LB):Nat:=Et (part t 12 4)-32
def zZ(t:LB):Nat:=Et (part t 16 4)
def Wh(b:LB):Int×Int:=
 if ¬(32<=b.length/\ (Cp b).take 8=wZ)then(0,6)else if CW (Cp b)=true then(0,12)else
 if Cp b=Oz (HM (Cp b)) (zZ (Cp b)) 0 then(if b.length<HM (Cp b)+32 then(0,24)else(((HM (Cp b)+32:Nat):Int),0))else
 if Cp b≠Oz (HM (Cp b)) (zZ (Cp b)) 2147483648 then(0,12)else
 if b.length<HM (Cp b)+64 then(0,24)else
 if(b.take (b.length-(HM (Cp b)+64)+32)).drop (b.length-(HM (Cp b)+64))≠Oz (HM (Cp b)) (zZ (Cp b)) 2684354560 then(0,12)else(((HM (Cp b)+64:Nat):Int),0)
section
variable {b:LB}
theorem ba1(h:¬(32<=b.length/\ (Cp b).take 8=wZ)):Wh b=(0,6):=by rw[Wh,Aa4 h]
variable (h:32<=b.length/\ (Cp b).take 8=wZ)
include h
theorem ba2(h2:CW (Cp b)=true):Wh b=(0,12):=by rw[Wh,Aa2 (λh'=>h' h),Aa4 h2]
variable (h2:CW (Cp b)=false)
include h2
theorem ba3(h3:Cp b=Oz (HM (Cp b)) (zZ (Cp b)) 0):Wh b=if b.length<HM (Cp b)+32 then(0,24)else(((HM (Cp b)+32:Nat):Int),0):=by
 rw[Wh,Aa2 (λh'=>h' h),Aa2 (by rw[h2];simp),Aa4 h3]
variable (h3:Cp b≠Oz (HM (Cp b)) (zZ (Cp b)) 0)
include h3
theorem ba4(h4:Cp b≠Oz (HM (Cp b)) (zZ (Cp b)) 2147483648):Wh b=(0,12):=by
 rw[Wh,Aa2 (λh'=>h' h),Aa2 (by rw[h2];simp),Aa2 h3,Aa4 h4]
variable (h4:Cp b=Oz (HM (Cp b)) (zZ (Cp b)) 2147483648)
include h4
theorem ba5(h5:b.length<HM (Cp b)+64):Wh b=(0,24):=by
 rw[Wh,Aa2 (λh'=>h' h),Aa2 (by rw[h2];simp),Aa2 h3,Aa2 (λe=>e h4),Aa4 h5]
theorem ba6(h5:¬b.length<HM (Cp b)+64):Wh b=if(b.take (b.length-(HM (Cp b)+64)+32)).drop (b.length-(HM (Cp b)+64))≠Oz (HM (Cp b)) (zZ (Cp b)) 2684354560 then(0,12)else(((HM (Cp b)+64:Nat):Int),0):=by
 rw[Wh,Aa2 (λh'=>h' h),Aa2 (by rw[h2];simp),Aa2 h3,Aa2 (λe=>e h4),Aa2 h5]
end
theorem qh{b:LB}{n:Int}(h:Wh b=(n,0)):32<=n/\n<=b.length:=by
 unfold Wh at h;split at h; · simp at h
 rename_i h32;split at h; · simp at h
 split at h
 ·split at h; · simp at h
  simp only[Aep,Axg]at h;omega
 split at h; · simp at h
 split at h; · simp at h
 split at h; · simp at h
 simp only[Aep,Axg]at h;omega
theorem Agb{b:LB}(h:(Wh b).2≠0):(Wh b).1=0:=by
 revert h
 unfold Wh;split; · simp
 split; · simp
 split
 ·split<;>simp
 split; · simp
 split; · simp
 split<;>simp
theorem Akn{b:LB}(h:32<=b.length)(hl:b.length<4611686018427387904):Al (Ac b) 32=((b.length-32:Nat):Int)/\Bk b ((b.length-32:Nat):Int) (Ac b)=some (Cp b):=by
 refine⟨by rw[Ac,Cm];omega,?_⟩;rw[Dm];rfl
theorem Ahx(b:LB)(hl:b.length<4611686018427387904):oW b=some (Wh b):=by
 rw[oW,vE];by_cases h32:32<=b.length
 ·obtain⟨e1,e2⟩:=Akn h32 hl;have hl3:=qo h32;rw[Aa2 (by rw[e1,Af];simp),e1,e2,Aa,aA,Aa];by_cases hp:(Cp b).take 8=wZ
  ·have h:=And.intro h32 hp;rw[Aa2 (by simpa [wZ,hl3]using hp),uB,vQ,e1,e2,Aa,aI _ 0 F0 F0 F5,Aa];cases hb:CW (Cp b)with
   |true=>
    rw[ba2 h hb];simp only[Axf,Ap6,Av4];rw[Aa,aI _ 2147483648 F0 F0 F5,Aa,hb];rfl
   |false=>
    obtain⟨i1,i2,i3,i4⟩:=sP (Cp b) F0 hb;have eI:Et (part (Cp b) 12 4)-32=HM (Cp b):=rfl;have eM:Et (part (Cp b) 16 4)=zZ (Cp b):=rfl;simp only[Ap6,Av4];rw[eI]at i3;rw[eM]at i4;rw[eI,eM];by_cases c1:Cp b=Oz (HM (Cp b)) (zZ (Cp b)) 0
    ·have c1':Cp b=Oz (HM (Cp b)) (zZ (Cp b)) (0:UInt64).toNat:=c1;rw[Aa4 (by simpa using c1'),ba3 h hb c1];by_cases c2:b.length<HM (Cp b)+32
     ·rw[Aa4 Axi,Aa4 c2]
     ·rw[Aa2 Axi,Aa2 c2,Ak];rfl
    ·have c1':¬Cp b=Oz (HM (Cp b)) (zZ (Cp b)) (0:UInt64).toNat:=c1;rw[Aa2 (by simpa using c1'),Aa,aI _ 2147483648 F0 F0 F5,Aa,hb];simp only[Ap6,Av4];rw[eI,eM];by_cases c2:Cp b=Oz (HM (Cp b)) (zZ (Cp b)) 2147483648
     ·have c2':Cp b=Oz (HM (Cp b)) (zZ (Cp b)) (2147483648:UInt64).toNat:=c2;rw[Aa2 (by simpa using c2'),Ak];by_cases c3:b.length<HM (Cp b)+64
      ·rw[Aa4 F2,ba5 h hb c1 c2 c3]
      ·rw[Aa2 F2,Ac,Cm,Ak,MJ,Aa,yJ _ _ _ i3 i4 F5,Aa,Ji,Aa,ba6 h hb c1 c2 c3];rw[show((b.length:Int)-(((HM (Cp b):Nat):Int)+64)).toNat=b.length-(HM (Cp b)+64) by omega,show((b.length:Int)-(((HM (Cp b):Nat):Int)+64)+32).toNat=b.length-(HM (Cp b)+64)+32 by omega];have e7:(2684354560:UInt64).toNat=2684354560:=rfl;rw[e7];by_cases c4:(b.take (b.length-(HM (Cp b)+64)+32)).drop (b.length-(HM (Cp b)+64))=Oz (HM (Cp b)) (zZ (Cp b)) 2684354560
       ·rw[Aa2 (by simpa using c4),Aa2 (λe=>e c4)];rfl
       ·rw[Aa4 (by simpa using c4),Aa4 c4]
     ·have c2':¬Cp b=Oz (HM (Cp b)) (zZ (Cp b)) (2147483648:UInt64).toNat:=c2;rw[Aa4 (by simpa using c2'),ba4 h hb c1 c2]
  ·rw[Aa4 (by rw[Ap1,Asl];intro h;exact hp h.2),ba1 (λh=>hp h.2)]
 ·rw[Aa4 (by rw[Ac,Cm,Af];simp;omega),ba1 (λh=>h32 h.1)]
theorem Aod{b:LB}(h:32<=b.length):(b.take (b.length-32+8)).drop (b.length-32)=(Cp b).take 8:=by
 rw[Cp,List.take_drop]
theorem Alp(b:LB)(hl:b.length<4611686018427387904):DV b=some (Wh b):=by
 rw[DV,JQ];by_cases h32:32<=b.length
 ·obtain⟨e1,e2⟩:=Akn h32 hl;have hl3:=qo h32;rw[Aa2 F2,e1,Ak,MJ,Aa,show((b.length-32:Nat):Int).toNat=b.length-32 from rfl,show(((b.length-32:Nat):Int)+8).toNat=b.length-32+8 by omega,Aod h32];by_cases hp:(Cp b).take 8=wZ
  ·have h:=And.intro h32 hp;rw[Aa2 (by simpa [wZ]using hp),LN,LJ,e1,e2,Aa,jq _ F0 F0,Aa];cases hb:CW (Cp b)with
   |true=>rw[ba2 h hb];rfl
   |false=>
    obtain⟨i1,i2,i3,i4⟩:=sP (Cp b) F0 hb;have eI:Et (part (Cp b) 12 4)-32=HM (Cp b):=rfl;have eM:Et (part (Cp b) 16 4)=zZ (Cp b):=rfl;simp only[Ap6,Av4,Awo];rw[eI]at i3;rw[eM]at i4;rw[eI,eM,Lk,Aa4 rfl,rF _ _ _ i3 i4 F5,Aa,Aa];have e7:(2147483648:UInt64).toNat=2147483648:=rfl;have e8:(2684354560:UInt64).toNat=2684354560:=rfl;rw[e7];by_cases c2:Cp b=Oz (HM (Cp b)) (zZ (Cp b)) 2147483648
    ·have c1:Cp b≠Oz (HM (Cp b)) (zZ (Cp b)) 0:=λe=>Aqf (HM (Cp b)) (zZ (Cp b)) (e.symm.trans c2);rw[Aa2 (by simpa using c2),Wj,Vw,Aa4 (by simpa using c2),Wv,Wy,Ak (a:=32) F0 F0,Ak];by_cases c3:b.length<HM (Cp b)+64
     ·rw[Aa4 F2,ba5 h hb c1 c2 c3]
     ·rw[Aa2 F2,Aa4 (by simpa using c2),Ac,Cm,Ak,MJ,Aa,Uz,rF _ _ _ i3 i4 F5,Aa,Aa,ba6 h hb c1 c2 c3,e8];rw[show((b.length:Int)-(32+((HM (Cp b):Nat):Int)+32)).toNat=b.length-(HM (Cp b)+64) by omega,show((b.length:Int)-(32+((HM (Cp b):Nat):Int)+32)+32).toNat=b.length-(HM (Cp b)+64)+32 by omega];by_cases c4:(b.take (b.length-(HM (Cp b)+64)+32)).drop (b.length-(HM (Cp b)+64))=Oz (HM (Cp b)) (zZ (Cp b)) 2684354560
      ·rw[Aa2 (by simpa using c4),Aa2 (λe=>e c4),show(32+((HM (Cp b):Nat):Int)+32)=((HM (Cp b)+64:Nat):Int) by omega]
      ·rw[Aa4 (by simpa using c4),Aa4 c4]
    ·rw[Aa4 (by simpa using c2),Lk,Aa2 Axl,rF _ _ _ i3 i4 F5,Aa,Aa];have e9:(0:UInt64).toNat=0:=rfl;rw[e9];by_cases c1:Cp b=Oz (HM (Cp b)) (zZ (Cp b)) 0
     ·rw[Aa2 (by simpa using c1),Wj,Vw,Aa2 (by simpa using c2),Wv,Wy,Ak,ba3 h hb c1,Aa2 (c:=(Cp b==Oz (HM (Cp b)) (zZ (Cp b)) 2147483648)=true) (by simpa using c2)];by_cases c3:b.length<HM (Cp b)+32
      ·rw[Aa4 F2,Aa4 c3]
      ·rw[Aa2 F2,Aa2 c3,show(32+((HM (Cp b):Nat):Int))=((HM (Cp b)+32:Nat):Int) by omega]
     ·rw[Aa4 (by simpa using c1),ba4 h hb c1 c2]
  ·rw[Aa4 (by simpa [wZ]using hp),ba1 (λh=>hp h.2)]
 ·rw[Aa4 F2,ba1 (λh=>h32 h.1)]
def Y4:Nat->LB->Nat->Int×Int
 |0,_,_=>(0,38)
 |j+1,b,a=>if b=[]then((a:Int),0)else if(Wh b).2≠0 then(0,38)else Y4 j (b.take (b.length-(Wh b).1.toNat)) (a+1)
theorem wu:∀(j q a:Nat) (b:LB),b.length<j->j<=q->b.length<=4000->a+b.length<=4000->Th q (a:Int) b=some (Y4 j b a)
 |0,_,_,_,h,_,_,_=>by omega
 |j+1,q+1,a,b,h,hq,h4,ha=>by
  rw[Th,NF,Y4];by_cases hb:b=[]
  ·subst hb;rw[Aa2 F5,Aa4 rfl];rfl
  ·have hpos:0<b.length:=List.length_pos_iff.2 hb;rw[Aa4 Axk,Aa2 hb,Ahx b F0,Aa];have hbad:=Agb (b:=b);have hok:=λn=>qh (b:=b) (n:=n);generalize Wh b=v at*
   obtain⟨n,e⟩:=v;simp only at hbad⊢;rw[IM,YL];by_cases he:e≠0
   ·rw[Aa4 he,hbad he,Aa4 F5]
   ·obtain⟨k1,k2⟩:=hok n (by rw[show e=0 by simpa using he]);rw[Aa2 he,Aa2 Axq,Ac,Cm,Db,Aa,YQ,YT,Ak];rw[show((b.length:Int)-n).toNat=b.length-n.toNat by omega];have ih:=wu j q (a+1) (b.take (b.length-n.toNat)) Axx F0 Axx Axx;rw[<-ih];rfl
theorem Ad8:∀(j q a:Nat) (b:LB),b.length<j->j<=q->b.length<=4000->a+b.length<=4000->Mm q b (a:Int)=some (Y4 j b a)
 |0,_,_,_,h,_,_,_=>by omega
 |j+1,q+1,a,b,h,hq,h4,ha=>by
  rw[Mm,GK,Y4];by_cases hb:b=[]
  ·subst hb;rw[Aa2 F5,Aa4 rfl];rfl
  ·have hpos:0<b.length:=List.length_pos_iff.2 hb;rw[Aa4 Axk,Aa2 hb,Alp b F0,Aa];have hok:=λn=>qh (b:=b) (n:=n);generalize Wh b=v at*
   obtain⟨n,e⟩:=v;simp only;by_cases he:e≠0
   ·rw[Aa4 he,Aa4 (by rw[Am];simpa using he)]
   ·obtain⟨k1,k2⟩:=hok n (by rw[show e=0 by simpa using he]);rw[Aa2 he,Aa2 (by rw[Am];simpa using he),Ac,Cm,Db,Aa,Ak];rw[show((b.length:Int)-n).toNat=b.length-n.toNat by omega];have ih:=Ad8 j q (a+1) (b.take (b.length-n.toNat)) Axx F0 Axx Axx;rw[<-ih];rfl
def UN(b:LB):Int×Int:=if 4000<b.length then(0,38)else Y4 (b.length+1) b 0
theorem qy(b:LB)(hl:b.length<4611686018427387904):OW b=some (UN b):=by
 rw[OW,MX,UN];by_cases h:4000<b.length
 ·rw[Aa4 Axk,Aa4 h]
 ·rw[Aa2 Axk,Aa2 h];exact wu _ Ar 0 b F0 Axj F0 F0
theorem Ac4(b:LB)(hl:b.length<4611686018427387904):Yk b=some (UN b):=by
 rw[Yk,DL,UN];by_cases h:4000<b.length
 ·rw[Aa4 Axk,Aa4 h]
 ·rw[Aa2 Axk,Aa2 h];exact Ad8 _ Ar 0 b F0 Axj F0 F0
theorem Ar1{a b:Nat}(h:a<9223372036854775808:=by omega):Cq (a:Int) (b:Int)=((a/b:Nat):Int):=by
 have:a/b<=a:=Asm _ _;rw[ML,Aue F0,<-Int.natCast_ediv];generalize a/b=k at*
 exact Cz F0 F0
theorem Aft{bits:Int}(h:Dd bits)(x:Int):(jR bits x).length=wB bits:=by
 obtain rfl|rfl|rfl:=h<;>rfl
theorem eJ{bits:Int}(h:Dd bits):∀l:LX,(Nv bits l).length=l.length*wB bits
 |[]=>by simp[Nv]
 |x::l=>by
  have h1:=eJ h l;have h2:=Aft h x.toInt;simp only[Nv,List.flatMap_cons,Aa7,Asj,Awa]at*
  omega
def At0(b:LB)(A:Nat)(l:LI)(k:Nat):LB:=(b.take ((A:Int)+(l.take (k+1)).sum).toNat).drop ((A:Int)+(l.take k).sum).toNat
structure Gts (b p:LB) (f c w r n A:Nat) (l:LI) (k m:Nat) (x:LX) (s:LB) (e:Int):Prop where
 mom:Ah (Ao (Bf r) n) (k:Int)=some (m:Int)
 pos:1<=m/\m*c<=4000
 got:sQ b p (f:Int) (c:Int) (w:Int) (r:Int) (n:Int) (A:Int) l (k:Int)=some (s,e)
 none':e≠0->s=[]/\x=[]
 some':e=0->s=Nv (w:Int) x/\x.length=m*c/\Bq (w:Int) x=some 0/\Rq (w:Int) x=some (s,0)/\ (A:Int)+(l.take (k+1)).sum<=b.length
 way:((b.length:Int)<(A:Int)+(l.take (k+1)).sum/\e=24)\/ ((A:Int)+(l.take (k+1)).sum<=b.length/\Qq (c:Int) (w:Int) (IW p) (m:Int) (At0 b A l k)=some (x,e)/\Fa (c:Int) (w:Int) (IW p) (m:Int) (At0 b A l k)=some (x,e))
theorem Gts.lens{b p:LB}{f c w r n A:Nat}{l:LI}{k m:Nat}{x:LX}{s:LB}{e:Int}(hw:Dd (w:Int))(g:Gts b p f c w r n A l k m x s e):s.length<=12000/\x.length<=4000/\ (e=0->s.length=m*c*wB (w:Int)):=by
 by_cases he:e=0
 ·obtain⟨h1,h2,_⟩:=g.some' he;have h3:=JC (w:Int) x;have h4:=eJ hw x;have h5:=g.pos;rw[<-h1]at h3 h4;refine⟨F0,F0,λ_=>by rw[h4,h2]⟩
 ·obtain⟨h1,h2⟩:=g.none' he;exact⟨by simp[h1],by simp[h2],λh=>absurd h he⟩
variable (b:LB)
end Go.Pl
namespace Go.Pl
open Go Go.Lv
variable{e bits:Int}
theorem Arn{c:Nat}{w:Nat}(hc:c<=6)(hw:Dd (w:Int)):Cq (Ce (c:Int) (w:Int)) 8=((c*wB (w:Int):Nat):Int):=by
 have h:w=8\/w=16\/w=24:=by unfold Dd at hw;omega
 have:c=0\/c=1\/c=2\/c=3\/c=4\/c=5\/c=6:=F0
 rcases h with rfl|rfl|rfl<;>rcases this with rfl|rfl|rfl|rfl|rfl|rfl|rfl<;>rfl
theorem Aqt{w:Nat}(hw:Dd (w:Int)):8*wB (w:Int)=w/\w<=24:=by
 have h:w=8\/w=16\/w=24:=by unfold Dd at hw;omega
 rcases h with rfl|rfl|rfl<;>exact⟨rfl,F0⟩
theorem Ar7{t c w:Nat}(ht:t<=4000)(hc:c<=6)(hw:Dd (w:Int)):Cq (Ce (Ce (t:Int) (c:Int)) (w:Int)) 8=((t*(c*wB (w:Int)):Nat):Int):=by
 obtain⟨h1,h2⟩:=Aqt hw;have e1:(t:Int)*(c:Int)=((t*c:Nat):Int):=by simp
 have b1:t*c<=4000*6:=Aun ht hc;have b2:t*c*w<=24000*24:=Aun b1 h2;rw[Jj (a:=(t:Int)) (by rw[e1];omega) (by rw[e1];omega),e1,Jj Ax0 Ax0,<-Auc,show(8:Int)=((8:Nat):Int)from rfl,Ar1];congr 1;generalize wB (w:Int)=W at*
 subst h1;rw[Nat.mul_left_comm,Nat.mul_div_cancel_left _ F0,Au5]
theorem qd{seg p:LB}(hs:seg.length=8)(hp:p.length<=64):FR seg p=some (seg==GM (BS p).toNat 8,0):=by
 rw[FR,Af3 p hp,Aa];simp only;rw[Aa2 (by rw[Am,Am,Ac,Ac,Pn,hs];simp),Ji,Aa]
def rO(b:LB):LI:=Ao (Bf (f3 (Ui b))) (f4 (Ui b))
theorem C2{c r n:Nat}(h:RC c r n=true):1<= (Ao (Bf r) n).length/\ (Ao (Bf r) n).length<=1000:=by
 simp only[RC,Acr]at h;rw[uW];exact⟨Nat.le_add_left _ _,h.2⟩
theorem Adq(g:Nat):∀K:Nat,(List.replicate K (g:Int)).sum=((K*g:Nat):Int)
 |0=>by simp
 |K+1=>by
  rw[Auv,Aup,Adq g K,Awa];omega
theorem fT{g n:Nat}(hn:1<=n):(Ao g n).sum=(n:Int):=by
 have h:=Avs (n-1) g;rw[Ao,List.sum_append,Adq];simp only[Aup,List.sum_nil];omega
theorem Acz:∀{l:LI},(∀x∈l,0<=x)->0<=l.sum
 |[],_=>by simp
 |x::l,h=>by
  have h1:=h x Ave;have h2:=Acz (l:=l) λy hy=>h y (Asi _ hy);rw[Aup];omega
theorem jA{l:LI}(h:∀x∈l,0<=x)(i:Nat):0<= (l.take i).sum/\ (l.take i).sum<=l.sum:=by
 have h1:=Acz (l:=l.take i) λx hx=>h x (List.mem_of_mem_take hx);have h2:=Acz (l:=l.drop i) λx hx=>h x (List.mem_of_mem_drop hx);have:=Ahe l i;omega
def CR(c w:Nat)(fr:LI)(k:Nat):Int:=(((fr.take k).sum.toNat*(c*wB (w:Int)):Nat):Int)
section
variable {f c w r n:Nat} (h1:Kt f c w r n=true) (h2:RC c r n=true)
include h1 h2
theorem RV:(∀x∈Ao (Bf r) n,0<=x)/\ (Ao (Bf r) n).sum=(n:Int)/\n<=4000:=by
 obtain⟨hc,hw,hr,hn,_⟩:=oJ h1;have hfit:n<=4000/c:=by simp only[RC,Acr]at h2;exact h2.1
 have hn4:n<=4000:=by have:=Asm 4000 c;omega
 refine⟨λx hx=>?_,fT hn,hn4⟩;obtain⟨m,rfl,_⟩:=IA (Xs r) hn hx;omega
end
theorem Ab7(C W:Nat)(fr:LI):CR C W fr 0=0:=by rw[CR,Awr,List.sum_nil];simp
theorem Ab5(C W:Nat){fr:LI}(hp:∀z∈fr,0<=z){A m:Nat}(hA:A<fr.length)(hm:fr[A]=(m:Int)):CR C W fr (A+1)=CR C W fr A+((m*C*wB (W:Int):Nat):Int):=by
 have hs:0<= (fr.take A).sum:=by
  have:∀l:LI,(∀z∈l,0<=z)->0<=l.sum:=by
   intro l
   induction l with
   |nil=>intro _;simp
   |cons a l ih=>intro h;rw[Aup];have:=h a Axl;have:=ih (λz hz=>h z (by simp[hz]));omega
  exact this _ λz hz=>hp z (List.mem_of_mem_take hz)
 have e:(fr.take (A+1)).sum=(fr.take A).sum+m:=by rw[PN hA,List.sum_append,Aup,List.sum_nil,hm];omega
 rw[CR,CR,e];have:((fr.take A).sum+(m:Int)).toNat=(fr.take A).sum.toNat+m:=F0
 rw[this,Arr,Au5 m];omega
def Auy(bits:Int)(ch:Nat)(t x:LX):LU:=evl bits ch t (mx ch x) x.length
def Ati(bits:Int)(ch:Nat)(t x:LX):LB:=Atp (At4 ch (Auy bits ch t x) x.length)
def oC(bits:Int)(ch:Nat)(t x:LX):LB:=Ati bits ch t x++GM (Hl (Ati bits ch t x)).toNat 4
theorem Ank{n:Nat}(h:n<2^64):(UInt64.ofNat n).toNat=n:=by rw[Ai5];exact Acm h
structure ClipOk (c w r n:Nat) (x:LX):Prop where
 ch:1<=c/\c<=6
 bits:Dd (w:Int)
 rate:1<=r/\r<=1048576
 cnt:1<=n/\n<=4000/c
 len:x.length=n*c
 fr:(n-1)/Bf r+1<=1000
 rng:inR (w:Int) x
theorem ClipOk.le{c w r n:Nat}{x:LX}(h:ClipOk c w r n x):n<=4000/\n*c<=4000/\1<=x.length/\x.length<=4000:=by
 have h1:=Adh c h.cnt.2;have h2:=Avs 4000 c;have h3:=Asm 4000 c;have h4:=Nat.mul_pos h.cnt.1 h.ch.1;have h5:=h.len;have:=h.cnt;omega
theorem ClipOk.w3{c w r n:Nat}{x:LX}(h:ClipOk c w r n x):w=8\/w=16\/w=24:=by
 have:=h.bits;unfold Dd at this;omega
theorem ClipOk.shape{c w r n:Nat}{x:LX}(h:ClipOk c w r n x)(f:Nat)(hf:f=1\/f=2):Kt f c w r n=true:=by
 have:=h.w3;have:=h.ch;have:=h.rate;have:=h.cnt;simp only[Kt,Acr];omega
theorem ClipOk.fit{c w r n:Nat}{x:LX}(h:ClipOk c w r n x):RC c r n=true:=by
 have:=h.cnt;have:=h.fr;simp only[RC,Acr];omega
def Aua(f c w r n:Nat):LB:=cF++GM f 2++GM c 2++GM w 2++GM r 4++GM n 4
def Au9(f c w r n:Nat):LB:=Aua f c w r n++GM (Hl (Aua f c w r n)).toNat 4
theorem Apv(b f g h k:Int)(m v w q:Nat)(a:LB)(hm:m<5)(hv:Ah ([b,f,g,h,k]:LI) (m:Int)=some (v:Int))(hw:Ah ([2,2,2,4,4]:LI) (m:Int)=some (w:Int))(h1:1<=w)(h8:w<=8)(hlt:v<256^w)(h64:v<18446744073709551616)(ha:a.length<=100):
  Pc b f g h k (q+1) (m:Int) a=Pc b f g h k q ((m+1:Nat):Int) (a++GM v w):=by
 have e64:(UInt64.ofNat v).toNat=v:=Ank F0;have hi1:Ae (m:Int) 1=((m+1:Nat):Int):=by rw[Ak];omega
 rw[Pc,ND,Aa4 Axi,hv,Aa,hw,Aa,Xt,E7 _ w h1 h8 (by rw[e64];exact hlt),Aa];simp only;rw[Ct (by rw[Pn];omega),Aa,hi1,e64]
def Asq(l:LI):LB:=l.flatMap λx=>GM x.toNat 4
def Au7(l:LI):LB:=Asq l++GM (Hl (Asq l)).toNat 4
def Ajs(c:Nat):LX->LI->List LX
 |_,[]=>[]
 |x,m::l=>x.take (m.toNat*c)::Ajs c (x.drop (m.toNat*c)) l
def G3(fs:List LB):LI:=fs.map λf=>(f.length:Int)
theorem zC(fs:List LB):(G3 fs).length=fs.length:=by rw[G3,List.length_map]
def As7(p:LB):Nat:=if p=[]then 1 else 2
def Au1(p:LB):LB:=if p=[]then []else GM (BS p).toNat 8
def Avc(c r n:Nat)(x:LX):List LX:=Ajs c x (Ao (Bf r) n)
def frs(c w r n:Nat)(x:LX)(p:LB):List LB:=(Avc c r n x).map (oC (w:Int) c (IW p))
section
variable {c w r n:Nat} {x:LX} (h:ClipOk c w r n x)
include h
theorem ClipOk.sum:(Ao (Bf r) n).sum=(n:Int):=fT h.cnt.1
omit h in
omit h in
omit h in
omit h in
end
structure FileOf (c w r n:Nat) (x:LX) (p:LB) (T:Nat) (fs:List LB) (z b:LB):Prop where
 clip:ClipOk c w r n x
 pass:p.length<=64
 front:Dk b=((T:Int),0)
 le:b.length<=100000
 lens:G3 fs=G3 (frs c w r n x p)
 form:b.drop T=Au9 (As7 p) c w r n++(Au1 p++(Au7 (G3 (frs c w r n x p))++(fs.flatten++z)))
section
variable {c w r n:Nat} {x:LX} {p:LB} {T:Nat} {fs:List LB} {z b:LB} (h:FileOf c w r n x p T fs z b)
include h
theorem FileOf.cnt:fs.length=(frs c w r n x p).length:=by
 have:=congrArg List.length h.lens;rw[zC,zC]at this;exact this
end
def Cd(e:Int):Prop:=e=0\/e=4\/e=12\/e=16\/e=22\/e=24\/e=26\/e=38
instance(e:Int):Decidable (Cd e):=by unfold Cd;infer_instance
theorem Cd.nn(h:Cd e):0<=e:=by unfold Cd at h;omega
theorem Aqe(p:LB)(N a k:Nat):Cd (TD p N a k).2.2:=by
 unfold TD
 repeat' split
 all_goals first|decide|exact .inl rfl
theorem Ar3(p:LB)(N a k l:Nat):Cd (ZS p N a k l).2.2:=by
 have h:=Aqe p N (a+1) l;unfold ZS
 repeat' split
 all_goals first|exact h|decide|exact .inl rfl
theorem Adu(ch:Nat)(p:LB)(N:Nat):∀(j a:Nat) (out:LU),Cd (Xr ch p N j a out).2.2
 |0,a,out=>by rw[Xr];exact .inl rfl
 |j+1,a,out=>by
  rw[Xr];split
  ·exact Ar3 ..
  ·exact Adu ch p N j _ _
theorem Ain(b:LB):Cd (Ux b):=by
 unfold Ux
 repeat' split
 all_goals first|decide|exact .inl rfl
theorem R5(a:LX)(b:Int):∀(q:Nat) (i e:Int),Bv a b q i=some e->Cd e
 |0,_,_,h=>by rw[Bv]at h;cases h
 |q+1,i,e,h=>by
  rw[Bv,Ff]at h;split at h
  ·cases hg:Ah a i with
   |none=>rw[hg]at h;cases h
   |some g=>
    rw[hg,Aa]at h;split at h
    ·cases h;decide
    ·rw[Aa]at h;split at h
     ·cases h;decide
     ·exact R5 a b q _ e h
  ·cases h;decide
theorem Abp{a:LX}(hb:Dd bits)(h:Bq bits a=some e):Cd e:=by
 rw[Bq,Jt]at h;rw[vA hb,Aa,Aa2 (by have:=mG bits;rw[Ba];simp;omega)]at h;split at h
 ·cases h;decide
 ·exact R5 a _ _ _ e h
theorem P8{ch n:Nat}{t:LX}{b:LB}(hb:Dd bits)(ht:t.length=16)(h1:1<=ch)(h6:ch<=6)(n1:1<=n)(n2:n<=4000/ch){l:LX}
  (h:Fa (ch:Int) bits t (n:Int) b=some (l,e)):Cd e:=by
 have hn:n*ch<=4000:=by
  have:=Adh ch n2;have h2:=Avs 4000 ch;omega
 have hq4:=Adi h1 h6;generalize 4000/ch=mm at*
 have hh:=mG bits;have Adg:Nu (ch:Int) bits (n:Int)=some 0:=by
  rw[Nu,BF,Aa2 Axr,vA hb,Aa,Aa2 Axq,Aa,Aa2 (by simp[Am,Af];omega),Dt Axp,Aa,hq4,Aa2 Axn]
 rw[Fa,Tg,Adg,Aa,Aa2 Axm,zA,Aa]at h;by_cases hs:Ux b≠0
 ·rw[Aa4 (by rw[Am];simpa using hs)]at h;simp only[Aa]at h;cases h;exact Ain b
 have hs0:Ux b=0:=by simpa using hs
 have hlen:=Aak hs0;have e4:Al (Ac b) 4=((b.length-4:Nat):Int):=by rw[Ac,Cm];omega
 rw[Aa2 (by rw[Am,hs0];simp),e4,Db,Aa,show((b.length-4:Nat):Int).toNat=b.length-4 from rfl]at h;have hpl:(b.take (b.length-4)).length=b.length-4:=by simp
 generalize b.take (b.length-4)=p at*
 have hr:=Aef (N:=8*p.length) (p:=p) rfl F0 h1 h6 hn;have hV:=Adu ch p (8*p.length) (n*ch) 0 [];have hat:=wU (ch:=ch) (p:=p) (N:=8*p.length) (n*ch) 0 [] F0;rw[hr,Aa]at h;generalize Xr ch p (8*p.length) (n*ch) 0 []=V at*
 obtain⟨v,at',er⟩:=V;simp only at*
 by_cases he:er≠0
 ·rw[Aa4 he]at h;simp only at h;rw[If,Iu,Aa4 (by rw[Am];simpa using he)]at h;cases h;exact hV
 have he0:er=0:=by simpa using he
 have hvl:=hat.2.2 he0;simp only[List.length_nil,Av9]at hvl;rw[Aa2 he]at h;simp only at h;rw[If,Iu]at h;split at h
 ·cases h;decide
 ·rw[Aa2 F5]at h;have hm:v.length %ch=0:=by rw[hvl];exact Awk n ch
  obtain⟨l',e',g1,g2,g3,g4,g5⟩:=pN (v:=v) hb ht h1 h6 F0 hm;rw[g1,Aa,g2,Aa]at h;have:=Abp hb g4;by_cases hl:e'≠0
  ·rw[Aa4 hl]at h;cases h;exact this
  ·rw[Aa2 hl]at h;cases h;decide
theorem N1{ch n:Nat}{t:LX}{b:LB}(hb:Dd bits)(ht:t.length=16)(h1:1<=ch)(h6:ch<=6)(n1:1<=n)(n2:n<=4000/ch){l:LX}
  (h:Fa (ch:Int) bits t (n:Int) b=some (l,e)):0<=e:=(P8 hb ht h1 h6 n1 n2 h).nn
def shI(f c w r n:Int):Bool:=decide ((f=1\/f=2)/\ (1<=c/\c<=6)/\ (w=8\/w=16\/w=24)/\ (1<=r/\r<=1048576)/\1<=n)
theorem Ak9(f c w r n:Int):Px f c w r n=some (shI f c w r n):=by
 have e2:Rg f c w r n=some (decide ((f=1\/f=2)/\ (1<=c/\c<=6)/\ (1<=r/\r<=1048576)/\1<=n)):=by
  rw[Rg,IH];congr 1;rw[Akf];simp only[Ba,Au,RW,Aa5,Ash,As1,Acr];omega
 have g:∀k:Int,geq w k=decide (w=k):=λk=>by rw[Ba,Akf];simp
 rw[Px,IE,e2,g,g,g,shI];by_cases h8:w=8
 ·subst h8;simp
 ·by_cases h16:w=16
  ·subst h16;simp
  ·by_cases h24:w=24
   ·subst h24;simp
   ·simp[h8,h16,h24]
theorem Aov(f c w r n:Int):Jb f c w r n=some (shI f c w r n):=by
 rw[Jb,shI];simp only[Ba,Ek,RW,Aa5,Ash,As1,Acr,Awq];split
 ·rename_i h;congr 1;rw[Akf];simp only[Aa5,Ash,As1,Acr];omega
 ·rename_i h;congr 1;symm;rw[Asl];omega
structure HdI (f c w r n:Int) (F C W R N:Nat):Prop where
 ef:f=F
 ec:c=C
 ew:w=W
 er:r=R
 en:n=N
 shape:Kt F C W R N=true
 fit:RC C R N=true
theorem Ahq(f c w r n:Int):(∃F C W R N:Nat,HdI f c w r n F C W R N)\/ (Kl f c w r n=some 8/\Dz f c w r n=some ([],8)):=by
 by_cases h:shI f c w r n=true
 ·have h':=h;simp only[shI,Acr]at h';obtain⟨F,rfl⟩:=Amd (show 0<=f by omega);obtain⟨C,rfl⟩:=Amd (show 0<=c by omega);obtain⟨W,rfl⟩:=Amd (show 0<=w by omega);obtain⟨R,rfl⟩:=Amd (show 0<=r by omega);obtain⟨N,rfl⟩:=Amd (show 0<=n by omega);have hs:Kt F C W R N=true:=by simp only[Kt,Acr];omega
  by_cases hf:RC C R N=true
  ·exact .inl ⟨F,C,W,R,N,rfl,rfl,rfl,rfl,rfl,hs,hf⟩
  ·have hf':RC C R N=false:=by simpa using hf
   refine .inr ⟨?_,?_⟩
   ·rw[Kl,nL,Aa,hs,Aa2 Axl,I7 hs,Aa,hf'];rfl
   ·rw[Dz,Rr,eL,Aa,hs,Aa2 Axl,sO hs,Aa,hf'];rfl
 ·have h':shI f c w r n=false:=by simpa using h
  refine .inr ⟨?_,?_⟩
  ·rw[Kl,Aov,Aa,h'];rfl
  ·rw[Dz,Rr,Ak9,Aa,h'];rfl
theorem HdI.check{f c w r n:Int}{F C W R N:Nat}(h:HdI f c w r n F C W R N):Kl f c w r n=some 0:=by
 obtain⟨rfl,rfl,rfl,rfl,rfl,hs,hf⟩:=h;rw[Kl,nL,Aa,hs,Aa2 Axl,I7 hs,Aa,hf];rfl
theorem HdI.rO{f c w r n:Int}{F C W R N:Nat}(h:HdI f c w r n F C W R N):Dz f c w r n=some (Ao (Bf R) N,0):=by
 obtain⟨rfl,rfl,rfl,rfl,rfl,hs,hf⟩:=h;exact sw hs hf
theorem HdI.num{f c w r n:Int}{F C W R N:Nat}(h:HdI f c w r n F C W R N):(F=1\/F=2)/\ (1<=C/\C<=6)/\ (W=8\/W=16\/W=24)/\ (1<=R/\R<=1048576)/\1<=N/\N<=4000/C/\N<=4000/\ (N-1)/Bf R+1<=1000:=by
 obtain⟨rfl,rfl,rfl,rfl,rfl,hs,hf⟩:=h;simp only[Kt,Acr]at hs;simp only[RC,Acr]at hf;have hd:4000/C<=4000:=Asm _ _;omega
theorem HdI.Ab6{f c w r n:Int}{F C W R N:Nat}(h:HdI f c w r n F C W R N):Gc f c w r n=some (Ao (Bf R) N):=by
 have hn:=h.num;obtain⟨rfl,rfl,rfl,rfl,rfl,hs,hf⟩:=h;rw[Gc,C0 F0 F0 F0];rfl
section
variable {f c w r n:Nat} (h1:Kt f c w r n=true) (h2:RC c r n=true)
include h1 h2
theorem N9(k:Nat)(hk:k<= (Ao (Bf r) n).length):∀(j i q:Nat),i+j=k->j<q->Kx (k:Int) (f:Int) (c:Int) (w:Int) (r:Int) (n:Int) (Ao (Bf r) n) q (((Ao (Bf r) n).take i).sum) (i:Int)=some (CR c w (Ao (Bf r) n) k)
 |0,i,q+1,hi,_=>by
  obtain⟨hc,hw,hr,hn,_⟩:=oJ h1;obtain⟨g1,g2,g3⟩:=RV h1 h2;have b:=jA g1 i;obtain rfl:i=k:=F0
  have hb:((Ao (Bf r) n).take i).sum.toNat*(c*wB (w:Int))<=4000*(6*3):=Aun F0 (Aun hc.2 (mg (w:Int)).2);rw[Kx,Vz,Aa2 Axs,JS,KW,Hp,Aa];simp only;rw[OE,Arn hc.2 hw,Aa,CR];have e:((Ao (Bf r) n).take i).sum=((((Ao (Bf r) n).take i).sum.toNat:Nat):Int):=F0
  rw[e,Jj Ax0 Ax0,<-Auc];rfl
 |j+1,i,q+1,hi,hq=>by
  obtain⟨g1,g2,g3⟩:=RV h1 h2;have hK:=C2 h2;have hlt:i<(Ao (Bf r) n).length:=F0
  have b1:=jA g1 i;have b2:=jA g1 (i+1);have e:=lA hlt;have ih:=N9 k hk j (i+1) q F0 F0;rw[e]at ih;rw[Kx,Vz,Aa4 Axi,Cu hlt,Aa,Aa,Ak,Ak];exact ih
theorem jy(k:Nat)(hk:k<= (Ao (Bf r) n).length):Vh (f:Int) (c:Int) (w:Int) (r:Int) (n:Int) (k:Int)=some (CR c w (Ao (Bf r) n) k):=by
 have hK:=C2 h2;obtain⟨g1,g2,g3⟩:=RV h1 h2;obtain⟨hc,hw,hr,hn,_⟩:=oJ h1;have h:=N9 h1 h2 k hk k 0 Ar F0 Axj;rw[Awr,List.sum_nil]at h;rw[Vh,KL,Gc,C0 hr.2 hn g3,Aa,Aa];exact h
theorem Abq{i:Nat}(hlt:i<(Ao (Bf r) n).length):Ae (CR c w (Ao (Bf r) n) i) (Cq (Ce (Ce ((Ao (Bf r) n)[i]) (c:Int)) (w:Int)) 8)=CR c w (Ao (Bf r) n) (i+1):=by
 obtain⟨hc,hw,hr,hn,_⟩:=oJ h1;obtain⟨g1,g2,g3⟩:=RV h1 h2;have b1:=jA g1 i;have b2:=jA g1 (i+1);have e:=lA hlt;have h0:=g1 _ (Asd hlt);have e2:(Ao (Bf r) n)[i]=(((Ao (Bf r) n)[i].toNat:Nat):Int):=F0
 have hb:((Ao (Bf r) n).take (i+1)).sum.toNat*(c*wB (w:Int))<=4000*(6*3):=Aun F0 (Aun hc.2 (mg (w:Int)).2);rw[e2,Ar7 F0 hc.2 hw,CR,CR];have e3:((Ao (Bf r) n).take (i+1)).sum.toNat=((Ao (Bf r) n).take i).sum.toNat+(Ao (Bf r) n)[i].toNat:=F0
 rw[e3,Arr]at hb⊢;rw[Ak];omega
theorem O4(a:Nat)(ha:a<= (Ao (Bf r) n).length)(o p:LB)(m:LI)(a':Int)(N:LB)(u:Bool)(v:Int):∀(j i q:Nat),i+j=a->j<q->
  Pb ((Ao (Bf r) n).take a) o p (f:Int) (c:Int) (w:Int) (r:Int) (n:Int) m a' N u v q (CR c w (Ao (Bf r) n) i) (i:Int)=some (pP (Ac N) (CR c w (Ao (Bf r) n) a))
 |0,i,q+1,hi,_=>by
  obtain rfl:i=a:=F0
  rw[Pb,Zy,Aa2 (by rw[Af,Ac,Ah0];simp;omega),MW,bQ]
 |j+1,i,q+1,hi,hq=>by
  have hK:=C2 h2;have hlt:i<(Ao (Bf r) n).length:=F0
  have hlt2:i<((Ao (Bf r) n).take a).length:=by rw[Ah0];omega
  have ih:=O4 a ha o p m a' N u v j (i+1) q F0 F0;rw[Pb,Zy,Aa4 F2,Cu hlt2,Aa,List.getElem_take,Abq h1 h2 hlt,Ak];exact ih
end
theorem Ax1{p:Prop}(h:p:=by simp[Am,Af,Au,Ac];omega):p:=h
end Go.Pl
namespace Go.Pl
open Go Go.Lv
theorem xA{α:Type}(l:List α):geq (Ac l) 0=decide (l=[]):=by
 cases l with
 |nil=>rfl
 |cons x l=>rw[Ba,Ac,Asj,Aum Axl,beq_eq_false_iff_ne];omega
theorem V1{α:Type}(l:List α):Dv (Ac l) 0=decide (l≠ []):=by
 cases l with
 |nil=>rfl
 |cons x l=>rw[Au,Ac,Asj,Au0 Axl];simp
inductive FitD (o:LB) (f c w r n:Int) (g:LI) (a:Int) (x:LB):Prop
 |new:f=0->c=0->w=0->r=0->n=0->g=[]->a=0->x=[]->FitD o f c w r n g a x
 |head (F C W R N:Nat):HdI f c w r n F C W R N-> (o==([]:LB))=decide (F=1)->g=[]->a=0->x=[]->FitD o f c w r n g a x
 |tab (F C W R N A:Nat):HdI f c w r n F C W R N-> (o==([]:LB))=decide (F=1)->BB g=true->g.length=(Ao (Bf R) N).length->a=A->A<=g.length->FitD o f c w r n g a x
theorem Acf(f c w r n:Int)(o:LB):Nh f c w r n o=Eb f c w r n o:=rfl
theorem Abc(o p:LB)(f c w r n:Int)(g:LI)(a:Int)(x:LB)(u:Bool)(v:Int):
  (Xe o p f c w r n g a x u v=some false/\Kj o p f c w r n g a x u v=some false)\/
  (Xe o p f c w r n g a x u v=some true/\Kj o p f c w r n g a x u v=Ch o p f c w r n g a x u v/\FitD o f c w r n g a x):=by
 rw[Xe,NB,Kj,Um];by_cases hz:f=0/\c=0/\w=0/\r=0/\n=0
 ·obtain⟨rfl,rfl,rfl,rfl,rfl⟩:=hz;rw[Aa4 F5,Aa4 F5,xA,xA,V1,V1];by_cases h:g=[]/\a=0/\x=[]
  ·obtain⟨rfl,rfl,rfl⟩:=h;exact .inr ⟨rfl,by rw[Aa2 F5], .new rfl rfl rfl rfl rfl rfl rfl rfl⟩
  ·refine .inl ⟨?_,?_⟩
   ·congr 1;rw[Bool.eq_false_iff];intro e;simp only[Aa5,Acr,Ba,As1]at e;exact h ⟨e.1.1,e.1.2,e.2⟩
   ·rw[Aa4];simp only[Ash,Acr,Am,Awn];by_cases e1:g=[]
    ·by_cases e2:a=0
     ·exact .inr λe3=>h ⟨e1,e2,e3⟩
     ·exact .inl (.inr e2)
    ·exact .inl (.inl e1)
 ·have hz2:¬(((geq f 0)&&((geq c 0)&&((geq w 0)&&((geq r 0)&&((geq n 0)&&true)))))=true):=by
   simp only[Aa5,Ba,As1,Axg];exact hz
  rw[Aa2 hz2,Aa2 hz2];rcases Ahq f c w r n with⟨F,C,W,R,N,h⟩|⟨e1,e2⟩
  ·rw[h.rO,h.check,Aa,Aa,Acf];simp only;rw[Aa2 F5,Aa2 F5,Eb];have hf:geq f 1=decide (F=1):=by rw[h.ef,Ba,Akf];simp;omega
   rw[hf];by_cases hp:(o==([]:LB))=decide (F=1)
   ·rw[Aa2 (by rw[hp];simp),Aa,Aa,Aa2 F5,Aa2 F5,cL,MV,Og,Od,xA,xA,V1];by_cases hg:g=[]
    ·subst hg;rw[Aa4 Axl,Aa4 Axl];by_cases h':a=0/\x=[]
     ·obtain⟨rfl,rfl⟩:=h';exact .inr ⟨rfl,by rw[Aa2 F5], .head F C W R N h hp rfl rfl rfl⟩
     ·refine .inl ⟨?_,?_⟩
      ·congr 1;rw[Bool.eq_false_iff];intro e;simp only[Aa5,Acr,Ba,As1]at e;exact h' e
      ·rw[Aa4];simp only[Ash,Acr,Am,Awn];by_cases e2:a=0
       ·exact .inr λe3=>h' ⟨e2,e3⟩
       ·exact .inl e2
    ·rw[Aa2 (by simpa using hg),Aa2 (by simpa using hg),eA,VR,Aa,Aa];by_cases ht:BB g=true
     ·rw[Aa4 ht,h.Ab6];simp only[Aa];by_cases hl:g.length=(Ao (Bf R) N).length/\0<=a/\a<=g.length
      ·obtain⟨hl,ha0,ha1⟩:=hl;obtain⟨A,rfl⟩:=Amd ha0;have hA:A<= (Ao (Bf R) N).length:=F0
       rw[Aa2 Ax1,Aa2 F5,Aa2 Ax1,Db,Aa,cN];have hh:=h;clear hf;obtain⟨rfl,rfl,rfl,rfl,rfl,hs,hf⟩:=hh;have hlp:=O4 hs hf A hA o p g (A:Int) x u v A 0 Ar F0 (by have:=As;have:=C2 hf;omega);have h0:CR C W (Ao (Bf R) N) 0=0:=by rw[CR,Awr,List.sum_nil];simp
       rw[h0,show((0:Nat):Int)=0 from rfl]at hlp;rw[show((A:Int)).toNat=A from rfl,hlp,jy hs hf A hA,Aa];by_cases hx:(x.length:Int)<=CR C W (Ao (Bf R) N) A
       ·refine .inr ⟨?_,?_, .tab F C W R N A h hp ht hl rfl F0⟩
        ·rw[RW,Ac,Au0 hx]
        ·rw[Aa2 Axk]
       ·refine .inl ⟨?_,?_⟩
        ·rw[RW,Ac,Aum hx]
        ·rw[Aa4 Axk]
      ·refine .inl ⟨?_,?_⟩
       ·rw[Aa4 Ax1]
       ·rw[Aa2 F5,Aa4 Ax1]
     ·refine .inl ⟨?_,?_⟩
      ·rw[Aa2 ht,Aa4 (by simp[Am])]
      ·rw[Aa2 ht,Aa4 F5,Aa4 Axl]
   ·rw[Aa4 (by simpa using hp),Aa,Aa,Aa4 F5,Aa4 F5];exact .inl ⟨rfl,rfl⟩
  ·rw[e1,e2,Aa,Aa];simp only;rw[Aa4 F5,Aa4 F5];exact .inl ⟨rfl,rfl⟩
theorem Ajy(b:LB)(n:Int):Cd (XF b n).2:=by
 unfold XF
 repeat' split
 all_goals first|decide|exact .inl rfl
theorem Aix(b:LB):(Xx b).2=6\/Cd (Xx b).2:=by
 unfold Xx vJ
 repeat' split
 all_goals first|exact .inl rfl|exact .inr (Ajy _ _)|exact .inr F5
theorem Afp(b:LB):(Jl b).2=6\/Cd (Jl b).2:=by
 unfold Jl
 repeat' split
 all_goals first|exact .inl rfl|exact .inr (.inl rfl)|exact .inr F5
theorem Akc(b:LB):(Cr b).2=6\/Cd (Cr b).2:=by
 unfold Cr;split
 ·exact Aix b
 ·exact Afp b
theorem M3(b:LB):∀(j p:Nat),p<=b.length->b.length<j+p->Cd (Cg b j p).2
 |0,p,h1,h2=>by omega
 |j+1,p,h1,h2=>by
  rw[Cg];split
  ·exact .inl rfl
  ·rename_i h6;split
   ·exact(Akc _).resolve_left h6
   ·rename_i h0;split
    ·exact(by decide:Cd 4)
    ·have hz:Cr (b.drop p)=((Cr (b.drop p)).1,0):=by rw[Prod.ext_iff];exact⟨rfl,by simpa using h0⟩
     obtain⟨k1,k2⟩:=gM hz;rw[Ah1]at k2;split
     ·exact .inl rfl
     ·exact M3 b j _ F0 F0
theorem sH(b:LB):Cd (Dk b).2:=by
 unfold Dk K2;split
 ·exact .inl rfl
 ·exact M3 b _ _ F0 F0
theorem N5(b:LB):0<= (Dk b).2:=(sH b).nn
theorem I1(b:LB):Cd (Fc b).2.2.2.2.2:=by
 unfold Fc
 repeat' split
 all_goals first|decide|exact .inl rfl
theorem zo(b:LB):0<= (Fc b).2.2.2.2.2:=(I1 b).nn
theorem Alx(b:LB){n:Nat}(h:1<=n/\n<=1000):Cd (Jf b n).2:=by
 unfold Jf;rw[Aa2 (λe=>e h)]
 repeat' split
 all_goals first|decide|exact .inl rfl
theorem Aaa(b:LB)(n:Nat):0<= (Jf b n).2:=by
 unfold Jf
 repeat' split
 all_goals simp
def J2:LB:=[73,68,51]
def J8:LB:=[65,80,69,84,65,71,69,88]
def Ro(b s:LB):Bool:=decide (b.length<s.length)&&(b==s.take b.length)
theorem S0(b s:LB):Qo b s=some (Ro b s):=by
 rw[Qo,Ro];by_cases h:b.length<s.length
 ·rw[Aa4 Axw,Ac,Db,Aa,Au0 h,Avi];rfl
 ·rw[Aa2 Axw,Aum h];rfl
theorem Akp(b s:LB)(h:b.length<s.length):Ic s b=some (Ro b s):=by
 rw[Ic,Gl,Aa4 Aya,Ac,Db,Aa,Aa,Ro,Au0 h,Avi,Amc];congr 1;rw[Akf,As1,As1];exact eq_comm
theorem iQ{b s:LB}(h:¬b.length<s.length):Ro b s=false:=by rw[Ro,Aum h];rfl
theorem Aj8(b:LB):Pw b=some (Ro b J2||Ro b J8):=by
 obtain⟨q,hq⟩:∃q,Ar=q+3:=⟨Ar-3,by have:=As;omega⟩;have l3:Je b (q+1) 2=some false:=by rw[Je,Tj,Aa2 F5];rfl
 have l2:Je b (q+2) 1=some (Ro b J8):=by
  rw[Je,Tj,Aa4 F5,show Ah ([([73,68,51]:LB),([65,80,69,84,65,71,69,88]:LB)]:List LB) 1=some J8 from rfl,Aa,show Ae (1:Int) 1=2 from rfl];by_cases h:b.length<J8.length
  ·rw[Aa4 Axw,Akp b J8 h,Aa];by_cases hb:Ro b J8=true
   ·rw[Aa4 hb,hb]
   ·rw[Aa2 hb,l3];simpa using hb
  ·rw[Aa2 Axw,l3,iQ h]
 rw[Pw,MZ,cB,hq,Je,Tj,Aa4 F5,show Ah ([([73,68,51]:LB),([65,80,69,84,65,71,69,88]:LB)]:List LB) 0=some J2 from rfl,Aa,show Ae (0:Int) 1=1 from rfl];by_cases h:b.length<J2.length
 ·rw[Aa4 Axw,Akp b J2 h,Aa];by_cases hb:Ro b J2=true
  ·rw[Aa4 hb,hb];rfl
  ·rw[Aa2 hb,l2,Bool.eq_false_iff.2 hb];rfl
 ·rw[Aa2 Axw,l2,iQ h];rfl
def ng(b:LB):Int×Int×Int×Int×Int×Int×Int:=
 if(Dk b).2=24 then(0,0,0,0,0,0, -1)else if(Dk b).2≠0 then(0,0,0,0,0,0,(Dk b).2)else
 if(Ro (Ui b) J2||Ro (Ui b) J8)=true then(0,0,0,0,0,0, -1)else
 if(Fc (Ui b)).2.2.2.2.2=24 then(0,0,0,0,0,0, -1)else((Dk b).1+22,(Fc (Ui b)).1,(Fc (Ui b)).2.1,(Fc (Ui b)).2.2.1,(Fc (Ui b)).2.2.2.1,(Fc (Ui b)).2.2.2.2.1,(Fc (Ui b)).2.2.2.2.2)
theorem AK(b:LB)(hb:b.length<=100000):Wm b=some (ng b):=by
 rw[Wm,BR,ZY b F0,Aa,ng];have hok:=PM (b:=b);simp only;by_cases h1:(Dk b).2=24
 ·rw[Aa4 (by rw[Ba];simpa using h1),Aa4 h1]
 rw[Aa2 (by rw[Ba];simpa using h1),Aa2 h1];by_cases h2:(Dk b).2≠0
 ·rw[Aa4 (by rw[Am];simpa using h2),Aa4 h2]
 have h0:(Dk b).2=0:=by simpa using h2
 obtain⟨k1,k2,k3⟩:=hok h0;rw[Aa2 (by rw[Am,h0];simp),Aa2 h2,Dm,Aa,S0,Aa,show b.drop (Dk b).1.toNat=Ui b from rfl,show([73,68,51]:LB)=J2 from rfl,show([65,80,69,84,65,71,69,88]:LB)=J8 from rfl];by_cases h3:Ro (Ui b) J2=true
 ·rw[Aa4 h3,h3,Bool.true_or,Aa4 rfl]
 rw[Aa2 h3,S0,Aa,Bool.eq_false_iff.2 h3,Bool.false_or];by_cases h4:Ro (Ui b) J8=true
 ·rw[Aa4 h4,Aa4 h4]
 have hl:(Ui b).length<=b.length:=by rw[Ui,Ah1];omega
 rw[Aa2 h4,Aa2 h4,BO,CB,yI _ F0,Aa];simp only;by_cases h5:(Fc (Ui b)).2.2.2.2.2=24
 ·rw[Aa4 (by rw[Ba];simpa using h5),Aa4 h5]
 ·rw[Aa2 (by rw[Ba];simpa using h5),Aa2 h5,Ak]
theorem Ax8{p:Prop}(h:p:=by rw[Aa7];omega):p:=h
end Go.Pl
namespace Go.Pl
open Go Go.Lv
variable{e:Int}{p q:LB}
theorem Lz{n:Nat}(h:n<=p.length):(p++q).take n=p.take n:=by rw[Awj h]
theorem oI{i:Nat}(h:i<p.length):(p++q).getD i 0=p.getD i 0:=by
 rw[List.getD_eq_getElem?_getD,List.getElem?_append_left h,<-List.getD_eq_getElem?_getD]
theorem Pu{a w:Nat}(h:a+w<=p.length:=by omega):part (p++q) a w=part p a w:=by rw[part,Lz h,part]
theorem Aim{s:LB}(h:Ro p s=false)(hl:p.length<s.length):(p++q).take s.length≠s:=by
 intro e;rw[Ro,Au0 hl,Avi]at h;have h1:p=s.take p.length:=by
  have:=congrArg (List.take p.length) e;rw[List.take_take,As8 F0,Lz (Apn _),Aw1]at this;exact this
 rw[<-h1]at h;simp at h
theorem M6(q:LB)(h:(Xx p).2≠24)(h6:Ro p J2=false):Xx (p++q)=Xx p:=by
 unfold Xx at h⊢;by_cases h3:3<=p.length/\p.take 3=[73,68,51]
 ·have h3':3<= (p++q).length/\ (p++q).take 3=[73,68,51]:=⟨by rw[Aa7];omega,by rw[Lz h3.1];exact h3.2⟩;have n1:¬ ¬(3<=p.length/\p.take 3=[73,68,51]):=λf=>f h3;have n2:¬ ¬(3<= (p++q).length/\ (p++q).take 3=[73,68,51]):=λf=>f h3';rw[Aa2 n1]at h;rw[Aa2 n1,Aa2 n2];by_cases h10:p.length<10
  ·rw[Aa4 h10]at h;exact absurd rfl h
  ·have h10':¬(p++q).length<10:=by rw[Aa7];omega
   rw[Aa2 h10]at h;rw[Aa2 h10,Aa2 h10',Pu,oI F0,oI F0,oI F0];split
   ·rfl
   ·rename_i hc;rw[Aa2 hc]at h;unfold vJ XF at h⊢;rw[oI F0];generalize(VU (part p 6 4) 0).1+10+(if p.getD 5 0=16 then 10 else 0)=n at h⊢;by_cases c1:4000<n
    ·rw[Aa4 c1,Aa4 c1]
    ·rw[Aa2 c1]at h;rw[Aa2 c1,Aa2 c1];by_cases c2:(p.length:Int)<n
     ·rw[Aa4 c2]at h;exact absurd rfl h
     ·have c2':¬((p++q).length:Int)<n:=by rw[Aa7];omega
      rw[Aa2 c2,Aa2 c2',Lz F0,Pu]
 ·rw[Aa4 h3,Aa4];rintro⟨_,h5⟩;by_cases hl:3<=p.length
  ·rw[Lz hl]at h5;exact h3 ⟨hl,h5⟩
  ·exact Aim h6 (by simp[J2];omega) h5
theorem Abu(q:LB)(h:(Jl p).2≠24)(h6:Ro p J8=false):Jl (p++q)=Jl p:=by
 unfold Jl at h⊢;by_cases h3:8<=p.length/\p.take 8=wZ
 ·have h3':8<= (p++q).length/\ (p++q).take 8=wZ:=⟨by rw[Aa7];omega,by rw[Lz h3.1];exact h3.2⟩;have n1:¬ ¬(8<=p.length/\p.take 8=wZ):=λf=>f h3;have n2:¬ ¬(8<= (p++q).length/\ (p++q).take 8=wZ):=λf=>f h3';rw[Aa2 n1]at h;rw[Aa2 n1,Aa2 n2];by_cases h10:p.length<32
  ·rw[Aa4 h10]at h;exact absurd rfl h
  ·have h10':¬(p++q).length<32:=by rw[Aa7];omega
   have eb:CW (p++q)=CW p:=by rw[CW,CW,Pu,Pu]
   rw[Aa2 h10]at h;rw[Aa2 h10,Aa2 h10',Pu,Pu,eb,Lz (n:=32) F0];split
   ·rfl
   ·rename_i hc;rw[Aa2 hc]at h;by_cases c2:p.length<Et (part p 12 4)+32
    ·rw[Aa4 c2]at h;exact absurd rfl h
    ·have c2':¬(p++q).length<Et (part p 12 4)+32:=by rw[Aa7];omega
     rw[Aa2 c2,Aa2 c2',Lz F0]
 ·rw[Aa4 h3,Aa4];rintro⟨_,h5⟩;by_cases hl:8<=p.length
  ·rw[Lz hl]at h5;exact h3 ⟨hl,h5⟩
  ·exact Aim h6 (by simp[J8];omega) h5
theorem rN(q:LB)(h:(Cr p).2≠24)(h6:(Cr p).2=6->Ro p J2=false/\Ro p J8=false):Cr (p++q)=Cr p:=by
 have Asf:∀s:LB,s.length<=p.length->Ro p s=false:=λs hs=>iQ F0;unfold Cr at h h6⊢;by_cases hT:(Xx p).2≠6
 ·rw[Aa4 hT]at h⊢;have h3:Ro p J2=false:=by
   refine Asf _ ?_;unfold Xx at hT;by_cases h3:3<=p.length/\p.take 3=[73,68,51]
   ·simp[J2];omega
   ·rw[Aa4 h3]at hT;exact absurd rfl hT
  rw[M6 q h h3,Aa4 hT]
 ·rw[Aa2 hT]at h h6⊢;have hb:Ro p J2=false/\Ro p J8=false:=by
   by_cases hA:(Jl p).2=6
   ·exact h6 hA
   ·unfold Jl at hA;by_cases h3:8<=p.length/\p.take 8=wZ
    ·exact⟨Asf _ (by simp[J2];omega),Asf _ (by simp[J8];omega)⟩
    ·rw[Aa4 h3]at hA;exact absurd rfl hA
  have hT':¬(Xx (p++q)).2≠6:=by
   rw[M6 q (by simp only[ne_eq,Classical.not_not]at hT;rw[hT];decide) hb.1];exact hT
  rw[Aa2 hT',Abu q h hb.2]
theorem yY{p:LB}(q:LB):∀(j s j':Nat),s<=p.length->p.length-s<j->p.length+q.length-s<j'-> (Cg p j s).2≠24->
  ((Cg p j s).2=0->Ro (p.drop (s+(Cg p j s).1.sum.toNat)) J2=false/\Ro (p.drop (s+(Cg p j s).1.sum.toNat)) J8=false)->Cg (p++q) j' s=Cg p j s
 |0,s,j',_,hj,_,_,_=>absurd hj (Nat.not_lt_zero _)
 |j+1,s,0,_,_,hj,_,_=>absurd hj (Nat.not_lt_zero _)
 |j+1,s,j'+1,hs,hj,hj',h,hb=>by
  have ed:(p++q).drop s=p.drop s++q:=Auq hs;rw[Cg]at h hb⊢;rw[Cg,ed];by_cases h6:(Cr (p.drop s)).2=6
  ·rw[Aa4 h6]at h hb⊢;have hb':=hb rfl;simp only[List.sum_nil,Int.toNat_zero,Awm]at hb';rw[rN q (by rw[h6];decide) (λ_=>hb'),Aa4 h6]
  ·rw[Aa2 h6]at h hb⊢;by_cases h0:(Cr (p.drop s)).2≠0
   ·rw[Aa4 h0]at h⊢;rw[rN q h (λe=>absurd e h6),Aa2 h6,Aa4 h0]
   ·rw[Aa2 h0]at h hb⊢;have h0':(Cr (p.drop s)).2=0:=by simpa using h0
    have e1:Cr (p.drop s++q)=Cr (p.drop s):=rN q (by rw[h0'];decide) (λe=>absurd e h6);rw[e1,Aa2 h6,Aa2 h0];have hok:=gM (b:=p.drop s) (n:=(Cr (p.drop s)).1) (by rw[<-h0']);rw[Ah1]at hok;by_cases hm:4000<(s:Int)+(Cr (p.drop s)).1
    ·rw[Aa4 hm,Aa4 hm]
    ·rw[Aa2 hm]at h hb⊢;rw[Aa2 hm];have hl1:s+(Cr (p.drop s)).1.toNat<=p.length:=F0
     have ih:=yY (p:=p) q j (s+(Cr (p.drop s)).1.toNat) j' hl1 F0 F0;by_cases hr:(Cg p j (s+(Cr (p.drop s)).1.toNat)).2=0
     ·rw[Aa4 hr]at hb⊢;have hle1:s+(Cr (p.drop s)).1.toNat<=p.length:=F0
      have hle2:s+(Cr (p.drop s)).1.toNat<=4000:=F0
      have hi:=(jJ p j (s+(Cr (p.drop s)).1.toNat) hle1 hle2 hr).1;have hsum:(0:Int)<= (Cg p j (s+(Cr (p.drop s)).1.toNat)).1.sum:=by
       have:∀l:LI,(∀x∈l,10<=x)->0<=l.sum:=by
        intro l
        induction l with
        |nil=>intro _;simp
        |cons a l ih=>intro h;rw[Aup];have:=h a Axl;have:=ih (λx hx=>h x (by simp[hx]));omega
       exact this _ hi
      rw[ih (by rw[hr];decide) (λ_=>by
       have:=hb rfl;simp only[Aup]at this;rw[show s+((Cr (p.drop s)).1+(Cg p j (s+(Cr (p.drop s)).1.toNat)).1.sum).toNat=s+(Cr (p.drop s)).1.toNat+(Cg p j (s+(Cr (p.drop s)).1.toNat)).1.sum.toNat by omega]at this;exact this),Aa4 hr]
     ·rw[Aa2 hr]at h⊢;rw[ih h (λe=>absurd e hr),Aa2 hr]
theorem xL(q:LB)(h:(Dk p).2≠24)(hb:(Dk p).2=0->Ro (Ui p) J2=false/\Ro (Ui p) J8=false):Dk (p++q)=Dk p:=by
 have key:Cg (p++q) ((p++q).length+1) 0=Cg p (p.length+1) 0:=by
  refine yY q (p.length+1) 0 ((p++q).length+1) (Nat.zero_le _) F0 Ax8 ?_ ?_
  ·unfold Dk K2 at h;by_cases h0:(Cg p (p.length+1) 0).2=0
   ·rw[h0];decide
   ·rw[Aa2 h0]at h;exact h
  ·intro h0;have e:Dk p=(((0:Nat):Int)+(Cg p (p.length+1) 0).1.sum,0):=by unfold Dk K2;rw[Aa4 h0]
   have:=hb (by rw[e]);rw[Ui,e]at this;simpa using this
 unfold Dk K2;rw[key]
theorem Aha(q:LB)(h:(Fc p).2.2.2.2.2≠24):Fc (p++q)=Fc p:=by
 unfold Fc at h⊢;by_cases h1:p.take (min 4 p.length)≠cF.take (min 4 p.length)
 ·have h1':(p++q).take (min 4 (p++q).length)≠cF.take (min 4 (p++q).length):=by
   intro e;have hle:min 4 p.length<=min 4 (p++q).length:=by rw[Aa7];omega
   have:=congrArg (List.take (min 4 p.length)) e;rw[List.take_take,List.take_take,As8 hle,Lz F0]at this;exact h1 this
  rw[Aa4 h1,Aa4 h1']
 ·rw[Aa2 h1]at h;by_cases h2:p.length<22
  ·rw[Aa4 h2]at h;exact absurd rfl h
  ·have h2':¬(p++q).length<22:=by rw[Aa7];omega
   have h1':¬(p++q).take (min 4 (p++q).length)≠cF.take (min 4 (p++q).length):=by
    rw[As8 F0]at h1⊢;rw[Lz F0];exact h1
   have e0:f0 (p++q)=f0 p:=by unfold f0;rw[Pu]
   have e1:f1 (p++q)=f1 p:=by unfold f1;rw[Pu]
   have e2:f2 (p++q)=f2 p:=by unfold f2;rw[Pu]
   have e3:f3 (p++q)=f3 p:=by unfold f3;rw[Pu]
   have e4:f4 (p++q)=f4 p:=by unfold f4;rw[Pu]
   rw[Aa2 h1,Aa2 h1',Aa2 h2,Aa2 h2',e0,e1,e2,e3,e4,Lz F0,Pu]
theorem Am3(q:LB)(h:(ng p).2.2.2.2.2.2≠ -1):ng (p++q)=ng p:=by
 unfold ng at h⊢;by_cases h1:(Dk p).2=24
 ·rw[Aa4 h1]at h;exact absurd rfl h
 rw[Aa2 h1]at h;by_cases h2:(Dk p).2≠0
 ·rw[xL q h1 (λe=>absurd e h2),Aa2 h1,Aa4 h2,Aa2 h1,Aa4 h2]
 rw[Aa2 h2]at h;have h0:(Dk p).2=0:=by simpa using h2
 by_cases h3:(Ro (Ui p) J2||Ro (Ui p) J8)=true
 ·rw[Aa4 h3]at h;exact absurd rfl h
 rw[Aa2 h3]at h;have h3f:Ro (Ui p) J2=false/\Ro (Ui p) J8=false:=by
  simp only[Bool.not_eq_true,Av8]at h3;exact h3
 have eF:=xL q h1 (λ_=>h3f);obtain⟨k1,k2,k3⟩:=PM h0;have eH:Ui (p++q)=Ui p++q:=by rw[Ui,eF,Ui,Auq F0]
 by_cases h5:(Fc (Ui p)).2.2.2.2.2=24
 ·rw[Aa4 h5]at h;exact absurd rfl h
 have eR:Fc (Ui p++q)=Fc (Ui p):=Aha q h5;have beg:∀s:LB,Ro (Ui p) s=false-> (s=J2\/s=J8)->Ro (Ui p++q) s=false:=by
  intro s hs hk;by_cases hl:(Ui p++q).length<s.length
  ·have hp:(Ui p).length<s.length:=by rw[Aa7]at hl;omega
   rw[Ro,Au0 hp,Avi]at hs;rw[Ro,Au0 hl,Avi];refine beq_eq_false_iff_ne.2 λe=>?_;have:=congrArg (List.take (Ui p).length) e;rw[Lz (Apn _),Aw1,List.take_take,As8 Ax8]at this;rw[<-this]at hs;simp at hs
  ·exact iQ hl
 rw[eF,eH,eR,Aa2 h1,Aa2 h2,beg _ h3f.1 (.inl rfl),beg _ h3f.2 (.inr rfl),Aa2 F5,Aa2 h5,Aa2 h1,Aa2 h2,Aa2 h3]
theorem Ag9(q:LB)(n:Nat)(h:(Jf p n).2≠24):Jf (p++q) n=Jf p n:=by
 unfold Jf at h⊢;by_cases h1:1<=n/\n<=1000
 ·have n1:¬ ¬(1<=n/\n<=1000):=λf=>f h1;rw[Aa2 n1]at h;rw[Aa2 n1,Aa2 n1];by_cases h2:p.length<4*n+4
  ·rw[Aa4 h2]at h;exact absurd rfl h
  ·have h2':¬(p++q).length<4*n+4:=by rw[Aa7];omega
   have et:PH (p++q) n=PH p n:=by
    unfold PH;refine Awy λi hi=>?_;rw[List.mem_range]at hi;rw[Pu]
   rw[Aa2 h2,Aa2 h2',Lz F0,Pu,et]
 ·rw[Aa4 h1,Aa4 h1]
def Abk(g a:LB)(k p o u v:Int)(f:LI)(b:Int)(h:LB)(m:Bool)(n:Int):Option Int:=
if(geq k 0)then
(Kz a).bind λ(al,ba)=>
if(geq ba 24)then
Eh true 0
else
if(Bi ba 0)then
(Aj ba).bind λ(bx,bz)=>
Eh bx bz
else
(Bk a al (Ac a)).bind λda=>
(Pw da).bind λan=>
if an then
Eh true 0
else
(Bk a al (Ac a)).bind λdb=>
(Pk db).bind λ(ae,af,aa,ag,ab,bb)=>
if(geq bb 24)then
Eh true 0
else
if(Bi bb 0)then
(Aj bb).bind λ(dc,dd)=>
Eh dc dd
else
(
(Bk a (Ae al 22) (Ac a)).bind λak=>
(
Uv g ak ae af aa ag ab b m n f h))
else
if(geq (Ac f) 0)then
if(geq k 2)then
if(Cj (Ac a) 8)then
Ik true 0
else
Ut g a k p o u v b m n f h
else
Iy g a k p o u v b m n f h 0
else
if(Cj b (Ac f))then
(Ah f b).bind λ_=>
(Ah f b).bind λw=>
if(Cj (Ac a) w)then
Fm true 0
else
(Tv g).bind λ(ap,am)=>
if(Bi am 0)then
(Aj am).bind λ(de,df)=>
Fm de df
else
(Dz k p o u v).bind λ(ad,dg)=>
if((Bi dg 0)||(Kq b (Ac ad)))then
(Aj 8).bind λ(dh,di)=>
Fm dh di
else
DG w g a k p o u v b m n ap ad f h
else
if(Dv (Ac a) 4000)then
(Aj 38).bind λ(dj,bf)=>
Bm ((dj==true)&&((geq bf 0)&&true))
else
Vf
theorem mO(d:Bool)(e:Int):Eh d e=Bm (d&&geq e 0):=by
 rw[Eh,SZ];cases d<;>simp
theorem I2(d:Bool)(e:Int):Ik d e=Bm (d&&geq e 0):=by
 rw[Ik,TR];cases d<;>simp
theorem Aci(d:Bool)(e:Int):Fm d e=Bm (d&&geq e 0):=by
 rw[Fm,TF];cases d<;>simp
theorem qz{o:LB}{f c w r n:Int}{g:LI}{a:Int}{x:LB}{u:Bool}{v:Int}{t1 t2:LB}{t3 t4 t5 t6 t7:Int}{t8:LI}{t9:Int}{t10:LB}{t11:Bool}{t12:Int}
  (h:Ag o p f c w r n g a x u v=some (t1,t2,t3,t4,t5,t6,t7,t8,t9,t10,t11,t12,e)):Ch o p f c w r n g a x u v=some (geq e (-1)):=by
 rw[Ch,Up,h,Aa]
theorem fU(h:0<=e):geq e (-1)=false:=by rw[Ba,beq_eq_false_iff_ne];omega
theorem Af0(o p:LB)(c w r n:Int)(g:LI)(a:Int)(x:LB)(u:Bool)(v:Int)(hp:p.length<=100000):
  ∃B:Bool,Abk o p 0 c w r n g a x u v=Bm B/\Ch o p 0 c w r n g a x u v=some B:=by
 have hT:Ag o p 0 c w r n g a x u v=Ag o p 0 c w r n g a x u v:=rfl
 conv at hT=>rhs;rw[Ag,Br,Aa4 F5,AK p hp,Aa,ng]
 have hfn:=N5 p;have hrn:=zo (Ui p);rw[Abk,Aa4 F5,QD p F0,Aa];have hok:=PM (b:=p);simp only at hT⊢;by_cases h1:(Dk p).2=24
 ·rw[Aa4 h1]at hT;simp only at hT;rw[Aa4 F5]at hT;rw[Aa4 (by rw[Ba];simpa using h1),mO];exact⟨_,rfl,qz hT⟩
 rw[Aa2 h1]at hT;rw[Aa2 (by rw[Ba];simpa using h1)];by_cases h2:(Dk p).2≠0
 ·rw[Aa4 h2]at hT;simp only at hT;rw[Aa4 (by rw[Am];simpa using h2)]at hT;rw[Aa4 (by rw[Am];simpa using h2),Aj,Aa];simp only;rw[mO];exact⟨_,rfl,(qz hT).trans (by rw[fU hfn];rfl)⟩
 have h0:(Dk p).2=0:=by simpa using h2
 obtain⟨k1,k2,k3⟩:=hok h0;have hl:(Ui p).length=p.length-(Dk p).1.toNat:=by rw[Ui,Ah1]
 rw[Aa2 h2]at hT;rw[Aa2 (by rw[Am,h0];simp),Dm,Aa,Aa,show p.drop (Dk p).1.toNat=Ui p from rfl,Aj8,Aa];by_cases h3:(Ro (Ui p) J2||Ro (Ui p) J8)=true
 ·rw[Aa4 h3]at hT⊢;simp only at hT;rw[Aa4 F5]at hT;rw[mO];exact⟨_,rfl,qz hT⟩
 rw[Aa2 h3]at hT⊢;rw[tF _ F0,Aa];by_cases h5:(Fc (Ui p)).2.2.2.2.2=24
 ·rw[Aa4 h5]at hT;simp only at hT;rw[Aa4 F5]at hT;rw[Aa4 (by rw[Ba];simpa using h5),mO];exact⟨_,rfl,qz hT⟩
 rw[Aa2 h5]at hT;rw[Aa2 (by rw[Ba];simpa using h5)];simp only at hT;by_cases h6:(Fc (Ui p)).2.2.2.2.2≠0
 ·rw[Aa4 (by rw[Am];simpa using h6)]at hT⊢;rw[Aj,Aa];simp only;rw[mO];exact⟨_,rfl,(qz hT).trans (by rw[fU hrn];rfl)⟩
 have h7:(Fc (Ui p)).2.2.2.2.2=0:=by simpa using h6
 have h22:=(za h7).2.1;rw[Aa2 (by rw[Am,h7];simp),Dm,Aa,Ga,Fz,Eb]at hT;rw[Aa2 (by rw[Am,h7];simp),Ak,Dm,Aa,Uv,VB,Nh];simp only;by_cases h8:((o==([]:LB)) !=geq (Fc (Ui p)).1 1)=true
 ·rw[Aa4 h8]at hT⊢;rw[Aa]at hT⊢;rw[Aj,Aa];simp only;rw[mO];exact⟨_,rfl,qz hT⟩
 ·rw[Aa2 h8]at hT⊢;rw[Aa]at hT⊢;rw[Aj,Aa];simp only;rw[mO];exact⟨_,rfl,qz hT⟩
theorem Axv{p:Prop}(h:p:=by rw[Ah1];omega):p:=h
end Go.Pl
namespace Go.Pl
open Go Go.Lv
section
variable {f c w r n:Int} {F C W R N:Nat} (hd:HdI f c w r n F C W R N)
include hd
theorem HdI.ne0:¬(geq f 0=true):=by
 have:=hd.num;rw[Ba,As1,hd.ef];omega
theorem zP(o p:LB)(hp:p.length<=100000)(A:Nat)(hA:A<=p.length)(a:Int)(x:LB)(u:Bool)(v:Int):
  (Iy o p f c w r n a u v [] x (A:Int)=Bm (decide ((Jf (p.drop A) (Ao (Bf R) N).length).2=24)))/\
  Dw p f c w r n (A:Int)=some (if(Jf (p.drop A) (Ao (Bf R) N).length).2=24 then(0,[], -1)else((A:Int)+(4*((Jf (p.drop A) (Ao (Bf R) N).length).1.length:Int)+4),(Jf (p.drop A) (Ao (Bf R) N).length).1,(Jf (p.drop A) (Ao (Bf R) N).length).2))/\
  ((Jf (p.drop A) (Ao (Bf R) N).length).2=0-> (A:Int)+(4*((Jf (p.drop A) (Ao (Bf R) N).length).1.length:Int)+4)<=p.length):=by
 have hs:=S9 (p.drop A) (Ao (Bf R) N).length Axv;have hr:=Alc (p.drop A) (Ao (Bf R) N).length Axv;have hok:=oz (b:=p.drop A) (n:=(Ao (Bf R) N).length);have hlen:(Jf (p.drop A) (Ao (Bf R) N).length).1.length<=1000:=by
  unfold Jf
  repeat' split
  all_goals simp[KM]
  all_goals omega
 have hfit:(Jf (p.drop A) (Ao (Bf R) N).length).2=0-> (A:Int)+(4*((Jf (p.drop A) (Ao (Bf R) N).length).1.length:Int)+4)<=p.length:=by
  intro h0;obtain⟨k1,k2,k3,k4,_⟩:=hok h0;rw[k1];simp only[KM];rw[Ah1]at k4;omega
 refine⟨?_,?_,hfit⟩
 ·rw[Iy,TG,hd.rO,Aa];simp only;rw[Aa2 F5,Dm,Aa,Amc,Ac,hs,Aa];generalize Jf (p.drop A) (Ao (Bf R) N).length=z at*
  obtain⟨z1,z2⟩:=z;simp only at*
  by_cases h1:z2=24
  ·rw[Aa4 (by rw[Ba];simpa using h1),I2,Au0 h1];rfl
  rw[Aa2 (by rw[Ba];simpa using h1),Aum h1];by_cases h2:z2≠0
  ·rw[Aa4 (by rw[Am];simpa using h2),Aj,Aa];simp only;rw[I2];rfl
  ·have h0:z2=0:=by simpa using h2
   have:=hfit h0;rw[Aa2 (by rw[Am,h0];simp),Ac,Ac1 A z1.length F0 F0,Dm,Aa,I2];rfl
 ·rw[Dw,GF,Dm,Aa,hd.Ab6,Aa,Ac,Amc,hr,Aa];generalize Jf (p.drop A) (Ao (Bf R) N).length=z at*
  obtain⟨z1,z2⟩:=z;simp only at*
  rw[FA,FU];by_cases h1:z2=24
  ·rw[Aa4 (by rw[Ba];simpa using h1),Aa4 h1]
  ·rw[Aa2 (by rw[Ba];simpa using h1),Aa2 h1,Ac,Ac1 A z1.length F0 F0];congr 2
theorem Ami(o p:LB)(ho:o.length<=64)(hp:p.length<=100000)(a:Int)(x:LB)(u:Bool)(v:Int):
  ∃B:Bool,Abk o p f c w r n [] a x u v=Bm B/\Ch o p f c w r n [] a x u v=some B:=by
 have hT:Ag o p f c w r n [] a x u v=Ag o p f c w r n [] a x u v:=rfl
 conv at hT=>rhs;rw[Ag,Br,Aa2 hd.ne0,Bt,Bc,Aa4 F5,Fb,It]
 rw[Abk,Aa2 hd.ne0,Aa4 F5];have fin:∀A:Nat,A<=p.length->Ag o p f c w r n [] a x u v=(Dw p f c w r n (A:Int)).bind (λ(ag,ak,w1)=>
   if(Bi w1 0)then some (o,p,f,c,w,r,n,[],a,x,u,v,w1)else(Bk p ag (Ac p)).bind λal=>some (o,al,f,c,w,r,n,ak,a,x,u,v,0))->
   ∃B:Bool,Iy o p f c w r n a u v [] x (A:Int)=Bm B/\Ch o p f c w r n [] a x u v=some B:=by
  intro A hA hT;obtain⟨t1,t2,t3⟩:=zP hd o p hp A hA a x u v;have hnn:=Aaa (p.drop A) (Ao (Bf R) N).length;rw[t2,Aa]at hT;rw[t1];generalize Jf (p.drop A) (Ao (Bf R) N).length=z at*
  obtain⟨z1,z2⟩:=z;simp only at*
  by_cases h1:z2=24
  ·rw[Aa4 h1]at hT;simp only at hT;rw[Aa4 F5]at hT;exact⟨_,rfl,(qz hT).trans (by rw[Au0 h1];rfl)⟩
  rw[Aa2 h1]at hT;simp only at hT;by_cases h2:z2≠0
  ·rw[Aa4 (by rw[Am];simpa using h2)]at hT;exact⟨_,rfl,(qz hT).trans (by rw[Aum h1,fU hnn])⟩
  ·have h0:z2=0:=by simpa using h2
   have:=t3 h0;rw[Aa2 (by rw[Am,h0];simp),Dm,Aa]at hT;exact⟨_,rfl,(qz hT).trans (by rw[Aum h1];rfl)⟩
 by_cases h2:geq f 2=true
 ·rw[Aa4 h2]at hT⊢;by_cases h8:p.length<8
  ·rw[Aa4 F2]at hT⊢;rw[Aa]at hT;simp only at hT;rw[Aa4 F5]at hT;rw[I2];exact⟨_,rfl,qz hT⟩
  ·rw[Aa2 F2]at hT⊢;have h8':(p.take 8).length=8:=by rw[Ah0];omega
   rw[Db,Aa,M0 o ho,Aa]at hT;rw[Ut,UU,Db,Aa,show(8:Int).toNat=8 from rfl,qd h8' ho,Aa];rw[show(8:Int).toNat=8 from rfl]at hT;simp only;rw[UO,TL,Aa2 F5];by_cases he:(p.take 8==GM (BS o).toNat 8)=true
   ·rw[Aa2 (by rw[bne,he];decide)]at hT;rw[Aa2 (by rw[he];decide)];exact fin 8 F0 hT
   ·have he':(p.take 8==GM (BS o).toNat 8)=false:=by simpa using he
    rw[Aa4 (by rw[bne,he'];decide),Aa]at hT;simp only at hT;rw[Aa4 F5]at hT;rw[Aa4 (by rw[he'];decide),Aj,Aa];simp only;rw[I2];exact⟨_,rfl,qz hT⟩
 ·rw[Aa2 h2]at hT⊢;exact fin 0 F0 hT
end
theorem Ahl{f c w r n:Int}{F C W R N:Nat}(hd:HdI f c w r n F C W R N)(o p:LB)(ho:o.length<=64)(hp:p.length<=100000)(g:LI)(hg:BB g=true)(hl:g.length=(Ao (Bf R) N).length)(A:Nat)(hA:A<=g.length)(x:LB)(hx:x.length<=14000000)(u:Bool)(v:Int):
  ∃B:Bool,Abk o p f c w r n g (A:Int) x u v=Bm B/\Ch o p f c w r n g (A:Int) x u v=some B:=by
 have hc:=hd.ec;subst hc;have hg':=hg;rw[BB,Aa5,Acr,PB g 100000 F0]at hg';obtain⟨⟨g1,g2⟩,g5,g6⟩:=hg';have hT:Ag o p f (C:Int) w r n g (A:Int) x u v=Ag o p f (C:Int) w r n g (A:Int) x u v:=rfl
 conv at hT=>rhs;rw[Ag,Br,Aa2 hd.ne0,Bt,Bc,Aa2 (by rw[Ba,Ac];simp;intro e;subst e;simp at g1)]
 rw[Abk,Aa2 hd.ne0,Aa2 (by rw[Ba,Ac];simp;intro e;subst e;simp at g1)];by_cases hA2:A=g.length
 ·subst hA2;rw[Aa4 (by rw[Ba,Ac];simp)]at hT;rw[Aa2 Ayd];by_cases h4:4000<p.length
  ·rw[Aa4 Axk]at hT⊢;rw[Aj,Aa];simp only;exact⟨_,rfl,qz hT⟩
  ·rw[Aa2 Axk]at hT⊢;rw[Vf,UJ];exact⟨_,rfl,qz hT⟩
 ·have hlt:A<g.length:=F0
  have h5:=g5 g[A] (Asd hlt);have hsum:=T4 g5 g[A] (Asd hlt);rw[Aa2 (by rw[Ba,Ac];simp;omega),Cv,Gn,Cu hlt,Aa]at hT;rw[Aa4 F2,Cu hlt,Aa,Aa];by_cases hw:(p.length:Int)<g[A]
  ·rw[Aa4 (by rw[Af,Ac];simpa using hw)]at hT⊢;rw[Aa]at hT;simp only at hT;rw[Aa4 F5]at hT;rw[Aci];exact⟨_,rfl,qz hT⟩
  rw[Aa2 (by rw[Af,Ac];simpa using hw)]at hT⊢;have SX:=hd.num;have hlt2:A<(Ao (Bf R) N).length:=F0
  obtain⟨m,hm,m1,m2⟩:=IA (Xs R) SX.2.2.2.2.1 (Asd hlt2);have hb:Dd w:=by rw[hd.ew];unfold Dd;omega
  obtain⟨xs,e,d1,d2,d3,d4⟩:=TW (bits:=w) (ch:=C) (n:=m) (t:=IW o) (p.take g[A].toNat) hb (AO o) SX.2.1.1 SX.2.1.2 m1 F0;have hnn:=N1 hb (AO o) SX.2.1.1 SX.2.1.2 m1 F0 d2;rw[Q6 o ho,Aa];simp only;rw[Aa2 F5,hd.rO,Aa];simp only;rw[Aa2 (by simp[Am,Ek,Ac];omega),DG,EP,Cu hlt2,Aa,Db,Aa,Aa,Zg,Aa];simp only;rw[hm,d1,Aa];simp only;rw[pU o ho,Aa]at hT;simp only at hT;rw[Db,Aa,Hp,Aa]at hT;simp only at hT;rw[hd.Ab6,Aa,Cu hlt2,Aa,Aa,hm]at hT;rw[d2,Aa]at hT;simp only at hT;rw[Gp,Gj]at hT;rw[GJ,Vk];by_cases he:e≠0
  ·rw[Aa4 (by rw[Am];simpa using he)]at hT⊢;rw[Aa]at hT;simp only at hT;rw[Aa4 (by rw[Am];simpa using he)]at hT;rw[Aj,Aa];simp only;rw[Aci];exact⟨_,rfl,(qz hT).trans (by rw[fU hnn];rfl)⟩
  ·have he0:e=0:=by simpa using he
   obtain⟨k1,k2,k3⟩:=d3 he0;have hbl:=JC w xs;rw[Aa2 (by rw[Am,he0];simp)]at hT⊢;rw[iV hb k2 k1,Aa,Aa]at hT;simp only at hT;rw[Aa2 F5,Ct F6,Aa,Arh,Ct,Aa,Aa,Dm,Aa]at hT;rw[B5 hb k2 k1,Aa];simp only;rw[Aa2 F5,Ct,Aa,Dm,Aa,Aci];exact⟨_,rfl,qz hT⟩
theorem uh(a:LI)(b:Int)(ha:a.length<=100):∀(j i q:Nat),i+j=a.length->j<q->∃r,Bw a b q (i:Int)=some r/\Kq r 0=(a.drop i).any λy=>b==y
 |0,i,q+1,hi,_=>by
  refine⟨-1,?_,?_⟩
  ·rw[Bw,Ej,Aa2 F2];rfl
  ·rw[show i=a.length by omega,Avo];rfl
 |j+1,i,q+1,hi,hq=>by
  have hlt:i<a.length:=F0
  obtain⟨r,h1,h2⟩:=uh a b ha j (i+1) q F0 F0;rw[Bw,Ej,Aa4 F2,Cu hlt,Aa,drop_cons hlt,List.any_cons];by_cases h:b=a[i]
  ·rw[Aa4 (by rw[Ba];simpa using h)];refine⟨_,rfl,?_⟩;rw[Ek,Au0 F0,h];simp
  ·rw[Aa2 (by rw[Ba];simpa using h),Ak];refine⟨r,h1,?_⟩;rw[h2,beq_eq_false_iff_ne.2 h,Bool.false_or]
theorem Ajp(v:Int):∃B:Bool,Qa v=some B/\Wl v=some B:=by
 obtain⟨r,h1,h2⟩:=uh [4,12,16,22,24,26,38] v F5 7 0 Ar rfl Axj;refine⟨_,?_,rfl⟩;rw[Qa,Hc,Ij,Hh,Mp];have h1':Bw [4,12,16,22,24,26,38] v Ar 0=some r:=h1;rw[h1',Aa,Aa,h2];simp only[Aw4,List.any_cons,List.any_nil,Bool.or_false,Ba,Bool.or_assoc]
theorem mY(B:Bool):Bm B=some (if B=true then 0 else 8):=by
 rw[Bm,UY];cases B<;>rfl
theorem An4(a b:LB)(f g h k m:Int)(n:LI)(o:Int)(p:LB)(u:Bool)(v:Int)(hb:b.length<=16000000)(hn:n.length<=16000000)(hp:p.length<=16000000):
  Dr a b f g h k m n o p u v=some (a,b,f,g,h,k,m,n,o,p,u,v):=by
 rw[Dr,Hy,Ct F6,Aa,Aa,Hy,Ct F6,Aa,Aa,Gf,Ct F6,Aa,Aa];rfl
theorem rA(o p:LB)(f c w r n:Int)(g:LI)(a:Int)(x:LB)(u:Bool)(v:Int)(hp:p.length<=100000)(hg:g.length<=100000)(hx:x.length<=14000000):
  ∃E,Hi o p f c w r n g a x u v=some E/\De o p f c w r n g a x u v=some E:=by
 rw[Hi,Xm,De];by_cases ho:64<o.length
 ·rw[Aa4 Axk,Aa4 Axk];exact⟨8,rfl,rfl⟩
 have hO:¬(Dv (Ac o) 64=true):=by rw[Au,Ac];simp;omega
 rw[Aa2 hO,Aa2 hO];by_cases hw:(geq v 0&& !u)=true
 ·rw[Aa4 hw,Aa4 hw,An4 o p f c w r n g a x u v F0 F0 F0,Aa];simp only;rcases Abc o p f c w r n g a x u v with⟨e1,e2⟩|⟨e1,e2,hd⟩
  ·rw[e1,e2,Aa,Aa,Aa2 F5,Aa4 F5,mY];exact⟨8,rfl,rfl⟩
  ·rw[e1,e2,Aa,Aa4 rfl];have key:∃B:Bool,Abk o p f c w r n g a x u v=Bm B/\Ch o p f c w r n g a x u v=some B:=by
    cases hd with
    |new e1 e2 e3 e4 e5 e6 e7 e8=>subst e1;exact Af0 o p c w r n g a x u v hp
    |head F C W R N h hpw e6 e7 e8=>subst e6;exact Ami h o p F0 hp a x u v
    |tab F C W R N A h hpw ht hl ea hA=>subst ea;exact Ahl h o p F0 hp g ht hl A hA x hx u v
   obtain⟨B,k1,k2⟩:=key;rw[k2,Aa];refine⟨if B=true then 0 else 8,k1.trans (mY B),?_⟩;cases B<;>rfl
 ·rw[Aa2 hw,Aa2 hw];by_cases hl:(geq (Ac p) 0&&geq (Ac g) 0)=true
  ·rw[Aa4 hl,Aa4 hl];generalize(geq f 0&&(geq c 0&&(geq w 0&&(geq r 0&&(geq n 0&&true)))))=z;by_cases hz:((z&&geq a 0)&&pP (Ac x) 12000)=true
   ·rw[Aa4 hz];simp only[Aa5,RW,Ac,Acr]at hz;obtain⟨⟨z1,z2⟩,z3⟩:=hz;have hN:¬((!(z&&geq a 0)||Dv (Ac x) 12000)=true):=by rw[z1,z2,Au,Ac];simp;omega
    rw[Aa2 hN];by_cases hv:v=0
    ·have v1:geq v 0=true:=by rw[Ba];simpa using hv
     have v2:¬(Bi v 0=true):=by rw[Am];simpa using hv
     rw[Aa4 v1,Aa2 v2,mY];exact⟨0,rfl,rfl⟩
    ·have v1:¬(geq v 0=true):=by rw[Ba];simpa using hv
     have v2:Bi v 0=true:=by rw[Am];simpa using hv
     rw[Aa2 v1,Aa4 v2];obtain⟨B,k1,k2⟩:=Ajp v;rw[k1,k2,Aa,Aa,mY,mY];cases u
     ·refine⟨if B=true then 0 else 8,Axl,?_⟩;cases B<;>rfl
     ·exact⟨8,rfl,rfl⟩
   ·rw[Aa2 hz,Aa4,mY]
    ·exact⟨8,rfl,rfl⟩
    ·simp only[Aa5,RW,Ac,Acr]at hz;simp only[Ash,Ap1,Au,Ac,Acr];by_cases hz2:(z&&geq a 0)=true
     ·rw[Aa5]at hz2;exact .inr (by have hq:¬((x.length:Int)<=12000):=λh=>hz ⟨hz2,h⟩;omega)
     ·exact .inl (by simpa using hz2)
  ·rw[Aa2 hl,Aa2 hl,Aa2 Axl,Aa4 Axl,mY];exact⟨8,rfl,rfl⟩
def QT(bk:LB->Int->Int->Int->Int->Int->Int->LI->LB->Ap)(o:LB)(u:Bool)(v:Int):LB->Int->Int->Int->Int->Int->Int->LI->LB->Ap:=
 Ht (Mw bk o u v) (Qt bk o u v) (Ki bk o u v) (Xc bk o u v) (Mx bk o u v) (Mv bk o u v) (Xu bk o u v) (Cb bk o u v) (Xo bk o u v) o u v
structure SzD (p:LB) (g:LI) (a:Int) (x:LB):Prop where
 hp:p.length<=100000
 hg:g.length<=1000
 hx:x.length+12000*(g.length-a.toNat)<=13000000
def muD(f:Int)(g:LI)(a:Int):Nat:=if f=0 then 1003 else if g=[]then 1002 else g.length-a.toNat+1
section
variable {bk:LB->Int->Int->Int->Int->Int->Int->LI->LB->Ap} {o p:LB} {f c w r n:Int} {g:LI} {a:Int} {x:LB} {u:Bool} {v:Int}
theorem Aky(hp:p.length<=100000)(hg:g.length<=1000)(hx:x.length<=13000000):Dr o p f c w r n g a x u v=some (o,p,f,c,w,r,n,g,a,x,u,v):=by
 rw[Dr,Hy,Ct F6,Aa,Aa,Hy,Ct F6,Aa,Aa,Gf,Ct F6,Aa,Aa];rfl
theorem At5(h:SzD p g a x)(e:Int):Cb bk o u v p f c w r n a true e g x=some (o,p,f,c,w,r,n,g,a,x,u,v,0):=by
 rw[Cb,HT,Aa4 rfl,Aky h.hp h.hg (by have:=h.hx;omega),Aa]
theorem As6{e:Int}(h:e≠0):Cb bk o u v p f c w r n a false e g x=some (o,[],0,0,0,0,0,[],0,x,false,e,e):=by
 rw[Cb,HT,Aa2 F5,Aa4 (by rw[Am];simpa using h)];rfl
inductive StepR (bk:LB->Int->Int->Int->Int->Int->Int->LI->LB->Ap) (o p:LB) (f c w r n:Int) (g:LI) (a:Int) (x:LB) (u:Bool) (v:Int):Prop
 |wait:QT bk o u v p f c w r n a g x=some (o,p,f,c,w,r,n,g,a,x,u,v,0)->Ag o p f c w r n g a x u v=some (o,p,f,c,w,r,n,g,a,x,u,v, -1)->StepR bk o p f c w r n g a x u v
 |err (e:Int) {t1 t2:LB} {t3 t4 t5 t6 t7:Int} {t8:LI} {t9:Int} {t10:LB} {t11:Bool} {t12:Int}:0<e->QT bk o u v p f c w r n a g x=some (o,[],0,0,0,0,0,[],0,x,false,e,e)->
   Ag o p f c w r n g a x u v=some (t1,t2,t3,t4,t5,t6,t7,t8,t9,t10,t11,t12,e)->StepR bk o p f c w r n g a x u v
 |next (p':LB) (f' c' w' r' n':Int) (g':LI) (a':Int) (x':LB):QT bk o u v p f c w r n a g x=bk p' f' c' w' r' n' a' g' x'->Ag o p f c w r n g a x u v=some (o,p',f',c',w',r',n',g',a',x',u,v,0)->
   FitD o f' c' w' r' n' g' a' x'->SzD p' g' a' x'->p'.length<=p.length->muD f' g' a'<muD f g a->StepR bk o p f c w r n g a x u v
theorem f62{d:Bool}{e:Int}:Mw bk o u v a g x d e p f c w r n=Cb bk o u v p f c w r n a d e g x:=rfl
theorem f75{d:Bool}{e:Int}:Ki bk o u v f c w r n a x d e p g=Cb bk o u v p f c w r n a d e g x:=rfl
theorem f78{d:Bool}{e:Int}:Mv bk o u v f c w r n g d e p a x=Cb bk o u v p f c w r n a d e g x:=rfl
theorem mkW(hZ:SzD p g a x)(hF:QT bk o u v p f c w r n a g x=Cb bk o u v p f c w r n a true 0 g x)(hT:Ag o p f c w r n g a x u v=some (o,p,f,c,w,r,n,g,a,x,u,v, -1)):StepR bk o p f c w r n g a x u v:=
 .wait (hF.trans (At5 hZ 0)) hT
theorem mkE{e:Int}{p2:LB}{f2 c2 w2 r2 n2 a2:Int}{g2:LI}{t1 t2:LB}{t3 t4 t5 t6 t7:Int}{t8:LI}{t9:Int}{t10:LB}{t11:Bool}{t12:Int}(he:0<e)(hF:QT bk o u v p f c w r n a g x=Cb bk o u v p2 f2 c2 w2 r2 n2 a2 false e g2 x)
  (hT:Ag o p f c w r n g a x u v=some (t1,t2,t3,t4,t5,t6,t7,t8,t9,t10,t11,t12,e)):StepR bk o p f c w r n g a x u v:= .err e he (hF.trans (As6 F0)) hT
theorem HdI.fnz{F C W R N:Nat}(h:HdI f c w r n F C W R N):f≠0:=by
 have:=h.num;rw[h.ef];omega
theorem Ajd(hp:p.length<=100000):StepR bk o p 0 0 0 0 0 [] 0 [] u v:=by
 have hZ:SzD p [] 0 []:=⟨hp,Axl,Axl⟩;have hT:Ag o p 0 0 0 0 0 [] 0 [] u v=Ag o p 0 0 0 0 0 [] 0 [] u v:=rfl
 conv at hT=>rhs;rw[Ag,Br,Aa4 F5,AK p hp,Aa,ng]
 have hF:QT bk o u v p 0 0 0 0 0 0 [] []=QT bk o u v p 0 0 0 0 0 0 [] []:=rfl
 conv at hF=>rhs;rw[QT,Ht,Aa4 F5,QD p F0,Aa]
 have hfn:=N5 p;have hrn:=zo (Ui p);have hok:=PM (b:=p);simp only at hT hF;by_cases h1:(Dk p).2=24
 ·rw[Aa4 h1]at hT;simp only at hT;rw[Aa4 F5]at hT;rw[Aa4 (by rw[Ba];simpa using h1)]at hF;exact mkW hZ hF hT
 rw[Aa2 h1]at hT;rw[Aa2 (by rw[Ba];simpa using h1)]at hF;by_cases h2:(Dk p).2≠0
 ·rw[Aa4 h2]at hT;simp only at hT;rw[Aa4 (by rw[Am];simpa using h2)]at hT;rw[Aa4 (by rw[Am];simpa using h2),Aj,Aa]at hF;exact mkE F0 hF hT
 have h0:(Dk p).2=0:=by simpa using h2
 obtain⟨k1,k2,k3⟩:=hok h0;have hl:(Ui p).length=p.length-(Dk p).1.toNat:=by rw[Ui,Ah1]
 rw[Aa2 h2]at hT;rw[Aa2 (by rw[Am,h0];simp),Dm,Aa,Aa,show p.drop (Dk p).1.toNat=Ui p from rfl,Aj8,Aa]at hF;by_cases h3:(Ro (Ui p) J2||Ro (Ui p) J8)=true
 ·rw[Aa4 h3]at hT hF;simp only at hT;rw[Aa4 F5]at hT;exact mkW hZ hF hT
 rw[Aa2 h3]at hT hF;rw[tF _ F0,Aa]at hF;by_cases h5:(Fc (Ui p)).2.2.2.2.2=24
 ·rw[Aa4 h5]at hT;simp only at hT;rw[Aa4 F5]at hT;rw[Aa4 (by rw[Ba];simpa using h5)]at hF;exact mkW hZ hF hT
 rw[Aa2 h5]at hT;rw[Aa2 (by rw[Ba];simpa using h5)]at hF;simp only at hT;by_cases h6:(Fc (Ui p)).2.2.2.2.2≠0
 ·rw[Aa4 (by rw[Am];simpa using h6)]at hT hF;rw[Aj,Aa]at hF;exact mkE (by have:=hrn;generalize(Fc (Ui p)).2.2.2.2.2=z at *;omega) (hF.trans f62) hT
 have h7:(Fc (Ui p)).2.2.2.2.2=0:=by simpa using h6
 obtain⟨r1,h22,r3,r4⟩:=za h7;rw[Aa2 (by rw[Am,h7];simp),Dm,Aa,Ga,Fz,Eb]at hT;rw[Aa2 (by rw[Am,h7];simp),Ak,Dm,Aa,Qt,YJ,Nh]at hF;simp only at hT hF;by_cases h8:((o==([]:LB)) !=geq (Fc (Ui p)).1 1)=true
 ·rw[Aa4 h8]at hT hF;rw[Aa]at hT hF;rw[Aj,Aa]at hF;simp only at hF;exact mkE F5 (hF.trans f62) hT
 ·rw[Aa2 h8]at hT hF;rw[Aa]at hT hF;rw[Aj,Aa]at hF;have hd:HdI (Fc (Ui p)).1 (Fc (Ui p)).2.1 (Fc (Ui p)).2.2.1 (Fc (Ui p)).2.2.2.1 (Fc (Ui p)).2.2.2.2.1 (f0 (Ui p)) (f1 (Ui p)) (f2 (Ui p)) (f3 (Ui p)) (f4 (Ui p)):=by
   constructor<;>first|(rw[r1])|assumption
  refine .next _ _ _ _ _ _ [] 0 [] (by exact hF) hT (.head _ _ _ _ _ hd ?_ rfl rfl rfl) ⟨by rw[Ah1];omega,Axl,Axl⟩ Axv ?_
  ·have e:geq (Fc (Ui p)).1 1=decide (f0 (Ui p)=1):=by rw[hd.ef,Ba,Akf];simp;omega
   rw[<-e];simpa using h8
  ·rw[muD,muD,Aa2 hd.fnz,Aa4 rfl,Aa4 rfl];omega
section
variable {F C W R N:Nat} (hd:HdI f c w r n F C W R N)
include hd
theorem Ae2(hp:p.length<=100000)(hpw:(o==([]:LB))=decide (F=1))(A:Nat)(hA:A<=p.length)
  (hT:Ag o p f c w r n [] 0 [] u v=(Dw p f c w r n (A:Int)).bind (λ(ag,ak,w1)=>if(Bi w1 0)then some (o,p,f,c,w,r,n,([]:LI),(0:Int),([]:LB),u,v,w1)else(Bk p ag (Ac p)).bind λal=>some (o,al,f,c,w,r,n,ak,(0:Int),([]:LB),u,v,(0:Int))))
  (hF:QT bk o u v p f c w r n 0 [] []=Mx bk o u v p f c w r n 0 [] [] (A:Int)):StepR bk o p f c w r n [] 0 [] u v:=by
 have hZ:SzD p [] 0 []:=⟨hp,Axl,Axl⟩;obtain⟨_,t2,t3⟩:=zP hd o p hp A hA 0 [] u v;have hs:=S9 (p.drop A) (Ao (Bf R) N).length Axv;have hnn:=Aaa (p.drop A) (Ao (Bf R) N).length;have hok:=oz (b:=p.drop A) (n:=(Ao (Bf R) N).length);rw[t2,Aa]at hT;rw[Mx,Xv,hd.rO,Aa]at hF;simp only at hF;rw[Aa2 F5,Dm,Aa,Amc,Ac,hs,Aa]at hF;generalize hz:Jf (p.drop A) (Ao (Bf R) N).length=z at*
 obtain⟨z1,z2⟩:=z;simp only at*
 by_cases h1:z2=24
 ·rw[Aa4 h1]at hT;simp only at hT;rw[Aa4 F5]at hT;rw[Aa4 (by rw[Ba];simpa using h1)]at hF;exact mkW hZ hF hT
 rw[Aa2 h1]at hT;rw[Aa2 (by rw[Ba];simpa using h1)]at hF;simp only at hT;by_cases h2:z2≠0
 ·rw[Aa4 (by rw[Am];simpa using h2)]at hT hF;rw[Aj,Aa]at hF;exact mkE F0 hF hT
 ·have h0:z2=0:=by simpa using h2
  subst h0;have h3:=t3 rfl;obtain⟨k1,k2,k3,k4,k5,k6⟩:=hok rfl;simp only[Aep,Axg]at k1;have hl:z1.length=(Ao (Bf R) N).length:=by rw[k1];exact KM _ _
  rw[<-k1]at k5 k6;rw[Aa2 F5,Dm,Aa]at hT;rw[Aa2 F5,Ac,Ac1 A z1.length F0 F0,Dm,Aa]at hF;have hne:z1≠ []:=by intro e;rw[e]at hl;simp at hl;omega
  refine .next _ _ _ _ _ _ z1 0 [] (by exact hF) hT (.tab _ _ _ _ _ 0 hd hpw ?_ hl rfl F0) ⟨by rw[Ah1];omega,F0,by simp;omega⟩ Axv ?_
  ·rw[BB,Aa5,Acr,PB z1 100000 F0];exact⟨F0,k5,k6⟩
  ·rw[muD,muD,Aa2 hd.fnz,Aa2 hd.fnz,Aa4 rfl,Aa2 hne];simp;omega
theorem Ag5(ho:o.length<=64)(hp:p.length<=100000)(hpw:(o==([]:LB))=decide (F=1)):StepR bk o p f c w r n [] 0 [] u v:=by
 have hZ:SzD p [] 0 []:=⟨hp,Axl,Axl⟩;have hT:Ag o p f c w r n [] 0 [] u v=Ag o p f c w r n [] 0 [] u v:=rfl
 conv at hT=>rhs;rw[Ag,Br,Aa2 hd.ne0,Bt,Bc,Aa4 F5,Fb,It]
 have hF:QT bk o u v p f c w r n 0 [] []=QT bk o u v p f c w r n 0 [] []:=rfl
 conv at hF=>rhs;rw[QT,Ht,Aa2 hd.ne0,Aa4 F5]
 by_cases h2:geq f 2=true
 ·rw[Aa4 h2]at hT hF;by_cases h8:p.length<8
  ·rw[Aa4 F2]at hT hF;rw[Aa]at hT;simp only at hT;rw[Aa4 F5]at hT;exact mkW hZ hF hT
  ·rw[Aa2 F2]at hT hF;have h8':(p.take 8).length=8:=by rw[Ah0];omega
   rw[Db,Aa,M0 o ho,Aa]at hT;rw[Xc,IC,Db,Aa,show(8:Int).toNat=8 from rfl,qd h8' ho,Aa]at hF;rw[show(8:Int).toNat=8 from rfl]at hT;simp only at hF;rw[WQ,JB,Aa2 F5]at hF;by_cases he:(p.take 8==GM (BS o).toNat 8)=true
   ·rw[Aa2 (by rw[bne,he];decide)]at hT;rw[Aa2 (by rw[he];decide)]at hF;exact Ae2 hd hp hpw 8 F0 hT hF
   ·have he':(p.take 8==GM (BS o).toNat 8)=false:=by simpa using he
    rw[Aa4 (by rw[bne,he'];decide),Aa]at hT;simp only at hT;rw[Aa4 F5]at hT;rw[Aa4 (by rw[he'];decide),Aj,Aa]at hF;simp only at hF;exact mkE F5 (hF.trans f75) hT
 ·rw[Aa2 h2]at hT hF;exact Ae2 hd hp hpw 0 F0 hT hF
theorem Ale(ho:o.length<=64)(hpw:(o==([]:LB))=decide (F=1))(hg:BB g=true)(hl:g.length=(Ao (Bf R) N).length)(A:Nat)(hA:A<=g.length)(hZ:SzD p g (A:Int) x):StepR bk o p f c w r n g (A:Int) x u v:=by
 have hp:=hZ.hp;have hx:=hZ.hx;have hc:=hd.ec;subst hc;have hg':=hg;rw[BB,Aa5,Acr,PB g 100000 F0]at hg';obtain⟨⟨g1,g2⟩,g5,g6⟩:=hg';have hgn:¬(geq (Ac g) 0=true):=by rw[Ba,Ac];simp;intro e;subst e;simp at g1
 have hT:Ag o p f (C:Int) w r n g (A:Int) x u v=Ag o p f (C:Int) w r n g (A:Int) x u v:=rfl
 conv at hT=>rhs;rw[Ag,Br,Aa2 hd.ne0,Bt,Bc,Aa2 hgn]
 have hF:QT bk o u v p f (C:Int) w r n (A:Int) g x=QT bk o u v p f (C:Int) w r n (A:Int) g x:=rfl
 conv at hF=>rhs;rw[QT,Ht,Aa2 hd.ne0,Aa2 hgn]
 by_cases hA2:A=g.length
 ·subst hA2;rw[Aa4 (by rw[Ba,Ac];simp)]at hT;rw[Aa2 Ayd]at hF;by_cases h4:4000<p.length
  ·rw[Aa4 Axk]at hT hF;rw[Aj,Aa]at hF;exact mkE F5 hF hT
  ·rw[Aa2 Axk]at hT hF;exact mkW hZ hF hT
 ·have hlt:A<g.length:=F0
  have h5:=g5 g[A] (Asd hlt);have hsum:=T4 g5 g[A] (Asd hlt);rw[Aa2 (by rw[Ba,Ac];simp;omega),Cv,Gn,Cu hlt,Aa]at hT;rw[Aa4 F2,Cu hlt,Aa,Aa]at hF;by_cases hw:(p.length:Int)<g[A]
  ·rw[Aa4 (by rw[Af,Ac];simpa using hw)]at hT hF;rw[Aa]at hT;simp only at hT;rw[Aa4 F5]at hT;exact mkW hZ hF hT
  rw[Aa2 (by rw[Af,Ac];simpa using hw)]at hT hF;have SX:=hd.num;have hlt2:A<(Ao (Bf R) N).length:=F0
  obtain⟨m,hm,m1,m2⟩:=IA (Xs R) SX.2.2.2.2.1 (Asd hlt2);have hb:Dd w:=by rw[hd.ew];unfold Dd;omega
  obtain⟨xs,e,d1,d2,d3,d4⟩:=TW (bits:=w) (ch:=C) (n:=m) (t:=IW o) (p.take g[A].toNat) hb (AO o) SX.2.1.1 SX.2.1.2 m1 F0;have hnn:=N1 hb (AO o) SX.2.1.1 SX.2.1.2 m1 F0 d2;rw[Q6 o ho,Aa]at hF;simp only at hF;rw[Aa2 F5,hd.rO,Aa]at hF;simp only at hF;rw[Aa2 (by simp[Am,Ek,Ac];omega),Xu,IB,Cu hlt2,Aa,Db,Aa,Aa,Zg,Aa]at hF;simp only at hF;rw[hm,d1,Aa]at hF;simp only at hF;rw[pU o ho,Aa]at hT;simp only at hT;rw[Db,Aa,Hp,Aa]at hT;simp only at hT;rw[hd.Ab6,Aa,Cu hlt2,Aa,Aa,hm]at hT;rw[d2,Aa]at hT;simp only at hT;rw[Gp,Gj]at hT;rw[IP,Xk]at hF;by_cases he:e≠0
  ·rw[Aa4 (by rw[Am];simpa using he)]at hT hF;rw[Aa]at hT;simp only at hT;rw[Aa4 (by rw[Am];simpa using he)]at hT;rw[Aj,Aa]at hF;exact mkE F0 hF hT
  ·have he0:e=0:=by simpa using he
   obtain⟨k1,k2,k3⟩:=d3 he0;have hbl:=JC w xs;have ht:((A:Int)).toNat=A:=rfl;rw[ht]at hx;rw[Aa2 (by rw[Am,he0];simp)]at hT hF;rw[iV hb k2 k1,Aa,Aa]at hT;simp only at hT;rw[Aa2 F5,Ct F6,Aa,Arh,Ct,Aa,Aa,Dm,Aa,Ak]at hT;rw[B5 hb k2 k1,Aa]at hF;simp only at hF;rw[Aa2 F5,Ct,Aa,Dm,Aa,Ak]at hF;have e1:((A:Int)+1).toNat=A+1:=rfl;refine .next _ _ _ _ _ _ _ _ _ (by exact hF) hT (.tab _ _ _ _ _ (A+1) hd hpw hg hl rfl F0) ⟨by rw[Ah1];omega,hZ.hg,by rw[e1,Aa7];omega⟩ Axv ?_
   have hne:g≠ []:=by intro e;subst e;simp at g1
   rw[muD,muD,Aa2 hd.fnz,Aa2 hd.fnz,Aa2 hne,Aa2 hne,e1,ht];omega
end
theorem zV(hf:FitD o f c w r n g a x)(ho:o.length<=64)(hZ:SzD p g a x):StepR bk o p f c w r n g a x u v:=by
 cases hf with
 |new e1 e2 e3 e4 e5 e6 e7 e8=>subst e1 e2 e3 e4 e5 e6 e7 e8;exact Ajd hZ.hp
 |head F C W R N h hpw e6 e7 e8=>subst e6 e7 e8;exact Ag5 h ho hZ.hp hpw
 |tab F C W R N A h hpw ht hl ea hA=>subst ea;exact Ale h ho hpw ht hl A hA hZ
end
abbrev Au4:=LB×LB×Int×Int×Int×Int×Int×LI×Int×LB×Bool×Int×Int
theorem Alh:∀(j:Nat) (b:LB) (a:Nat),(Y4 j b a).2=0\/ (Y4 j b a).2=38
 |0,_,_=> .inr rfl
 |j+1,b,a=>by
  rw[Y4];split
  ·exact .inl rfl
  ·split
   ·exact .inr rfl
   ·exact Alh j _ _
theorem Agg(b:LB):(UN b).2=0\/ (UN b).2=38:=by
 rw[UN];split
 ·exact .inr rfl
 ·exact Alh _ _ _
theorem XW{o p:LB}{f c w r n:Int}{g:LI}{a:Int}{x:LB}{u:Bool}{v:Int}(hp:p.length<=100000)(hg:g.length<=2000)(hx:x.length<=13000000):Ld o p f c w r n g a x u v=some (o,p,f,c,w,r,n,g,a,x,u,v):=by
 rw[Ld,Pe,Ct F6,Aa,Ct F6,Aa,Pj,Ph,Ct F6,Aa];rfl
theorem P1{o p:LB}{f c w r n:Int}{g:LI}{a:Int}{x:LB}{u:Bool}{v:Int}(hp:p.length<=100000)(hg:g.length<=2000)(hx:x.length<=13000000):Dr o p f c w r n g a x u v=some (o,p,f,c,w,r,n,g,a,x,u,v):=by
 rw[Dr,Hy,Ct F6,Aa,Aa,Hy,Ct F6,Aa,Aa,Gf,Ct F6,Aa,Aa];rfl
theorem B3{o p:LB}{f c w r n:Int}{g:LI}{a:Int}{x:LB}{u:Bool}{v e:Int}(hx:x.length<=13000000):Md o p f c w r n g a x u v e=some (o,[],0,0,0,0,0,[],0,x,false,e,e):=by
 rw[Md,Vm,Ct F6,Aa];rfl
theorem Akl{p:LB}{f:Int}{g:LI}{a:Int}{x:LB}(h:SzD p g a x):muD f g a<1004:=by
 have:=h.hg;unfold muD;split
 ·omega
 ·split<;>omega
section
variable {o p:LB} {f c w r n:Int} {g:LI} {a:Int} {x:LB} {u:Bool} {v:Int} (hp:p.length<=20000) (hg:g.length<=2000) (hx:x.length<=13000000)
include hp hg hx
theorem fN{E:Int}(hE:Hi o p f c w r n g a x u v=some E):Qg o p f c w r n g a x u v=if E≠0 then some ([],[],0,0,0,0,0,[],0,[],false,0,E)else some (o,p,f,c,w,r,n,g,a,x,u,v,if v≠0 then v else if u=true then 36 else 0):=by
 rw[Qg,hE,Aa];by_cases h:E≠0
 ·rw[Aa4 (by rw[Am];simpa using h),Aa4 h]
 rw[Aa2 (by rw[Am];simpa using h),Aa2 h,P1 F0 hg F0];by_cases hv:v≠0
 ·rw[Aa4 (by rw[Am];simpa using hv),Aa4 hv,Aa]
 ·rw[Aa2 (by rw[Am];simpa using hv),Aa2 hv];cases u<;>simp[Aa]
omit hg hx in
theorem uU:∃e,Wa o p f c w r n g a x u v=some e/\Qj o p f c w r n g a x u v=some e:=by
 rw[Wa,Qj];by_cases h0:geq f 0=true
 ·rw[Aa4 h0,Aa4 h0,QD p F0,ZY p F0,Aa,Aa];have hok:=PM (b:=p);simp only;by_cases h2:(Dk p).2≠0
  ·rw[Aa4 (by rw[Am];simpa using h2),Aa4 (by rw[Am];simpa using h2)];exact⟨_,rfl,rfl⟩
  have h3:(Dk p).2=0:=by simpa using h2
  obtain⟨k1,k2,k3⟩:=hok h3;have hl:(Ui p).length<=p.length:=by rw[Ui,Ah1];omega
  rw[Aa2 (by rw[Am,h3];simp),Aa2 (by rw[Am,h3];simp),Dm,Aa,Aa,show p.drop (Dk p).1.toNat=Ui p from rfl,tF _ F0,yI _ F0,Aa];exact⟨_,rfl,rfl⟩
 ·rw[Aa2 h0,Aa2 h0,Bool.or_comm];by_cases h1:(geq (Ac g) 0||Cj a (Ac g))=true
  ·rw[Aa4 h1,Aa4 h1];exact⟨_,rfl,rfl⟩
  ·rw[Aa2 h1,Aa2 h1,qy p F0,Ac4 p F0,Aa,Aa];simp only;refine⟨(UN p).2,rfl,?_⟩;rcases Agg p with h|h
   ·rw[Aa2 (by rw[h];decide),h]
   ·rw[Aa4 (by rw[h];decide),h]
end
theorem Af6(l:LI)(h:l.length<=2000):Oe l l=some true:=by
 have key:∀(j i q:Nat),i+j=l.length->j<q->Ev l l q (i:Int)=some true:=by
  intro j
  induction j with
  |zero=>
   intro i q hi hq;obtain⟨q,rfl⟩:∃k,q=k+1:=⟨q-1,F0⟩;rw[Ev,Kr,Aa2 F2];rfl
  |succ j ih=>
   intro i q hi hq;obtain⟨q,rfl⟩:∃k,q=k+1:=⟨q-1,F0⟩;have hlt:i<l.length:=F0
   rw[Ev,Kr,Aa4 F2,Cu hlt,Aa,Aa,Aa2 Axm,Ak];exact ih (i+1) q F0 F0
 rw[Oe,Pz,Aa2 Axm];exact key l.length 0 Ar F0 Axj
theorem Ahi(t1 t2:LB)(t3 t4 t5 t6 t7:Int)(t8:LI)(t9:Int)(t10:LB)(t11:Bool)(t12:Int)(h:t8.length<=2000):Vj t1 t2 t3 t4 t5 t6 t7 t8 t9 t10 t11 t12 t1 t2 t3 t4 t5 t6 t7 t8 t9 t10 t11 t12=some true:=by
 rw[Vj,Aa4 (by simp[Ba]),Af6 t8 h,Aa];simp[Ba]
end Go.Pl
