/- A part of a proof (see the text that ends in Proof). No conditions. -/
import Derived.Test.YtaicmmejgiaafaaGreatDoorOwPA
import Derived.KernelRfl
set_option linter.unusedVariables false
set_option linter.unusedSimpArgs false
namespace Go.Lv
variable{a b:Int}{l:List UInt8}{n:Nat}{α:Type}
theorem Ag(h: -9223372036854775808<=a+b:=by omega)(h':a+b<=9223372036854775807:=by omega):Ae a b=a+b:=by rw[Bh7,Cz h h']
theorem Bv(h: -9223372036854775808<=a-b:=by omega)(h':a-b<=9223372036854775807:=by omega):Aq a b=a-b:=by rw[Bik,Cz h h']
theorem Fa(h: -9223372036854775808<=a*b:=by omega)(h':a*b<=9223372036854775807:=by omega):Bi a b=a*b:=by rw[Aw9,Cz h h']
theorem YK(c:UInt8):(Ad c:Int)=(c.toNat:Int):=by rw[Ay9,Cz]<;>have:=c.toNat_lt<;>omega
theorem wm(c:UInt32):(Ad c:Int)=(c.toNat:Int):=by rw[Auz,Cz]<;>have:=c.toNat_lt<;>omega
theorem zQ(c:UInt8):(Ad c:UInt64)=UInt64.ofNat c.toNat:=by simp only[Ad,GV,Gj]
theorem Ed(c:UInt32):(Ad c:UInt64)=UInt64.ofNat c.toNat:=by simp only[Ad,CC,Gj]
theorem bU(c:UInt64):(Ad c:UInt8)=UInt8.ofNat c.toNat:=by simp only[Ad,Is,Ql]
theorem A4(c:UInt32):(Ad c:UInt8)=UInt8.ofNat c.toNat:=by simp only[Ad,CC,Ql]
theorem Mx(n:Nat):(Ad (n:Int):UInt64)=UInt64.ofNat n:=by simp only[Ad];exact Gj n
theorem Agq(n:Nat):(Ad (n:Int):UInt32)=UInt32.ofNat n:=by simp only[Ad];exact Gi n
theorem Ayt(n:Nat):(Ad (n:Int):UInt8)=UInt8.ofNat n:=by simp only[Ad];exact Ql n
theorem wU{c:UInt64}(h:c.toNat<9223372036854775808):(Ad c:Int)=(c.toNat:Int):=by rw[Auu,Cz]<;>omega
theorem Asd:LIM=17179869184:=F2
theorem As:36893488147419103231<Au:=F2
theorem Bn{l:List α}(h:n<l.length:=by omega):Am l (n:Int)=some l[n]:=by simp[Am,h]
theorem Tk{l:List α}(x:α)(h:n<l.length):Mv l (n:Int) x=some (l.set n x):=by simp[Mv,h]
theorem Qn{l:List α}(h:0<=a:=by omega)(h1:a<=b:=by omega)(h2:b<=l.length:=by omega):Br l a b=some ((l.take b.toNat).drop a.toNat):=by rw[Br,Adi ⟨h,h1,h2⟩]
theorem Bp{l:List α}(h:0<=a:=by omega)(h1:a<=l.length:=by omega):Br l a (Ac l)=some (l.drop a.toNat):=by
 unfold Ac;rw[Qn h h1 (Int.le_refl _),Ajx,Bd0]
theorem Ct{l:List α}(h:0<=b:=by omega)(h1:b<=l.length:=by omega):Br l 0 b=some (l.take b.toNat):=by rw[Qn (Int.le_refl _) h h1];rfl
theorem Bf{l m:List α}(h:l.length+m.length<=17179869184:=by omega):Dt l m=some (l++m):=by rw[Dt,Asd,Adi h]
theorem pM{n:Int}{z:α}(h:0<=n:=by omega)(h':n<=17179869184:=by omega):mkI n z=some (List.replicate n.toNat z):=by rw[mkI,Asd,Adi ⟨h,h'⟩]
theorem Bk{b:Bool}(h:b=true):Jg b=some ():=by rw[h];rfl
theorem Aa{β:Type}(a:α)(f:α->Option β):Option.bind (some a) f=f a:=rfl
theorem drop_cons{l:List α}(h:n<l.length):l.drop n=l[n]::l.drop (n+1):=List.drop_eq_getElem_cons h
theorem Jq{l:List α}(h:n<l.length):l.take (n+1)=l.take n++[l[n]]:=by rw[List.take_add_one,List.getElem?_eq_getElem h];rfl
def Ga:List UInt8->Nat
 |[]=>0
 |x::r=>x.toNat+256*Ga r
theorem Aiz:∀l:List UInt8,Ga l<256^l.length
 |[]=>by simp[Ga]
 |x::r=>by
  have h:=Aiz r;have:=x.toNat_lt;simp only[Ga,Ary,Bgy];omega
theorem Aaz:∀l m:List UInt8,Ga (l++m)=Ga l+256^l.length*Ga m
 |[],m=>by simp[Ga]
 |x::r,m=>by
  simp only[Ga,Bmf,Aaz r m,Ary,Bgy,Nat.mul_add];rw[Aw7 (256^r.length) 256,Bg8];omega
def eS(l:List UInt8):UInt64:=UInt64.ofNat (Ga l)
theorem Bcl(h:l.length<=8):Ga l<18446744073709551616:=by
 have h1:=Aiz l;have h2:256^l.length<=256^8:=Anl F0 h;exact Aw0 h1 (by simpa using h2)
theorem um(h:l.length<=4):Ga l<4294967296:=by
 have h1:=Aiz l;have h2:256^l.length<=256^4:=Anl F0 h;exact Aw0 h1 (by simpa using h2)
theorem RP(h:l.length<=8):(eS l).toNat=Ga l:=by
 rw[eS,Ajs,Ajb (Bcl h)]
theorem RM(h:l.length<=4):(Ad (eS l):Int)=(Ga l:Int):=by
 have:=um h;rw[wU]<;>rw[RP F0];omega
def Fg(n:Nat):Nat->List UInt8
 |0=>[]
 |w+1=>UInt8.ofNat n::Fg (n/256) w
theorem Az:∀(w n:Nat),(Fg n w).length=w
 |0,_=>rfl
 |w+1,n=>by simp[Fg,Az w]
theorem Ak2:∀(w n:Nat),Fg n (w+1)=Fg n w++[UInt8.ofNat (n/256^w)]
 |0,n=>by simp[Fg]
 |w+1,n=>by
  rw[Fg,Ak2 w (n/256),Fg];simp[Bmt,Bgy,Aw7]
def Hv(p:List UInt8)(i:Nat):Nat:=(p.getD (i/8) 0).toNat/2^(i %8) %2
theorem EM(p:List UInt8)(i:Nat):Hv p i<2:=Bl6 _ F0
def Cf(p:List UInt8):Nat->Nat->Nat
 |_,0=>0
 |a,n+1=>Hv p a+2*Cf p (a+1) n
theorem Rj(p:List UInt8):∀(n a:Nat),Cf p a n<2^n
 |0,_=>by simp[Cf]
 |n+1,a=>by
  have:=Rj p n (a+1);have:=EM p a;rw[Cf,Bgy];omega
theorem TA(p:List UInt8):∀(m n a:Nat),Cf p a (m+n)=Cf p a m+2^m*Cf p (a+m) n
 |0,n,a=>by simp[Cf]
 |m+1,n,a=>by
  rw[show m+1+n=(m+n)+1 by omega,Cf,Cf,TA p m n (a+1),show a+1+m=a+(m+1) by omega,Bgy,Nat.mul_add,Aw7 (2^m) 2,Bg8];omega
theorem I7(p:List UInt8)(a:Nat):Cf p a 1=Hv p a:=by simp[Cf]
theorem vP(p:List UInt8)(a n:Nat):Cf p a (n+1)=Cf p a n+2^n*Hv p (a+n):=by rw[TA p n 1 a,I7]
theorem kJ(p:List UInt8)(a:Nat):∀t:Nat,a %8+t<=8->Cf p a t=(p.getD (a/8) 0).toNat/2^(a %8) %2^t
 |0,_=>by simp[Cf,Nat.mod_one]
 |t+1,h=>by
  have h1:(a+t)/8=a/8:=F0
  have h2:(a+t) %8=a %8+t:=F0
  rw[vP,kJ p a t F0,Hv,h1,h2,Nat.mod_pow_succ,Bo0,Bmt]
theorem R6{p:List UInt8}:∀(n a:Nat),(∀k,k<n->Hv p (a+k)=0)->Cf p a n=0
 |0,_,_=>rfl
 |n+1,a,h=>by
  have h0:=h 0 F0;rw[Cf,R6 n (a+1) λk hk=>by have:=h (k+1) F0;rwa [show a+1+k=a+(k+1) by omega]];rw[Bli]at h0;omega
def okB(p:List UInt8)(n:Nat):Prop:=n<=330000/\p.length=(n+7)/8/\∀k,n<=k->k<8*p.length->Hv p k=0
def Sf(p:List UInt8)(a n:Nat):List UInt8:=(List.range ((n+7)/8)).map λj=>UInt8.ofNat (Cf p (a+8*j) (min 8 (n-8*j)))
theorem Kk(p:List UInt8)(a n:Nat):(Sf p a n).length=(n+7)/8:=by simp[Sf]
theorem Akz(p:List UInt8):∀(n a k:Nat),k<n->Cf p a n/2^k %2=Hv p (a+k)
 |n+1,a,0,_=>by have:=EM p a;rw[Cf];simp;omega
 |n+1,a,k+1,h=>by
  have hb:=EM p a;have e:(Hv p a+2*Cf p (a+1) n)/2=Cf p (a+1) n:=F0
  rw[Cf,Bgy,Aw7 (2^k) 2,<-Bmt,e,Akz p n (a+1) k F0,show a+1+k=a+(k+1) by omega]
theorem Au0(p:List UInt8)(n a k:Nat)(h:n<=k):Cf p a n/2^k %2=0:=by
 have:=Rj p n a;rw[Bmg (Aw0 this (Anl F0 h))]
theorem E4(p:List UInt8)(a n k:Nat):Hv (Sf p a n) k=if k<n then Hv p (a+k)else 0:=by
 rw[Hv];by_cases hj:k/8<(n+7)/8
 ·have e:(Sf p a n).getD (k/8) 0=UInt8.ofNat (Cf p (a+8*(k/8)) (min 8 (n-8*(k/8)))):=by
   rw[List.getD_eq_getElem?_getD,List.getElem?_eq_getElem (by rw[Kk];exact hj)];simp[Sf]
  have hlt:Cf p (a+8*(k/8)) (min 8 (n-8*(k/8)))<256:=by
   have:=Rj p (min 8 (n-8*(k/8))) (a+8*(k/8));have h2:2^(min 8 (n-8*(k/8)))<=2^8:=Anl F0 F0;omega
  have hu:(UInt8.ofNat (Cf p (a+8*(k/8)) (min 8 (n-8*(k/8))))).toNat=Cf p (a+8*(k/8)) (min 8 (n-8*(k/8))):=by
   rw[Aw5];exact Ajb hlt
  rw[e,hu];by_cases hk:k<n
  ·rw[Adi hk,Akz p _ _ _ F0,show a+8*(k/8)+k %8=a+k by omega]
  ·rw[Abu hk,Au0 p _ _ _ F0]
 ·have e:(Sf p a n).getD (k/8) 0=0:=by
   rw[List.getD_eq_getElem?_getD,List.getElem?_eq_none (by rw[Kk];omega)];rfl
  rw[e,Abu F0];simp
theorem G6(p:List UInt8)(a n:Nat)(h:n<=330000):okB (Sf p a n) n:=⟨h,Kk p a n,λk hk _=>by rw[E4,Abu F0]⟩
theorem Aj8{p q:List UInt8}(hl:p.length=q.length)(h:∀k,k<8*p.length->Hv p k=Hv q k):p=q:=by
 apply Bit hl;intro i h1 h2;have hp:Cf p (8*i) 8=Cf q (8*i) 8:=by
  have key:∀(n a:Nat),a+n<=8*p.length->Cf p a n=Cf q a n:=by
   intro n
   induction n with
   |zero=>intros;rfl
   |succ n ih=>intro a ha;rw[Cf,Cf,h a F0,ih (a+1) F0]
  exact key 8 (8*i) F0
 rw[kJ p _ 8 F0,kJ q _ 8 F0]at hp;have e1:8*i/8=i:=F0
 have e2:8*i %8=0:=F0
 rw[e1,e2]at hp;have a1:p.getD i 0=p[i]:=by simp[List.getD_eq_getElem?_getD,h1]
 have a2:q.getD i 0=q[i]:=by simp[List.getD_eq_getElem?_getD,h2]
 rw[a1,a2]at hp;apply UInt8.toNat_inj.1;have:=p[i].toNat_lt;have:=q[i].toNat_lt;simp at hp;omega
end Go.Lv
namespace Go.Pl
open Go Go.Lv
variable{p:Prop}
theorem F3(h:p:=by rw[Af,Ac];simp;omega):p:=h
theorem Bpi(h:p:=by rw[Af];simp;omega):p:=h
theorem Bpm(h:p:=by rw[Ar];simp;omega):p:=h
theorem Bpo(h:p:=by simp[Af,Ap];omega):p:=h
theorem Bpp(h:p:=by rw[Ec];simp;omega):p:=h
theorem Bpt(h:p:=by unfold Ac;omega):p:=h
theorem F8(h:p:=by have:=As;omega):p:=h
theorem Bpq(h:p:=by rw[Ec];simp):p:=h
theorem Bqa(h:p:=by rw[Ar];simp):p:=h
theorem Bp3(h:p:=by rw[Ar];rfl):p:=h
end Go.Pl
namespace Go.Pl
open Go Go.Lv
variable{i:Nat}{p:Prop}
theorem Ax8(b:LB)(hb:b.length<4611686018427387904):∀(j q:Nat),j<=b.length->j<q->Qw b q (eS (b.drop j)) ((j:Int)-1)=some (eS b)
 |0,q+1,_,_=>by
  rw[Qw,GU,Abu Bpq];simp[bE,ZF]
 |j+1,q+1,hj,hq=>by
  rw[Qw,GU,Adi Bpq,show((j+1:Nat):Int)-1=(j:Int) by omega,Bn,Aa,Bv];have h:Ae (Bi (256:UInt64) (eS (b.drop (j+1)))) (Ad b[j]:UInt64)=eS (b.drop j):=by
   rw[TR,TK,zQ,drop_cons (n:=j) F0,eS,eS,Ga,UInt64.ofNat_add,UInt64.ofNat_mul];exact UInt64.add_comm _ _
  rw[h];exact Ax8 b hb j q F0 F0
theorem Amj(b:LB)(hb:b.length<4611686018427387904):Ep b=some (eS b):=by
 have h:=Ax8 b hb b.length Au (An6 _) F8;rw[Ep,aG,aK];have e:Aq (Ac b) 1=(b.length:Int)-1:=Bv Bpt Bpt;rw[e,<-h,Bl3];rfl
theorem Baa{n c:UInt64}(hn:n.toNat<2^i)(hc:c.toNat*2^i<18446744073709551616):zZ n (Du c i)=UInt64.ofNat (n.toNat+c.toNat*2^i):=by
 rw[Bfy];apply UInt64.toNat_inj.1;rw[UInt64.toNat_or,cN,Ajb hc,Aw7,Nat.or_comm,<-Bj3 hn,Ajs,Ajb,Bn7,Aw7];have h:=Bj3 hn c.toNat;have h2:2^i*c.toNat+n.toNat<2^64:=by
  rw[h];exact Nat.or_lt_two_pow (by rw[Aw7];simpa using hc) n.toNat_lt
 rw[Bn7];first|exact h2|(rw[Aw7];exact h2)
theorem Agu(b:LB)(hb:b.length<=8):∀(j i q:Nat),i+j=b.length->j<q->HC b q (eS (b.take i)) (i:Int)=some (eS b,0)
 |0,i,q+1,hi,_=>by
  rw[HC,eL,Abu F3,show i=b.length by omega,Bd0];rfl
 |j+1,i,q+1,hi,hq=>by
  have hlt:i<b.length:=F0
  rw[HC,eL,Adi F3,Bn hlt,Aa,Fa,Bk Bpp,Aa,Ag];have h:zZ (eS (b.take i)) (Du (Ad b[i]:UInt64) (GI.toZ ((8:Int)*(i:Int))).toNat)=eS (b.take (i+1)):=by
   have e:(GI.toZ ((8:Int)*(i:Int))).toNat=8*i:=by show((8:Int)*(i:Int)).toNat=_;omega
   have e2:(2:Nat)^(8*i)=256^i:=by rw[Nat.pow_mul]
   have h1:=Aiz (b.take i);rw[Anb,Bhu F0]at h1;have h3:=b[i].toNat_lt;have hle:(256:Nat)^(i+1)<=256^8:=Anl F0 F0;rw[Bgy]at hle;have h4:(Ad b[i]:UInt64).toNat=b[i].toNat:=by rw[zQ,Ajs];omega
   have h5:b[i].toNat*256^i<18446744073709551616:=by
    have:b[i].toNat*256^i<256*256^i:=Nat.mul_lt_mul_of_pos_right (by simpa using h3) (Bmr F0);simp at hle;omega
   rw[e,Baa (by rw[RP F7,e2];exact h1) (by rw[h4,e2];exact h5),RP F7,h4,e2,Jq hlt];rw[eS,Aaz];simp only[Ga,Anb,Bhu (Nat.le_of_lt hlt),Nat.mul_zero,Bli];rw[Aw7]
  rw[h];exact Agu b hb j (i+1) q F0 F0
theorem Ams(b:LB)(h1:1<=b.length)(h2:b.length<=8):rY b=some (eS b,0):=by
 have h:=Agu b h2 b.length 0 Au F0 F8;rw[rY,vB,Abu (by simp[Af,Ap,Ac];omega),lg];exact h
def part(b:LB)(at' w:Nat):LB:=(b.take (at'+w)).drop at'
theorem Ek{b:LB}{a w:Nat}(h:a+w<=b.length:=by omega):(part b a w).length=w:=by simp[part];omega
theorem rH(b:LB)(a w:Nat)(h1:1<=w)(h2:w<=8)(h3:a+w<=b.length)(hb:b.length<4611686018427387904):HZ b (a:Int) (w:Int)=some (eS (part b a w),0):=by
 rw[HZ,Abu Bpo,Abu (by rw[Ap,Bv Bpt Bpt,Ac];simp;omega),Ag,Qn,Aa];rw[show((a:Int)+(w:Int)).toNat=a+w by omega,show(a:Int).toNat=a by omega];rw[Ams _ (by rw[show((b.take (a+w)).drop a).length=_ from Ek h3];exact h1) (by rw[show((b.take (a+w)).drop a).length=_ from Ek h3];exact h2),Aa];rfl
theorem Z7(w:Nat)(hw:w<=1000):∀(j i q:Nat) (n:UInt64) (acc:LB),i+j=w->j<q->acc.length+j<=1000000->Jr (w:Int) q n (i:Int) acc=some (acc++Fg n.toNat j)
 |0,i,q+1,n,acc,hi,_,_=>by
  rw[Jr,Vv,Abu Bpi];simp[HA,HN,Fg]
 |j+1,i,q+1,n,acc,hi,hq,ha=>by
  rw[Jr,Vv,Adi Bpi];have e:(Ad (CU n (256:UInt64)):UInt8)=UInt8.ofNat n.toNat:=by
   rw[bU,Akj];apply UInt8.toNat_inj.1;rw[Aw5,Aw5,UInt64.toNat_mod]
   show n.toNat %256 %256=_;omega
  have e2:(Bq n (256:UInt64)).toNat=n.toNat/256:=by rw[M0,Bo5];rfl
  rw[Bf F7,Aa,Ag,e];have h:=Z7 w hw j (i+1) q (Bq n 256) (acc++[UInt8.ofNat n.toNat]) F0 F0 F7;rw[e2]at h;rw[show((i:Int)+1)=((i+1:Nat):Int) by omega,h,Fg];simp
theorem Acj(n:UInt64)(w:Nat)(hw:w<=1000):Fo n (w:Int)=some (Fg n.toNat w):=by
 rw[Fo,HU,HL];have h:=Z7 w hw w 0 Au n [] F0 F8 F7;simpa using h
theorem lO{α:Type}{l m:List α}{x y:α}(h:l.length=i):(l++x::m).set i y=l++y::m:=by subst h;simp
theorem Ae5(n:UInt64)(l4:LB)(w:Nat)(hl:l4.length=w)(hw:w<=8):∀(j i q:Nat),i+j=w->j<q->HW n l4 q (i:Int) (Fg n.toNat i++List.replicate j 0)=some (Fg n.toNat w,0)
 |0,i,q+1,hi,_=>by
  rw[HW,eC,Abu F3];obtain rfl:i=w:=F0
  simp[rD,kg]
 |j+1,i,q+1,hi,hq=>by
  have hlen:(Fg n.toNat i++List.replicate (j+1) 0).length=i+(j+1):=by simp[Az]
  rw[HW,eC,Adi F3,Fa,Bk Bpp,Aa,Bn (by rw[hlen];omega),Aa,Tk _ (by rw[hlen];omega),Aa,Ag];have e:(Ad (Cw n (GI.toZ ((8:Int)*(i:Int))).toNat):UInt8)=UInt8.ofNat (n.toNat/256^i):=by
   have e:(GI.toZ ((8:Int)*(i:Int))).toNat=8*i:=by show((8:Int)*(i:Int)).toNat=_;omega
   rw[e,bU,MR,Nat.pow_mul]
  rw[e,Bj5,lO (Az _ _)];have h:=Ae5 n l4 w hl hw j (i+1) q F0 F0;rw[Ak2]at h;simpa using h
theorem Bf9(n:UInt64)(w:Nat)(h1:1<=w)(h2:w<=8)(h:n.toNat<256^w):uw n (w:Int)=some true:=by
 rw[uw];by_cases h8:w=8
 ·subst h8;rw[Adi Bp3]
 ·rw[Abu Bpm,Fa,Bk Bpp,Aa];have e:(GI.toZ ((8:Int)*(w:Int))).toNat=8*w:=by show((8:Int)*(w:Int)).toNat=_;omega
  rw[e,vQ];have:Cw n (8*w)=0:=by
   apply UInt64.toNat_inj.1;rw[MR,Nat.pow_mul];exact Bmg h
  rw[this];rfl
theorem MB(n:UInt64)(w:Nat)(h1:1<=w)(h2:w<=8)(h:n.toNat<256^w):Qf n (w:Int)=some (Fg n.toNat w,0):=by
 rw[Qf,sZ,Abu Bpo,Bf9 n w h1 h2 h,Aa,Abu Bpj,pM,Aa,Bk Bqa,Aa,ko];have h:=Ae5 n (List.replicate (w:Int).toNat 0) w Bpj h2 w 0 Au F0 F8;simpa [Fg]using h
theorem Bpn(h:p:=by rw[Ap];simp;omega):p:=h
theorem Bpk(h:p:=by rw[Ah];simp):p:=h
end Go.Pl
namespace Go.Pl
open Go Go.Lv
variable{p:LB}
theorem jw(n:Nat)(h:n<4611686018427387904):Ez (n:Int) (7:Int)=((n %8:Nat):Int):=by
 have e:Ez (n:Int) (7:Int)=wrap64 ((BitVec.ofInt 64 (n:Int)&&&BitVec.ofInt 64 7).toNat:Int):=rfl;rw[e,Bo3,Bi4,Bi4];have h1:((n:Int) %((2^64:Nat):Int)).toNat=n:=F0
 have h2:((7:Int) %((2^64:Nat):Int)).toNat=2^3-1:=F2
 rw[h1,h2,Bko,Cz F0 F0]
theorem Bkf(n:Nat):Ail (n:Int) (GI.toZ (3:UInt64)).toNat=((n/8:Nat):Int):=by
 have e:Ail (n:Int) (GI.toZ (3:UInt64)).toNat=(n:Int).fdiv 8:=rfl;rw[e,Bb6 _ F0];omega
theorem Blu{t:Nat}(h:t<=8):Aq (Du (1:UInt8) t) (1:UInt8)=UInt8.ofNat (2^t-1):=by
 have:t=0\/t=1\/t=2\/t=3\/t=4\/t=5\/t=6\/t=7\/t=8:=F0
 rcases this with rfl|rfl|rfl|rfl|rfl|rfl|rfl|rfl|rfl<;>decide
theorem bitsOf(c:UInt8)(off t:Nat)(h:t<=8):(Ez (Cw c off) (Aq (Du (1:UInt8) t) (1:UInt8))).toNat=c.toNat/2^off %2^t:=by
 have hp:2^t<=2^8:=Anl F0 h;rw[Blu h,Aq3,UInt8.toNat_and,Ai2,Aw5,Ajb (by have:=Bmr (n:=t) (show 0<2 by omega);omega),Bko]
theorem Acn{k:Nat}(h:k<p.length):Am p (k:Int)=some (p.getD k 0):=by
 rw[Bn h];simp[List.getD_eq_getElem?_getD,h]
def Ro(p:LB)(a n:Nat):UInt64:=UInt64.ofNat (Cf p a n)
theorem BI(p:LB)(a n:Nat)(h:n<=64):(Ro p a n).toNat=Cf p a n:=by
 have h1:=Rj p n a;have h2:2^n<=2^64:=Anl F0 h;rw[Ro,Ajs,Ajb F0]
theorem Alk(p:LB)(N:Int)(a n:Nat)(hn:n<=64)(ha:a+n<=8*p.length)(hp:p.length<=1000000):∀(j h q:Nat),h+j=n->j<q->TF (a:Int) (n:Int) p N q (Ro p a h) (h:Int)=some (Ro p a n)
 |j,h,q+1,hj,hq=>by
  rw[TF,tF];by_cases hlt:h<n
  ·have e1:Ae (a:Int) (h:Int)=((a+h:Nat):Int):=by rw[Ag];omega
   have e2:Iu (Aq (n:Int) (h:Int)) (Aq (8:Int) (((a+h) %8:Nat):Int))=((min (n-h) (8-(a+h) %8):Nat):Int):=by
    rw[IY,Bv,Bv];omega
   have hm:(a+h)/8<p.length:=F0
   rw[Adi Bpi,e1,Bkf,Acn hm,Aa,jw _ F0,Bk Bpp,Aa,e2,Bk Bpq,Aa,Bk Bpq,Aa];generalize hT:min (n-h) (8-(a+h) %8)=T;have hT8:T<=8:=F0
   have hT1:1<=T:=F0
   have hb:(a+h) %8+T<=8:=F0
   have hv:=kJ p (a+h) T hb;have z1:(GI.toZ (((a+h) %8:Nat):Int)).toNat=(a+h) %8:=rfl;have z2:(GI.toZ ((T:Nat):Int)).toNat=T:=rfl;have z3:(GI.toZ ((h:Nat):Int)).toNat=h:=rfl;rw[z1,z2,z3];have hx:(Ad (Ez (Cw (p.getD ((a+h)/8) 0) ((a+h) %8)) (Aq (Du (1:UInt8) T) (1:UInt8))):UInt64).toNat=Cf p (a+h) T:=by
    rw[zQ,Ajs,bitsOf _ _ _ hT8,<-hv];have:=Rj p T (a+h);have h2:2^T<=2^8:=Anl F0 hT8;omega
   have hlt2:=Rj p (h+T) a;rw[TA]at hlt2;have h64:2^(h+T)<=2^64:=Anl F0 F0;have hor:zZ (Ro p a h) (Du (Ad (Ez (Cw (p.getD ((a+h)/8) 0) ((a+h) %8)) (Aq (Du (1:UInt8) T) (1:UInt8))):UInt64) h)=Ro p a (h+T):=by
    rw[Baa (by rw[BI p a h F0];exact Rj p h a) (by rw[hx,Aw7];omega),hx,BI p a h F0,Ro,TA,Aw7 (2^h)]
   rw[hor,Ag,show(h:Int)+((T:Nat):Int)=((h+T:Nat):Int) by omega];exact Alk p N a n hn ha hp (j-T) (h+T) q F0 F0
  ·rw[Abu Bpi,show h=n by omega];rfl
theorem get_eq(p:LB)(N:Int)(a n:Nat)(hn:n<=64)(ha:a+n<=8*p.length)(hp:p.length<=1000000):L9 p N (a:Int) (n:Int)=some (Ro p a n):=by
 have:=Alk p N a n hn ha hp n 0 Au F0 F8;exact this
theorem CD{n:Nat}(h:okB p n):Le p (n:Int)=some 0:=by
 obtain⟨h1,h2,h3⟩:=h;have e7:Ae (n:Int) 7=((n+7:Nat):Int):=by rw[Ag];omega
 rw[Le,e7,Bkf,Abu (by simp[Af,Ap,Ah,Ac,h2];omega),jw _ F0];by_cases hz:n %8=0
 ·rw[Abu Bpn]
 ·have el:Aq (Ac p) 1=((p.length-1:Nat):Int):=by rw[Ac,Bv];omega
  rw[Adi Bpn,el,Acn F0,Aa,Bk Bpp,Aa];have z:(GI.toZ ((n %8:Nat):Int)).toNat=n %8:=rfl;have hs:Cw (p.getD (p.length-1) 0) (n %8)=0:=by
   apply UInt8.toNat_inj.1;rw[Ai2];have hv:=kJ p n (8-n %8) F0;have h0:Cf p n (8-n %8)=0:=R6 _ _ λk hk=>h3 _ F0 F0;rw[h0,show n/8=p.length-1 by omega]at hv;have hlt:(p.getD (p.length-1) 0).toNat/2^(n %8)<2^(8-n %8):=by
    have:=(p.getD (p.length-1) 0).toNat_lt;rw[Nat.div_lt_iff_lt_mul (Bmr F0),<-Bo0,show 8-n %8+n %8=8 by omega];simpa using this
   rw[Ajb hlt]at hv;exact hv.symm
  rw[z,hs,Abu (by rw[Apt];simp)]
theorem Y2{N:Nat}(h:okB p N)(a n:Nat)(hn:n<=64):LO p (N:Int) (a:Int) (n:Int)=some (if N<a+n then(0,24)else(Ro p a n,0)):=by
 obtain⟨h1,h2,h3⟩:=h;rw[LO,CD ⟨h1,h2,h3⟩,Aa,Abu Bpk,Abu Bpo,Bv];by_cases hl:N<a+n
 ·rw[Adi Bpn,Adi hl]
 ·rw[Abu Bpn,get_eq p N a n hn F0 F0,Aa,Abu hl]
theorem Bqg{p:Prop}(h:p:=by rw[Kk];simp;omega):p:=h
theorem Bqh{p:Prop}(h:p:=by rw[Aw7];omega):p:=h
end Go.Pl
namespace Go.Pl
open Go Go.Lv
theorem Bm1(c:Nat)(h:c<4611686018427387904):Bq (c:Int) (2:Int)=((c/2:Nat):Int):=by
 rw[UW,Bkq F0,Cz F0 F0];omega
theorem Bkg(c:Nat)(h:c<4611686018427387904):Bq (c:Int) (8:Int)=((c/8:Nat):Int):=by
 rw[UW,Bkq F0,Cz F0 F0];omega
theorem Axu(c:Nat):Ha (c:Int) (8:Int)=((c %8:Nat):Int):=by rw[Ha,Bnn F0];omega
theorem Bnd(c:Nat):Ha (c:Int) (2:Int)=((c %2:Nat):Int):=by rw[Ha,Bnn F0];omega
theorem Ar0(i c:Nat)(hc:c<256):∀(j k q:Nat),k+j=i %8->j<q->Qz (i:Int) q ((c/2^k:Nat):Int) (k:Int)=some (((c/2^(i %8) %2:Nat):Int))
 |0,k,q+1,hk,_=>by
  rw[Qz,GH,Axu,Abu Bpi,cQ,cD,Bnd,show k=i %8 by omega]
 |j+1,k,q+1,hk,hq=>by
  have hle:c/2^k<=c:=Ayq _ _;rw[Qz,GH,Axu,Adi Bpi,Bm1 _ F0,Ag,Bmt,<-Bgy];exact Ar0 i c hc j (k+1) q F0 F0
theorem Q6(p:LB)(N:Int)(i:Nat)(h:i/8<p.length)(hi:i<4611686018427387904):Ok p N (i:Int)=some ((Hv p i:Nat):Int):=by
 have hc:=(p.getD (i/8) 0).toNat_lt;have:=Ar0 i (p.getD (i/8) 0).toNat (by simpa using hc) (i %8) 0 Au F0 F8;rw[Ok,cG,Bkg _ hi,Acn h,Aa,YK,cE];simpa [Hv]using this
theorem Abx(p:LB)(N:Int)(a n:Nat)(ha:a+n<=8*p.length)(hp:p.length<=1000000):∀(j q:Nat),j<=n->j<q->Lz (a:Int) p N q (Ro p (a+j) (n-j)) ((j:Int)-1)=some (Ro p a n)
 |0,q+1,_,_=>by
  rw[Lz,Yr,Abu Bpq];rfl
 |j+1,q+1,hj,hq=>by
  have hb:=EM p (a+j);rw[Lz,Yr,show((j+1:Nat):Int)-1=(j:Int) by omega,Adi Bpq,Ag (a:=(a:Int)) F0 F0,show(a:Int)+(j:Int)=((a+j:Nat):Int) by omega,Q6 p N (a+j) F0 F0,Aa,Bv];have e:Ae (Bi (2:UInt64) (Ro p (a+(j+1)) (n-(j+1)))) (Ad ((Hv p (a+j):Nat):Int):UInt64)=Ro p (a+j) (n-j):=by
   rw[TR,TK,Mx,Ro,Ro,show n-j=(n-(j+1))+1 by omega,Cf,show a+j+1=a+(j+1) by omega,UInt64.ofNat_add,UInt64.ofNat_mul];exact UInt64.add_comm _ _
  rw[e];exact Abx p N a n ha hp j q F0 F0
theorem yZ(p:LB)(N:Int)(a n:Nat)(ha:a+n<=8*p.length)(hp:p.length<=1000000):Xc p N (a:Int) (n:Int)=some (Ro p a n):=by
 have:=Abx p N a n ha hp n Au (An6 _) F8;have hz:Ro p (a+n) (n-n)=0:=by rw[Nat.sub_self];rfl
 rw[hz]at this;rw[Xc,OD,NU,Bv];exact this
theorem As9(bit:Int)(N:Nat)(l:LB):∀(j k q:Nat),k+j=N %8->j<q->Pf bit (N:Int) l q ((2^k:Nat):Int) (k:Int)=DH bit ((2^(N %8):Nat):Int) (N:Int) l
 |0,k,q+1,hk,_=>by
  rw[Pf,EE,Axu,Abu Bpi,show k=N %8 by omega]
 |j+1,k,q+1,hk,hq=>by
  have hp:2^k<=2^8:=Anl F0 F0;have e:Bi ((2^k:Nat):Int) 2=((2^(k+1):Nat):Int):=by
   rw[Bgy];generalize 2^k=K at*
   rw[Fa];omega
  rw[Pf,EE,Axu,Adi Bpi,e,Ag];exact As9 bit N l j (k+1) q F0 F0
theorem Acu(p:LB)(a n j:Nat)(h:j<(n+7)/8):(Sf p a n)[j]'(by rw[Kk];exact h)=UInt8.ofNat (Cf p (a+8*j) (min 8 (n-8*j))):=by simp[Sf]
theorem O8(p:LB)(a t:Nat)(h:t<=8):Cf p a t<256:=by
 have h1:=Rj p t a;have h2:2^t<=2^8:=Anl F0 h;omega
def room(p:LB)(a n:Nat):LB:=if n %8=0 then Sf p a n++[0]else Sf p a n
theorem Qo(p:LB)(a n:Nat):(room p a n).length=n/8+1:=by
 rw[room];split<;>simp[Kk]<;>omega
theorem Ani(p:LB)(a n j:Nat)(h:j<n/8+1):(room p a n)[j]'(by rw[Qo];exact h)=UInt8.ofNat (Cf p (a+8*j) (min 8 (n-8*j))):=by
 have h0:(room p a n)[j]? =some (UInt8.ofNat (Cf p (a+8*j) (min 8 (n-8*j)))):=by
  rw[room];split
  ·by_cases hj:j<(n+7)/8
   ·rw[List.getElem?_append_left (by rw[Kk];exact hj),List.getElem?_eq_getElem (by rw[Kk];exact hj),Acu p a n j hj]
   ·rw[List.getElem?_append_right (by rw[Kk];omega),Kk,show j-(n+7)/8=0 by omega,show n-8*j=0 by omega];rfl
  ·rw[List.getElem?_eq_getElem (by rw[Kk];omega),Acu p a n j F0]
 rw[List.getElem?_eq_getElem (by rw[Qo];exact h)]at h0;exact Axh h0
theorem M6(p:LB)(a n T:Nat)(h1:1<=T)(h:n %8+T<=8):(room p a n).set (n/8) (UInt8.ofNat (Cf p (a+8*(n/8)) (n %8+T)))=Sf p a (n+T):=by
 apply Bit (by rw[Bmx,Qo,Kk];omega);intro j g1 g2;rw[Bmx,Qo]at g1;rw[Bo6,Acu p a (n+T) j (by rw[Kk]at g2;exact g2)];split
 ·rename_i e;subst e;rw[show min 8 (n+T-8*(n/8))=n %8+T by omega]
 ·rw[Ani p a n j g1,show min 8 (n-8*j)=8 by omega,show min 8 (n+T-8*j)=8 by omega]
theorem vX(p:LB)(a n:Nat):(room p a n)[n/8]'(by rw[Qo];omega)=UInt8.ofNat (Cf p (a+8*(n/8)) (n %8)):=by
 rw[Ani p a n _ F0,show min 8 (n-8*(n/8))=n %8 by omega]
theorem Axm(p:LB)(a n:Nat)(hn:n<=400000):BZ (Sf p a n) (n:Int) ((Hv p (a+n):Nat):Int)=some (Sf p a (n+1),((n+1:Nat):Int)):=by
 have hb:=EM p (a+n);have hp:2^(n %8)<=2^7:=Anl F0 F0;have hroom:BZ (Sf p a n) (n:Int) ((Hv p (a+n):Nat):Int)=DM ((Hv p (a+n):Nat):Int) (n:Int) (room p a n):=by
  rw[BZ,WJ,Axu,room];by_cases h0:n %8=0
  ·rw[Adi (by rw[Ar,h0];rfl),Bf Bqg,Aa,Adi h0]
  ·rw[Abu Bpm,Abu h0]
 have hl:=As9 ((Hv p (a+n):Nat):Int) n (room p a n) (n %8) 0 Au F0 F8;rw[hroom,DM,WU,WE];refine Bma hl ?_;have hg:Am (room p a n) ((n/8:Nat):Int)=some (UInt8.ofNat (Cf p (a+8*(n/8)) (n %8))):=by
  rw[Bn (by rw[Qo];omega),vX]
 have hlt:=O8 p (a+8*(n/8)) (n %8+1) F0;have hsn:=vP p (a+8*(n/8)) (n %8);rw[show a+8*(n/8)+n %8=a+n by omega]at hsn;have hm:Bi ((Hv p (a+n):Nat):Int) ((2^(n %8):Nat):Int)=((2^(n %8)*Hv p (a+n):Nat):Int):=by
  have hle:2^(n %8)*Hv p (a+n)<=2^7*1:=Bhr hp F0;rw[Aw9,<-Aw3,Cz F0 Bqh,Aw7]
 have hx:Ae (UInt8.ofNat (Cf p (a+8*(n/8)) (n %8))) (Ad (((2^(n %8)*Hv p (a+n):Nat):Int)):UInt8)=UInt8.ofNat (Cf p (a+8*(n/8)) (n %8+1)):=by
  rw[Bfu,Ayt,hsn,UInt8.ofNat_add]
 rw[DH,WG,Bkg _ F0,hg,Aa,Aa,Aa,hm,hx,Tk _ (by rw[Qo];omega),Aa,M6 p a n 1 F0 F0,Ag];rfl
theorem M2(p:LB)(N:Int)(a n:Nat)(ha:a+n<=8*p.length)(hp:p.length<=1000000)(hn:n<=300000):∀(j m q:Nat),m+j=n->j<q->Jt ((a+n:Nat):Int) p N q ((a+m:Nat):Int) (m:Int) (Sf p a m)=some (Sf p a n,(n:Int))
 |0,m,q+1,hm,_=>by
  rw[Jt,Vu,Abu Bpi,show m=n by omega];rfl
 |j+1,m,q+1,hm,hq=>by
  rw[Jt,Vu,Adi Bpi,Q6 p N (a+m) F0 F0,Aa,Axm p a m F0,Aa];simp only;rw[Ag];exact M2 p N a n ha hp hn j (m+1) q F0 F0
theorem Aj5(p:LB)(N:Int)(a n:Nat)(ha:a+n<=8*p.length)(hp:p.length<=1000000)(hn:n<=300000):TJ p N (a:Int) ((a+n:Nat):Int)=some (Sf p a n,(n:Int)):=by
 have:=M2 p N a n ha hp hn n 0 Au F0 F8;exact this
theorem Bp7{p:Prop}(h:p:=by rw[Qo];omega):p:=h
theorem Bpz{p:Prop}(h:p:=by rw[Ap];simp):p:=h
end Go.Pl
namespace Go.Pl
open Go Go.Lv
variable{t:Nat}{p:Prop}
theorem Bhp(h:t<=8):Aq (Du (1:UInt64) t) (1:UInt64)=UInt64.ofNat (2^t-1):=by
 have:t=0\/t=1\/t=2\/t=3\/t=4\/t=5\/t=6\/t=7\/t=8:=F0
 rcases this with rfl|rfl|rfl|rfl|rfl|rfl|rfl|rfl|rfl<;>decide
theorem Bln(v:UInt64)(h:t<=8):(Ez v (Aq (Du (1:UInt64) t) (1:UInt64))).toNat=v.toNat %2^t:=by
 have hp:2^t<=2^8:=Anl F0 h;rw[Bhp h,Acg,UInt64.toNat_and,Ajs,Ajb (by have:=Bmr (n:=t) (show 0<2 by omega);omega),Bko]
theorem or8{v w i:Nat}(hv:v<2^i)(hw:w*2^i<256)(hi:i<8):zZ (UInt8.ofNat v) (Du (UInt8.ofNat w) i)=UInt8.ofNat (v+w*2^i):=by
 have hp:2^i<=2^8:=Anl F0 F0;have hpos:0<2^i:=Bmr F0;have hw2:w<256:=Bmm (Bo1 w hpos) hw;rw[Bh1];apply UInt8.toNat_inj.1;have e1:(UInt8.ofNat v).toNat=v:=by rw[Aw5,Ajb F0]
 have e2:(UInt8.ofNat w).toNat=w:=by rw[Aw5,Ajb F0]
 rw[UInt8.toNat_or,Bed,e1,e2,Ajb hw,Aw7 w,Nat.or_comm,<-Bj3 hv,Aw5,Bn7 v];rw[Aw7]at hw;have hb:2^i*w+v<256:=by
  rw[Bj3 hv];exact Nat.or_lt_two_pow (n:=8) hw F0
 rw[Ajb hb]
theorem Aln(p:LB)(a n T:Nat)(h:T<=n)(hn:n<=64):Cw (Ro p a n) T=Ro p (a+T) (n-T):=by
 apply UInt64.toNat_inj.1;rw[MR,BI p a n hn,BI p (a+T) (n-T) F0];have:=Rj p T a
 conv=>lhs;rw[show n=T+(n-T) by omega,TA,Nat.add_mul_div_left _ _ (Bmr F0),Bmg this,Bg2]
theorem Am5(p:LB)(a n T:Nat)(h:T<=n)(hn:n<=64):(Ro p a n).toNat %2^T=Cf p a T:=by
 have:=Rj p T a;rw[BI p a n hn]
 conv=>lhs;rw[show n=T+(n-T) by omega,TA,Nat.add_mul_mod_self_left,Ajb this]
theorem Ab4(bk:Int->Int->LB->Option (LB×Int×Int))(to':Int)(p:LB)(N fr:Int)(r6:UInt64)(a:Nat):∀(j m q:Nat),m+j<=300000->j<=64->j<q->
  Sk bk to' p N fr r6 q (Ro p (a+m) j) (j:Int) (m:Int) (Sf p a m)=XH bk to' p N fr ((m+j:Nat):Int) (Sf p a (m+j))
 |0,m,q+1,_,_,_=>by
  rw[Sk,XP,Abu Bpz];rfl
 |j+1,m,q+1,hm,hj,hq=>by
  have hroom:Sk bk to' p N fr r6 (q+1) (Ro p (a+m) (j+1)) ((j+1:Nat):Int) (m:Int) (Sf p a m)=XS (Sk bk to' p N fr r6 q) to' fr p N r6 (Ro p (a+m) (j+1)) ((j+1:Nat):Int) (m:Int) (room p a m):=by
   rw[Sk,XP,Adi Bpz,jw m F0,room];by_cases h0:m %8=0
   ·rw[Adi (by rw[Ar,h0];rfl),Bf Bqg,Aa,Adi h0]
   ·rw[Abu Bpm,Abu h0]
  have hl:Aq (Ac (room p a m)) 1=((m/8:Nat):Int):=by
   rw[Ac,Qo,Bv];omega
  have e2:Iu ((j+1:Nat):Int) (Aq (8:Int) ((m %8:Nat):Int))=((min (j+1) (8-m %8):Nat):Int):=by
   rw[IY,Bv];omega
  rw[hroom,XS,O6,jw m F0,e2,hl];generalize hT:min (j+1) (8-m %8)=T;have hT1:1<=T:=F0
  have hT8:m %8+T<=8:=F0
  have hg:Am (room p a m) ((m/8:Nat):Int)=some (UInt8.ofNat (Cf p (a+8*(m/8)) (m %8))):=by
   rw[Bn Bp7,vX]
  have z1:(GI.toZ ((m %8:Nat):Int)).toNat=m %8:=rfl;have z2:(GI.toZ ((T:Nat):Int)).toNat=T:=rfl;have hlt:=O8 p (a+8*(m/8)) (m %8+T) F0;have hadd:=TA p (m %8) T (a+8*(m/8));rw[show a+8*(m/8)+m %8=a+m by omega]at hadd;have hbyte:(Ad (Ez (Ro p (a+m) (j+1)) (Aq (Du (1:UInt64) T) (1:UInt64))):UInt8)=UInt8.ofNat (Cf p (a+m) T):=by
   rw[bU,Bln _ F0,Am5 p (a+m) (j+1) T F0 hj]
  have hnew:zZ (UInt8.ofNat (Cf p (a+8*(m/8)) (m %8))) (Du (UInt8.ofNat (Cf p (a+m) T)) (m %8))=UInt8.ofNat (Cf p (a+8*(m/8)) (m %8+T)):=by
   rw[or8 (Rj _ _ _) Bqh F0,hadd,Aw7 (2^(m %8))]
  rw[hg,z1,z2,hbyte];simp only[Aa];rw[Bk Bpq,Aa,Bk Bpp,Aa,hnew,Tk _ Bp7,Aa,M6 p a m T hT1 hT8,K4,I4,jw m F0,e2,hT,Bk Bpq,Aa,z2,Aln p (a+m) (j+1) T F0 hj,Bv,Ag];have ih:=Ab4 bk to' p N fr r6 a (j+1-T) (m+T) q F0 F0 F0;rw[show m+T+(j+1-T)=m+(j+1) by omega]at ih;rw[<-ih,show a+m+T=a+(m+T) by omega,show((j+1:Nat):Int)-((T:Nat):Int)=((j+1-T:Nat):Int) by omega,show(m:Int)+((T:Nat):Int)=((m+T:Nat):Int) by omega]
theorem Ale(p:LB)(N:Int)(a n:Nat)(ha:a+n<=8*p.length)(hp:p.length<=1000000)(hn:n<=300000):∀(j m f q:Nat),(f=m\/n<=f/\m=n)->m+j=n->f<=n+64->j<q->BS ((a+n:Nat):Int) p N q ((a+f:Nat):Int) (m:Int) (Sf p a m)=some (Sf p a n,(n:Int),0)
 |j,m,f,q+1,hf,hm,hf2,hq=>by
  rw[BS,nR];by_cases hlt:f<n
  ·obtain rfl:f=m:=F0
   have e1:Iu (64:Int) (Aq ((a+n:Nat):Int) ((a+f:Nat):Int))=((min 64 (n-f):Nat):Int):=by
    rw[IY,Bv];omega
   rw[Adi Bpi,e1,get_eq p N (a+f) _ F0 F0 hp,Aa,nU];have h1:=Ab4 (BS ((a+n:Nat):Int) p N q) ((a+n:Nat):Int) p N ((a+f:Nat):Int) (Ro p (a+f) (min 64 (n-f))) a (min 64 (n-f)) f Au F0 F0 F8;refine Bma h1 ?_;rw[XH,I2,Ag,show((a+f:Nat):Int)+64=((a+(f+64):Nat):Int) by omega];exact Ale p N a n ha hp hn (j-min 64 (n-f)) (f+min 64 (n-f)) (f+64) q F0 F0 F0 F0
  ·rw[Abu Bpi,mB,M1,show m=n by omega]
theorem Bh6{p:LB}{N:Nat}(h:okB p N)(a n:Nat)(ha:a+n<=N)(hn:n<=300000):tC p (N:Int) (a:Int) ((a+n:Nat):Int)=some (Sf p a n,(n:Int),0):=by
 obtain⟨h1,h2,h3⟩:=h;have:=Ale p N a n F0 F0 hn n 0 0 Au F0 F0 F0 F8;rw[tC,tK,CD ⟨h1,h2,h3⟩,Aa,Abu Bpk,Abu Bpo,D7];exact this
theorem Bqb(h:p:=by simp[Af];omega):p:=h
theorem Bpr(h:p:=by rw[Af];simp):p:=h
end Go.Pl
namespace Go.Pl
open Go Go.Lv
variable{p:LB}{n N a k l:Nat}{t s:UInt64}
def He(p:LB):Nat->Nat->Nat
 |_,0=>0
 |a,m+1=>if Hv p a=1 then 1+He p (a+1) m else 0
theorem dZ(p:LB):∀(m a:Nat),He p a m<=m
 |0,_=>An6 _
 |m+1,a=>by rw[He];split<;>have:=dZ p m (a+1)<;>omega
theorem Alx(p:LB):∀(m a:Nat),∃s,Cf p a m+1=2^(He p a m+1)*s+2^He p a m/\ (He p a m=m->s=0)
 |0,a=>⟨0,by simp[Cf,He],λ_=>rfl⟩
 |m+1,a=>by
  have hb:=EM p a;obtain⟨s,h1,h2⟩:=Alx p m (a+1);by_cases h:Hv p a=1
  ·refine⟨s,?_,λe=>h2 ?_⟩
   ·rw[He,Adi h,Cf,h,show 1+He p (a+1) m+1=(He p (a+1) m+1)+1 by omega,show 1+He p (a+1) m=He p (a+1) m+1 by omega,Bgy,Bgy (n:=2) (m:=He p (a+1) m)];rw[Bgy]at h1;generalize Cf p (a+1) m=V at*
    generalize 2^He p (a+1) m=W at*
    have e1:W*2*2*s=2*(W*2*s):=by rw[Nat.mul_right_comm (W*2) 2 s,Aw7]
    omega
   ·rw[He,Adi h]at e;omega
  ·refine⟨Cf p (a+1) m,?_,λe=>?_⟩
   ·rw[He,Abu h,Cf];simp;omega
   ·rw[He,Abu h]at e;omega
theorem Bfo{t s:Nat}(h:2^(t+1)*s+2^t<=2^n)(ht:t<n)(x:Nat)(hx:x=2^n-(2^(t+1)*s+2^t)):x&&& (2^(t+1)*s+2^t)=2^t:=by
 have hpos:0<2^t:=Bmr F0;have hlt:2^t<2^(t+1):=by rw[Bgy];omega
 have e:x=2^n-((2^(t+1)*s+(2^t-1))+1):=by rw[hx];congr 1;omega
 apply Nat.eq_of_testBit_eq;intro i;rw[Nat.testBit_and,e,Nat.testBit_two_pow_sub_succ F0,Nat.testBit_two_pow_mul_add _ F0,Nat.testBit_two_pow_mul_add _ hlt];by_cases hi:i<t+1
 ·rw[Adi hi,Adi hi,Nat.testBit_two_pow_sub_one,Nat.testBit_two_pow];by_cases hit:t=i
  ·subst hit;simp;exact ht
  ·have:¬i=t:=λe=>hit e.symm;simp[hit]
 ·rw[Abu hi,Abu hi,Nat.testBit_two_pow];have:¬t=i:=F0
  simp[this]
theorem Ba5(a:UInt64):(Acr a).toNat=18446744073709551615-a.toNat:=by
 have h:=a.toNat_lt;have e:Acr a=UInt64.ofNat (BitVec.ofInt 64 18446744073709551615^^^BitVec.ofInt 64 (a.toNat:Int)).toNat:=Gj _;have h1:BitVec.ofInt 64 (a.toNat:Int)=a.toBitVec:=Ain a;have h2:(BitVec.ofInt 64 18446744073709551615:BitVec 64)=BitVec.allOnes 64:=F2
 rw[e,Ajs,h1,h2,BitVec.allOnes_xor,BitVec.toNat_not];show(18446744073709551616-1-a.toNat) %18446744073709551616=18446744073709551615-a.toNat;omega
theorem Azo(a:UInt64):(G4 a).toNat=(18446744073709551616-a.toNat) %18446744073709551616:=by
 have h:=a.toNat_lt;have e:G4 a=UInt64.ofNat ((0-(a.toNat:Int)) %18446744073709551616).toNat:=Ahy _;rw[e,Ajs];show((0-(a.toNat:Int)) %18446744073709551616).toNat %18446744073709551616=_;omega
def Bll:LB:=[0,1,56,2,57,49,28,3,61,58,42,50,38,29,17,4,62,47,59,36,45,43,51,22,53,39,33,30,24,18,12,5,63,55,48,27,60,41,37,16,46,35,44,21,52,32,23,11,54,26,40,15,34,20,31,10,25,14,19,9,13,8,7,6]
theorem At9:∀t:Fin 64,Am Bll (GI.toZ (Cw (Bi (UInt64.ofNat (2^t.val)) (285870213051353865:UInt64)) (GI.toZ (58:UInt64)).toNat))=some (UInt8.ofNat t.val):=by decide +kernel
theorem Bk0(x:UInt64)(t s:Nat)(ht:t<64)(h:x.toNat+(2^(t+1)*s+2^t)=18446744073709551616):If x=some (t:Int):=by
 have hpos:0<2^t:=Bmr F0;have hx:x.toNat=2^64-(2^(t+1)*s+2^t):=by show x.toNat=18446744073709551616-_;omega
 have hle:2^t<=2^63:=Anl F0 F0;have hne:x≠0:=by
  intro e;rw[e]at h;have h':2^t*(2*s+1)=2^64:=by
   rw[Nat.mul_add,Nat.mul_one,<-Bg8,<-Bgy]
   show _=18446744073709551616;simpa using h
  have h2:2^64=2^t*2^(64-t):=by rw[<-Bo0];congr 1;omega
  rw[h2]at h';have h3:=Nat.eq_of_mul_eq_mul_left hpos h';rw[show 64-t=(63-t)+1 by omega,Bgy]at h3;omega
 have hx0:x.toNat≠0:=λe=>hne (UInt64.toNat_inj.1 e);have hl:Ez x (G4 x)=UInt64.ofNat (2^t):=by
  apply UInt64.toNat_inj.1;rw[Acg,UInt64.toNat_and,Azo,show(18446744073709551616-x.toNat) %18446744073709551616=2^(t+1)*s+2^t by omega,Bfo (n:=64) (by show _<=18446744073709551616;omega) ht _ hx,Ajs,Ajb];exact Bmm hle F2
 have hb:=At9 ⟨t,ht⟩;rw[If,Abu (by rw[vQ];simpa using hne),hl];refine Bma (congrArg (λo=>Option.bind o λc=>some (Ad c:Int)) hb) ?_;rw[Aa,YK,Aw5,Ajb (by show t<256;omega)]
theorem Bf0(p:LB)(a m:Nat)(hm:m<=48):If (Acr (Ro p a m))=some ((He p a m:Nat):Int):=by
 obtain⟨s,h1,h2⟩:=Alx p m a;have hle:=dZ p m a;have hlt:=Rj p m a;have h48:2^m<=2^48:=Anl F0 hm;have hn:(Acr (Ro p a m)).toNat=18446744073709551615-Cf p a m:=by rw[Ba5,BI p a m F0]
 have h3:(281474976710656:Nat)=2^48:=rfl;refine Bk0 _ (He p a m) s F0 ?_;rw[hn];omega
def unS(p:LB)(N a:Nat):Int×Int×Int:=
 if He p a (min 48 (N-a))<min 48 (N-a)then((He p a (min 48 (N-a)):Nat),((a+He p a (min 48 (N-a))+1:Nat):Int),0)else
 if He p a (min 48 (N-a))=48 then(48,((a+48:Nat):Int),0)else(0,0,24)
theorem Bam(h:okB p N)(a:Nat)(ha:a<N):QE p (N:Int) (a:Int)=some (unS p N a):=by
 have hN:=h.1;have e1:Iu (48:Int) (Aq (N:Int) (a:Int))=((min 48 (N-a):Nat):Int):=by rw[IY,Bv];omega
 have hle:=dZ p (min 48 (N-a)) a;rw[QE,EU,CD h,Aa,Abu Bpk,Abu Bpr,Abu Bpp,e1,Y2 h a _ F0,Abu F0,Aa];simp only;rw[gM,yM,Abu Bpk,Bf0 p a _ F0,Aa,yP,yD,e1,unS];by_cases h1:He p a (min 48 (N-a))<min 48 (N-a)
 ·rw[Adi Bpi,Adi h1,Ag (a:=(a:Int)) F0 F0,show Ae (0:Int) 1=1 by decide,Ag];congr 3;omega
 ·rw[Abu Bpi,Abu h1,yK,xX];by_cases h2:He p a (min 48 (N-a))=48
  ·rw[Adi (by rw[Ar,h2];rfl),Adi h2,h2,Ag (a:=(a:Int)) F0 F0,Ag];congr 3;omega
  ·rw[Abu Bpm,Abu h2];rfl
theorem Agg(p:LB):∀(m a:Nat),He p a m<m->Hv p (a+He p a m)≠1
 |0,_,h=>by simp[He]at h
 |m+1,a,h=>by
  by_cases hb:Hv p a=1
  ·rw[He,Adi hb]at h⊢;have:=Agg p m (a+1) F0;rwa [show a+(1+He p (a+1) m)=a+1+He p (a+1) m by omega]
  ·rw[He,Abu hb];exact hb
theorem Aft(p:LB):∀(m a k:Nat),k<He p a m->Hv p (a+k)=1
 |0,a,k,h=>by simp[He]at h
 |m+1,a,k,h=>by
  by_cases hb:Hv p a=1
  ·rw[He,Adi hb]at h;cases k with
   |zero=>exact hb
   |succ k=>
    have:=Aft p m (a+1) k F0;rwa [show a+(k+1)=a+1+k by omega]
  ·rw[He,Abu hb]at h;omega
def unR(p:LB)(N a:Nat):Int×Int:=if(unS p N a).2.2=0 then((unS p N a).1,(unS p N a).2.1)else(-1,0)
theorem Adb{p:LB}{N:Nat}(h:okB p N)(a:Nat)(ha:a<N):∀(j k q:Nat),k+j=He p a (min 48 (N-a))->j<q->Ot (a:Int) p (N:Int) q (k:Int)=some (unR p N a)
 |0,k,q+1,hk,_=>by
  obtain⟨hN,hl,hz⟩:=h;have hle:=dZ p (min 48 (N-a)) a;have hk':k=He p a (min 48 (N-a)):=F0
  have e1:Ae (a:Int) (k:Int)=((a+k:Nat):Int):=by rw[Ag];omega
  have hend:ED (a:Int) (k:Int) p (N:Int)=some (unR p N a):=by
   rw[ED,WX,e1];by_cases h48:k=48
   ·have hu:unS p N a=(48,((a+48:Nat):Int),0):=by rw[unS,<-hk',Abu F0,Adi h48]
    rw[Adi (by rw[Ar,h48];rfl),unR,hu,h48];rfl
   ·rw[Abu Bpm];by_cases hN2:N<=a+k
    ·have hu:unS p N a=(0,0,24):=by rw[unS,<-hk',Abu F0,Abu h48]
     rw[Adi Bpp,unR,hu];rfl
    ·have hu:unS p N a=(((k:Nat):Int),((a+k+1:Nat):Int),0):=by rw[unS,<-hk',Adi F0]
     rw[Abu Bpp,unR,hu,Ag];rfl
  rw[Ot,DX,e1];by_cases hc:a+k<N/\k<48
  ·have hb:=EM p (a+k);have hs:=Agg p (min 48 (N-a)) a F0;rw[<-hk']at hs;rw[Adi Bqb,Q6 p _ (a+k) F0 F0,Aa,Abu Bpm,hend]
  ·rw[Abu Bqb,hend]
 |j+1,k,q+1,hk,hq=>by
  obtain⟨hN,hl,hz⟩:=h;have hle:=dZ p (min 48 (N-a)) a;have hb:=Aft p (min 48 (N-a)) a k F0;have e1:Ae (a:Int) (k:Int)=((a+k:Nat):Int):=by rw[Ag];omega
  rw[Ot,DX,e1,Adi Bqb,Q6 p _ (a+k) F0 F0,Aa,hb,Adi F2,Ag];exact Adb ⟨hN,hl,hz⟩ a ha j (k+1) q F0 F0
theorem Aym(h:okB p N)(a:Nat)(ha:a<N):jH p (N:Int) (a:Int)=some (unR p N a):=by
 have hle:=dZ p (min 48 (N-a)) a;have:=Adb h a ha (He p a (min 48 (N-a))) 0 Au F0 F8;exact this
theorem Ay4(h:He p a (min 48 (N-a))<min 48 (N-a)):unS p N a=(((He p a (min 48 (N-a)):Nat):Int),((a+He p a (min 48 (N-a))+1:Nat):Int),0):=by rw[unS,Adi h]
theorem Bar(h:¬He p a (min 48 (N-a))<min 48 (N-a))(h2:He p a (min 48 (N-a))=48):unS p N a=(48,((a+48:Nat):Int),0):=by rw[unS,Abu h,Adi h2]
theorem Ax3(h:¬He p a (min 48 (N-a))<min 48 (N-a))(h2:¬He p a (min 48 (N-a))=48):unS p N a=(0,0,24):=by rw[unS,Abu h,Abu h2]
theorem Aun(h:okB p N)(a:Nat)(ha:N<=a):QE p (N:Int) (a:Int)=some (0,0,24):=by
 rw[QE,EU,CD h,Aa,Abu Bpk,Abu Bpr,Adi Bpp]
def YY(p:LB)(N a k:Nat):UInt32×Int×Int:=
 if N<=a then(0,0,24)else
 if He p a (min 48 (N-a))<min 48 (N-a)then
  (if N<a+He p a (min 48 (N-a))+1+k then(0,0,24)else(UInt32.ofNat (He p a (min 48 (N-a))*2^k+Cf p (a+He p a (min 48 (N-a))+1) k),((a+He p a (min 48 (N-a))+1+k:Nat):Int),0))
 else if He p a (min 48 (N-a))=48 then
  (if N<a+48+32 then(0,0,24)else if Cf p (a+48) 32/2^k<48 then(0,0,12)else(UInt32.ofNat (Cf p (a+48) 32),((a+48+32:Nat):Int),0))
 else(0,0,24)
theorem H9(h:n<=32):(Ad (Ro p a n):UInt32)=UInt32.ofNat (Cf p a n):=by
 have e:(Ad (Ro p a n):UInt32)=UInt32.ofNat (Ro p a n).toNat:=by simp only[Ad,Is,Gi]
 rw[e,BI p a n F0]
theorem eB(h:n<4294967296):(UInt32.ofNat n).toNat=n:=by rw[Asg];exact Ajb h
theorem Als(p:LB)(a:Nat)(h:n<=32):Cf p a n<4294967296:=by
 have h1:=Rj p n a;have h2:2^n<=2^32:=Anl F0 h;omega
theorem Bi3{q v:Nat}(hq:q<48)(hv:v<2^k)(hk:k<=24):zZ (Du (Ad (q:Int):UInt32) k) (UInt32.ofNat v)=UInt32.ofNat (q*2^k+v):=by
 have hp:2^k<=2^24:=Anl F0 hk;have h1:q*2^k<=47*2^24:=Bhr F0 hp;rw[Beb];apply UInt32.toNat_inj.1;rw[UInt32.toNat_or,qT,Agq,eB F0,eB (n:=v) F0,Ajb F0,Aw7 q,<-Bj3 hv,eB Bqh]
theorem Bd5(h:okB p N)(a k:Nat)(hk:k<=24):wF p (N:Int) (a:Int) (k:Int)=some (YY p N a k):=by
 have hN:=h.1;rw[wF,J7,CD h,Aa,Abu Bpk,Abu Bpo];by_cases ha:N<=a
 ·rw[Aun h a ha,Aa,YY,Adi ha];rfl
 have hle:=dZ p (min 48 (N-a)) a;rw[Bam h a F0,Aa];by_cases h1:He p a (min 48 (N-a))<min 48 (N-a)
 ·have hS:YY p N a k=if N<a+He p a (min 48 (N-a))+1+k then(0,0,24)else(UInt32.ofNat (He p a (min 48 (N-a))*2^k+Cf p (a+He p a (min 48 (N-a))+1) k),((a+He p a (min 48 (N-a))+1+k:Nat):Int),0):=by rw[YY,Abu ha,Adi h1]
  rw[Ay4 h1,hS];generalize He p a (min 48 (N-a))=q at*
  simp only;rw[Abu Bpk,Abu Bpm,oB,nB,Y2 h _ k F0,Aa];by_cases h2:N<a+q+1+k
  ·rw[Adi h2,Adi h2];rfl
  ·rw[Abu h2,Abu h2];simp only;have z:(GI.toZ (k:Int)).toNat=k:=rfl;rw[Abu Bpk,Adi Bpi,Bk Bpq,Aa,z,H9 F0,Bi3 F0 (Rj _ _ _) hk,Ag];rfl
 ·by_cases h2:He p a (min 48 (N-a))=48
  ·have hS:YY p N a k=if N<a+48+32 then(0,0,24)else if Cf p (a+48) 32/2^k<48 then(0,0,12)else(UInt32.ofNat (Cf p (a+48) 32),((a+48+32:Nat):Int),0):=by rw[YY,Abu ha,Abu h1,Adi h2]
   have hg:=Y2 h (a+48) 32 F0;rw[Bar h1 h2,hS];simp only;rw[Abu Bpk,Adi Bp3,oB,nB];refine Bma (congrArg (λo=>Option.bind o _) hg) ?_;rw[Aa];by_cases h3:N<a+48+32
   ·rw[Adi h3,Adi h3];rfl
   ·rw[Abu h3,Abu h3];simp only;have z:(GI.toZ (k:Int)).toNat=k:=rfl;have hv:=Als p (a+48) (n:=32) F0;rw[Abu Bpk,Abu Bpr,CV,Bk Bpq,Aa,Aa,z,H9 F0,Arl];have e:(decide ((48:UInt32).toNat<= (Cw (UInt32.ofNat (Cf p (a+48) 32)) k).toNat))=decide (¬Cf p (a+48) 32/2^k<48):=by
     rw[SC,eB hv];simp
    rw[e];by_cases h4:Cf p (a+48) 32/2^k<48
    ·rw[Adi (by simp[h4]),Adi h4]
    ·rw[Abu F7,Abu h4,Ag];rfl
  ·rw[Ax3 h1 h2,YY,Abu ha,Abu h1,Abu h2];rfl
theorem Ab2(k:Nat)(hk:k<=63):∀(j i q:Nat),i+j=k->j<q->Ly (k:Int) q (UInt64.ofNat (2^i)) (i:Int)=some (UInt64.ofNat (2^k))
 |0,i,q+1,hi,_=>by
  rw[Ly,Yu,Abu Bpi,show i=k by omega];rfl
 |j+1,i,q+1,hi,hq=>by
  have e:Bi (UInt64.ofNat (2^i)) (2:UInt64)=UInt64.ofNat (2^(i+1)):=by
   rw[TK,Bgy,UInt64.ofNat_mul];rfl
  rw[Ly,Yu,Adi Bpi,Ag,e];exact Ab2 k hk j (i+1) q F0 F0
theorem TM(k:Nat)(hk:k<=63):Hn (k:Int)=some (UInt64.ofNat (2^k)):=
 Ab2 k hk k 0 Au F0 F8
theorem dT(hk:k<=63):(UInt64.ofNat (2^k)).toNat=2^k:=by
 have hp:2^k<=2^63:=Anl F0 hk;rw[Ajs,Ajb F0]
theorem Bdl(v:UInt32)(k:Nat)(hk:k<=24):IZ v (k:Int)=some ((min 48 (v.toNat/2^k):Nat):Int):=by
 have hpos:0<2^k:=Bmr F0;have hv:=v.toNat_lt;rw[IZ,TM k F0,Aa,Bk (by rw[XN];simp only[Box,ne_eq,<-Bng,dT (show k<=63 by omega)];simp),Aa];have e:(Bq (Ad v:UInt64) (UInt64.ofNat (2^k))).toNat=v.toNat/2^k:=by
  rw[M0,Bo5,Ed,dT F0,Ajs,Ajb F0]
 have hle:v.toNat/2^k<=v.toNat:=Ayq _ _;have e2:Iu (48:UInt64) (Bq (Ad v:UInt64) (UInt64.ofNat (2^k)))=UInt64.ofNat (min 48 (v.toNat/2^k)):=by
  apply UInt64.toNat_inj.1;rw[Ajs,Ajb F0];show(if _ then _ else _:UInt64).toNat=_;rw[show(GI.toZ (Bq (Ad v:UInt64) (UInt64.ofNat (2^k))))=((v.toNat/2^k:Nat):Int) by rw[Is,e],show GI.toZ (48:UInt64)=48 from rfl];split
  ·rw[e];omega
  ·show 48=_;omega
 rw[e2,wU (by rw[Ajs,Ajb]<;>omega),Ajs,Ajb F0]
theorem Ayh(h:okB p N)(a k:Nat)(hk:k<=24):PY p (N:Int) (a:Int) (k:Int)=some (YY p N a k):=by
 obtain⟨hN,hl,hz⟩:=h;have h:okB p N:=⟨hN,hl,hz⟩;rw[PY,WB];by_cases ha:N<=a
 ·rw[Adi Bpp,YY,Adi ha]
 have hle:=dZ p (min 48 (N-a)) a;rw[Abu Bpp,Aym h a F0,Aa,unR];by_cases h1:He p a (min 48 (N-a))<min 48 (N-a)
 ·have hS:YY p N a k=if N<a+He p a (min 48 (N-a))+1+k then(0,0,24)else(UInt32.ofNat (He p a (min 48 (N-a))*2^k+Cf p (a+He p a (min 48 (N-a))+1) k),((a+He p a (min 48 (N-a))+1+k:Nat):Int),0):=by rw[YY,Abu ha,Adi h1]
  rw[Ay4 h1,hS];generalize He p a (min 48 (N-a))=q at*
  rw[Adi rfl];simp only;rw[Abu Bpm,DZ,DP,Bv];by_cases h2:N<a+q+1+k
  ·rw[Adi Bqb,Adi h2]
  ·have hp:2^k<=2^24:=Anl F0 hk;have hm:q*2^k<=47*2^24:=Bhr F0 hp;have hv:=Rj p k (a+q+1);have e:(Ad (Ae (Bi (Ad (q:Int):UInt64) (UInt64.ofNat (2^k))) (Ro p (a+q+1) k)):UInt32)=UInt32.ofNat (q*2^k+Cf p (a+q+1) k):=by
    have e1:Ae (Bi (Ad (q:Int):UInt64) (UInt64.ofNat (2^k))) (Ro p (a+q+1) k)=UInt64.ofNat (q*2^k+Cf p (a+q+1) k):=by
     rw[TR,TK,Mx,Ro,UInt64.ofNat_add,UInt64.ofNat_mul]
    rw[e1];have e2:∀x:UInt64,(Ad x:UInt32)=UInt32.ofNat x.toNat:=λx=>by simp only[Ad,Is,Gi]
    rw[e2,Ajs,Ajb F0]
   rw[Abu Bqb,Abu h2,yZ p _ _ k F0 F0,Aa,Adi Bpi,TM k F0,Aa,e,Ag];rfl
 ·by_cases h2:He p a (min 48 (N-a))=48
  ·have hS:YY p N a k=if N<a+48+32 then(0,0,24)else if Cf p (a+48) 32/2^k<48 then(0,0,12)else(UInt32.ofNat (Cf p (a+48) 32),((a+48+32:Nat):Int),0):=by rw[YY,Abu ha,Abu h1,Adi h2]
   rw[Bar h1 h2,hS,Adi rfl];simp only;rw[Adi Bp3,DZ,DP,Bv];by_cases h3:N<a+48+32
   ·rw[Adi Bqb,Adi h3]
   ·have hg:=yZ p (N:Int) (a+48) 32 F0 F0;have hv:=Als p (a+48) (n:=32) F0;rw[Abu Bqb,Abu h3];refine Bma (congrArg (λo=>Option.bind o _) hg) ?_;rw[Aa,Abu Bpr,H9 F0,Bdl _ k hk,Aa,eB hv];by_cases h4:Cf p (a+48) 32/2^k<48
    ·rw[Adi Bpi,Adi h4]
    ·rw[Abu Bpi,Abu h4,Ag];rfl
  ·rw[Ax3 h1 h2,YY,Abu ha,Abu h1,Abu h2];have e:(if((0:Int),(0:Int),(24:Int)).2.2=0 then(((0:Int),(0:Int),(24:Int)).1,((0:Int),(0:Int),(24:Int)).2.1)else((-1:Int),(0:Int)))=(-1,0):=F2
   rw[e];rfl
theorem Bhy{v:UInt32}{n:Int}(h:YY p N a k=(v,n,0)):(a:Int)<n/\n<=N:=by
 unfold YY at h;split at h
 ·simp at h
 split at h
 ·split at h
  ·simp at h
  ·simp only[Aki]at h;omega
 ·split at h
  ·split at h
   ·simp at h
   ·split at h
    ·simp at h
    ·simp only[Aki]at h;omega
  ·simp at h
def okD(k l:Nat)(s t:UInt64):Prop:=k<=24/\l<=24/\s.toNat<=68719476735/\t.toNat<=68719476735
theorem Alw(a b:UInt64)(h:a.toNat<=b.toNat):Iu a b=a:=by
 show(if _ then _ else _)=_;rw[Is,Is,Abu F0]
theorem E7(a:UInt64):geq a a=true:=by rw[vQ];simp
theorem Axg(h:okD k l s t):bV (k:Int) (l:Int) s t=some 0:=by
 obtain⟨h1,h2,h3,h4⟩:=h;have e1:Iu (H5 (k:Int) 0) 24=(k:Int):=by rw[IY,Ait];omega
 have e2:Iu (H5 (l:Int) 0) 24=(l:Int):=by rw[IY,Ait];omega
 have e3:Iu s (68719476735:UInt64)=s:=Alw _ _ (by simpa using h3);have e4:Iu t (68719476735:UInt64)=t:=Alw _ _ (by simpa using h4);have e5:∀a:Int,geq a a=true:=λa=>by rw[Ar];simp
 rw[bV,RJ,iD,QZ,gA,xT,e1,e2,e3,e4,e5,e5,E7,E7];rfl
def Zs(s n:UInt64):UInt64:=s+n-s/16
def kS(k:Nat)(s:UInt64):Nat:=if 0<k/\s.toNat<2^(k+4)then k-1 else if k<24/\2^(k+5)<s.toNat then k+1 else k
theorem Bgx(h:k<=24)(s:UInt64):kS k s<=24:=by
 unfold kS;by_cases h1:0<k/\s.toNat<2^(k+4)
 ·rw[Adi h1];omega
 ·rw[Abu h1];split<;>omega
theorem Arj(h:¬(0<k/\s.toNat<2^(k+4))):(if k<24/\2^(k+5)<s.toNat then((k+1:Nat):Int)else(k:Int))=((kS k s:Nat):Int):=by
 rw[kS,Abu h];split<;>rfl
theorem Arm{n:UInt64}(h:s.toNat<=68719476735)(hn:n.toNat<=4294967295):(Zs s n).toNat<=68719476735:=by
 have h1:=s.toNat_lt;have e:(s+n).toNat=s.toNat+n.toNat:=by rw[UInt64.toNat_add];omega
 have e2:(s/16).toNat=s.toNat/16:=by rw[Bo5];rfl
 rw[Zs,UInt64.toNat_sub_of_le _ _ (by rw[UInt64.le_iff_toNat_le,e,e2];omega),e,e2];omega
theorem iU(s n:UInt64):Ae s (Aq n (Cw s (GI.toZ (4:UInt64)).toNat))=Zs s n:=by
 have e:Cw s (GI.toZ (4:UInt64)).toNat=s/16:=by
  apply UInt64.toNat_inj.1;rw[MR,Bo5];rfl
 rw[e,TR,N0,Zs,UInt64.sub_eq_add_neg,UInt64.sub_eq_add_neg,UInt64.add_assoc]
theorem Arw(s n:UInt64):Aq (Ae s n) (Bq s (16:UInt64))=Zs s n:=by rw[TR,N0,M0,Zs]
theorem Bkk(h:k<=24):(Du (16:UInt64) k).toNat=2^(k+4):=by
 have hp:2^k<=2^24:=Anl F0 h;rw[cN,Bo0]
 show 16*2^k %_=2^k*16;rw[Ajb F0,Aw7]
theorem Bjd(h:k<=24):(Du (32:UInt64) k).toNat=2^(k+5):=by
 have hp:2^k<=2^24:=Anl F0 h;rw[cN,Bo0]
 show 32*2^k %_=2^k*32;rw[Ajb F0,Aw7]
theorem Bgo(h:0<k)(h2:s.toNat<2^(k+4)):kS k s=k-1:=by rw[kS,Adi ⟨h,h2⟩]
theorem Bg4(h:¬(0<k/\s.toNat<2^(k+4)))(h2:k<24)(h3:2^(k+5)<s.toNat):kS k s=k+1:=by rw[kS,Abu h,Adi ⟨h2,h3⟩]
theorem Art(h:¬(0<k/\s.toNat<2^(k+4)))(h2:¬(k<24/\2^(k+5)<s.toNat)):kS k s=k:=by rw[kS,Abu h,Abu h2]
theorem Atd{α:Type}(k:Nat)(hk:k<=24)(s:UInt64)(f:Int->Option α):
  (if(Dx (k:Int) (0:Int))=true then(
   Option.bind (Jg (Mk (k:Int) (0:Int))) λ_=>
   if(Cj s (Du (16:UInt64) (GI.toZ (k:Int)).toNat))=true then f (Aq (k:Int) (1:Int))
   else(if(Cj (k:Int) (24:Int))=true then(
    Option.bind (Jg (Mk (k:Int) (0:Int))) λ_=>
    if(Dx s (Du (32:UInt64) (GI.toZ (k:Int)).toNat))=true then f (Ae (k:Int) (1:Int))else f (k:Int))
    else f (k:Int)))
  else(if(Cj (k:Int) (24:Int))=true then(
    Option.bind (Jg (Mk (k:Int) (0:Int))) λ_=>
    if(Dx s (Du (32:UInt64) (GI.toZ (k:Int)).toNat))=true then f (Ae (k:Int) (1:Int))else f (k:Int))
    else f (k:Int)))=f ((kS k s:Nat):Int):=by
 have z:(GI.toZ (k:Int)).toNat=k:=rfl;rw[z,Bk Bpq];simp only[Aa];rw[wI,Uc,Bkk hk,Bjd hk];by_cases h0:0<k
 ·rw[Adi Bpn];by_cases h1:s.toNat<2^(k+4)
  ·rw[Adi (by simp[h1]),Bgo h0 h1,Bv];congr 1;omega
  ·rw[Abu F7];by_cases h2:k<24
   ·rw[Adi Bpi];by_cases h3:2^(k+5)<s.toNat
    ·rw[Adi (by simp[h3]),Bg4 (λh=>h1 h.2) h2 h3,Ag];rfl
    ·rw[Abu F7,Art (λh=>h1 h.2) (λh=>h3 h.2)]
   ·rw[Abu Bpi,Art (λh=>h1 h.2) (λh=>h2 h.1)]
 ·rw[Abu Bpn];by_cases h2:k<24
  ·rw[Adi Bpi];by_cases h3:2^(k+5)<s.toNat
   ·rw[Adi (by simp[h3]),Bg4 (λh=>h0 h.1) h2 h3,Ag];rfl
   ·rw[Abu F7,Art (λh=>h0 h.1) (λh=>h3 h.2)]
  ·rw[Abu Bpi,Art (λh=>h0 h.1) (λh=>h2 h.1)]
theorem As1(k:Nat)(hk:k<=24)(s n:UInt64):Zg (k:Int) s n=some (((kS k (Zs s n):Nat):Int),Zs s n):=by
 have g1:Ae (k:Int) 4=((k+4:Nat):Int):=by rw[Ag];omega
 have g2:Ae (k:Int) 5=((k+5:Nat):Int):=by rw[Ag];omega
 have hp:Zy (k:Int) s n=some (if k<24/\2^(k+5)<(Zs s n).toNat then((k+1:Nat):Int)else(k:Int),Zs s n):=by
  rw[Zy,UH,g2,TM _ F0,Aa,Arw,Uc,dT F0];by_cases h2:k<24
  ·rw[Adi Bpi];by_cases h3:2^(k+5)<(Zs s n).toNat
   ·rw[Adi (by simp[h3]),Adi ⟨h2,h3⟩,Ag];rfl
   ·rw[Abu F7,Abu (λh=>h3 h.2)]
  ·rw[Abu Bpi,Abu (λh=>h2 h.1)]
 rw[Zg,SY,g1,TM _ F0,Aa,Arw,wI,dT F0,hp];by_cases h0:0<k
 ·rw[Adi Bpn];by_cases h1:(Zs s n).toNat<2^(k+4)
  ·rw[Adi (by simp[h1]),Bgo h0 h1,Bv];congr 2;omega
  ·rw[Abu F7,Arj (λh=>h1 h.2)]
 ·rw[Abu Bpn,Arj (λh=>h0 h.1)]
def ru(v:UInt32):UInt64:=UInt64.ofNat v.toNat
theorem Ayw(v:UInt32):(ru v).toNat<=4294967295:=by have:=v.toNat_lt;rw[ru,Ajs,Ajb F0];omega
def pB(k:Nat)(v:UInt32):UInt32:=UInt32.ofNat (v.toNat-2^k)
def lK(l:Nat)(t:UInt64)(k:Nat)(v:UInt32):Nat:=if v.toNat<2^k then l else kS l (Zs t (ru (pB k v)))
def lT(t:UInt64)(k:Nat)(v:UInt32):UInt64:=if v.toNat<2^k then t else Zs t (ru (pB k v))
theorem Axr(h:okD k l s t)(v:UInt32):okD (kS k (Zs s (ru v))) (lK l t k v) (Zs s (ru v)) (lT t k v):=by
 obtain⟨h1,h2,h3,h4⟩:=h;refine⟨Bgx h1 _,?_,Arm h3 (Ayw v),?_⟩
 ·unfold lK;split; · exact h2
  exact Bgx h2 _
 ·unfold lT;split; · exact h4
  exact Arm h4 (Ayw _)
theorem Bih(k l:Nat)(s t:UInt64)(hk:k<=24)(v:UInt32):PQ (k:Int) (l:Int) s t v=some (decide (v.toNat<2^k)):=by
 have:=v.toNat_lt;rw[PQ,TM k F0,Aa,wI,dT F0,Ed,Ajs,Ajb F0]
theorem left_eq(k l:Nat)(s t:UInt64)(hk:k<=24)(v:UInt32)(h:¬v.toNat<2^k):KT (k:Int) (l:Int) s t v=some (pB k v):=by
 have:=v.toNat_lt;have e2:∀x:UInt64,(Ad x:UInt32)=UInt32.ofNat x.toNat:=λx=>by simp only[Ad,Is,Gi]
 have e3:(UInt64.ofNat v.toNat).toNat=v.toNat:=by rw[Ajs,Ajb F0]
 rw[KT,TM k F0,Aa,e2,N0,Ed,UInt64.toNat_sub_of_le _ _ (by rw[UInt64.le_iff_toNat_le,dT F0,e3];omega),dT F0,e3,pB]
theorem Awa(h:okD k l s t)(v:UInt32):DD (k:Int) (l:Int) s t v=some (((kS k (Zs s (ru v)):Nat):Int),((lK l t k v:Nat):Int),Zs s (ru v),lT t k v):=by
 obtain⟨h1,h2,h3,h4⟩:=h;have hp:∀(r1:Int) (r2:UInt64),Wp v (k:Int) (l:Int) s t r1 r2=some (((kS k (Zs s (ru v)):Nat):Int),r1,Zs s (ru v),r2):=by
  intro r1 r2;rw[Wp,MA,Ed,As1 k h1,Aa];rfl
 rw[DD,JE,Bih k l s t h1,Aa];by_cases hv:v.toNat<2^k
 ·rw[Abu (by simp[hv]),hp,lK,Adi hv,lT,Adi hv]
 ·rw[Adi F7,left_eq k l s t h1 v hv,Aa,Ed,As1 l h2,Aa];simp only;rw[hp,lK,Abu hv,lT,Abu hv];rfl
theorem Aa1(k l:Nat)(s t:UInt64)(hk:k<=24)(v:UInt32):QH (k:Int) (l:Int) s t v=some (if v.toNat<2^k then(0,v)else(1,pB k v)):=by
 have hp:2^k<=2^24:=Anl F0 hk;have hpos:0<2^k:=Bmr F0;have hl:=v.toNat_lt;have z:(GI.toZ (k:Int)).toNat=k:=rfl;have e1:geq (Cw v k) (0:UInt32)=decide (v.toNat<2^k):=by
  rw[Ahq,An7];simp only[Bcg,<-UInt32.toNat_inj,SC,Ahz]
  show _/_=0↔_;rw[Nat.div_eq_zero_iff];omega
 have e2:¬v.toNat<2^k->Aq v (Du (1:UInt32) k)=pB k v:=by
  intro h;have e3:(Du (1:UInt32) k).toNat=2^k:=by rw[qT];show 1*2^k %_=_;rw[Ajb F0,Bjg]
  apply UInt32.toNat_inj.1;rw[Aab,UInt32.toNat_sub_of_le _ _ (by rw[UInt32.le_iff_toNat_le,e3];omega),e3,pB,eB F0]
 rw[QH,Bk Bpq,Aa,Aa,z,e1];by_cases h:v.toNat<2^k
 ·rw[Adi (by simp[h]),Adi h]
 ·rw[Abu F7,Abu h,e2 h]
abbrev Rd:=UInt32×Int×Int×Int×UInt64×UInt64×Int
theorem zf(h:okD k l s t)(v:UInt32)(r:Int):mE (k:Int) (l:Int) s t v r=some (v,r,((kS k (Zs s (ru v)):Nat):Int),((lK l t k v:Nat):Int),Zs s (ru v),lT t k v,0):=by
 obtain⟨h1,h2,h3,h4⟩:=h;have hp:∀(x:Int) (y:UInt64),MN v r (k:Int) s x y=some (v,r,((kS k (Zs s (ru v)):Nat):Int),x,Zs s (ru v),y,0):=by
  intro x y;rw[MN,N6,Ed,iU,Atd k h1];rw[E1,L7,yC,xS,Ed,iU];rfl
 rw[mE,mC,Aa1 k l s t h1,Aa];by_cases hv:v.toNat<2^k
 ·rw[Adi hv];simp only;rw[Abu Bqa,hp,lK,Adi hv,lT,Adi hv]
 ·rw[Abu hv];simp only;rw[Adi Bp3,Ed,iU,Atd l h2 _ (λx=>MN v r (k:Int) s x (Zs t (UInt64.ofNat (pB k v).toNat))),hp,lK,Abu hv,lT,Abu hv];rfl
def iL(p:LB)(N a k l:Nat):UInt32×Int×Int:=
 if N<=a then(0,0,24)else
 if Hv p a=0 then(if N<a+1+k then(0,0,24)else(UInt32.ofNat (Cf p (a+1) k),((a+1+k:Nat):Int),0))else
 if(YY p N (a+1) l).2.2≠0 then(0,0,(YY p N (a+1) l).2.2)else
 if 4294967295<(YY p N (a+1) l).1.toNat+2^k then(0,0,12)else(UInt32.ofNat ((YY p N (a+1) l).1.toNat+2^k),(YY p N (a+1) l).2.1,0)
theorem Bis(h:(iL p N a k l).2.2=0):(a:Int)<(iL p N a k l).2.1/\ (iL p N a k l).2.1<=N:=by
 revert h
 unfold iL;split
 ·simp
 split
 ·split
  ·simp
  ·simp only;omega
 ·split
  ·intro h;contradiction
  ·rename_i h1;split
   ·simp
   ·intro _;have:=Bhy (p:=p) (N:=N) (a:=a+1) (k:=l) (v:=(YY p N (a+1) l).1) (n:=(YY p N (a+1) l).2.1) (by
     have e:(YY p N (a+1) l).2.2=0:=by simpa using h1
     rw[<-e])
    simp only;omega
theorem Bd3(h:okB p N)(a:Nat)(hd:okD k l s t):PT p (N:Int) (a:Int) (k:Int) (l:Int) s t=
  some (if(iL p N a k l).2.2≠0 then(0,0,0,0,0,0,(iL p N a k l).2.2)else((iL p N a k l).1,(iL p N a k l).2.1,((kS k (Zs s (ru (iL p N a k l).1)):Nat):Int),((lK l t k (iL p N a k l).1:Nat):Int),Zs s (ru (iL p N a k l).1),lT t k (iL p N a k l).1,0)):=by
 obtain⟨h1,h2,h3,h4⟩:=hd;have hd:okD k l s t:=⟨h1,h2,h3,h4⟩;have hN:=h.1;have hg:=Y2 h a 1 F0;have hb:=EM p a;rw[PT,oK,CD h,Aa,Abu Bpk,Axg hd,Aa,Abu Bpk,O3,mL];refine Bma (congrArg (λo=>Option.bind o _) hg) ?_;rw[Aa];by_cases ha:N<=a
 ·have hS:iL p N a k l=(0,0,24):=by rw[iL,Adi ha]
  rw[Adi F0,hS];rfl
 rw[Abu F0];simp only;have e0:geq (Ro p a 1) (0:UInt64)=decide (Hv p a=0):=by
  rw[vQ,An7];simp only[Bcg,<-Bng,Ahz,BI p a 1 F0,I7];rfl
 have e1:Ae (a:Int) 1=((a+1:Nat):Int):=by rw[Ag];omega
 rw[Abu Bpk,e0,e1];by_cases hz:Hv p a=0
 ·rw[Adi (by simp[hz]),Y2 h (a+1) k F0,Aa];by_cases h5:N<a+1+k
  ·have hS:iL p N a k l=(0,0,24):=by rw[iL,Abu ha,Adi hz,Adi h5]
   rw[Adi h5,hS];rfl
  ·have hS:iL p N a k l=(UInt32.ofNat (Cf p (a+1) k),((a+1+k:Nat):Int),0):=by rw[iL,Abu ha,Adi hz,Abu h5]
   rw[Abu h5,hS];simp only;rw[Abu Bpk,zf hd,H9 F0,Ag];rfl
 ·rw[Abu (by simp[hz]),Bd5 h (a+1) l h2,Aa];have hp:2^k<=2^24:=Anl F0 h1;by_cases h5:(YY p N (a+1) l).2.2≠0
  ·have hS:iL p N a k l=(0,0,(YY p N (a+1) l).2.2):=by rw[iL,Abu ha,Abu hz,Adi h5]
   rw[hS];generalize YY p N (a+1) l=R at*
   obtain⟨v,n,e⟩:=R;simp only at*
   rw[Adi (by rw[Ah];simpa using h5),Adi h5]
  ·have hv:=(YY p N (a+1) l).1.toNat_lt;have z:(GI.toZ (k:Int)).toNat=k:=rfl;have e3:(Du (1:UInt32) k).toNat=2^k:=by rw[qT];show 1*2^k %_=_;rw[Ajb F0,Bjg]
   by_cases h6:4294967295<(YY p N (a+1) l).1.toNat+2^k
   ·have hS:iL p N a k l=(0,0,12):=by rw[iL,Abu ha,Abu hz,Abu h5,Adi h6]
    rw[hS];generalize YY p N (a+1) l=R at*
    obtain⟨v,n,e⟩:=R;simp only at*
    rw[Abu (by rw[Ah];simpa using h5),Bk Bpq,Aa,z,Adi (by rw[Arn,wh,UInt32.toNat_add,e3];simp;omega),Adi F2]
   ·have hS:iL p N a k l=(UInt32.ofNat ((YY p N (a+1) l).1.toNat+2^k),(YY p N (a+1) l).2.1,0):=by rw[iL,Abu ha,Abu hz,Abu h5,Abu h6]
    rw[hS];generalize YY p N (a+1) l=R at*
    obtain⟨v,n,e⟩:=R;simp only at*
    have e4:Ae v (Du (1:UInt32) k)=UInt32.ofNat (v.toNat+2^k):=by
     apply UInt32.toNat_inj.1;rw[wh,UInt32.toNat_add,e3,eB F0,Ajb F0]
    rw[Abu (by rw[Ah];simpa using h5),Bk Bpq,Aa,z,Abu (by rw[Arn,wh,UInt32.toNat_add,e3];simp;omega),e4,zf hd];rfl
theorem Ba7(h:okB p N)(a:Nat)(k l:Nat)(s t:UInt64)(h1:k<=24)(h2:l<=24):PU p (N:Int) (a:Int) (k:Int) (l:Int) s t=some (iL p N a k l):=by
 have hN:=h.1;have hl:=h.2.1;have hb:=EM p a;rw[PU];by_cases ha:N<=a
 ·rw[Adi Bpp,iL,Adi ha]
 rw[Abu Bpp,Q6 p _ a F0 F0,Aa,Bv (a:=(N:Int)) (b:=(a:Int)) F0 F0,Bv];have e1:Ae (a:Int) 1=((a+1:Nat):Int):=by rw[Ag];omega
 rw[e1];by_cases hz:Hv p a=0
 ·rw[Adi (by rw[Ar];simp[hz])];by_cases h5:N<a+1+k
  ·rw[Adi Bpi,iL,Abu ha,Adi hz,Adi h5]
  ·rw[Abu Bpi,yZ p _ (a+1) k F0 F0,Aa,iL,Abu ha,Adi hz,Abu h5,H9 F0,Ag];rfl
 ·rw[Abu Bpm,Ayh h (a+1) l h2,Aa];have hp:2^k<=2^24:=Anl F0 h1;have hv:=(YY p N (a+1) l).1.toNat_lt;have e2:∀x:UInt64,(Ad x:UInt32)=UInt32.ofNat x.toNat:=λx=>by simp only[Ad,Is,Gi]
  by_cases h5:(YY p N (a+1) l).2.2≠0
  ·have hS:iL p N a k l=(0,0,(YY p N (a+1) l).2.2):=by rw[iL,Abu ha,Abu hz,Adi h5]
   rw[hS];generalize YY p N (a+1) l=R at*
   obtain⟨v,n,e⟩:=R;simp only at*
   rw[Adi (by rw[Ah];simpa using h5)]
  ·have hsum:∀v:UInt32,(Ae (Ad v:UInt64) (UInt64.ofNat (2^k))).toNat=v.toNat+2^k:=by
    intro v;have:=v.toNat_lt;have:=Bmr (n:=k) (show 0<2 by omega);rw[TR,UInt64.toNat_add,Ed,dT F0,Ajs];omega
   by_cases h6:4294967295<(YY p N (a+1) l).1.toNat+2^k
   ·have hS:iL p N a k l=(0,0,12):=by rw[iL,Abu ha,Abu hz,Abu h5,Adi h6]
    rw[hS];generalize YY p N (a+1) l=R at*
    obtain⟨v,n,e⟩:=R;simp only at*
    rw[Abu (by rw[Ah];simpa using h5),TM k F0,Aa,Adi (by rw[Uc,hsum];simpa using h6)]
   ·have hS:iL p N a k l=(UInt32.ofNat ((YY p N (a+1) l).1.toNat+2^k),(YY p N (a+1) l).2.1,0):=by rw[iL,Abu ha,Abu hz,Abu h5,Abu h6]
    rw[hS];generalize YY p N (a+1) l=R at*
    obtain⟨v,n,e⟩:=R;simp only at*
    rw[Abu (by rw[Ah];simpa using h5),TM k F0,Aa,Abu (by rw[Uc,hsum];simpa using h6),e2,hsum]
theorem Bpl{p:Prop}(h:p:=by rw[Ah];simp;omega):p:=h
theorem Bps{p:Prop}(h:p:=by rw[<-Aw3];omega):p:=h
end Go.Pl
namespace Go.Pl
open Go Go.Lv
variable{out v:LU}
abbrev DuN:=Nat×Nat×UInt64×UInt64
def okN(d:DuN):Prop:=okD d.1 d.2.1 d.2.2.1 d.2.2.2
def nxt(d:DuN)(v:UInt32):DuN:=(kS d.1 (Zs d.2.2.1 (ru v)),lK d.2.1 d.2.2.2 d.1 v,Zs d.2.2.1 (ru v),lT d.2.2.2 d.1 v)
def Ai1:DuN:=(10,10,16384,16384)
theorem Ay6:okN Ai1:=⟨F2,F2,F2,F2⟩
theorem Biw{d:DuN}(h:okN d)(v:UInt32):okN (nxt d v):=Axr h v
abbrev DuL:=Int×Int×UInt64×UInt64×Unit
def toI(d:DuN):DuL:=((d.1:Int),(d.2.1:Int),d.2.2.1,d.2.2.2,())
def qI(ch:Nat)(v:LU)(c:Nat):Nat->DuN
 |0=>Ai1
 |m+1=>if m %ch=c then nxt (qI ch v c m) (v.getD m 0)else qI ch v c m
theorem sX(ch:Nat)(v:LU)(c:Nat):∀m,okN (qI ch v c m)
 |0=>Ay6
 |m+1=>by rw[qI];split;exact Biw (sX ch v c m) _;exact sX ch v c m
theorem As6(ch:Nat)(v w:LU)(c:Nat):∀m,m<=v.length->qI ch (v++w) c m=qI ch v c m
 |0,_=>rfl
 |m+1,h=>by
  have e:(v++w).getD m 0=v.getD m 0:=by simp[List.getD_eq_getElem?_getD,List.getElem?_append_left (show m<v.length by omega)]
  rw[qI,qI,As6 ch v w c m F0,e]
theorem Ahn(ch:Nat)(v:LU)(c:Nat):∀m,m<=c->c<ch->qI ch v c m=Ai1
 |0,_,_=>rfl
 |m+1,h,h2=>by rw[qI,Abu (by rw[Ajb F0];omega),Ahn ch v c m F0 h2]
theorem Amq(ch:Nat)(v:LU)(c i:Nat)(hi:i %ch=c)(hc:c<ch):∀j,j<ch->qI ch v c (i+1+j)=qI ch v c (i+1)
 |0,_=>rfl
 |j+1,h=>by
  have hne:(i+1+j) %ch≠c:=by
   intro e;have h1:(i+(1+j)) %ch=i %ch:=by rw[hi,<-e];congr 1;omega
   have h2:(1+j) %ch=0:=by
    have h3:=Nat.sub_mod_eq_zero_of_mod_eq h1;rwa [Bj7]at h3
   rw[Ajb F0]at h2;omega
  rw[show i+1+(j+1)=(i+1+j)+1 by omega,qI,Abu hne,Amq ch v c i hi hc j F0]
theorem Azx(ch:Nat)(v:LU)(c i:Nat)(hi:i %ch=c)(hc:c<ch):qI ch v c (i+ch)=nxt (qI ch v c i) (v.getD i 0):=by
 have h:=Amq ch v c i hi hc (ch-1) F0;rw[show i+1+(ch-1)=i+ch by omega]at h;rw[h,qI,Adi hi]
theorem N1{l:LU}{k:Nat}(h:k<l.length):Am l (k:Int)=some (l.getD k 0):=by
 rw[Bn h];simp[List.getD_eq_getElem?_getD,h]
theorem DF(a b:Nat):Ha (a:Int) (b:Int)=((a %b:Nat):Int):=by rw[Ha,Bnn F0];omega
theorem mo(ch:Nat)(v:LU)(hch:1<=ch)(Bju:ch<=6)(hv:v.length<=4000):∀(j i q:Nat),i %ch=v.length %ch->i<=v.length->v.length-i<=j->j<q->
  Pm (ch:Int) v q (i:Int) ((qI ch v (v.length %ch) i).1:Int) ((qI ch v (v.length %ch) i).2.1:Int) (qI ch v (v.length %ch) i).2.2.1 (qI ch v (v.length %ch) i).2.2.2=
   some (((qI ch v (v.length %ch) v.length).1:Int),((qI ch v (v.length %ch) v.length).2.1:Int),(qI ch v (v.length %ch) v.length).2.2.1,(qI ch v (v.length %ch) v.length).2.2.2)
 |j,i,q+1,hi,hl,hj,hq=>by
  have hc:v.length %ch<ch:=Bl6 _ F0;rw[Pm,LY];by_cases h:i<v.length
  ·have h1:=Awa (sX ch v (v.length %ch) i) (v.getD i 0);rw[Adi F3,N1 h,Aa,h1,Aa];have hle:i+ch<=v.length:=by
    have h2:=Bm9 i ch;have h3:=Bm9 v.length ch;rw[hi]at h2;have h4:ch*(i/ch)<ch*(v.length/ch):=F0
    have h5:=Nat.lt_of_mul_lt_mul_left h4;have h6:ch*(i/ch+1)<=ch*(v.length/ch):=Bmo _ h5;rw[Nat.mul_add]at h6;omega
   have ih:=mo ch v hch Bju hv (j-ch) (i+ch) q (by rw[Bov];exact hi) hle F0 F0;rw[Azx ch v _ i hi hc]at ih;simp only;rw[Ag];exact ih
  ·rw[Abu F3,show i=v.length by omega];rfl
theorem Ava(ch:Nat)(v:LU)(hch:1<=ch)(Bju:ch<=6)(hv:v.length<=4000):Ue (ch:Int) v=some (((qI ch v (v.length %ch) v.length).1:Int),((qI ch v (v.length %ch) v.length).2.1:Int),(qI ch v (v.length %ch) v.length).2.2.1,(qI ch v (v.length %ch) v.length).2.2.2):=by
 have hc:v.length %ch<ch:=Bl6 _ F0;have hle:v.length %ch<=v.length:=Bow _ _;have h:=mo ch v hch Bju hv v.length (v.length %ch) Au (by rw[Nat.mod_mod]) hle F0 F8;rw[Ahn ch v _ _ (An6 _) hc]at h;rw[Ue,KD,Qm,Aa];simp only;rw[Bk Bpl,Aa,Ac,DF];exact h
def now(ch:Nat)(v:LU):DuN:=qI ch v (v.length %ch) v.length
def P3(N a:Nat):Nat:=min 81 (N-a)
def Od(ch:Nat)(p:LB)(N a:Nat)(out:LU):UInt32×Int×Int:=iL (Sf p a (P3 N a)) (P3 N a) 0 (now ch out).1 (now ch out).2.1
def Xt(ch:Nat)(p:LB)(N:Nat):Nat->Nat->LU->LU×Nat×Int
 |0,a,out=>(out,a,0)
 |j+1,a,out=>if(Od ch p N a out).2.2≠0 then(out,a,(Od ch p N a out).2.2)else Xt ch p N j (a+(Od ch p N a out).2.1.toNat) (out++[(Od ch p N a out).1])
theorem wC{ch:Nat}{p:LB}{N a:Nat}(h:(Od ch p N a out).2.2=0):0<(Od ch p N a out).2.1/\ (Od ch p N a out).2.1<=P3 N a:=by
 have:=Bis h;exact⟨this.1,this.2⟩
theorem Agr{ch:Nat}{p:LB}{N a:Nat}(h:(Od ch p N a out).2.2=0):((a:Int)+(Od ch p N a out).2.1)=((a+(Od ch p N a out).2.1.toNat:Nat):Int):=by
 have:=wC h;omega
def sts(ch:Nat)(v:LU):List DuL:=(List.range 6).map λc=>toI (qI ch v c v.length)
theorem Ah2{ch:Nat}{c:Nat}(h:c<6):Am (sts ch v) (c:Int)=some (toI (qI ch v c v.length)):=by
 rw[Bn (by simp[sts];exact h)];simp[sts]
theorem As7{ch:Nat}{c:Nat}(x:UInt32)(h:c<6)(hc:c=v.length %ch):Mv (sts ch v) (c:Int) (toI (nxt (qI ch v c v.length) x))=some (sts ch (v++[x])):=by
 rw[Tk _ (by simp[sts];exact h)];congr 1;apply Bit (by simp[sts]);intro i h1 h2;rw[Bo6];simp only[sts,Bnl,Bnb];have e:(v++[x]).getD v.length 0=x:=by simp
 rw[Afz,Bkw,qI,e,As6 ch v [x] i v.length (An6 _)];by_cases hi:c=i
 ·subst hi;rw[Adi rfl,Adi hc.symm]
 ·rw[Abu hi,Abu F0]
theorem Bfz{ch:Nat}{c:Nat}(hc:c=v.length %ch):qI ch v c v.length=now ch v:=by rw[now,hc]
section
variable {p:LB} {N ch n:Nat}
theorem Ajz(hp:okB p N)(h1:1<=ch)(h6:ch<=6)(hn:n*ch<=4000):∀(j a q:Nat) (out:LU),out.length+j=n*ch->j<q->a<=N->
  Qh (ch:Int) (n:Int) p (N:Int) q (a:Int) (out.length:Int) (sts ch out) out=
   some (if(Xt ch p N j a out).2.2≠0 then([],0,(Xt ch p N j a out).2.2)else((Xt ch p N j a out).1,((Xt ch p N j a out).2.1:Int),0))
 |j,a,q+1,out,hj,hq,ha=>by
  have hN:=hp.1;have hnn:n<=n*ch:=Bo1 n F0;have em:Bi (n:Int) (ch:Int)=((n*ch:Nat):Int):=by rw[Fa Bps Bps,Aw3]
  rw[Qh,Xj,em];cases j with
  |zero=>
   rw[Abu Bpi];rfl
  |succ j=>
   have hc:out.length %ch<6:=Aw0 (Bl6 _ F0) h6;have ew:Iu (Ae (a:Int) 81) (N:Int)=((a+P3 N a:Nat):Int):=by rw[IY,Ag];unfold P3;omega
   have hw:a+P3 N a<=N:=by unfold P3;omega
   have hw2:P3 N a<=81:=by unfold P3;omega
   have hd:=Bd3 (G6 p a (P3 N a) F0) 0 (sX ch out (out.length %ch) out.length);have Bcd:iL (Sf p a (P3 N a)) (P3 N a) 0 (qI ch out (out.length %ch) out.length).1 (qI ch out (out.length %ch) out.length).2.1=Od ch p N a out:=rfl;rw[Adi Bpi,ew,Bh6 hp a _ hw F0,Aa];simp only;rw[Abu Bpk,Bk Bpl,Aa,DF,Ah2 hc,Aa,Aa];refine Bma (congrArg (λo=>Option.bind o _) hd) ?_;rw[Aa,Bcd,Xt];by_cases he:(Od ch p N a out).2.2≠0
   ·rw[Adi he,Adi he];simp only;rw[Ws,FY,Adi (by rw[Ah];simpa using he),Adi he]
   ·have he0:(Od ch p N a out).2.2=0:=by simpa using he
    have hok:=wC he0;have hset:=As7 (ch:=ch) (v:=out) (Od ch p N a out).1 hc rfl;rw[Abu he,Abu he];simp only;rw[Ws,FY,Abu Bpk,Bk Bpl,Aa,DF,Ah2 hc,Aa];refine Bma (congrArg (λo=>Option.bind o _) hset) ?_;rw[Aa,ZH,bR,Bf F7,Aa,Ag,Ag,Agr he0];have ih:=Ajz hp h1 h6 hn j (a+(Od ch p N a out).2.1.toNat) q (out++[(Od ch p N a out).1]) F7 F0 F0;rw[Afz,Bkw]at ih;exact ih
theorem Ats{p:LB}(hN:N=8*p.length)(hN2:N<=330000)(h1:1<=ch)(h6:ch<=6)(hn:n*ch<=4000):∀(j a q:Nat) (out:LU),out.length+j=n*ch->j<q->a<=N->
  Gp (ch:Int) (n:Int) p q (a:Int) (out.length:Int) out=
   if(Xt ch p N j a out).2.2≠0 then some ((Xt ch p N j a out).1,(Xt ch p N j a out).2.2)else Yx ((Xt ch p N j a out).2.1:Int) p (Xt ch p N j a out).1
 |j,a,q+1,out,hj,hq,ha=>by
  have hnn:n<=n*ch:=Bo1 n F0;have em:Bi (n:Int) (ch:Int)=((n*ch:Nat):Int):=by rw[Fa Bps Bps,Aw3]
  have e8:Bi (8:Int) (Ac p)=(N:Int):=by rw[Ac,Fa];omega
  rw[Gp,OL,em];cases j with
  |zero=>
   rw[Abu Bpi];rfl
  |succ j=>
   have ew:Iu (Ae (a:Int) 81) (N:Int)=((a+P3 N a:Nat):Int):=by rw[IY,Ag];unfold P3;omega
   have hw:a+P3 N a<=N:=by unfold P3;omega
   have hw2:P3 N a<=81:=by unfold P3;omega
   have hpre:(Option.bind Qm λ(r_4,r_5,r_6,r_7)=>
     if(Mk (out.length:Int) (ch:Int))=true then(
     Option.bind (Ue (ch:Int) out) λ(r_8,r_9,r_10,r_11)=>
     Mb (Gp (ch:Int) (n:Int) p q) (ch:Int) (n:Int) p (a:Int) (out.length:Int) out r_8 r_9 r_10 r_11)
     else Mb (Gp (ch:Int) (n:Int) p q) (ch:Int) (n:Int) p (a:Int) (out.length:Int) out r_4 r_5 r_6 r_7)=
     Mb (Gp (ch:Int) (n:Int) p q) (ch:Int) (n:Int) p (a:Int) (out.length:Int) out ((now ch out).1:Int) ((now ch out).2.1:Int) (now ch out).2.2.1 (now ch out).2.2.2:=by
    rw[Qm,Aa];by_cases hc:ch<=out.length
    ·simp only;rw[Adi Bpp,Ava ch out h1 h6 F0,Aa];rfl
    ·have e:now ch out=Ai1:=by rw[now,Ajb F0,Ahn ch out _ _ (An6 _) F0]
     simp only;rw[Abu Bpp,e];rfl
   have hd:=Ba7 (G6 p a (P3 N a) F0) 0 (now ch out).1 (now ch out).2.1 (now ch out).2.2.1 (now ch out).2.2.2 (sX ch out _ _).1 (sX ch out _ _).2.1;have Bcd:iL (Sf p a (P3 N a)) (P3 N a) 0 (now ch out).1 (now ch out).2.1=Od ch p N a out:=rfl;rw[Adi Bpi,hpre,Mb,OE,e8,ew,Aj5 p (N:Int) a _ F0 F0 F0,Aa];simp only;refine Bma (congrArg (λo=>Option.bind o _) hd) ?_;rw[Aa,Bcd,Xt];by_cases he:(Od ch p N a out).2.2≠0
   ·rw[Adi he,Adi (by rw[Ah];simpa using he),Adi he]
   ·have he0:(Od ch p N a out).2.2=0:=by simpa using he
    have hok:=wC he0;have ih:=Ats hN hN2 h1 h6 hn j (a+(Od ch p N a out).2.1.toNat) q (out++[(Od ch p N a out).1]) F7 F0 F0;have hx:=Agr he0;rw[Afz,Bkw]at ih;rw[Abu he];generalize Od ch p N a out=R at*
    obtain⟨v,nx,e⟩:=R;simp only at*
    rw[Abu (by rw[Ah];simpa using he),Bf F7,Aa,Ag,Ag,hx];exact ih
end
theorem qz{ch:Nat}{p:LB}{N:Nat}:∀(j a:Nat) (out:LU),a<=N-> (Xt ch p N j a out).2.1<=N/\ (Xt ch p N j a out).1.length<=out.length+j/\ ((Xt ch p N j a out).2.2=0-> (Xt ch p N j a out).1.length=out.length+j)
 |0,a,out,h=>⟨h,An6 _,λ_=>rfl⟩
 |j+1,a,out,h=>by
  rw[Xt];split
  ·rename_i he;exact⟨h,Bpj,λe=>absurd e he⟩
  ·rename_i he;have hok:=wC (ch:=ch) (p:=p) (N:=N) (a:=a) (out:=out) (by simpa using he);have hw:a+P3 N a<=N:=by unfold P3;omega
   have ih:=qz (ch:=ch) (p:=p) (N:=N) j (a+(Od ch p N a out).2.1.toNat) (out++[(Od ch p N a out).1]) F0;rw[Afz,Bkw]at ih;exact⟨ih.1,F0,λe=>by have:=ih.2.2 e;omega⟩
theorem Akd(ch n:Int)(b:LB)(N:Int):GQ ch n b N 0 (List.replicate 6 ((0:Int),(0:Int),(0:UInt64),(0:UInt64),()))=YV ch n b N (List.replicate 6 ((10:Int),(10:Int),(16384:UInt64),(16384:UInt64),())):=by
 have e:Au=(Au-7)+1+1+1+1+1+1+1:=by have:=As;omega
 rw[GQ,e];rfl
theorem values_eq{p:LB}{N ch n:Nat}(hp:okB p N)(h1:1<=ch)(h6:ch<=6)(hn:n*ch<=4000):KP (ch:Int) (n:Int) p (N:Int)=
  some (if(Xt ch p N (n*ch) 0 []).2.2≠0 then([],0,(Xt ch p N (n*ch) 0 []).2.2)else((Xt ch p N (n*ch) 0 []).1,((Xt ch p N (n*ch) 0 []).2.1:Int),0)):=by
 have h:=Ajz hp h1 h6 hn (n*ch) 0 Au [] Bpj F8 F0;rw[KP,KO,Akd];exact h
theorem Af8(p:LB)(x:LU)(N:Nat)(hN:N=8*p.length)(hN2:N<=330000):∀(j a q:Nat),a+j=N->j<q->Md p x q (a:Int)=some (x,if Cf p a j=0 then 0 else 12)
 |0,a,q+1,ha,_=>by
  have e8:Bi (8:Int) (Ac p)=(N:Int):=by rw[Ac,Fa];omega
  rw[Md,Ym,e8,Abu Bpi,Cf,Adi rfl];rfl
 |j+1,a,q+1,ha,hq=>by
  have e8:Bi (8:Int) (Ac p)=(N:Int):=by rw[Ac,Fa];omega
  have hb:=EM p a;rw[Md,Ym,e8,Adi Bpi,Q6 p _ a F0 F0,Aa,Cf];by_cases h:Hv p a=0
  ·rw[Abu (by rw[Ah];simp[h]),Ag,h];have ih:=Af8 p x N hN hN2 j (a+1) q F0 F0;rw[show((a:Int)+1)=((a+1:Nat):Int) by omega,ih];congr 2;by_cases hv:Cf p (a+1) j=0
   ·rw[Adi hv,Adi F0]
   ·rw[Abu hv,Abu F0]
  ·rw[Adi Bpl,Abu F0]
theorem Aic{p:LB}{N ch n:Nat}(hN:N=8*p.length)(hN2:N<=330000)(h1:1<=ch)(h6:ch<=6)(hn:n*ch<=4000):JB (ch:Int) (n:Int) p=
  some (if(Xt ch p N (n*ch) 0 []).2.2≠0 then((Xt ch p N (n*ch) 0 []).1,(Xt ch p N (n*ch) 0 []).2.2)else
   ((Xt ch p N (n*ch) 0 []).1,if 7<N-(Xt ch p N (n*ch) 0 []).2.1\/Cf p (Xt ch p N (n*ch) 0 []).2.1 (N-(Xt ch p N (n*ch) 0 []).2.1)≠0 then 12 else 0)):=by
 have h:=Ats hN hN2 h1 h6 hn (n*ch) 0 Au [] Bpj F8 F0;have hat:=(qz (ch:=ch) (p:=p) (N:=N) (n*ch) 0 [] F0).1;have e8:Bi (8:Int) (Ac p)=(N:Int):=by rw[Ac,Fa];omega
 rw[JB,TV];refine Bma h ?_;generalize Xt ch p N (n*ch) 0 []=V at*
 obtain⟨v,a,e⟩:=V;simp only at*
 by_cases he:e≠0
 ·rw[Adi he,Adi he]
 ·rw[Abu he,Abu he,Yx,NN,e8,Bv];by_cases h7:7<N-a
  ·rw[Adi Bpn,Adi (.inl h7)]
  ·rw[Abu Bpn,NV,Af8 p v N hN hN2 (N-a) a Au F0 F8];by_cases hv:Cf p a (N-a)=0
   ·rw[Adi hv,Abu F0]
   ·rw[Abu hv,Adi (.inr hv)]
theorem Aje(n:Int):(GI.ofZ n:Int32)=Int32.ofInt n:=rfl
theorem fE(a:Int32):GI.toZ a=a.toInt:=rfl
theorem jF(a b:Int32):Ae a b=a+b:=by
 rw[Ae,fE,fE,Aje,Int32.ofInt_add,Bjl,Bjl]
theorem aL(a b:Int32):Aq a b=a-b:=by
 rw[Aq,fE,fE,Aje,Int32.ofInt_sub,Bjl,Bjl]
theorem Arq(a b:Int32):geq a b=(a==b):=by
 rw[geq,fE,fE,An7];simp[Int32.toInt_inj]
def mN(p:Nat->Bool)(a b:LX):LX:=(List.range a.length).map λk=>if p k=true then a.getD k 0 else b.getD k 0
section
variable {p q:Nat->Bool} {a b:LX}
theorem RL:(mN p a b).length=a.length:=by simp[mN]
theorem Km{k:Nat}(h:k<a.length):a.getD k 0=a[k]:=by simp[List.getD_eq_getElem?_getD,h]
theorem Wf{k:Nat}(h:k<(mN p a b).length):(mN p a b)[k]=if p k=true then a.getD k 0 else b.getD k 0:=by simp[mN]
theorem FK{k:Nat}(h:k<a.length):Am (mN p a b) (k:Int)=some (if p k=true then a.getD k 0 else b.getD k 0):=by
 rw[Bn (by rw[RL];exact h),Wf]
theorem Xz(h:∀k,k<a.length->p k=q k):mN p a b=mN q a b:=by
 apply Bn6;intro k hk;rw[h k (List.mem_range.1 hk)]
theorem oA{k:Nat}(h:k<a.length):Mv (mN p a b) (k:Int) (a.getD k 0)=some (mN (λj=>p j||decide (j=k)) a b):=by
 rw[Tk _ (by rw[RL];exact h)];congr 1;apply Bit (by simp[RL]);intro i h1 h2;rw[Bo6,Wf,Wf];by_cases hi:k=i
 ·subst hi;simp
 ·have:¬i=k:=λe=>hi e.symm;simp[hi,this]
theorem wH(h:∀k,k<a.length->p k=true):mN p a b=a:=by
 apply Bit (by simp[RL]);intro i h1 h2;rw[Wf,Adi (h i h2),Km h2]
theorem rC(hl:b.length=a.length)(h:∀k,k<a.length->p k=false):mN p a b=b:=by
 apply Bit (by simp[RL,hl]);intro i h1 h2;rw[Wf,h i F0];simp[List.getD_eq_getElem?_getD,h2]
end
theorem Bp1{p:Prop}(h:p:=by rw[Ar];decide):p:=h
end Go.Pl
namespace Go.Pl
open Go Go.Lv
variable{s bits:Int}{x w:Int32}{t p a b:LX}{i:Nat}
theorem xw(a b:Int32):Bi a b=a*b:=by
 rw[Bi,fE,fE,Aje,Int32.ofInt_mul,Bjl,Bjl]
theorem DW(a:Int32): -2147483648<=a.toInt/\a.toInt<2147483648:=⟨a.le_toInt,a.toInt_lt⟩
theorem Gh(a:Int32):(Ad a:Int)=a.toInt:=by
 have:=DW a
 show wrap64 a.toInt=_;rw[Cz]<;>omega
theorem YQ(n:Int):(Ad n:Int32)=Int32.ofInt n:=rfl
theorem Avv(x:Int):Int32.ofInt (x %4294967296)=Int32.ofInt x:=by
 apply Int32.toInt_inj.1;rw[Bmq,Bmq];exact Int.emod_bmod x 4294967296
theorem ug(x:Int):Dv x=some (Int32.ofInt x):=by
 have e1:(Ad x:UInt64).toNat=(x %18446744073709551616).toNat:=by
  rw[Alq,Ajs,Ajb F0]
 have e2:(Ad (Ad x:UInt64):UInt32).toNat=(x %4294967296).toNat:=by
  have e:(Ad (Ad x:UInt64):UInt32)=UInt32.ofNat (Ad x:UInt64).toNat:=by simp only[Ad,Is,Gi]
  rw[e,Asg,e1];show(x %18446744073709551616).toNat %4294967296=_;omega
 have e3:(Ad (Ad (Ad x:UInt64):UInt32):Int32)=Int32.ofInt ((Ad (Ad x:UInt64):UInt32).toNat:Int):=rfl;rw[Dv,e3,e2,<-Avv x];congr 2;omega
theorem G5(a b:Int32):Dv (Ae (Ad a:Int) (Ad b:Int))=some (a+b):=by
 have:=DW a;have:=DW b;rw[Gh,Gh,Ag,ug,Int32.ofInt_add,Bjl,Bjl]
theorem Bal(a b:Int32):Dv (Bi (Ad a:Int) (Ad b:Int))=some (a*b):=by
 have ha:=DW a;have hb:=DW b;have h1: -9223372036854775808<=a.toInt*b.toInt/\a.toInt*b.toInt<=9223372036854775807:=by
  have h2:(a.toInt*b.toInt).natAbs<=2147483648*2147483648:=by
   rw[Int.natAbs_mul];exact Bhr F0 F0
  omega
 rw[Gh,Gh,Fa h1.1 h1.2,ug,Int32.ofInt_mul,Bjl,Bjl]
def OkF(s:Int)(t p:LX):Prop:=(s=9\/s=10)/\t.length=16/\p.length=16
theorem R9(h:OkF s t p):PZ s t p=some 0:=by
 obtain⟨rfl|rfl,_,_⟩:=h<;>rfl
theorem g32{l:LX}{k:Nat}(h:k<l.length):Am l (k:Int)=some (l.getD k 0):=by
 rw[Bn h];simp[List.getD_eq_getElem?_getD,h]
def tG(t p:LX):Nat->Int32
 |0=>0
 |i+1=>tG t p i+t.getD i 0*p.getD i 0
def half(s:Int):Int32:=if s=9 then 256 else 512
def gF(s:Int)(t p:LX):Int32:=Int32.ofInt ((half s+tG t p 16).toInt.fdiv (if s=9 then 512 else 1024))
theorem Afx{s:Int}{t p:LX}(h:OkF s t p):∀(j i q:Nat),i+j=16->j<q->Ye t s p q (half s+tG t p i) (i:Int)=some (gF s t p,0)
 |0,i,q+1,hi,_=>by
  obtain rfl:i=16:=F0
  have hs:=h.1;rw[Ye,RH,Abu Bpr,gO,yS,Bk Bpp,Aa];obtain rfl|rfl:=hs<;>rfl
 |j+1,i,q+1,hi,hq=>by
  obtain⟨hs,ht,hp⟩:=h;rw[Ye,RH,Adi Bpi,g32 F0,Aa,g32 F0,Aa,Aa,Ag (b:=1) F0 F0,jF,xw,Int32.add_assoc];exact Afx ⟨hs,ht,hp⟩ j (i+1) q F0 F0
theorem Al1(h:OkF s t p):bB s t p=some (gF s t p,0):=by
 have hs:=h.1;have h1:=Afx h 16 0 Au F0 F8;have e:Du (1:Int32) (GI.toZ (Aq s (1:Int))).toNat=half s+tG t p 0:=by
  obtain rfl|rfl:=hs<;>rfl
 rw[bB,gJ,R9 h,Aa,Abu Bpk,Bk (by rw[Ec,Bv];simp;omega),Aa,yG,e];exact h1
theorem Ado{s:Int}{t p:LX}(ht:t.length=16)(hp:p.length=16){g:Int32}(hg:tG t p 16=g):∀(j i q:Nat),i+j=16->j<q->Oz s t p q (tG t p i).toInt (i:Int)=some g
 |0,i,q+1,hi,_=>by
  obtain rfl:i=16:=F0
  rw[Oz,DC,Abu Bpr,WC,XC,YQ,Bjl,hg]
 |j+1,i,q+1,hi,hq=>by
  have ih:=Ado (s:=s) ht hp hg j (i+1) q F0 F0;rw[tG]at ih;rw[Oz,DC,Adi Bpi,g32 F0,g32 F0,Aa,Aa,Aa,Aa,Bal,Aa,<-Gh (tG t p i),G5,Aa,Gh,Ag];exact ih
theorem Ay1(h:OkF s t p):iY s t p=some (tG t p 16):=
 Ado h.2.1 h.2.2 rfl 16 0 Au F0 F8
theorem Awf(x n:Int)(hn:n=512\/n=1024\/n=16\/n=32):(if x.tmod n<0 then x.tdiv n-1 else x.tdiv n)=x.fdiv n:=by
 have hs:n.sign=1:=by obtain rfl|rfl|rfl|rfl:=hn<;>rfl
 rw[Int.tdiv_eq_ediv,Int.tmod_eq_emod,hs,Bb6 _ F0];by_cases h:0<=x\/n∣x
 ·rw[Adi h,Adi h];obtain rfl|rfl|rfl|rfl:=hn<;>(rw[Abu F0];omega)
 ·rw[Abu h,Abu h];obtain rfl|rfl|rfl|rfl:=hn<;>(rw[Adi F0];omega)
theorem Ad2(x n:Int)(hn:n=512\/n=1024\/n=16\/n=32)(h: -1000000000000<=x)(h':x<=1000000000000): -1000000000000<=x.tdiv n/\x.tdiv n<=1000000000000:=by
 have hs:n.sign=1:=by obtain rfl|rfl|rfl|rfl:=hn<;>rfl
 rw[Int.tdiv_eq_ediv,hs];by_cases h:0<=x\/n∣x
 ·rw[Adi h];obtain rfl|rfl|rfl|rfl:=hn<;>omega
 ·rw[Abu h];obtain rfl|rfl|rfl|rfl:=hn<;>omega
theorem Bk4(x n:Int)(hn:n=512\/n=1024\/n=16\/n=32)(h: -1000000000000<=x)(h':x<=1000000000000):Bq x n=x.tdiv n:=by
 have:=Ad2 x n hn h h';rw[UW,Cz F0 F0]
theorem Amb(x n:Int)(hn:n=512\/n=1024\/n=16\/n=32)(h: -1000000000000<=x)(h':x<=1000000000000):
  (if(Cj (Ha x n) (0:Int))=true then some (Ad (Aq (Bq x n) (1:Int)):Int32)else some (Ad (Bq x n):Int32))=some (Int32.ofInt (x.fdiv n)):=by
 have hb:=Ad2 x n hn h h';rw[Af,Ha,Bk4 x n hn h h',Bv,YQ,YQ,<-Awf x n hn];by_cases hx:x.tmod n<0
 ·rw[Adi (by simpa using hx),Adi hx]
 ·rw[Abu (by simpa using hx),Abu hx]
theorem Bdb(h:OkF s t p):KK s t p=some (gF s t p):=by
 obtain⟨hs,ht,hp⟩:=h;have h:OkF s t p:=⟨hs,ht,hp⟩;have hx:=DW (tG t p 16+half s);have key:∀n:Int,(n=512\/n=1024)-> (half s).toInt=n/2->gF s t p=Int32.ofInt ((half s+tG t p 16).toInt.fdiv n)->BE s t p n=some (gF s t p):=by
  intro n hn hh hg;have e2:Bq n (2:Int)=(half s).toInt:=by rw[hh];obtain rfl|rfl:=hn<;>rfl
  rw[BE,SB,Ay1 h,Aa,e2,<-Gh (half s),G5,Aa,Bk Bpl,Aa,Aa,Gh,Amb _ n F0 F0 F0,hg,Int32.add_comm]
 rw[KK,SL];obtain rfl|rfl:=hs
 ·rw[Adi Bp3];exact key 512 (.inl rfl) rfl rfl
 ·rw[Abu Bp1];exact key 1024 (.inr rfl) rfl rfl
def stp(i:Nat):Int32:=if i=0 then 4 else if i<4 then 2 else 1
def sg(x:Int32):Int32:=if x.toInt<0 then -1 else if 0<x.toInt then 1 else 0
def yc(t p:LX)(w:Int32):LX:=(List.range 16).map λi=>t.getD i 0+stp i*sg (p.getD i 0)*sg w
theorem MH(t p:LX)(w:Int32):(yc t p w).length=16:=by simp[yc]
theorem Ah6(t p:LX)(w:Int32)(h:i<16):(yc t p w).getD i 0=t.getD i 0+stp i*sg (p.getD i 0)*sg w:=by
 rw[Km (by rw[MH];exact h)];simp[yc]
theorem step_eq(i:Nat):jK (i:Int)=some (stp i):=by
 rw[jK,stp];by_cases h:i=0
 ·rw[Adi (by rw[Ar];simp[h]),Adi h]
 ·rw[Abu Bpm,Abu h];by_cases h2:i<4
  ·rw[Adi Bpi,Adi h2]
  ·rw[Abu Bpi,Abu h2]
theorem Au5(i:Nat):MM (i:Int)=some (stp i):=by
 rw[MM,stp];by_cases h:i=0
 ·rw[Adi (by rw[Ar];simp[h]),Adi h]
 ·rw[Abu Bpm,Abu h];by_cases h2:i<4
  ·rw[Adi (by rw[OG];simp;omega),Adi h2]
  ·rw[Abu (by rw[OG];simp;omega),Abu h2]
theorem Ah8(a b:Int32):Cj a b=decide (a.toInt<b.toInt):=rfl
theorem Ao4(a b:Int32):Dx a b=decide (b.toInt<a.toInt):=rfl
theorem sign_eq(x:Int32):Yz x=some (sg x):=by
 rw[Yz,sg,Ah8,Ao4,show(0:Int32).toInt=0 from rfl];by_cases h:x.toInt<0
 ·rw[Adi (by simpa using h),Adi h]
 ·rw[Abu (by simpa using h),Abu h];by_cases h2:0<x.toInt
  ·rw[Adi (by simpa using h2),Adi h2]
  ·rw[Abu (by simpa using h2),Abu h2]
theorem Asa:sg 0=0:=rfl
theorem toInt_ne(h:x≠0):x.toInt≠0:=λe=>h (Int32.toInt_inj.1 (by rw[e];rfl))
theorem Ahg(h:x.toInt<0):sg x= -1:=by rw[sg,Adi h]
theorem Ahh(h:x≠0)(h2:¬x.toInt<0):sg x=1:=by
 have:=toInt_ne h;rw[sg,Abu h2,Adi F0]
theorem wE(i:Nat):stp i=4\/stp i=2\/stp i=1:=by
 unfold stp;by_cases h:i=0
 ·rw[Adi h];exact .inl rfl
 ·rw[Abu h];split;exact .inr (.inl rfl);exact .inr (.inr rfl)
theorem Avi(hx:x≠0)(hw:w≠0)(h:(x.toInt<0)=(w.toInt<0))(i:Nat):stp i*sg x*sg w=stp i:=by
 by_cases h1:x.toInt<0
 ·rw[Ahg h1,Ahg (by rw[<-h];exact h1)];obtain e|e|e:=wE i<;>rw[e]<;>decide
 ·rw[Ahh hx h1,Ahh hw (by rw[<-h];exact h1)];obtain e|e|e:=wE i<;>rw[e]<;>decide
theorem Aoh(hx:x≠0)(hw:w≠0)(h:¬(x.toInt<0)=(w.toInt<0))(i:Nat)(a:Int32):a+stp i*sg x*sg w=a-stp i:=by
 have key:stp i*sg x*sg w=-stp i:=by
  by_cases h1:x.toInt<0
  ·have h2:¬w.toInt<0:=λh2=>h (propext ⟨λ_=>h2,λ_=>h1⟩);rw[Ahg h1,Ahh hw h2];obtain e|e|e:=wE i<;>rw[e]<;>decide
  ·have h2:w.toInt<0:=Decidable.by_contra λh2=>h (propext ⟨λh3=>absurd h3 h1,λh3=>absurd h3 h2⟩);rw[Ahh hx h1,Ahg h2];obtain e|e|e:=wE i<;>rw[e]<;>decide
 rw[key,Int32.sub_eq_add_neg]
def L8(i:Nat):Nat->Bool:=λj=>decide (j<i)
theorem Aeb(h:i<a.length):Mv (mN (L8 i) a b) (i:Int) (a.getD i 0)=some (mN (L8 (i+1)) a b):=by
 rw[oA h];congr 1;apply Xz;intro k _;rw[An7];simp only[L8,Biu,Ahz];omega
theorem Av5(e:a.getD i 0=b.getD i 0):mN (L8 i) a b=mN (L8 (i+1)) a b:=by
 apply Bn6;intro k _;simp only[L8,Ahz];by_cases h1:k<i
 ·rw[Adi h1,Adi F0]
 ·by_cases h2:k=i
  ·subst h2;rw[Abu h1,Adi F0,e]
  ·rw[Abu h1,Abu F0]
theorem Am0(h:i<a.length):Am (mN (L8 i) a b) (i:Int)=some (b.getD i 0):=by
 rw[FK h,Abu (by simp[L8])]
theorem Ag1{s:Int}{t p:LX}{w:Int32}(hw:w≠0)(ht:t.length=16)(hp:p.length=16):∀(j i q:Nat),i+j=16->j<q->Xx w p s q (i:Int) (mN (L8 i) (yc t p w) t)=some (s,yc t p w,p,0)
 |0,i,q+1,hi,_=>by
  obtain rfl:i=16:=F0
  rw[Xx,RI,Abu Bpr,wH (λk hk=>by rw[MH]at hk;simpa [L8]using hk)];rfl
 |j+1,i,q+1,hi,hq=>by
  have hl:=MH t p w;have hg:=Ah6 t p w (i:=i) F0;rw[Xx,RI,Adi Bpi,g32 F0,Aa,Ag (b:=1) F0 F0,Am0 F0,step_eq];simp only[Aa];rw[jF,aL,Arq,Ah8,Ah8,show(0:Int32).toInt=0 from rfl];have ih:=Ag1 (s:=s) hw ht hp j (i+1) q F0 F0;by_cases hx:p.getD i 0=0
  ·rw[Adi (by rw[hx];rfl),Av5 (by rw[hg,hx,Asa,Int32.mul_zero,Int32.zero_mul,Int32.add_zero])];exact ih
  ·rw[Abu (by simpa using hx)];by_cases hs:((p.getD i 0).toInt<0)=(w.toInt<0)
   ·rw[Adi (by rw[Bcg];simp only[hs]),show t.getD i 0+stp i=(yc t p w).getD i 0 by rw[hg,Avi hx hw hs],Aeb F0,Aa];exact ih
   ·rw[Abu (by rw[Bcg,decide_eq_decide];exact λh=>hs (propext h)),show t.getD i 0-stp i=(yc t p w).getD i 0 by rw[hg,Aoh hx hw hs],Aeb F0,Aa];exact ih
theorem Axd(p:LX)(ht:t.length=16):yc t p 0=t:=by
 apply Bit (by rw[MH,ht]);intro i h1 h2;have:=Ah6 t p 0 (i:=i) F0;rw[Km h1,Km h2]at this;rw[this,Asa,Int32.mul_zero,Int32.add_zero]
theorem Alp(h:OkF s t p)(w:Int32):oN s t p w=some (s,yc t p w,p,0):=by
 rw[oN,gY,R9 h,Aa,Abu Bpk,Arq];by_cases hw:w=0
 ·rw[Adi (by simpa using hw),hw,Axd p h.2.1]
 ·have h1:=Ag1 (s:=s) hw h.2.1 h.2.2 16 0 Au F0 F8;rw[rC (by rw[MH,h.2.1]) (λk _=>by simp[L8])]at h1;rw[Abu (by simpa using hw)];exact h1
theorem J0{s:Int}{t p:LX}{w:Int32}(ht:t.length=16)(hp:p.length=16):∀(j i q:Nat),i+j=16->j<q->Jw w s p q (i:Int) (mN (L8 i) (yc t p w) t)=some (s,yc t p w,p)
 |0,i,q+1,hi,_=>by
  obtain rfl:i=16:=F0
  rw[Jw,Uv,Abu Bpr,wH (λk hk=>by rw[MH]at hk;simpa [L8]using hk)];rfl
 |j+1,i,q+1,hi,hq=>by
  have hl:=MH t p w;have hg:=Ah6 t p w (i:=i) F0;rw[Jw,Uv,Adi Bpi,g32 (l:=p) F0,Ag (b:=1) F0 F0,Am0 F0,Au5,sign_eq w,Aa,Aa,Aa,Aa,Aa,sign_eq,Aa,Aa,Aa,jF,xw,xw,<-hg,Aeb F0,Aa];exact J0 ht hp j (i+1) q F0 F0
theorem Aqe(h:OkF s t p)(w:Int32):SA s t p w=some (s,yc t p w,p):=by
 have h1:=J0 (s:=s) (w:=w) h.2.1 h.2.2 16 0 Au F0 F8;rw[rC (by rw[MH,h.2.1]) (λk _=>by simp[L8])]at h1;exact h1
theorem Bdo(h:p.length=16):∃a0 a1 a2 a3 a4 a5 a6 a7 a8 a9 b0 b1 b2 b3 b4 b5,p=[a0,a1,a2,a3,a4,a5,a6,a7,a8,a9,b0,b1,b2,b3,b4,b5]:=by
 match p,h with
 |[a0,a1,a2,a3,a4,a5,a6,a7,a8,a9,b0,b1,b2,b3,b4,b5],_=>exact⟨a0,a1,a2,a3,a4,a5,a6,a7,a8,a9,b0,b1,b2,b3,b4,b5,rfl⟩
theorem Aq1(h:OkF s t p)(x:Int32):wR s t p x=some (s,t,x::p.take 15,0):=by
 obtain⟨hs,ht,hp⟩:=h;rw[wR,XU,R9 ⟨hs,ht,hp⟩,Aa,Abu Bpk,show jT (16:Int) 1 16=some ()from rfl,Aa,show jT (16:Int) 0 16=some ()from rfl,Aa,nL,G2];obtain⟨a0,a1,a2,a3,a4,a5,a6,a7,a8,a9,b0,b1,b2,b3,b4,b5,rfl⟩:=Bdo hp;rfl
def shf(p:LX)(i:Nat):LX:=(List.range 16).map λk=>if k<=i then p.getD k 0 else p.getD (k-1) 0
theorem FN(p:LX)(i:Nat):(shf p i).length=16:=by simp[shf]
theorem Bee(p:LX)(i k:Nat)(h:k<16):(shf p i).getD k 0=if k<=i then p.getD k 0 else p.getD (k-1) 0:=by
 rw[Km (by rw[FN];exact h)];simp[shf]
theorem Bep(p:LX)(i:Nat)(h:i+1<16):Mv (shf p (i+1)) ((i+1:Nat):Int) (p.getD i 0)=some (shf p i):=by
 rw[Tk _ (by rw[FN];exact h)];congr 1;apply Bit (by simp[FN]);intro k h1 h2;rw[FN]at h2;rw[Bo6];simp only[shf,Bnl,Bnb];by_cases hk:i+1=k
 ·subst hk;rw[Adi rfl,Abu F0];rfl
 ·rw[Abu hk];by_cases h3:k<=i
  ·rw[Adi F0,Adi h3]
  ·rw[Abu F0,Abu h3]
theorem mg(s:Int)(t p:LX)(x:Int32)(hp:p.length=16):∀(i q:Nat),i<16->i<q->Ld x s t q (i:Int) (shf p i)=some (s,t,x::p.take 15)
 |0,q+1,_,_=>by
  have hg:Am (shf p 0) (0:Int)=some ((shf p 0).getD 0 0):=g32 (l:=shf p 0) (k:=0) (by rw[FN];omega);have hset:Mv (shf p 0) (0:Int) x=some ((shf p 0).set 0 x):=Tk (l:=shf p 0) (n:=0) x (by rw[FN];omega);rw[Ld,Xg,Abu Bpz,IW,KC,hg,Aa,hset,Aa];congr 3;apply Bit (by simp[FN,hp]);intro k h1 h2;rw[Bmx,FN]at h1;rw[Bo6];cases k with
  |zero=>rw[Adi rfl];rfl
  |succ k=>
   rw[Abu F0];simp only[shf,Bnl,Bnb,List.getElem_cons_succ,List.getElem_take];rw[Abu F0,Nat.add_sub_cancel,Km F0]
 |i+1,q+1,hi,hq=>by
  have hg:=g32 (l:=shf p (i+1)) (k:=i) (by rw[FN];omega);rw[Bee p (i+1) i F0,Adi F0]at hg;have e1:Aq ((i+1:Nat):Int) (1:Int)=(i:Int):=by rw[Bv];omega
  have hg2:=g32 (l:=shf p (i+1)) (k:=i+1) (by rw[FN];omega);rw[Ld,Xg,Adi Bpz,e1,hg,Aa,Aa,hg2,Aa,Bep p i hi,Aa];exact mg s t p x hp i q F0 F0
theorem Avw(hp:p.length=16)(x:Int32):VY s t p x=some (s,t,x::p.take 15):=by
 have h:=mg s t p x hp 15 Au F0 F8;have e:shf p 15=p:=by
  apply Bit (by rw[FN,hp]);intro k h1 h2;rw[FN]at h1;simp only[shf,Bnl,Bnb];rw[Adi F0,Km h2]
 rw[e]at h;exact h
theorem Ax5(h:OkF s t p)(w x:Int32):OkF s (yc t p w) (x::p.take 15):=⟨h.1,MH _ _ _,by simp[h.2.2]⟩
theorem Bez(h:OkF s t p)(y:Int32):uR s t p y=some (y+gF s t p,s,yc t p y,(y+gF s t p)::p.take 15,0):=by
 rw[uR,Al1 h,Aa];simp only;rw[Abu Bpk,jF,ZG,Alp h,Aa];simp only;rw[Aq1 (s:=s) (t:=yc t p y) (p:=p) ⟨h.1,MH _ _ _,h.2.2⟩,Aa];rfl
theorem At0(h:OkF s t p)(y:Int32):AH s t p y=some (y+gF s t p,s,yc t p y,(y+gF s t p)::p.take 15):=by
 rw[AH,Bdb h,Aa,G5,Aa,Aqe h,Aa];simp only;rw[Avw h.2.2,Aa]
def sB(bits:Int):Int:=if bits=16 then 9 else 10
def shB(bits:Int):Int:=if bits=8 then 4 else 5
def Bd(bits:Int):Prop:=bits=8\/bits=16\/bits=24
def gs(sh:Int)(last:Int32):Int32:=Ad (Ail (Aq (Du (Ad last:Int) sh.toNat) (Ad last)) sh.toNat)
theorem Bla(bits:Int):sB bits=9\/sB bits=10:=by unfold sB;split<;>simp
theorem Ber(bits:Int):0<=shB bits:=by unfold shB;split<;>omega
theorem Bna(h:Bd bits)(t:LX):K5 bits t=some (sB bits,t,List.replicate 16 0,0):=by
 obtain rfl|rfl|rfl:=h<;>rfl
theorem Bjm(h:Bd bits):sR bits=some (shB bits,0):=by
 obtain rfl|rfl|rfl:=h<;>rfl
theorem Bh2{sh:Int}(h:0<=sh)(last:Int32):dL sh last=some (gs sh last):=by
 rw[dL,Bk (by rw[Ec];simpa using h),Aa,Aa];rfl
theorem Aze(h:Bd bits)(last:Int32):AP bits last=some (gs (shB bits) last,0):=by
 rw[AP,Bjm h,Aa];simp only;rw[Abu Bpk,Bh2 (Ber bits),Aa]
theorem Adt(h:Bd bits)(last:Int32)(t p:LX):AO bits last (sB bits) t p=some 0:=by
 rw[AO,Bna h,Aa];simp only;rw[Abu (by rw[Ah,Ah];simp)]
theorem Auq(h:Bd bits)(hF:OkF (sB bits) t p)(last y:Int32):
  On bits last (sB bits) t p y=some (y+gF (sB bits) t p+gs (shB bits) last,bits,y+gF (sB bits) t p+gs (shB bits) last,sB bits,yc t p y,(y+gF (sB bits) t p)::p.take 15,0):=by
 rw[On,Adt h,Aa,Abu Bpk,Aze h,Aa];simp only;rw[Bez hF,Aa];simp only;rw[jF]
theorem W7(sh:Int)(hs:sh=4\/sh=5)(last:Int32):Ui sh last=some (gs sh last):=by
 have hl:=DW last;have key:∀n:Int,n=16\/n=32->gs sh last=Int32.ofInt (((n-1)*last.toInt).fdiv n)->Wz last n=some (gs sh last):=by
  intro n hn hg;have e:Bi (Aq n (1:Int)) (Ad last:Int)=(n-1)*last.toInt:=by
   obtain rfl|rfl:=hn<;>(rw[Gh,Bv,Fa])
  rw[Wz,JA,Bk Bpl,Aa,Aa,e,Amb _ n F0 (by obtain rfl|rfl:=hn<;>omega) (by obtain rfl|rfl:=hn<;>omega),hg]
 rw[Ui,MF];obtain rfl|rfl:=hs
 ·rw[Abu Bp1];refine key 16 (.inl rfl) ?_;have e:Du (Ad last:Int) (4:Int).toNat=last.toInt*16:=by
   rw[Gh];show wrap64 (last.toInt*2^4)=_;rw[Cz]<;>omega
  rw[gs,e,Gh,Bv,YQ]
  show Int32.ofInt ((last.toInt*16-last.toInt).fdiv 16)=_;congr 2;omega
 ·rw[Adi Bp3];refine key 32 (.inr rfl) ?_;have e:Du (Ad last:Int) (5:Int).toNat=last.toInt*32:=by
   rw[Gh];show wrap64 (last.toInt*2^5)=_;rw[Cz]<;>omega
  rw[gs,e,Gh,Bv,YQ]
  show Int32.ofInt ((last.toInt*32-last.toInt).fdiv 32)=_;congr 2;omega
theorem Awq(h:Bd bits)(hF:OkF (sB bits) t p)(last y:Int32):
  AB bits last (sB bits) t p y=some (y+gF (sB bits) t p+gs (shB bits) last,bits,y+gF (sB bits) t p+gs (shB bits) last,sB bits,yc t p y,(y+gF (sB bits) t p)::p.take 15):=by
 have hb:DT bits last (sB bits) t p=some (Ad (gs (shB bits) last):Int):=by
  rw[DT];obtain rfl|rfl|rfl:=h
  ·rw[Adi Bp3,W7 4 (.inl rfl),Aa];rfl
  ·rw[Abu Bp1,W7 5 (.inr rfl),Aa];rfl
  ·rw[Abu Bp1,W7 5 (.inr rfl),Aa];rfl
 rw[AB,At0 hF,Aa];simp only;rw[hb,Aa,G5,Aa]
theorem Bl0(h:Bd bits)(t:LX):iN bits t=some (bits,0,sB bits,t,List.replicate 16 0,0):=by
 obtain rfl|rfl|rfl:=h<;>rfl
def ZC(n:UInt32):Int32:=if n.toNat %2=0 then Int32.ofInt ((n.toNat/2:Nat):Int)else Int32.ofInt (-((n.toNat/2:Nat):Int)-1)
theorem Amn(a b:Int32):(BH a b).toBitVec=a.toBitVec^^^b.toBitVec:=by
 show(Int32.ofInt ((BitVec.ofInt 32 a.toBitVec.toInt^^^BitVec.ofInt 32 b.toBitVec.toInt).toNat:Int)).toBitVec=_;rw[BitVec.ofInt_toInt,BitVec.ofInt_toInt,Int32.toBitVec_ofInt,BitVec.ofInt_natCast,BitVec.ofNat_toNat,BitVec.setWidth_eq]
theorem Blz(m:Nat)(h:m<2147483648):BH (Int32.ofInt (m:Int)) (Int32.ofInt (-1))=Int32.ofInt (-(m:Int)-1):=by
 apply Int32.toBitVec_inj.1;have e1:(Int32.ofInt (-1)).toBitVec=BitVec.allOnes 32:=F2
 rw[Amn,e1,BitVec.xor_allOnes,Int32.toBitVec_ofInt,Int32.toBitVec_ofInt];apply Bob;rw[BitVec.toNat_not,Bi4,Bi4];omega
theorem Azu(n:UInt32):CP n=some (ZC n):=by
 have hn:=n.toNat_lt;have e1:(Ad (Cw n (GI.toZ (1:UInt64)).toNat):Int32)=Int32.ofInt ((n.toNat/2:Nat):Int):=by
  show Int32.ofInt ((Cw n 1).toNat:Int)=_;rw[SC]
 have e2:(Ad (Ez n (1:UInt32)):Int32)=Int32.ofInt ((n.toNat %2:Nat):Int):=by
  show Int32.ofInt ((Ez n (1:UInt32)).toNat:Int)=_;rw[Aba,UInt32.toNat_and]
  show Int32.ofInt ((n.toNat&&&1:Nat):Int)=_;rw[Nat.and_one_is_mod]
 rw[CP,e1,e2,ZC];congr 1;by_cases h:n.toNat %2=0
 ·have e3:G4 (Int32.ofInt ((n.toNat %2:Nat):Int))=Int32.ofInt 0:=by rw[h];decide
  rw[Adi h,e3];apply Int32.toBitVec_inj.1;rw[Amn,show(Int32.ofInt 0).toBitVec=0#32 from rfl,BitVec.xor_zero]
 ·have e3:G4 (Int32.ofInt ((n.toNat %2:Nat):Int))=Int32.ofInt (-1):=by rw[show n.toNat %2=1 by omega];decide
  rw[Abu h,e3,Blz _ F0]
theorem Bdm(n:UInt32):JZ n=some (ZC n):=by
 have hn:=n.toNat_lt;have e1:geq (CU n (2:UInt32)) (0:UInt32)=decide (n.toNat %2=0):=by
  rw[Ahq,Ake,An7];simp only[Bcg,<-UInt32.toNat_inj,UInt32.toNat_mod,Ahz];rfl
 rw[JZ,e1,ZC];by_cases h:n.toNat %2=0
 ·rw[Adi (by simpa using h),Adi h,Ako];rfl
 ·have e2:(Ad n:Int)=(n.toNat:Int):=wm n;rw[Abu (by simpa using h),Abu h,e2,Ag,Aht,Cz F0 F0,UW,Int.tdiv_eq_ediv,YQ];congr 2;rw[Adi (.inr F0),Cz F0 F0];omega
theorem F9{p:Prop}(h:p:=by rw[Ap,Ac];simp;omega):p:=h
end Go.Pl
namespace Go.Pl
open Go Go.Lv
theorem xZ{c:Prop} [Decidable c](h:c):Jg (decide c)=some ():=by rw[Bk9 h];rfl
def unV(f:Nat->Int32)(ch:Nat):Nat->Int32
 |0=>if 1<ch then f (ch-1)+Bq (f (ch-2)) (2:Int32)else f (ch-1)
 |j+1=>unV f ch j-f (ch-2-j)
def tq(ch:Nat)(m:LX):LX:=(List.range m.length).map λk=>unV (λi=>m.getD (k-k %ch+i) 0) ch (ch-1-k %ch)
theorem nK(ch:Nat)(m:LX):(tq ch m).length=m.length:=by simp[tq]
theorem L6{ch:Nat}{m:LX}{a i:Nat}(ha:a %ch=0)(hi:i<ch)(h:a+i<m.length):(tq ch m).getD (a+i) 0=unV (λi=>m.getD (a+i) 0) ch (ch-1-i):=by
 have hb:(a+i) %ch=i:=by rw[Nat.add_mod,ha,Bg2,Nat.mod_mod,Ajb hi]
 rw[Km (by rw[nK];exact h)];simp only[tq,Bnl,Bnb,hb];rw[show a+i-i=a by omega]
section
variable (ch:Nat) (m:LX)
theorem Aku(h1:1<=ch)(h6:ch<=6)(hm:m.length %ch=0)(hl2:m.length<=4000):kB (ch:Int) m=some 0:=by
 rw[kB,Abu Bpo,Abu F9,Bk Bpl,Aa,Abu];rw[Ah,Ha,Ac,<-Bpa,hm];simp
theorem xk(bk:Int->LX->Option (LX×Int))(at':Nat)(h1:1<=ch)(h6:ch<=6)(hm:at' %ch=0)(hl:at'+ch<=m.length)(hl2:m.length<=4000):∀(i q:Nat),i<=ch-1->i<q->
  CM bk (ch:Int) (at':Int) q ((i:Int)-1) (mN (λk=>decide (k<at'\/ (at'+i<=k/\k<at'+ch))) (tq ch m) m)=bk ((at'+ch:Nat):Int) (mN (λk=>decide (k<at'+ch)) (tq ch m) m)
 |0,q+1,hi,_=>by
  have e4:Ae (at':Int) (ch:Int)=((at'+ch:Nat):Int):=by rw[Ag];omega
  rw[CM,XL,Abu Bpq,nI,J2,e4];congr 1;apply Xz;intro k _;rw[An7];simp;omega
 |i+1,q+1,hi,hq=>by
  have hlen:=nK ch m;have e2:Ae (at':Int) (ch:Int)-(at':Int)=(ch:Int):=by rw[Ag];omega
  have e3:Ae (i:Int) 1=((i+1:Nat):Int):=by rw[Ag];omega
  have hv:((tq ch m).getD (at'+(i+1)) 0-m.getD (at'+i) 0)=(tq ch m).getD (at'+i) 0:=by
   rw[L6 hm F0 F0,L6 hm F0 F0,show ch-1-i=(ch-1-(i+1))+1 by omega,unV,show ch-2-(ch-1-(i+1))=i by omega]
  rw[CM,XL,show((i+1:Nat):Int)-1=(i:Int) by omega,Adi Bpq,e2,e3,xZ F0,Aa,xZ F0,Aa,
   show(at':Int)+((i+1:Nat):Int)=((at'+(i+1):Nat):Int) by omega,show(at':Int)+(i:Int)=((at'+i:Nat):Int) by omega,
   FK F0,Aa,FK F0,Aa,Aa,Adi F7,Abu F7,aL,hv,oA F0,Aa,Bv]
  have ih:=xk bk at' h1 h6 hm hl hl2 i q F0 F0;rw[<-ih];congr 1;apply Xz;intro k _;rw[An7];simp;omega
theorem K2{at' ch n:Nat}(ha:at' %ch=0)(hm:n %ch=0)(h:at'<n):at'+ch<=n:=by
 have d1:=Bm9 at' ch;have d2:=Bm9 n ch;rw[ha,Bli]at d1;rw[hm,Bli]at d2;have hlt:at'/ch<n/ch:=by
  rcases Bok (at'/ch) (n/ch)with h'|h'
  ·exact h'
  ·have:=Bmo ch h';omega
 have:=Bmo ch (show at'/ch+1<=n/ch from hlt);rw[Nat.mul_add]at this;omega
theorem Afg(h1:1<=ch)(h6:ch<=6)(hm:m.length %ch=0)(hl2:m.length<=4000):∀(j at' q:Nat),at' %ch=0->at'<=m.length->m.length-at'<=j->j<q->
  Wv (ch:Int) q (at':Int) (mN (λk=>decide (k<at')) (tq ch m) m)=some (tq ch m,0)
 |j,at',q+1,ha,hle,hj,hq=>by
  have hlen:=nK ch m;have hl:Ac (mN (λk=>decide (k<at')) (tq ch m) m)=(m.length:Int):=by rw[Ac,RL,hlen]
  rw[Wv,lW,hl];by_cases h:at'<m.length
  ·have hb:=K2 ha hm h;obtain⟨j,rfl⟩:∃k,j=k+1:=⟨j-1,F0⟩;have e1:Aq (Ae (at':Int) (ch:Int)-(at':Int)) 1=((ch-1:Nat):Int):=by rw[Ag,Bv];omega
   have e2:Ae (at':Int) (ch:Int)-(at':Int)=(ch:Int):=by rw[Ag];omega
   have e4:Ae (at':Int) (ch:Int)=((at'+ch:Nat):Int):=by rw[Ag];omega
   have hi:=xk ch m (Wv (ch:Int) q) at' h1 h6 ha hb hl2 (ch-1) Au F0 F8;have hrest:=Afg h1 h6 hm hl2 j (at'+ch) q (by rw[Bov,ha]) hb F0 F0;have hstart:nS (Wv (ch:Int) q) (ch:Int) (at':Int) (mN (λk=>decide (k<at'\/ (at'+(ch-1)<=k/\k<at'+ch))) (tq ch m) m)=some (tq ch m,0):=by
    have e6:Aq ((ch-1:Nat):Int) 1=((ch-1:Nat):Int)-1:=Bv;rw[nS,lN,mA,e1,e6];exact Bma hi hrest
   rw[Adi Bpi,show jT (m.length:Int) (at':Int) (Ae (at':Int) (ch:Int))=some () by rw[e4,jT,xZ];omega,Aa,e1,e2];have hlast:=L6 (m:=m) ha (show ch-1<ch by omega) F0;rw[show ch-1-(ch-1)=0 by omega,unV]at hlast;by_cases hc:1<ch
   ·have e5:Aq ((ch-1:Nat):Int) 1=((ch-2:Nat):Int):=by rw[Bv];omega
    rw[Adi hc]at hlast;rw[Adi Bpn,xZ F0,Aa,e5,xZ F0,Aa,show(at':Int)+((ch-1:Nat):Int)=((at'+(ch-1):Nat):Int) by omega,show(at':Int)+((ch-2:Nat):Int)=((at'+(ch-2):Nat):Int) by omega,
     FK F0,Aa,FK F0,Aa,Aa,Abu Bpj,Abu Bpj,jF,<-hlast,oA F0,Aa]
    rw[<-hstart];congr 1;apply Xz;intro k _;rw[An7];simp;omega
   ·have hc1:ch=1:=F0
    rw[Abu Bpn,<-hstart];congr 1;rw[Abu hc]at hlast;apply Bn6;intro k hk;by_cases hk2:k=at'
    ·subst hk2;rw[Abu Bpj,Adi F7];rw[show k+(ch-1)=k by omega]at hlast;exact hlast.symm
    ·by_cases hk3:k<at'
     ·rw[Adi F7,Adi F7]
     ·rw[Abu F7,Abu F7]
  ·rw[Abu Bpi,wH (λk hk=>by simp;omega)];rfl
theorem Bdu(h1:1<=ch)(h6:ch<=6)(hm:m.length %ch=0)(hl2:m.length<=4000):I0 (ch:Int) m=some (tq ch m,0):=by
 have hlen:=nK ch m;have h:=Afg ch m h1 h6 hm hl2 m.length 0 Au Bpj F0 F0 F8;rw[I0,uW,Aku ch m h1 h6 hm hl2,Aa,Abu Bpk,Dr,Bf F7,Aa,Aa,Awv,K1];rw[rC hlen.symm (λk _=>by simp)]at h;exact h
end
def Y0(f:Nat->Int32)(ch:Nat):LX:=(List.range ch).map λi=>unV f ch (ch-1-i)
theorem jV(f:Nat->Int32)(ch:Nat):(Y0 f ch).length=ch:=by simp[Y0]
theorem N3(f:Nat->Int32){ch i:Nat}(h:i<ch):(Y0 f ch).getD i 0=unV f ch (ch-1-i):=by
 rw[Km (by rw[jV];exact h)];simp[Y0]
theorem Bay(a b:Int32):Dv (Aq (Ad a:Int) (Ad b:Int))=some (a-b):=by
 have:=DW a;have:=DW b;rw[Gh,Gh,Bv,ug,Int32.ofInt_sub,Bjl,Bjl]
theorem Avr(a b:Int32):Dv (Ae (Ad a:Int) (Bq (Ad b:Int) (2:Int)))=some (a+Bq b (2:Int32)):=by
 have:=DW a;have hb:=DW b;have hd: -2147483648<=b.toInt.tdiv 2/\b.toInt.tdiv 2<=2147483648:=by
  rw[Int.tdiv_eq_ediv,show Int.sign 2=1 from rfl];by_cases h:0<=b.toInt\/2∣b.toInt
  ·rw[Adi h];omega
  ·rw[Abu h];omega
 have e:Bq b (2:Int32)=Int32.ofInt (b.toInt.tdiv 2):=rfl;rw[Gh,Gh,UW,Cz F0 F0,Ag,ug,Int32.ofInt_add,Bjl,e]
theorem H4(seg z:LX)(ch:Nat)(h6:ch<=6)(hs:seg.length=ch)(hz:z.length=ch):∀(i q:Nat),i+1<=ch->i<q->
  Js seg q ((i:Int)-1) (mN (λk=>decide (i<=k)) (Y0 (λi=>seg.getD i 0) ch) z)=some (Y0 (λi=>seg.getD i 0) ch)
 |0,q+1,hi,_=>by
  rw[Js,Vq,Abu Bpq,wH (λk hk=>by simp)];rfl
 |i+1,q+1,hi,hq=>by
  have hlen:=jV (λi=>seg.getD i 0) ch;have e3:Ae (i:Int) 1=((i+1:Nat):Int):=by rw[Ag];omega
  have hv:(Y0 (λi=>seg.getD i 0) ch).getD (i+1) 0-seg.getD i 0=(Y0 (λi=>seg.getD i 0) ch).getD i 0:=by
   rw[N3 _ F0,N3 _ F0,show ch-1-i=(ch-1-(i+1))+1 by omega,unV,show ch-2-(ch-1-(i+1))=i by omega]
  rw[Js,Vq,show((i+1:Nat):Int)-1=(i:Int) by omega,Adi Bpq,e3,FK F0,Aa,g32 F0,Aa,Aa,Adi Bpj,Bay,Aa,FK F0,Aa,hv,oA F0,Aa,Bv];have ih:=H4 seg z ch h6 hs hz i q F0 F0;rw[<-ih];congr 1;apply Xz;intro k _;rw[An7];simp;omega
theorem Amr{l:LX}{i:Nat}(v:Int32)(h:i<l.length):(l.set i v).getD i 0=v:=by
 rw[Km (by rw[Bmx];exact h)];simp
theorem An9(seg:LX)(ch:Nat)(h1:1<=ch)(h6:ch<=6)(hs:seg.length=ch):BA seg=some (Y0 (λi=>seg.getD i 0) ch):=by
 have hlen:=jV (λi=>seg.getD i 0) ch;have hzl:(List.replicate ch (0:Int32)).length=ch:=by simp
 have e1:Aq (Ac seg) 1=((ch-1:Nat):Int):=by rw[Ac,hs,Bv];omega
 have e2:Aq (Ac seg) 2=((ch-1:Nat):Int)-1:=by rw[Ac,hs,Bv];omega
 have hlast:=N3 (λi=>seg.getD i 0) (show ch-1<ch by omega);rw[show ch-1-(ch-1)=0 by omega,unV]at hlast;have hend:∀z:LX,z.length=ch->z.getD (ch-1) 0=(Y0 (λi=>seg.getD i 0) ch).getD (ch-1) 0->Uy seg z=some (Y0 (λi=>seg.getD i 0) ch):=by
  intro z hz hzl;have h:=H4 seg z ch h6 hs hz (ch-1) Au F0 F8;have e:mN (λk=>decide (ch-1<=k)) (Y0 (λi=>seg.getD i 0) ch) z=z:=by
   apply Bit (by rw[RL,hlen,hz]);intro k k1 k2;rw[Wf];by_cases hk:ch-1<=k
   ·obtain rfl:k=ch-1:=F0
    rw[Adi Bpj,<-hzl,Km k2]
   ·rw[Abu (by simpa using hk),Km k2]
  rw[e]at h;rw[Uy,IF,e2];exact h
 rw[BA,HD,Ac,hs,pM,Aa,Bk Bqa,Aa];rw[Ac,hs]at e1;rw[Ac,hs]at e2;have hz1:(List.replicate (Int.toNat (ch:Int)) (0:Int32)).length=ch:=by simp
 have hs1:=g32 (l:=seg) (k:=ch-1) F0;rw[e1,hs1,Aa,g32 F0,Aa,Tk _ F0,Aa];by_cases hc:1<ch
 ·rw[Adi hc]at hlast;have e3:((ch-1:Nat):Int)-1=((ch-2:Nat):Int):=F0
  have hs2:=g32 (l:=seg) (k:=ch-2) F0;rw[Adi Bpn,Aa,e2,e3,hs2,Aa,Avr,Aa,g32 (by rw[Bmx];omega),Aa,Tk _ (by rw[Bmx];omega),Aa];refine hend _ Bpj ?_;rw[hlast,Amr _ (by rw[Bmx];omega)]
 ·rw[Abu hc]at hlast;rw[Abu Bpn];refine hend _ Bpj ?_;rw[hlast,Amr _ F0]
theorem Bew(ch:Nat)(m:LX)(h1:1<=ch)(h6:ch<=6)(hm:m.length %ch=0)(hl2:m.length<=4000):Wq (ch:Int) m=some 0:=by
 rw[Wq,Abu Bpo,Abu F9,Bk Bpl,Aa,Abu];rw[Ap,Ha,Ac,<-Bpa,hm];simp
theorem Z9(ch:Nat)(m:LX)(h1:1<=ch)(h6:ch<=6)(hm:m.length %ch=0)(hl2:m.length<=4000):∀(j at' q:Nat),at' %ch=0->at'<=m.length->m.length-at'<=j->j<q->
  Sn (ch:Int) m q (at':Int) ((tq ch m).take at')=some (tq ch m,0)
 |j,at',q+1,ha,hle,hj,hq=>by
  have hlen:=nK ch m;rw[Sn,UI];by_cases h:at'<m.length
  ·have hb:=K2 ha hm h;have e4:Ae (at':Int) (ch:Int)=((at'+ch:Nat):Int):=by rw[Ag];omega
   have hrest:=Z9 ch m h1 h6 hm hl2 (j-1) (at'+ch) q (by rw[Bov,ha]) hb F0 F0;have hseg:((m.take (at'+ch)).drop at').length=ch:=by simp;omega
   have htl:((tq ch m).take at').length=at':=by simp[hlen];omega
   rw[Adi F3,e4,Qn,Aa,show((at'+ch:Nat):Int).toNat=at'+ch from rfl,show(at':Int).toNat=at' from rfl,An9 _ ch h1 h6 hseg,Aa,Bf (by rw[htl,jV];omega),Aa];have e:(tq ch m).take at'++Y0 (λi=>((m.take (at'+ch)).drop at').getD i 0) ch=(tq ch m).take (at'+ch):=by
    apply Bit (by rw[Afz,htl,jV,Anb,hlen];omega);intro k k1 k2;rw[Anb,hlen]at k2;rw[List.getElem_append,List.getElem_take];by_cases hk:k<at'
    ·rw[dif_pos (by rw[htl];exact hk),List.getElem_take]
    ·rw[dif_neg (by rw[htl];exact hk)];have hu:=L6 (m:=m) ha (show k-at'<ch by omega) F0;rw[show at'+(k-at')=k by omega,Km F0]at hu;have hx:∀n,n<=ch->unV (λi=>((m.take (at'+ch)).drop at').getD i 0) ch n=unV (λi=>m.getD (at'+i) 0) ch n:=by
      have hf:∀i,i<ch-> ((m.take (at'+ch)).drop at').getD i 0=m.getD (at'+i) 0:=by
       intro i hi;rw[Km F0,Km F0];simp
      intro n
      induction n with
      |zero=>
       intro _;rw[unV,unV,hf _ F0];split
       ·rw[hf _ F0]
       ·rfl
      |succ n ih=>intro hn;rw[unV,unV,ih F0,hf _ F0]
     have hy:=N3 (λi=>((m.take (at'+ch)).drop at').getD i 0) (show k-at'<ch by omega);rw[Km (by rw[jV];omega)]at hy;rw[hu,<-hx _ F0,<-hy];congr 1;rw[htl]
   rw[e];exact hrest
  ·rw[Abu F3,Awy F0];rfl
theorem Ave(ch:Nat)(m:LX)(h1:1<=ch)(h6:ch<=6)(hm:m.length %ch=0)(hl2:m.length<=4000):KB (ch:Int) m=some (tq ch m,0):=by
 have h:=Z9 ch m h1 h6 hm hl2 m.length 0 Au Bpj F0 F0 F8;rw[KB,SJ,Bew ch m h1 h6 hm hl2,Aa,Abu Bpk];exact h
def pre{α:Type}(ch c:Nat)(f:α->Nat->α)(a0:α):Nat->α
 |0=>a0
 |m+1=>if m %ch=c then f (pre ch c f a0 m) m else pre ch c f a0 m
theorem Ate{α:Type}(ch c:Nat)(f:α->Nat->α)(a0:α):∀m,m<=c->c<ch->pre ch c f a0 m=a0
 |0,_,_=>rfl
 |m+1,h,h2=>by rw[pre,Abu (by rw[Ajb F0];omega),Ate ch c f a0 m F0 h2]
theorem Aju{α:Type}(ch c i:Nat)(f:α->Nat->α)(a0:α)(hi:i %ch=c)(hc:c<ch):∀j,j<ch->pre ch c f a0 (i+1+j)=pre ch c f a0 (i+1)
 |0,_=>rfl
 |j+1,h=>by
  have hne:(i+1+j) %ch≠c:=by
   intro e;have h1:(i+(1+j)) %ch=i %ch:=by rw[hi,<-e];congr 1;omega
   have h2:(1+j) %ch=0:=by
    have h3:=Nat.sub_mod_eq_zero_of_mod_eq h1;rwa [Bj7]at h3
   rw[Ajb F0]at h2;omega
  rw[show i+1+(j+1)=(i+1+j)+1 by omega,pre,Abu hne,Aju ch c i f a0 hi hc j F0]
theorem Ay0{α:Type}(ch c i:Nat)(f:α->Nat->α)(a0:α)(hi:i %ch=c)(hc:c<ch):pre ch c f a0 (i+ch)=f (pre ch c f a0 i) i:=by
 have h:=Aju ch c i f a0 hi hc (ch-1) F0;rw[show i+1+(ch-1)=i+ch by omega]at h;rw[h,pre,Adi hi]
abbrev CS:=Int32×LX×LX
def Aj2(bits:Int)(s:CS)(y:Int32):Int32:=y+gF (sB bits) s.2.1 s.2.2+gs (shB bits) s.1
def Af2(bits:Int)(s:CS)(y:Int32):CS:=(Aj2 bits s y,yc s.2.1 s.2.2 y,(y+gF (sB bits) s.2.1 s.2.2)::s.2.2.take 15)
def cst(bits:Int)(ch:Nat)(t:LX)(v:LU)(c:Nat):Nat->CS:=pre ch c (λs i=>Af2 bits s (ZC (v.getD i 0))) (0,t,List.replicate 16 0)
def OkC(bits:Int)(s:CS):Prop:=OkF (sB bits) s.2.1 s.2.2
theorem Ai8(bits:Int)(ch:Nat){t:LX}(ht:t.length=16)(v:LU)(c:Nat):∀m,OkC bits (cst bits ch t v c m)
 |0=>⟨Bla bits,ht,by simp[cst,pre]⟩
 |m+1=>by
  have ih:=Ai8 bits ch ht v c m;rw[cst,pre];split
  ·exact Ax5 ih _ _
  ·exact ih
def J1(bits:Int)(ch:Nat)(t:LX)(v:LU):LX:=(List.range v.length).map λi=>Aj2 bits (cst bits ch t v (i %ch) i) (ZC (v.getD i 0))
theorem nZ(bits:Int)(ch:Nat)(t:LX)(v:LU):(J1 bits ch t v).length=v.length:=by simp[J1]
theorem Aiv(bits:Int)(ch:Nat)(t:LX)(v:LU){i:Nat}(h:i<v.length):(J1 bits ch t v).getD i 0=Aj2 bits (cst bits ch t v (i %ch) i) (ZC (v.getD i 0)):=by
 rw[Km (by rw[nZ];exact h)];simp[J1]
abbrev CL:=Int×Int32×(Int×LX×LX×Unit)×Unit
def toC(bits:Int)(s:CS):CL:=(bits,s.1,(sB bits,s.2.1,s.2.2,()),())
def cts(bits:Int)(ch:Nat)(t:LX)(v:LU)(i:Nat):List CL:=(List.range 6).map λc=>toC bits (cst bits ch t v c i)
theorem As4{bits:Int}{ch:Nat}{t:LX}{v:LU}{i c:Nat}(h:c<6):Am (cts bits ch t v i) (c:Int)=some (toC bits (cst bits ch t v c i)):=by
 rw[Bn (by simp[cts];exact h)];simp[cts]
theorem Akq(bits:Int)(ch:Nat)(t:LX)(v:LU)(c m:Nat):cst bits ch t v c (m+1)=if m %ch=c then Af2 bits (cst bits ch t v c m) (ZC (v.getD m 0))else cst bits ch t v c m:=rfl
theorem Ash{bits:Int}{ch:Nat}{t:LX}{v:LU}{i c:Nat}(h:c<6)(hc:i %ch=c):Mv (cts bits ch t v i) (c:Int) (toC bits (Af2 bits (cst bits ch t v c i) (ZC (v.getD i 0))))=some (cts bits ch t v (i+1)):=by
 rw[Tk _ (by simp[cts];exact h)];congr 1;apply Bit (by simp[cts]);intro k h1 h2;rw[Bo6];simp only[cts,Bnl,Bnb];by_cases hk:c=k
 ·subst hk;rw[Adi rfl,Akq,Adi hc]
 ·rw[Abu hk,Akq,Abu F0]
section
variable {bits:Int} {ch:Nat} {t:LX} {v:LU}
theorem Aj7(hb:Bd bits)(ht:t.length=16)(h1:1<=ch)(h6:ch<=6)(hv:v.length<=4000):∀(j i q:Nat),i+j=v.length->j<q->
  Lk v (ch:Int) bits q (i:Int) (cts bits ch t v i) ((J1 bits ch t v).take i)=Oy (ch:Int) bits (J1 bits ch t v)
 |0,i,q+1,hi,_=>by
  rw[Lk,Ox,Abu F3,Awy (by rw[nZ];omega)]
 |j+1,i,q+1,hi,hq=>by
  have hlen:=nZ bits ch t v;have hc:i %ch<6:=Aw0 (Bl6 _ F0) h6;have hok:=Ai8 bits ch ht v (i %ch) i;have hs:=Ash (bits:=bits) (ch:=ch) (t:=t) (v:=v) (i:=i) hc rfl;have hx:=Aiv bits ch t v (i:=i) F0;have hcb:=Auq hb hok (cst bits ch t v (i %ch) i).1 (ZC (v.getD i 0));have ih:=Aj7 hb ht h1 h6 hv j (i+1) q F0 F0;rw[Jq F0,<-Km F0,hx]at ih;rw[Lk,Ox,Adi F3,N1 F0,Aa,Bk Bpl,Aa,DF,As4 hc,Aa,Aa,Azu,Aa];refine Bma (congrArg (λo=>Option.bind o _) hcb) ?_;rw[Aa];simp only;rw[DR,WN,Abu Bpk,DF];refine Bma (congrArg (λo=>Option.bind o _) hs) ?_;rw[Aa,Bf F7,Aa,Ag];exact ih
theorem Awj(hb:Bd bits)(ht:t.length=16)(h1:1<=ch)(h6:ch<=6)(hv:v.length<=4000):Xo (ch:Int) bits t v=Oy (ch:Int) bits (J1 bits ch t v):=by
 have h:=Aj7 hb ht h1 h6 hv v.length 0 Au F0 F8;have e:Au=(Au-7)+1+1+1+1+1+1+1:=by have:=As;omega
 have hs:DV v (ch:Int) bits t 0 (List.replicate 6 ((0:Int),(0:Int32),((0:Int),(List.replicate 16 (0:Int32)),(List.replicate 16 (0:Int32)),()),()))=XD v (ch:Int) bits (cts bits ch t v 0):=by
  rw[DV,e];obtain rfl|rfl|rfl:=hb<;>rfl
 rw[Xo,GN,hs];exact h
theorem Afp(bk:Int->LX->Option LX)(hb:Bd bits)(ht:t.length=16)(h1:1<=ch)(h6:ch<=6)(hv:v.length<=4000)(z:LX)(c:Nat)(hc:c<ch):∀(j i q:Nat),i %ch=c->v.length-i<=j->i<=5000->j<q->
  Ny bk v (ch:Int) bits t (c:Int) q (i:Int) (mN (λk=>decide (k %ch<c\/ (k %ch=c/\k<i))) (J1 bits ch t v) z) bits (cst bits ch t v c i).1 (sB bits) (cst bits ch t v c i).2.1 (cst bits ch t v c i).2.2=
   bk ((c+1:Nat):Int) (mN (λk=>decide (k %ch<c+1)) (J1 bits ch t v) z)
 |j,i,q+1,hi,hj,hi5,hq=>by
  have hlen:=nZ bits ch t v;rw[Ny,HO];by_cases h:i<v.length
  ·have hok:=Ai8 bits ch ht v c i;have hst:=Awq hb hok (cst bits ch t v c i).1 (ZC (v.getD i 0));have hx:=Aiv bits ch t v (i:=i) h;rw[hi]at hx;have ih:=Afp bk hb ht h1 h6 hv z c hc (j-1) (i+ch) q (by rw[Bov];exact hi) F0 F0 F0;have Adj:cst bits ch t v c (i+ch)=Af2 bits (cst bits ch t v c i) (ZC (v.getD i 0)):=Ay0 ch c i _ _ hi hc;rw[Adj]at ih;have hset:=oA (p:=λk=>decide (k %ch<c\/ (k %ch=c/\k<i))) (a:=J1 bits ch t v) (b:=z) (k:=i) F0;rw[hx]at hset;have An1:mN (λj=>decide (j %ch<c\/ (j %ch=c/\j<i))||decide (j=i)) (J1 bits ch t v) z=mN (λk=>decide (k %ch<c\/ (k %ch=c/\k<i+ch))) (J1 bits ch t v) z:=by
    apply Xz;intro k _;rw[An7];simp only[Biu,Ahz];constructor
    ·rintro((h1|h1)|h1)
     ·exact .inl h1
     ·exact .inr ⟨h1.1,F0⟩
     ·subst h1;exact .inr ⟨hi,F0⟩
    ·rintro(h1|⟨h1,h2⟩)
     ·exact .inl (.inl h1)
     ·by_cases h3:k<i
      ·exact .inl (.inr ⟨h1,h3⟩)
      ·refine .inr ?_;have h4:(i+(k-i)) %ch=i %ch:=by rw[show i+(k-i)=k by omega,h1,hi]
       have h5:=Nat.sub_mod_eq_zero_of_mod_eq h4;rw[Bj7,Ajb F0]at h5;omega
   rw[An1]at hset;rw[Adi F3,N1 h,Aa,Bdm,Aa];refine Bma (congrArg (λo=>Option.bind o _) hst) ?_;rw[Aa];simp only;rw[HV,HP,FK F0,Aa];refine Bma (congrArg (λo=>Option.bind o _) hset) ?_;rw[Aa,GZ,HH,Ag];exact ih
  ·rw[Abu F3,HF,HT,Ag];have An1:mN (λk=>decide (k %ch<c\/ (k %ch=c/\k<i))) (J1 bits ch t v) z=mN (λk=>decide (k %ch<c+1)) (J1 bits ch t v) z:=by
    apply Xz;intro k hk;rw[An7];simp only[Ahz];omega
   rw[An1];rfl
theorem Age(hb:Bd bits)(ht:t.length=16)(h1:1<=ch)(h6:ch<=6)(hv:v.length<=4000)(z:LX):∀(j c q:Nat),c+j=ch->j<q->
  Hc v (ch:Int) bits t q (c:Int) (mN (λk=>decide (k %ch<c)) (J1 bits ch t v) z)=Uw (ch:Int) bits (J1 bits ch t v)
 |0,c,q+1,hc,_=>by
  rw[Hc,Ux,Abu Bpi,wH (λk hk=>by have:=Bl6 k (show 0<ch by omega);simp;omega)]
 |j+1,c,q+1,hc,hq=>by
  have ih:=Age hb ht h1 h6 hv z j (c+1) q F0 F0;have hin:=Afp (Hc v (ch:Int) bits t q) hb ht h1 h6 hv z c F0 v.length c Au (Ajb F0) F0 F0 F8;have h0:cst bits ch t v c c=(0,t,List.replicate 16 0):=Ate ch c _ _ c (An6 _) F0;rw[h0]at hin;have An1:mN (λk=>decide (k %ch<c\/ (k %ch=c/\k<c))) (J1 bits ch t v) z=mN (λk=>decide (k %ch<c)) (J1 bits ch t v) z:=by
   apply Xz;intro k hk;have:=Bow k ch;rw[An7];simp only[Ahz];omega
  rw[An1]at hin;rw[Hc,Ux,Adi Bpi,Bl0 hb,Aa];simp only;rw[HS];exact Bma hin ih
theorem Agf(hb:Bd bits)(ht:t.length=16)(h1:1<=ch)(h6:ch<=6)(hv:v.length<=4000)(hm:v.length %ch=0):Ug (ch:Int) bits t v=some (tq ch (J1 bits ch t v)):=by
 have hlen:=nZ bits ch t v;have h:=Age hb ht h1 h6 hv (List.replicate v.length 0) ch 0 Au F0 F8;rw[rC (by rw[hlen];simp) (λk _=>by simp)]at h;rw[Ug,JT,Ac,pM,Aa,Bk Bqa,Aa,IG];refine Bma h ?_;rw[Uw,HQ,Ave ch _ h1 h6 (by rw[hlen];exact hm) F0,Aa]
end
def hB(bits:Int):Int:=if bits=8 then 128 else if bits=16 then 32768 else 8388608
theorem Aau{bits:Int}(h:Bd bits):Te bits=some (Int32.ofInt (-(hB bits)),Int32.ofInt (hB bits-1),0):=by
 obtain rfl|rfl|rfl:=h<;>decide
theorem WI{bits:Int}(h:Bd bits):Lg bits=some (hB bits):=by
 obtain rfl|rfl|rfl:=h<;>rfl
theorem JL(bits:Int):0<hB bits/\hB bits<=8388608:=by
 unfold hB;split; · omega
 ·split<;>omega
theorem Ab0{bits:Int}(h:Bd bits)(l:LX)(hl:l.length<=4000):∀(j i q:Nat),i+j=l.length->j<q->
  Uu (Int32.ofInt (-(hB bits))) (Int32.ofInt (hB bits-1)) l q (i:Int)=Ba l (hB bits) q (i:Int)
 |0,i,q+1,hi,_=>by
  rw[Uu,JC,Ba,Cy,Abu F3,Abu F3];rfl
 |j+1,i,q+1,hi,hq=>by
  have hh:=JL bits;have ih:=Ab0 h l hl j (i+1) q F0 F0;have e1:(Int32.ofInt (-(hB bits))).toInt= -(hB bits):=by rw[Bmq,Bo9 (by show -(4294967296/2:Int)<= _;omega) (by show _<(4294967296+1)/2;omega)]
  have e2:(Int32.ofInt (hB bits-1)).toInt=hB bits-1:=by rw[Bmq,Bo9 (by show -(4294967296/2:Int)<= _;omega) (by show _<(4294967296+1)/2;omega)]
  rw[Uu,JC,Ba,Cy,Adi F3,Adi F3,g32 F0,Aa,Aa,Aa,Gh,Aht,Cz F0 F0,Ag,Ah8,Ao4,e1,e2,Af,Ec];generalize(l.getD i 0).toInt=X;by_cases h1:X< -(hB bits)
  ·rw[Adi F7,Adi F7]
  ·rw[Abu (c:=decide (X<0-hB bits)=true) F7];by_cases h2:hB bits<=X
   ·rw[Adi F7,Adi F7]
   ·rw[Abu F7,Abu F7];exact ih
theorem bL{bits:Int}(h:Bd bits)(l:LX)(hl:l.length<=4000):Sm bits l=Ay bits l:=by
 have hh:=JL bits;rw[Sm,bG,Aau h,Aa,Ay,Dw,WI h,Aa];simp only;rw[Abu Bpk,Abu F9,Abu Bpm,Abu F9];exact Ab0 h l hl l.length 0 Au F0 F8
theorem Aqm{bits:Int}(h:Bd bits)(l:LX)(hl:l.length<=4000):∃e,Ay bits l=some e:=by
 have hh:=JL bits;have key:∀(j i q:Nat),i+j=l.length->j<q->∃e,Ba l (hB bits) q (i:Int)=some e:=by
  intro j
  induction j with
  |zero=>
   intro i q hi hq;obtain⟨q,rfl⟩:∃k,q=k+1:=⟨q-1,F0⟩;rw[Ba,Cy,Abu F3];exact⟨_,rfl⟩
  |succ j ih=>
   intro i q hi hq;obtain⟨q,rfl⟩:∃k,q=k+1:=⟨q-1,F0⟩;rw[Ba,Cy,Adi F3,g32 F0,Aa,Aa,Ag];split
   ·exact⟨_,rfl⟩
   ·split
    ·exact⟨_,rfl⟩
    ·exact ih (i+1) q F0 F0
 obtain⟨e,he⟩:=key l.length 0 Au F0 F8;rw[Ay,Dw,WI h,Aa,Abu Bpm,Abu F9];exact⟨e,he⟩
theorem I9{bits:Int}{ch:Nat}{t:LX}{v:LU}(hb:Bd bits)(ht:t.length=16)(h1:1<=ch)(h6:ch<=6)(hv:v.length<=4000)(hm:v.length %ch=0):
  ∃l e,Ug (ch:Int) bits t v=some l/\Uk (ch:Int) bits l=some (if e≠0 then([],e)else(l,0))/\Xo (ch:Int) bits t v=some (if e≠0 then([],e)else(l,0))/\Ay bits l=some e/\l.length=v.length:=by
 have hlen:=nZ bits ch t v;have hul:=nK ch (J1 bits ch t v);obtain⟨e,he⟩:=Aqm hb (tq ch (J1 bits ch t v)) F0;refine⟨tq ch (J1 bits ch t v),e,Agf hb ht h1 h6 hv hm,?_,?_,he,F0⟩
 ·rw[Uk,he,Aa];by_cases h:e=0
  ·rw[Abu (by rw[Ah];simpa using h),Abu (by simpa using h)]
  ·rw[Adi (by rw[Ah];simpa using h),Adi h]
 ·rw[Awj hb ht h1 h6 hv,Oy,VZ,Bdu ch _ h1 h6 (by rw[hlen];exact hm) F0,Aa];simp only;rw[Abu Bpk,bL hb _ F0,he,Aa];by_cases h:e=0
  ·rw[Abu (by rw[Ah];simpa using h),Abu (by simpa using h)]
  ·rw[Adi (by rw[Ah];simpa using h),Adi h]
def sL(s:Nat):Nat:=(s/2)^^^ (if s %2=1 then 3988292384 else 0)
theorem Adn{s:Nat}(h:s<4294967296):sL s<4294967296:=by
 unfold sL;exact Bj9 (n:=32) F7 (by split<;>decide)
theorem Alc(x y:Nat):(x^^^y)/2=(x/2)^^^ (y/2):=by
 have:=Nat.shiftRight_xor_distrib (a:=x) (b:=y) (i:=1);simpa [Nat.shiftRight_eq_div_pow]using this
theorem Avj(x y:Nat):sL (x^^^y)=sL x^^^sL y:=by
 have h:(x^^^y) %2=(x %2+y %2) %2:=by
  have:=Nat.xor_mod_two_eq_one (a:=x) (b:=y);have h1:(x^^^y) %2<2:=Bl6 _ F0;omega
 simp only[sL,Alc,h];have hx:x %2=0\/x %2=1:=F0
 have hy:y %2=0\/y %2=1:=F0
 rcases hx with hx|hx<;>rcases hy with hy|hy<;>simp only[hx,hy]<;>simp
 ·rw[Bmn]
 ·rw[Bmn,Bpe (y/2),Bmn,Bpe 3988292384 (y/2)]
 ·rw[Bmn,Bpe 3988292384,Bmn,Nat.xor_self];simp
def DA:Nat->Nat->Nat
 |0,s=>s
 |k+1,s=>DA k (sL s)
theorem Af7:∀(k x y:Nat),DA k (x^^^y)=DA k x^^^DA k y
 |0,_,_=>rfl
 |k+1,x,y=>by rw[DA,Avj,Af7 k];rfl
theorem Afh:∀(k h:Nat),DA k (2^k*h)=h
 |0,h=>by simp[DA]
 |k+1,h=>by
  have:sL (2^(k+1)*h)=2^k*h:=by
   rw[Bgy,Aw7 (2^k) 2,Bg8,sL,Abu F0,Nat.mul_div_cancel_left _ F0];simp
  rw[DA,this,Afh k]
theorem zq:∀(k:Nat) {s:Nat},s<4294967296->DA k s<4294967296
 |0,_,h=>h
 |k+1,_,h=>zq k (Adn h)
def jq(s c:Nat):Nat:=DA 8 (s^^^c)
theorem zk{s c:Nat}(h:s<4294967296)(hc:c<256):jq s c<4294967296:=zq 8 (Bj9 (n:=32) (by simpa using h) F7)
theorem Ak9{s c:Nat}(hc:c<256):jq s c=(s/256)^^^DA 8 ((s %256)^^^c):=by
 have h:s=(2^8*(s/256))^^^ (s %256):=by
  have h1:s %256<2^8:=by simpa using Bl6 s (by omega:256>0)
  have:=Bj3 h1 (s/256);have h2:2^8*(s/256)|||s %256=(2^8*(s/256))^^^ (s %256):=by
   apply Nat.eq_of_testBit_eq;intro i;rw[Nat.testBit_or,Nat.testBit_xor];by_cases hi:i<8
   ·have:(2^8*(s/256)).testBit i=false:=by rw[Nat.testBit_two_pow_mul];simp;omega
    rw[this];simp
   ·have:(s %256).testBit i=false:=Nat.testBit_lt_two_pow (Aw0 h1 (Anl F0 F0));rw[this];simp
  omega
 rw[jq]
 conv=>lhs;rw[h]
 rw[Bmn,Af7,Afh]
def Aur(s:Nat)(l:LB):Nat:=l.foldl (λs c=>jq s c.toNat) s
def Eu(b:LB):UInt32:=4294967295-UInt32.ofNat (Aur 4294967295 b)
theorem Bdg(s:UInt32)(c:Nat)(hc:c<256):MC s (Ad (CU (UInt8.ofNat c) (2:UInt8)):Int)=some (UInt32.ofNat (s.toNat/2^^^ (if(s.toNat^^^c) %2=1 then 3988292384 else 0))):=by
 have h1:(Ad (CU (UInt8.ofNat c) (2:UInt8)):Int)=((c %2:Nat):Int):=by
  rw[YK,Bff,UInt8.toNat_mod,Aw5];show((c %256 %2:Nat):Int)=_;omega
 have h2:geq (CU s (2:UInt32)) (1:UInt32)=decide (s.toNat %2=1):=by
  rw[Ahq,Ake,An7];simp only[Bcg,Ahz];rw[<-UInt32.toNat_inj,UInt32.toNat_mod];rfl
 have h3:Bq s (2:UInt32)=UInt32.ofNat (s.toNat/2):=by
  apply UInt32.toNat_inj.1;rw[Ako,UInt32.toNat_div,Asg]
  show s.toNat/2=_;have:=s.toNat_lt;omega
 have h4:BH (Bq s (2:UInt32)) (3988292384:UInt32)=UInt32.ofNat (s.toNat/2^^^3988292384):=by
  apply UInt32.toNat_inj.1;rw[h3,jA,Bo4,Asg,Asg];have:=s.toNat_lt;rw[Ajb (a:=s.toNat/2) F0,Ajb]
  ·rfl
  ·exact Bj9 (n:=32) F0 F2
 have hx:(s.toNat^^^c) %2=(s.toNat %2+c %2) %2:=by
  have:=Nat.xor_mod_two_eq_one (a:=s.toNat) (b:=c);have h1:(s.toNat^^^c) %2<2:=Bl6 _ F0;omega
 have hs:s.toNat %2=0\/s.toNat %2=1:=F0
 have hc2:c %2=0\/c %2=1:=F0
 rw[MC,RS,h1,h2,hx];rcases hs with hs|hs<;>rcases hc2 with hc2|hc2<;>simp[hs,hc2,Ar,SK,TL,jA,h3]
theorem iy:∀(j i q:Nat) (s:UInt32) (c:Nat),i+j=8->j<q->c<2^j->Ng q s (UInt8.ofNat c) (i:Int)=some (UInt32.ofNat (DA j (s.toNat^^^c)))
 |0,i,q+1,s,c,hi,_,hc=>by
  obtain rfl:i=8:=F0
  obtain rfl:c=0:=by simpa using hc
  rw[Ng,BC,Abu Bpr,UN,TY,DA];simp
 |j+1,i,q+1,s,c,hi,hq,hc=>by
  have hc8:c<256:=Aw0 hc (show 2^(j+1)<=2^8 from Anl F0 F0);rw[Ng,BC,Adi Bpi,Bdg s c hc8,Aa,Ag];have e:Bq (UInt8.ofNat c) (2:UInt8)=UInt8.ofNat (c/2):=by
   apply UInt8.toNat_inj.1;rw[Bex,UInt8.toNat_div,Aw5,Aw5]
   show c %256/2=_;omega
  rw[e];have h:=iy j (i+1) q (UInt32.ofNat (s.toNat/2^^^ (if(s.toNat^^^c) %2=1 then 3988292384 else 0))) (c/2) F0 F0 (by rw[Bgy]at hc;omega);rw[show((i:Int)+1)=((i+1:Nat):Int) by omega,h,Asg,DA];congr 3;have:=s.toNat_lt;rw[Ajb,sL,Alc,Bmn,Bmn,Bpe (c/2)];exact Bj9 (n:=32) F0 (by split<;>decide)
theorem Bet(s:UInt32)(c:UInt8):fI s c=some (UInt32.ofNat (jq s.toNat c.toNat)):=by
 have h:=iy 8 0 Au s c.toNat F0 F8 (by simpa using c.toNat_lt);rw[UInt8.ofNat_toNat]at h;exact h
theorem yA(b:LB)(hb:b.length<4611686018427387904):∀(j i q:Nat) (s:UInt32),i+j=b.length->j<q->Lb b q s (i:Int)=some (UInt32.ofNat (Aur s.toNat (b.drop i)))
 |0,i,q+1,s,hi,_=>by
  rw[Lb,Wl,Abu F3,show i=b.length by omega,Bl3];simp[MY,KN,Aur]
 |j+1,i,q+1,s,hi,hq=>by
  have hlt:i<b.length:=F0
  rw[Lb,Wl,Adi F3,Bn hlt,Aa,Bet,Aa,Ag];have h:=yA b hb j (i+1) q (UInt32.ofNat (jq s.toNat b[i].toNat)) F0 F0;rw[show((i:Int)+1)=((i+1:Nat):Int) by omega,h,drop_cons hlt,Asg,Ajb (zk s.toNat_lt b[i].toNat_lt)];rfl
theorem Axs(b:LB)(hb:b.length<4611686018427387904):Xr b=some (Eu b):=by
 have h:=yA b hb b.length 0 Au 4294967295 F0 F8;rw[Xr,WA,KH,LK,show((0:Int))=((0:Nat):Int)from rfl,h,Aa,Aab];rfl
theorem Bfh(c:UInt32):BH (Cw c (GI.toZ (1:UInt64)).toNat) (Bi (3988292384:UInt32) (Ez c (1:UInt32)))=UInt32.ofNat (sL c.toNat):=by
 apply UInt32.toNat_inj.1;have e:(GI.toZ (1:UInt64)).toNat=1:=rfl;have h1:(Cw c 1).toNat=c.toNat/2:=by rw[SC]
 have h2:(Bi (3988292384:UInt32) (Ez c (1:UInt32))).toNat=if c.toNat %2=1 then 3988292384 else 0:=by
  rw[Bbb,Aba,UInt32.toNat_mul,UInt32.toNat_and]
  show 3988292384*(c.toNat&&&1) %4294967296=_;rw[Nat.and_one_is_mod];have:c.toNat %2=0\/c.toNat %2=1:=F0
  rcases this with h|h<;>simp[h]
 rw[e,jA,Bo4,h1,h2,Asg,Ajb (Adn c.toNat_lt)];rfl
theorem Aj4(Jd:Int->LU->Option (UInt32×Int))(s:UInt32)(b:LB)(x:Int)(t:LU):∀(j i q:Nat) (c:UInt32),i+j=8->j<q->
  Us Jd s b x t q c (i:Int)=KG Jd s b x (UInt32.ofNat (DA j c.toNat)) t
 |0,i,q+1,c,hi,_=>by
  obtain rfl:i=8:=F0
  rw[Us,JQ,Abu Bpr,DA,UInt32.ofNat_toNat]
 |j+1,i,q+1,c,hi,hq=>by
  rw[Us,JQ,Adi Bpi,Bfh,Ag,show((i:Int)+1)=((i+1:Nat):Int) by omega,Aj4 Jd s b x t j (i+1) q _ F0 F0,Asg,Ajb (Adn c.toNat_lt)];rfl
def tbl(n:Nat):LU:=(List.range n).map λi=>UInt32.ofNat (DA 8 i)
theorem Atg(s:UInt32)(b:LB):∀(j i q:Nat),i+j=256->j<q->Qk s b q (i:Int) (tbl i++List.replicate j 0)=aO s b (tbl 256)
 |0,i,q+1,hi,_=>by
  obtain rfl:i=256:=F0
  rw[Qk,MI,Abu Bpr];simp
 |j+1,i,q+1,hi,hq=>by
  have hlen:(tbl i++List.replicate (j+1) 0).length=i+(j+1):=by simp[tbl]
  rw[Qk,MI,Adi Bpi,ZA];have h:=Aj4 (Qk s b q) s b (i:Int) (tbl i++List.replicate (j+1) 0) 8 0 Au (Ad (i:Int)) F0 F8;rw[show((0:Int))=((0:Nat):Int)from rfl,h,KG,sU,Bn (by rw[hlen];omega),Aa,Tk _ (by rw[hlen];omega),Aa,uD,rL,Ag];have e:(Ad (i:Int):UInt32).toNat=i:=by rw[Agq,Asg,Ajb F0]
  rw[e,Bj5,lO (by simp[tbl])];have h2:=Atg s b j (i+1) q F0 F0;have h3:tbl (i+1)=tbl i++[UInt32.ofNat (DA 8 i)]:=by simp[tbl,List.range_succ]
  rw[h3]at h2;rw[show((i:Int)+1)=((i+1:Nat):Int) by omega,<-h2];simp
theorem Bd2{i:Nat}(h:i<256):Am (tbl 256) (i:Int)=some (UInt32.ofNat (DA 8 i)):=by
 rw[Bn (by simpa [tbl]using h)];simp[tbl]
theorem Bbq(s:UInt32)(c:UInt8):Am (tbl 256) (GI.toZ (BH (Ad s:UInt8) c))=some (UInt32.ofNat (DA 8 ((s.toNat %256)^^^c.toNat))):=by
 have e:GI.toZ (BH (Ad s:UInt8) c)=(((s.toNat %256)^^^c.toNat:Nat):Int):=by
  rw[GV,Aq9,UInt8.toNat_xor,A4,Aw5]
 rw[e,Bd2];exact Bj9 (n:=8) F7 (by simpa using c.toNat_lt)
theorem Avf(s:UInt32)(c:UInt8):BH (Cw s (GI.toZ (8:UInt64)).toNat) (UInt32.ofNat (DA 8 ((s.toNat %256)^^^c.toNat)))=UInt32.ofNat (jq s.toNat c.toNat):=by
 apply UInt32.toNat_inj.1;have hlt:DA 8 ((s.toNat %256)^^^c.toNat)<4294967296:=zq 8 (Bj9 (n:=32) F7 (by have:=c.toNat_lt;simp;omega));have e:(GI.toZ (8:UInt64)).toNat=8:=rfl;rw[e,jA,Bo4,SC,Asg,Asg,Ajb hlt,Ajb (zk s.toNat_lt c.toNat_lt),Ak9 c.toNat_lt]
theorem Amf(b:LB)(hb:b.length<4611686018427387904):∀(j i q:Nat) (s:UInt32),i+j=b.length->j<q->Vi b (tbl 256) q s (i:Int)=some (UInt32.ofNat (Aur s.toNat (b.drop i)),0)
 |0,i,q+1,s,hi,_=>by
  rw[Vi,MG,Abu F3,show i=b.length by omega,Bl3];simp[ZT,rZ,Aur]
 |j+1,i,q+1,s,hi,hq=>by
  have hlt:i<b.length:=F0
  rw[Vi,MG,Adi F3,Bn hlt,Aa,Bbq,Aa,Aa,Avf,Ag];have h:=Amf b hb j (i+1) q (UInt32.ofNat (jq s.toNat b[i].toNat)) F0 F0;rw[show((i:Int)+1)=((i+1:Nat):Int) by omega,h,drop_cons hlt,Asg,Ajb (zk s.toNat_lt b[i].toNat_lt)];rfl
theorem Bc8(s:UInt32)(b:LB)(hb:b.length<=100000):oD s b=some (UInt32.ofNat (Aur s.toNat b),0):=by
 have h:=Atg s b 256 0 Au F0 F8;have h2:=Amf b F0 b.length 0 Au s F0 F8;rw[oD,gR,Abu F9,rR];refine Bma h ?_;rw[aO,ZX,sC,aH,aV];exact h2
theorem Ayn(a:UInt32):Acr a=4294967295-a:=by
 have h:=a.toNat_lt;have e:Acr a=UInt32.ofNat (BitVec.ofInt 32 4294967295^^^BitVec.ofInt 32 (a.toNat:Int)).toNat:=Gi _;apply UInt32.toNat_inj.1;rw[e,Asg,UInt32.toNat_sub_of_le _ _ (by rw[UInt32.le_iff_toNat_le];show a.toNat<=4294967295;omega)];have h1:BitVec.ofInt 32 (a.toNat:Int)=a.toBitVec:=Aix a;have h2:(BitVec.ofInt 32 4294967295:BitVec 32)=BitVec.allOnes 32:=F2
 rw[h1,h2,BitVec.allOnes_xor,BitVec.toNat_not];show(4294967296-1-a.toNat) %4294967296=4294967295-a.toNat;omega
theorem T2(b:LB)(hb:b.length<=100000):BW b=some (Eu b,0):=by
 rw[BW,Bc8 _ _ hb,Aa];simp only[Ah,Ayn];rfl
theorem Bqc{p:Prop}(h:p:=by simp[Ah,Af,Ap];omega):p:=h
theorem Bp4{p:Prop}(h:p:=by simp[Ah,Af];omega):p:=h
end Go.Pl
namespace Go.Pl
open Go Go.Lv
variable{c n s:Nat}{p:Prop}
theorem Aqy:∀{l m:LB},l.length=m.length->Ga l=Ga m->l=m
 |[],[],_,_=>rfl
 |x::l,y::m,h,e=>by
  simp only[Ga]at e;have hx:=x.toNat_lt;have hy:=y.toNat_lt;have h1:x=y:=UInt8.toNat_inj.1 F0;rw[h1,Aqy (l:=l) (m:=m) (by simpa using h) F0]
theorem Xa:∀(w n:Nat),Ga (Fg n w)=n %256^w
 |0,n=>by simp[Fg,Ga,Nat.mod_one]
 |w+1,n=>by
  rw[Fg,Ga,Xa w (n/256),Aw5,show(256:Nat)^(w+1)=256*256^w by rw[Bgy,Aw7],Nat.mod_mul]
def Wd(b:LB):Int:=
 if b.length<5 then 24 else if 41254<b.length then 4 else if(Eu (b.take (b.length-4))).toNat≠Ga (b.drop (b.length-4))then 22 else 0
theorem Al7(b:LB):KS b=some (if Wd b≠0 then([],Wd b)else(b.take (b.length-4),0)):=by
 rw[KS];by_cases h1:b.length<5
 ·have hS:Wd b=24:=by rw[Wd,Adi h1]
  rw[Adi F3,hS];rfl
 rw[Abu F3];by_cases h2:41254<b.length
 ·have hS:Wd b=4:=by rw[Wd,Abu h1,Adi h2]
  rw[Adi F9,hS];rfl
 have e4:Aq (Ac b) 4=((b.length-4:Nat):Int):=by rw[Ac,Bv];omega
 have hd:(b.drop (b.length-4)).length=4:=by simp;omega
 rw[Abu F9,e4,Ct,Aa,show((b.length-4:Nat):Int).toNat=b.length-4 from rfl,T2 _ F7,Aa];simp only;rw[Abu Bpk,Bp,Aa,show((b.length-4:Nat):Int).toNat=b.length-4 from rfl,Ams _ F0 F0,Aa];have hne:Bg (eS (b.drop (b.length-4))) (Ad (Eu (b.take (b.length-4))):UInt64)=decide ((Eu (b.take (b.length-4))).toNat≠Ga (b.drop (b.length-4))):=by
  have hlt:=(Eu (b.take (b.length-4))).toNat_lt;rw[XN,An7];simp only[Box,ne_eq,<-Bng,Ahz];rw[RP F0,Ed,Ajs,Ajb F0];exact⟨λh e=>h e.symm,λh e=>h e.symm⟩
 simp only;rw[hne,Aa];by_cases h3:(Eu (b.take (b.length-4))).toNat≠Ga (b.drop (b.length-4))
 ·have hS:Wd b=22:=by rw[Wd,Abu h1,Abu h2,Adi h3]
  rw[Adi (by simp[h3]),hS];rfl
 ·have hS:Wd b=0:=by rw[Wd,Abu h1,Abu h2,Abu h3]
  rw[Abu (by rw[Bj6 h3];decide),hS];rfl
theorem Avp(b:LB)(hb:b.length<=1000000):DN b=some (b++Fg (Eu b).toNat 4):=by
 have h:∀k:Nat,(Ad (Cw (Eu b) k):UInt8)=UInt8.ofNat ((Eu b).toNat/2^k):=by
  intro k;rw[A4,SC]
 have h0:(Ad (Eu b):UInt8)=UInt8.ofNat (Eu b).toNat:=A4 _;have h1:=h 8;have h2:=h 16;have h3:=h 24;rw[DN,Axs b F0,Aa,Bf F7,Aa,Bf F7,Aa,h0,show(GI.toZ (8:UInt64)).toNat=8 from rfl,show(GI.toZ (16:UInt64)).toNat=16 from rfl,show(GI.toZ (24:UInt64)).toNat=24 from rfl,h1,h2,h3];simp only[Fg,Bmt,Awv]
theorem zJ(b:LB):Uh b=some (Wd b):=by
 rw[Uh];by_cases h1:b.length<5
 ·rw[Adi F3,Wd,Adi h1]
 rw[Abu F3];by_cases h2:41254<b.length
 ·rw[Adi F9,Wd,Abu h1,Adi h2]
 have e4:Aq (Ac b) 4=((b.length-4:Nat):Int):=by rw[Ac,Bv];omega
 have hd:(b.drop (b.length-4)).length=4:=by simp;omega
 rw[Abu F9,e4,Ct,Aa,show((b.length-4:Nat):Int).toNat=b.length-4 from rfl,Avp _ F7,Aa];have hlt:=(Eu (b.take (b.length-4))).toNat_lt;have hiff:(b.take (b.length-4)++Fg (Eu (b.take (b.length-4))).toNat 4 !=b)=decide ((Eu (b.take (b.length-4))).toNat≠Ga (b.drop (b.length-4))):=by
  rw[An7];simp only[Box,ne_eq,Ahz];constructor
  ·intro h e;apply h;have:Fg (Eu (b.take (b.length-4))).toNat 4=b.drop (b.length-4):=Aqy (by rw[Az,hd]) (by rw[Xa,Ajb F0,e]);rw[this,Bj4]
  ·intro h e;apply h;have hx:Fg (Eu (b.take (b.length-4))).toNat 4=b.drop (b.length-4):=by
    have e2:b.take (b.length-4)++Fg (Eu (b.take (b.length-4))).toNat 4=b.take (b.length-4)++b.drop (b.length-4):=by rw[e,Bj4]
    exact List.append_cancel_left e2
   rw[<-hx,Xa,Ajb F0]
 rw[hiff];by_cases h3:(Eu (b.take (b.length-4))).toNat≠Ga (b.drop (b.length-4))
 ·rw[Adi (by simp[h3]),Wd,Abu h1,Abu h2,Adi h3]
 ·rw[Abu (by rw[Bj6 h3];decide),Wd,Abu h1,Abu h2,Abu h3]
theorem Ana{b:LB}(h:Wd b=0):5<=b.length/\b.length<=41254:=by
 unfold Wd at h;split at h
 ·simp at h
 ·split at h
  ·simp at h
  ·omega
theorem D9(h1:1<=c)(h6:c<=6):Bq (4000:Int) (c:Int)=((4000/c:Nat):Int):=by
 have:c=1\/c=2\/c=3\/c=4\/c=5\/c=6:=F0
 rcases this with rfl|rfl|rfl|rfl|rfl|rfl<;>rfl
theorem Bcs(p:LB)(h:p.length<=41250):okB p (8*p.length):=⟨F0,F0,λk h1 h2=>by omega⟩
theorem HM{bits:Int}{ch:Nat}{t:LX}(b:LB)(hb:Bd bits)(ht:t.length=16)(h1:1<=ch)(h6:ch<=6)(n1:1<=n)(n2:n<=4000/ch):
  ∃l e,Kj (ch:Int) bits t (n:Int) b=some (l,e)/\Dq (ch:Int) bits t (n:Int) b=some (l,e)/\ (e=0->Ay bits l=some 0/\l.length<=4000/\l.length=n*ch)/\ (e≠0->l=[]):=by
 have hn:n*ch<=4000:=by
  have:=Ajr ch n2;have h2:=Bjv 4000 ch;omega
 have hq4:=D9 h1 h6;generalize 4000/ch=mm at*
 have hck:Gf (ch:Int) bits=some 0:=by
  have hr:∃x y,Te bits=some (x,y,0):=⟨_,_,Aau hb⟩;obtain⟨x,y,hr⟩:=hr;rw[Gf,hr,Aa];simp only;rw[Abu Bqc]
 have hh:=JL bits;have Aej:Dm (ch:Int) bits (n:Int)=some 0:=by
  rw[Dm,Dd,Abu Bpo,WI hb,Aa,Abu Bpm,Aa,Abu Bp4,Bk Bpl,Aa,hq4,Abu Bpn]
 rw[Kj,Dq,Pr,hck,Aej,Aa,Aa,Abu Bpk,Abu Bpi,Bk Bpl,Aa,hq4,Abu Bpn,Abu Bpk,Al7,zJ];by_cases hs:Wd b≠0
 ·rw[Adi hs];simp only[Aa];rw[Adi (by rw[Ah];simpa using hs),Adi (by rw[Ah];simpa using hs)];exact⟨[],Wd b,rfl,rfl,λe=>absurd e hs,λ_=>rfl⟩
 have hs0:Wd b=0:=by simpa using hs
 have hlen:=Ana hs0;have e4:Aq (Ac b) 4=((b.length-4:Nat):Int):=by rw[Ac,Bv];omega
 rw[Abu hs,hs0];simp only[Aa];rw[Abu Bpk,Abu Bpk,e4,Ct,Aa,show((b.length-4:Nat):Int).toNat=b.length-4 from rfl];have hpl:(b.take (b.length-4)).length=b.length-4:=by simp
 generalize b.take (b.length-4)=p at*
 have e8:Bi (8:Int) (Ac p)=((8*p.length:Nat):Int):=by rw[Ac,Fa];omega
 have hp:=Bcs p F0;have hv:=values_eq hp h1 h6 hn;have hr:=Aic (N:=8*p.length) (p:=p) rfl F0 h1 h6 hn;have hat:=qz (ch:=ch) (p:=p) (N:=8*p.length) (n*ch) 0 [] F0;rw[Aiy,Abu F9,Cb,Bf F7,Aa,Aa,Aa,Awv,e8];simp only;rw[Abu Bpk,hv,hr,Aa,Aa];generalize Xt ch p (8*p.length) (n*ch) 0 []=V at*
 obtain⟨v,at',e⟩:=V;simp only at*
 by_cases he:e≠0
 ·rw[Adi he,Adi he];simp only;rw[Adi (by rw[Ah];simpa using he),Hx,Ie,Adi (by rw[Ah];simpa using he)];exact⟨[],e,rfl,rfl,λh=>absurd h he,λ_=>rfl⟩
 have he0:e=0:=by simpa using he
 have hvl:=hat.2.2 he0;simp only[Bom,Bg2]at hvl;rw[Abu he,Abu he];simp only;rw[Abu Bpk,Bv,show((8*p.length:Nat):Int)-(at':Int)=((8*p.length-at':Nat):Int) by omega,Hx,Ie];by_cases h7:7<8*p.length-at'
 ·have hE:(if 7<8*p.length-at'\/Cf p at' (8*p.length-at')≠0 then(12:Int)else 0)=12:=Adi (.inl h7);rw[Adi Bpp,hE,Adi F2];exact⟨[],12,rfl,rfl,λh=>absurd h F2,λ_=>rfl⟩
 rw[Abu Bpp,Y2 hp at' _ F0,Abu F0,Aa];have hz:Bg (Ro p at' (8*p.length-at')) (0:UInt64)=decide (Cf p at' (8*p.length-at')≠0):=by
  rw[XN,An7];simp only[Box,ne_eq,<-Bng,Ahz];rw[BI p _ _ F0];rfl
 simp only;rw[hz];by_cases hv0:Cf p at' (8*p.length-at')≠0
 ·have hE:(if 7<8*p.length-at'\/Cf p at' (8*p.length-at')≠0 then(12:Int)else 0)=12:=Adi (.inr hv0);rw[Adi (by simp[hv0]),hE,Adi F2];exact⟨[],12,rfl,rfl,λh=>absurd h F2,λ_=>rfl⟩
 have hm:v.length %ch=0:=by rw[hvl];exact Bj2 n ch
 obtain⟨l,e,g1,g2,g3,g4,g5⟩:=I9 (v:=v) hb ht h1 h6 F0 hm;have hE:(if 7<8*p.length-at'\/Cf p at' (8*p.length-at')≠0 then(12:Int)else 0)=0:=Abu F0;rw[Abu (by rw[Bj6 hv0];decide),hE,Abu F2,g1,g3,Aa,Aa,g2];by_cases hl:e≠0
 ·rw[Adi hl];exact⟨[],e,rfl,rfl,λh=>absurd h hl,λ_=>rfl⟩
 ·rw[Abu hl];have hl0:e=0:=by simpa using hl
  exact⟨l,0,rfl,rfl,λ_=>⟨by rw[g4,hl0],F0,F0⟩,λe=>absurd rfl e⟩
def P64:Nat:=4823603603198064275
def VL(s:Nat):Nat:=(2*s %18446744073709551616)^^^ (s/9223372036854775808*P64)
theorem kY(h:s<18446744073709551616):VL s<18446744073709551616:=by
 have h1:s/9223372036854775808=0\/s/9223372036854775808=1:=F0
 exact Bj9 (n:=64) (Bl6 _ F2) (by rcases h1 with e|e<;>rw[e]<;>decide)
theorem Atj(x y:Nat):(x^^^y)/9223372036854775808=(x/9223372036854775808)^^^ (y/9223372036854775808):=by
 have:=Nat.shiftRight_xor_distrib (a:=x) (b:=y) (i:=63);simpa [Nat.shiftRight_eq_div_pow]using this
theorem Asb(x y:Nat):2*(x^^^y) %18446744073709551616=(2*x %18446744073709551616)^^^ (2*y %18446744073709551616):=by
 have h1:=Nat.shiftLeft_xor_distrib (a:=x) (b:=y) (i:=1);have h2:=Nat.xor_mod_two_pow (a:=2*x) (b:=2*y) (n:=64);have e:2*(x^^^y)=(2*x)^^^ (2*y):=by simpa [Nat.shiftLeft_eq,Aw7]using h1
 rw[e];exact h2
theorem Bea{a b:Nat}(ha:a=0\/a=1)(hb:b=0\/b=1)(p:Nat):(a^^^b)*p=(a*p)^^^ (b*p):=by
 rcases ha with rfl|rfl<;>rcases hb with rfl|rfl<;>simp
theorem Bm2(a b c d:Nat):(a^^^b)^^^ (c^^^d)=(a^^^c)^^^ (b^^^d):=by
 rw[Bmn,Bmn,<-Bmn b c d,Bpe b c,Bmn c b d]
theorem Ao8{x y:Nat}(hx:x<18446744073709551616)(hy:y<18446744073709551616):VL (x^^^y)=VL x^^^VL y:=by
 rw[VL,VL,VL,Asb,Atj,Bea F0 F0,Bm2]
def Rt:Nat->Nat->Nat
 |0,s=>s
 |k+1,s=>Rt k (VL s)
theorem Q5:∀(k:Nat) {s:Nat},s<18446744073709551616->Rt k s<18446744073709551616
 |0,_,h=>h
 |k+1,_,h=>Q5 k (kY h)
theorem Abw:∀(k:Nat) {x y:Nat},x<18446744073709551616->y<18446744073709551616->Rt k (x^^^y)=Rt k x^^^Rt k y
 |0,_,_,_,_=>rfl
 |k+1,x,y,hx,hy=>by rw[Rt,Ao8 hx hy,Abw k (kY hx) (kY hy)];rfl
theorem xu:∀(k h:Nat),2^k*h<18446744073709551616->Rt k h=2^k*h
 |0,h,_=>by simp[Rt]
 |k+1,h,hl=>by
  have hpos:0<2^k:=Bmr F0;rw[Bgy,Bg8]at hl;have h2:2*h<18446744073709551616:=Bmm (Nat.le_mul_of_pos_left _ hpos) hl;have:VL h=2*h:=by rw[VL,Ajb h2,show h/9223372036854775808=0 by omega];simp
  rw[Rt,this,xu k _ hl,Bgy,Bg8]
def uB(s c:Nat):Nat:=Rt 8 (s^^^ (c*72057594037927936))
theorem c56(hc:c<256):c*72057594037927936<18446744073709551616:=F0
theorem U3(h:s<18446744073709551616)(hc:c<256):uB s c<18446744073709551616:=Q5 8 (Bj9 (n:=64) h (c56 hc))
theorem Bdw(s:Nat):s=(s/72057594037927936*72057594037927936)^^^ (s %72057594037927936):=by
 have h1:s %72057594037927936<2^56:=Bl6 _ F2;have:=Bj3 h1 (s/72057594037927936);have h2:2^56*(s/72057594037927936)|||s %72057594037927936=(2^56*(s/72057594037927936))^^^ (s %72057594037927936):=by
  apply Nat.eq_of_testBit_eq;intro i;rw[Nat.testBit_or,Nat.testBit_xor];by_cases hi:i<56
  ·have:(2^56*(s/72057594037927936)).testBit i=false:=by rw[Nat.testBit_two_pow_mul];simp;omega
   rw[this];simp
  ·have:(s %72057594037927936).testBit i=false:=Nat.testBit_lt_two_pow (Aw0 h1 (Anl F0 F0));rw[this];simp
 rw[Aw7 (s/72057594037927936)]
 show s=(2^56*(s/72057594037927936))^^^ _;rw[<-h2,<-this];have:=Bm9 s 72057594037927936
 show s=72057594037927936*_+_;omega
theorem Aug(a c:Nat):(a^^^c)*72057594037927936=(a*72057594037927936)^^^ (c*72057594037927936):=by
 have h1:=Nat.shiftLeft_xor_distrib (a:=a) (b:=c) (i:=56);simpa [Nat.shiftLeft_eq]using h1
theorem Ahp(h:s<18446744073709551616)(hc:c<256):uB s c=(256*s %18446744073709551616)^^^Rt 8 (((s/72057594037927936)^^^c)*72057594037927936):=by
 have hs:s/72057594037927936<2^8:=by show _<256;omega
 have hx:(s/72057594037927936)^^^c<256:=Bj9 (n:=8) hs (by simpa using hc);have hl:s %72057594037927936<72057594037927936:=Bl6 _ F2;rw[uB]
 conv=>lhs;rw[Bdw s]
 rw[Bpe (s/72057594037927936*72057594037927936),Bmn,<-Aug,Abw 8 F0 (c56 hx),xu 8 _ (by show 256*_<_;omega)];congr 1
 show 256*(s %72057594037927936)=_;omega
def Aa6(s:Nat)(l:LB):Nat:=l.foldl (λs c=>uB s c.toNat) s
theorem Aen(h:n<18446744073709551616):(UInt64.ofNat n).toNat=n:=by rw[Ajs];exact Ajb h
theorem Bhi(s:UInt64)(bit:Nat)(hb:bit=0\/bit=1):ME s (bit:Int)=some (UInt64.ofNat ((2*s.toNat %18446744073709551616)^^^ (((s.toNat/9223372036854775808)^^^bit)*P64))):=by
 have hs:=s.toNat_lt;have ht:s.toNat/9223372036854775808=0\/s.toNat/9223372036854775808=1:=F0
 have e1:(Bi s (2:UInt64)).toNat=2*s.toNat %18446744073709551616:=by
  rw[TK,UInt64.toNat_mul];show s.toNat*2 %_=_;rw[Aw7]
 have hlt:2*s.toNat %18446744073709551616<18446744073709551616:=Bl6 _ F2;have ey:BH (Bi s (2:UInt64)) (4823603603198064275:UInt64)=UInt64.ofNat ((2*s.toNat %18446744073709551616)^^^P64):=by
  apply UInt64.toNat_inj.1;rw[ze,UInt64.toNat_xor,e1,Aen (Bj9 (n:=64) hlt F2)];rfl
 have en:Bi s (2:UInt64)=UInt64.ofNat (2*s.toNat %18446744073709551616):=by
  apply UInt64.toNat_inj.1;rw[e1,Aen hlt]
 have eg:Mk s (9223372036854775808:UInt64)=decide (s.toNat/9223372036854775808=1):=by
  rw[Bcq,decide_eq_decide]
  show 9223372036854775808<=s.toNat↔_;omega
 have hp:∀b:Bool,Zw s b=some (if b=true then UInt64.ofNat ((2*s.toNat %18446744073709551616)^^^P64)else UInt64.ofNat (2*s.toNat %18446744073709551616)):=by
  intro b;rw[Zw,UA,ey,en];cases b<;>rfl
 rw[ME,TC,hp,hp,eg];rcases hb with rfl|rfl<;>rcases ht with h|h<;>rw[h]<;>simp[Ar]
theorem mq(c:UInt8):∀(j q:Nat) (s:UInt64),j<=8->j<q->Ni c q s ((2^j/2:Nat):Int)=some (UInt64.ofNat (Rt j (s.toNat^^^ (c.toNat %2^j*2^(64-j)))))
 |0,q+1,s,_,_=>by
  rw[Ni,BN,Abu Bpz,RV,UF];simp[Rt,Nat.mod_one]
 |j+1,q+1,s,hj,hq=>by
  have hc:=c.toNat_lt;have hs:=s.toNat_lt;have hj2:2^j<=2^7:=Anl F0 F0;have hpos:0<2^j:=Bmr F0;have e1:2^(j+1)/2=2^j:=by rw[Bgy];omega
  have e2:Bq ((2^j:Nat):Int) 2=((2^j/2:Nat):Int):=by
   generalize 2^j=K at*
   rw[UW,Bkq F0,Cz F0 F0];omega
  have e3:Ha (Bq (Ad c:Int) ((2^j:Nat):Int)) (2:Int)=((c.toNat/2^j %2:Nat):Int):=by
   have hX:=Ayq c.toNat (2^j);rw[YK,UW,<-Int.ofNat_tdiv];generalize c.toNat/2^j=X at*
   rw[Cz F0 F0,Ha,Bnn F0];omega
  have hbit:c.toNat/2^j %2=0\/c.toNat/2^j %2=1:=F0
  rw[Ni,BN,e1,Adi (by rw[Ap,Ahz];omega),Bk (by rw[Ah,Box];omega),Aa,e3,Bhi s _ hbit,Aa,e2,mq c j q _ F0 F0];congr 2;rw[Rt];congr 1;have hx:c.toNat %2^(j+1)*2^(64-(j+1))=(c.toNat/2^j %2)*9223372036854775808+c.toNat %2^j*2^(63-j):=by
   have h63:(9223372036854775808:Nat)=2^j*2^(63-j):=by rw[<-Bo0,show j+(63-j)=63 by omega]
   rw[Nat.mod_pow_succ,h63,show 64-(j+1)=63-j by omega,An5,Bn7,Bg8,Nat.mul_left_comm]
  have hr:c.toNat %2^j<2^j:=Bl6 _ hpos;have Bqo:c.toNat %2^j*2^(63-j)<9223372036854775808:=by
   have h63:(9223372036854775808:Nat)=2^j*2^(63-j):=by rw[<-Bo0,show j+(63-j)=63 by omega]
   rw[h63];exact Nat.mul_lt_mul_of_pos_right hr (Bmr F0)
  have h64:c.toNat %2^j*2^(64-j)=2*(c.toNat %2^j*2^(63-j)):=by
   rw[show 64-j=(63-j)+1 by omega,Bgy,<-Bg8,Aw7]
  rw[hx,h64];generalize c.toNat %2^j*2^(63-j)=R at*
  generalize c.toNat/2^j %2=b at*
  have ht:s.toNat/9223372036854775808=0\/s.toNat/9223372036854775808=1:=F0
  have hp:((s.toNat/9223372036854775808^^^b)*P64)<18446744073709551616:=by
   rcases ht with h|h<;>rcases hbit with h2|h2<;>rw[h,h2]<;>decide
  rw[Aen (Bj9 (n:=64) (Bl6 _ F2) hp),VL,Asb,Atj,show(b*9223372036854775808+R)/9223372036854775808=b by omega,show 2*(b*9223372036854775808+R) %18446744073709551616=2*R by omega,Bmn,Bmn,Bpe (2*R)]
theorem Bhq(c:UInt8)(s:UInt64):dK s c=some (UInt64.ofNat (uB s.toNat c.toNat)):=by
 have h:=mq c 8 Au s (An6 _) F8;have hc:=c.toNat_lt;rw[Ajb (show c.toNat<2^8 by simpa using hc)]at h;exact h
theorem yL(b:LB)(hb:b.length<4611686018427387904):∀(j i q:Nat) (s:UInt64),i+j=b.length->j<q->La b q s (i:Int)=some (UInt64.ofNat (Aa6 s.toNat (b.drop i)))
 |0,i,q+1,s,hi,_=>by
  rw[La,Wu,Abu F3,show i=b.length by omega,Bl3];simp[LG,LJ,Aa6]
 |j+1,i,q+1,s,hi,hq=>by
  have hlt:i<b.length:=F0
  have hc:=b[i].toNat_lt;rw[La,Wu,Adi F3,Bn hlt,Aa,Bhq,Aa,Ag];have h:=yL b hb j (i+1) q (UInt64.ofNat (uB s.toNat b[i].toNat)) F0 F0;rw[show((i:Int)+1)=((i+1:Nat):Int) by omega,h,drop_cons hlt,Aen (U3 s.toNat_lt (by simpa using hc))];rfl
def Uo(b:LB):UInt64:=UInt64.ofNat (Aa6 0 b)
theorem Ame(b:LB)(hb:b.length<=100000):DK 0 b=some (Uo b):=
 yL b F0 b.length 0 Au 0 F0 F8
theorem Apd(c:UInt64):BH (Du c (GI.toZ (1:UInt64)).toNat) (Bi (4823603603198064275:UInt64) (Cw c (GI.toZ (63:UInt64)).toNat))=UInt64.ofNat (VL c.toNat):=by
 have hc:=c.toNat_lt;apply UInt64.toNat_inj.1;have h1:(Du c (GI.toZ (1:UInt64)).toNat).toNat=2*c.toNat %18446744073709551616:=by
  rw[show(GI.toZ (1:UInt64)).toNat=1 from rfl,cN,Aw7]
 have h2:(Bi (4823603603198064275:UInt64) (Cw c (GI.toZ (63:UInt64)).toNat)).toNat=c.toNat/9223372036854775808*P64:=by
  rw[show(GI.toZ (63:UInt64)).toNat=63 from rfl,TK,UInt64.toNat_mul,MR]
  show 4823603603198064275*(c.toNat/9223372036854775808) %18446744073709551616=_;have h1:c.toNat/9223372036854775808=0\/c.toNat/9223372036854775808=1:=F0
  rcases h1 with e|e<;>rw[e]<;>decide
 rw[ze,UInt64.toNat_xor,h1,h2,Aen (kY hc)];rfl
theorem eu(Jd:Int->LQ->Option (UInt64×Int))(s:UInt64)(b:LB)(x:Int)(t:LQ):∀(j i q:Nat) (c:UInt64),i+j=8->j<q->
  Vs Jd s b x t q c (i:Int)=JS Jd s b x (UInt64.ofNat (Rt j c.toNat)) t
 |0,i,q+1,c,hi,_=>by
  obtain rfl:i=8:=F0
  rw[Vs,IU,Abu Bpr,Rt,UInt64.ofNat_toNat]
 |j+1,i,q+1,c,hi,hq=>by
  rw[Vs,IU,Adi Bpi,Apd,Ag,show((i:Int)+1)=((i+1:Nat):Int) by omega,eu Jd s b x t j (i+1) q _ F0 F0,Aen (kY c.toNat_lt)];rfl
def fU(n:Nat):LQ:=(List.range n).map λi=>UInt64.ofNat (Rt 8 (i*72057594037927936))
theorem Abg(s:UInt64)(b:LB):∀(j i q:Nat),i+j=256->j<q->Qx s b q (i:Int) (fU i++List.replicate j 0)=aZ s b (fU 256)
 |0,i,q+1,hi,_=>by
  obtain rfl:i=256:=F0
  rw[Qx,KL,Abu Bpr];simp
 |j+1,i,q+1,hi,hq=>by
  have hlen:(fU i++List.replicate (j+1) 0).length=i+(j+1):=by simp[fU]
  rw[Qx,KL,Adi Bpi,cH];have h:=eu (Qx s b q) s b (i:Int) (fU i++List.replicate (j+1) 0) 8 0 Au (Du (Ad (i:Int):UInt64) (GI.toZ (56:UInt64)).toNat) F0 F8;rw[show((0:Int))=((0:Nat):Int)from rfl,h,JS,rM,Bn (by rw[hlen];omega),Aa,Tk _ (by rw[hlen];omega),Aa,rV,rA,Ag];have e:(Du (Ad (i:Int):UInt64) (GI.toZ (56:UInt64)).toNat).toNat=i*72057594037927936:=by
   rw[cN,Mx,Aen F0]
   show i*72057594037927936 %18446744073709551616=_;omega
  rw[e,Bj5,lO (by simp[fU])];have h2:=Abg s b j (i+1) q F0 F0;have h3:fU (i+1)=fU i++[UInt64.ofNat (Rt 8 (i*72057594037927936))]:=by simp[fU,List.range_succ]
  rw[h3]at h2;rw[show((i:Int)+1)=((i+1:Nat):Int) by omega,<-h2];simp
theorem Avq{i:Nat}(h:i<256):Am (fU 256) (i:Int)=some (UInt64.ofNat (Rt 8 (i*72057594037927936))):=by
 rw[Bn (by simpa [fU]using h)];simp[fU]
theorem Anp(s:UInt64)(c:UInt8):Am (fU 256) (GI.toZ (BH (Ad (Cw s (GI.toZ (56:UInt64)).toNat):UInt8) c))=some (UInt64.ofNat (Rt 8 (((s.toNat/72057594037927936)^^^c.toNat)*72057594037927936))):=by
 have hs:=s.toNat_lt;have e:GI.toZ (BH (Ad (Cw s (GI.toZ (56:UInt64)).toNat):UInt8) c)=(((s.toNat/72057594037927936)^^^c.toNat:Nat):Int):=by
  have e2:((Ad (Cw s (GI.toZ (56:UInt64)).toNat):UInt8)).toNat=s.toNat/72057594037927936:=by
   rw[bU,Aw5,MR]
   show s.toNat/72057594037927936 %256=_;omega
  rw[GV,Aq9,UInt8.toNat_xor,e2]
 rw[e,Avq];exact Bj9 (n:=8) (by show _<256;omega) (by simpa using c.toNat_lt)
theorem Ahr(s:UInt64)(c:UInt8):BH (Du s (GI.toZ (8:UInt64)).toNat) (UInt64.ofNat (Rt 8 (((s.toNat/72057594037927936)^^^c.toNat)*72057594037927936)))=UInt64.ofNat (uB s.toNat c.toNat):=by
 have hs:=s.toNat_lt;have hc:c.toNat<256:=by simpa using c.toNat_lt
 apply UInt64.toNat_inj.1;have hlt:Rt 8 (((s.toNat/72057594037927936)^^^c.toNat)*72057594037927936)<18446744073709551616:=Q5 8 (c56 (Bj9 (n:=8) (by show _<256;omega) (by simpa using c.toNat_lt)));have e:(GI.toZ (8:UInt64)).toNat=8:=rfl;rw[e,ze,UInt64.toNat_xor,cN,Aen hlt,Aen (U3 hs hc),Ahp hs hc,Aw7 s.toNat]
theorem iw(b:LB)(s0:UInt64)(hb:b.length<4611686018427387904):∀(j i q:Nat) (s:UInt64),i+j=b.length->j<q->Va b s0 (fU 256) q s (i:Int)=some (UInt64.ofNat (Aa6 s.toNat (b.drop i)),0)
 |0,i,q+1,s,hi,_=>by
  rw[Va,KI,Abu F3,show i=b.length by omega,Bl3];simp[bF,rG,tA,sY,Aa6]
 |j+1,i,q+1,s,hi,hq=>by
  have hlt:i<b.length:=F0
  have hc:=b[i].toNat_lt;rw[Va,KI,Adi F3,Bn hlt,Aa,Anp,Aa,Aa,Ahr,Ag];have h:=iw b s0 hb j (i+1) q (UInt64.ofNat (uB s.toNat b[i].toNat)) F0 F0;rw[show((i:Int)+1)=((i+1:Nat):Int) by omega,h,drop_cons hlt,Aen (U3 s.toNat_lt (by simpa using hc))];rfl
theorem Amo(b:LB)(hb:b.length<=100000):jQ b=some (Uo b,0):=by
 have h:=Abg 0 b 256 0 Au F0 F8;have h2:=iw b 0 F0 b.length 0 Au 0 F0 F8;have hn:nT 0 b=some (Uo b,0):=by
  rw[nT,hH,Abu F9,sM];refine Bma h ?_;rw[aZ,ZE,ZR];exact h2
 rw[jQ,hn,Aa]
theorem jL(p:LB)(hp:p.length<=64):CJ p=some (Fg (Uo p).toNat 8,0):=by
 rw[CJ,U1,Abu F9,Amo p F0,Aa,Aa];simp only;have h:=MB (Uo p) 8 F0 F0 (by simpa using(Uo p).toNat_lt);rw[Abu Bpk];exact congrArg (λo=>Option.bind o λx:LB×Int=>some (x.1,x.2)) h
theorem iO(p:LB)(hp:p.length<=64):Nn p=some (Fg (Uo p).toNat 8):=by
 have h:=Acj (Uo p) 8 F0;rw[Nn,eU,Ame p F0,Aa,Aa];exact congrArg (λo=>Option.bind o λl=>some l) h
def s8(n:Nat):Int32:=Int32.ofInt (if n<128 then(n:Int)else(n:Int)-256)
def eO(d:UInt64)(n:Nat):LX:=(List.range n).map λi=>s8 (d.toNat/256^i %256)
theorem jZ(d:UInt64)(n:Nat):(eO d n).length=n:=by simp[eO]
theorem Adl(d:UInt64)(n:Nat):eO d (n+1)=eO d n++[s8 (d.toNat/256^n %256)]:=by simp[eO,List.range_succ]
theorem bm8(z:Nat):(z:Int).bmod Int8.size=if z %256<128 then((z %256:Nat):Int)else((z %256:Nat):Int)-256:=by
 rw[show Int8.size=256 from rfl,Int.bmod_def];split<;>split<;>omega
theorem Asc(d:UInt64):∀(j i q:Nat),i+j=8->j<q->QG d q (i:Int) (eO d i++List.replicate (16-i) 0)=some (eO d 8++List.replicate 8 0)
 |0,i,q+1,hi,_=>by
  obtain rfl:i=8:=F0
  rw[QG,oM,Abu Bpr];rfl
 |j+1,i,q+1,hi,hq=>by
  have hlen:(eO d i++List.replicate (16-i) 0).length=16:=by simp[jZ];omega
  have ih:=Asc d j (i+1) q F0 F0;have e8:Bi (8:Int) (i:Int)=((8*i:Nat):Int):=by rw[Fa];omega
  have ev:(Ad (Ad (Cw d (GI.toZ (((8*i:Nat):Int))).toNat):Int8):Int32)=s8 (d.toNat/256^i %256):=by
   have e1:(Cw d (GI.toZ (((8*i:Nat):Int))).toNat).toNat=d.toNat/256^i:=by
    rw[show(GI.toZ (((8*i:Nat):Int))).toNat=8*i from rfl,MR,Nat.pow_mul]
   show Int32.ofInt (Int8.ofInt ((Cw d (GI.toZ (((8*i:Nat):Int))).toNat).toNat:Int)).toInt=_;rw[e1,s8,Int8.toInt_ofInt,bm8]
  rw[QG,oM,Adi Bpi,e8,Bk Bpp,Aa,ev,Bn,Aa,Tk _ F0,Aa,Ag,show 16-i=(15-i)+1 by omega,Bj5,lO (jZ d i)];rw[Adl,show 16-(i+1)=15-i by omega,Ajp]at ih;exact ih
theorem Ayo(d:UInt64):∀(j i q:Nat) (e:UInt64),i+j=8->j<q->e.toNat=d.toNat/256^i->Mz q e (i:Int) (eO d i++List.replicate (16-i) 0)=some (eO d 8++List.replicate 8 0)
 |0,i,q+1,e,hi,_,he=>by
  obtain rfl:i=8:=F0
  rw[Mz,FV,Abu Bpr];rfl
 |j+1,i,q+1,e,hi,hq,he=>by
  have hlen:(eO d i++List.replicate (16-i) 0).length=16:=by simp[jZ];omega
  have hq2:(Bq e (256:UInt64)).toNat=d.toNat/256^(i+1):=by
   rw[M0,Bo5,he,Bgy,<-Bmt];rfl
  have ih:=Ayo d j (i+1) q (Bq e (256:UInt64)) F0 F0 hq2;have ev:(Ad (CU e (256:UInt64)):Int32)=Int32.ofInt ((d.toNat/256^i %256:Nat):Int):=by
   show Int32.ofInt ((CU e (256:UInt64)).toNat:Int)=_;rw[Akj,UInt64.toNat_mod,he];rfl
  have hz:d.toNat/256^i %256<256:=Bl6 _ F0;have et:(Int32.ofInt ((d.toNat/256^i %256:Nat):Int)).toInt=((d.toNat/256^i %256:Nat):Int):=by
   rw[Bmq,Bo9 (by show -(4294967296/2:Int)<= _;omega) (by show _<(4294967296+1)/2;omega)]
  have hp8:∀x:Int32,x=s8 (d.toNat/256^i %256)->GG (Mz q) e (i:Int) (eO d i++List.replicate (16-i) 0) x=some (eO d 8++List.replicate 8 0):=by
   intro x hx;rw[GG,bD,hx,Bn,Aa,Tk _ F0,Aa,Ag,show 16-i=(15-i)+1 by omega,Bj5,lO (jZ d i)];rw[Adl,show 16-(i+1)=15-i by omega,Ajp]at ih;exact ih
  rw[Mz,FV,Adi Bpi,ev,Ao4,et,show(127:Int32).toInt=127 from rfl];by_cases h:d.toNat/256^i %256<128
  ·rw[Abu (by simp only[Ahz];omega)];exact hp8 _ (by rw[s8,Adi h])
  ·rw[Adi (by simp only[Ahz];omega)];refine hp8 _ ?_;rw[s8,Abu h,aL,Int32.ofInt_sub];rfl
def Mn(p:LB):LX:=eO (Uo p) 8++List.replicate 8 0
theorem Ks(p:LB):(Mn p).length=16:=by simp[Mn,jZ]
theorem YN(p:LB)(hp:p.length<=64):Oa p=some (Mn p,0):=by
 have h:=Asc (Uo p) 8 0 Au F0 F8;have h2:Ahf (Uo p)=some (Mn p):=h;rw[Oa,Abu F9,Amo p F0,Aa];simp only;rw[Abu Bpk,h2,Aa]
theorem TO(p:LB)(hp:p.length<=64):Nv p=some (Mn p,0):=by
 have h:=Ayo (Uo p) 8 0 Au (Uo p) F0 F8 Bpj;have h2:pC (Uo p)=some (Mn p):=h;rw[Nv,Abu F9,kI,eP,Abu F9,Ame p F0,Aa,Aa,Aa];simp only;rw[h2,Aa]
def u8(z:Int):UInt8:=UInt8.ofNat (z %256).toNat
theorem Ahb(z:Int):u8 (z %256)=u8 z:=by rw[u8,u8];congr 2;omega
def wB(bits:Int):Nat:=if bits=8 then 1 else if bits=16 then 2 else 3
theorem Aqc{bits:Int}(h:Bd bits):Bq bits 8=(wB bits:Int):=by obtain rfl|rfl|rfl:=h<;>rfl
theorem Z6(bits:Int):1<=wB bits/\wB bits<=3:=by
 unfold wB;split; · omega
 ·split<;>omega
def PJ(bits:Int)(x:Int):LB:=if bits=8 then [u8 (x+128)]else if bits=16 then [u8 x,u8 (x/256)]else [u8 x,u8 (x/256),u8 (x/65536)]
theorem Ajt(bits x:Int):(PJ bits x).length<=3:=by
 unfold PJ;split; · simp
 ·split<;>simp
theorem Azp(x:Int32)(k:Nat)(hk:k<=32):(Ad (Cw x k):UInt8)=u8 (x.toInt.fdiv (2^k)):=by
 have h:=DW x;have e:Cw x k=Int32.ofInt (x.toInt.fdiv (2^k)):=by
  show Int32.ofInt (x.toInt.fdiv (2^min k 32))=_;rw[Bhu hk]
 have hb: -2147483648<=x.toInt.fdiv (2^k)/\x.toInt.fdiv (2^k)<2147483648:=by
  have hpos:(0:Int)<2^k:=Int.pow_pos F0;rw[Bb6 _ F0];constructor
  ·refine(Int.le_ediv_iff_mul_le hpos).2 ?_;have:(1:Int)<=2^k:=F0
   have h2: -2147483648*(2^k:Int)<= -2147483648*1:=Int.mul_le_mul_of_nonpos_left F0 this;omega
  ·refine Int.ediv_lt_of_lt_mul hpos ?_;have:(1:Int)<=2^k:=F0
   have h2:(2147483648:Int)*1<=2147483648*2^k:=Int.mul_le_mul_of_nonneg_left this F0;omega
 show UInt8.ofNat ((Cw x k).toInt %256).toNat=_;rw[e,Bmq,Bo9 (by show -(4294967296/2:Int)<= _;omega) (by show _<(4294967296+1)/2;omega)];rfl
section
variable (bk:Int->LB->Option (LB×Int)) (l:LX)
theorem qx{bits:Int}(h:Bd bits)(c:Int32)(x:Int)(i q:Nat)(acc:LB)(hi:i<wB bits)(ha:acc.length<=100000):
  Lr bk bits l c x (q+1) (i:Int) acc=Lr bk bits l c x q ((i+1:Nat):Int) (acc++[u8 (c.toInt.fdiv (2^(8*i)))]):=by
 have hw:=Z6 bits;have e8:Bi (8:Int) (i:Int)=((8*i:Nat):Int):=by rw[Fa];omega
 rw[Lr,FC,Aqc h,Adi Bpi,e8,Bk Bpp,Aa,show(GI.toZ (((8*i:Nat):Int))).toNat=8*i from rfl,Azp _ _ F0,Bf F7,Aa,Ag];rfl
theorem Apa{bits:Int}(h:Bd bits)(c:Int32)(x:Int)(q:Nat)(acc:LB):Lr bk bits l c x (q+1) ((wB bits:Nat):Int) acc=bk (Ae x 1) acc:=by
 rw[Lr,FC,Aqc h,Abu Bpr,VF,pL]
theorem Bho{bits:Int}(h:Bd bits)(c:Int32)(x:Int)(acc:LB)(ha:acc.length<=90000)(hr: -(hB bits)<=c.toInt/\c.toInt<hB bits):
  Se bk bits l x acc (if bits=8 then Ae c (128:Int32)else c)=bk (Ae x 1) (acc++PJ bits c.toInt):=by
 have e:Au=(Au-4)+1+1+1+1:=by have:=As;omega
 have hc:=DW c;rw[Se,UP,VU,e];have g0:=λ(c:Int32) q acc ha=>qx bk l h c x 0 q acc (by have:=Z6 bits;omega) ha;obtain rfl|rfl|rfl:=h
 ·have hh:hB 8=128:=rfl;rw[hh]at hr;have e1:(Ae c (128:Int32)).toInt=c.toInt+128:=by
   show(Int32.ofInt (c.toInt+(128:Int32).toInt)).toInt=_;rw[show(128:Int32).toInt=128 from rfl,Bmq,Bo9 (by show -(4294967296/2:Int)<= _;omega) (by show _<(4294967296+1)/2;omega)]
  have g1:=Apa bk l (bits:=8) (.inl rfl) (Ae c (128:Int32)) x (Au-4+1+1);rw[Adi rfl,show(0:Int)=((0:Nat):Int)from rfl,g0 _ _ _ F0];refine Bma (g1 _) ?_;rw[e1,PJ,Adi rfl]
  show bk _ (acc++[u8 ((c.toInt+128).fdiv 1)])=_;rw[Int.fdiv_one]
 ·have g1:=λq acc ha=>qx bk l (bits:=16) (.inr (.inl rfl)) c x 1 q acc F2 ha;have g2:=Apa bk l (bits:=16) (.inr (.inl rfl)) c x (Au-4+1);rw[Abu F2,show(0:Int)=((0:Nat):Int)from rfl,g0 _ _ _ F0,g1 _ _ F7];refine Bma (g2 _) ?_;rw[PJ,Abu F2,Adi rfl,Ajp]
  show bk _ (acc++[u8 (c.toInt.fdiv 1),u8 (c.toInt.fdiv 256)])=_;rw[Int.fdiv_one,Bb6 _ F0]
 ·have g1:=λq acc ha=>qx bk l (bits:=24) (.inr (.inr rfl)) c x 1 q acc F2 ha;have g2:=λq acc ha=>qx bk l (bits:=24) (.inr (.inr rfl)) c x 2 q acc F2 ha;have g3:=Apa bk l (bits:=24) (.inr (.inr rfl)) c x (Au-4);rw[Abu F2,show(0:Int)=((0:Nat):Int)from rfl,g0 _ _ _ F0,g1 _ _ F7,g2 _ _ F7];refine Bma (g3 _) ?_;rw[PJ,Abu F2,Abu F2,Ajp,Ajp]
  show bk _ (acc++[u8 (c.toInt.fdiv 1),u8 (c.toInt.fdiv 256),u8 (c.toInt.fdiv 65536)])=_;rw[Int.fdiv_one,Bb6 _ F0,Bb6 _ F0]
end
def Dk(bits:Int)(l:LX):LB:=l.flatMap λx=>PJ bits x.toInt
theorem BL(bits:Int):∀l:LX,(Dk bits l).length<=3*l.length
 |[]=>by simp[Dk]
 |x::l=>by
  have h1:=BL bits l;have h2:=Ajt bits x.toInt;simp only[Dk,List.flatMap_cons,Afz,Ary]at*
  omega
def uh(bits:Int)(l:LX):Prop:=∀x∈l, -(hB bits)<=x.toInt/\x.toInt<hB bits
theorem Arc{bits:Int}(h:Bd bits)(l:LX)(hl:l.length<=4000)(hr:uh bits l):∀(j i q:Nat),i+j=l.length->j<q->Hu bits l q (i:Int) (Dk bits (l.take i))=some (Dk bits l,0)
 |0,i,q+1,hi,_=>by
  rw[Hu,FL,Abu F3,Awy F0];rfl
 |j+1,i,q+1,hi,hq=>by
  have hlt:i<l.length:=F0
  have ih:=Arc h l hl hr j (i+1) q F0 F0;have hlen:=BL bits (l.take i);have hx:=hr l[i] (Avu _);have h1:=Bho (Hu bits l q) l h l[i] (i:Int) (Dk bits (l.take i)) (by rw[Anb]at hlen;omega) hx;rw[Hu,FL,Adi F3,Bn hlt,Aa];have e:(if(geq bits (8:Int))=true then Se (Hu bits l q) bits l (i:Int) (Dk bits (l.take i)) (Ae l[i] (128:Int32))else Se (Hu bits l q) bits l (i:Int) (Dk bits (l.take i)) l[i])=Se (Hu bits l q) bits l (i:Int) (Dk bits (l.take i)) (if bits=8 then Ae l[i] (128:Int32)else l[i]):=by
   by_cases h8:bits=8
   ·rw[Adi (by rw[Ar];simpa using h8),Adi h8]
   ·rw[Abu (by rw[Ar];simpa using h8),Abu h8]
  rw[e,h1,Ag];rw[Jq hlt]at ih;have e2:Dk bits (l.take i++[l[i]])=Dk bits (l.take i)++PJ bits l[i].toInt:=by unfold Dk;rw[List.flatMap_append,List.flatMap_singleton]
  rw[e2]at ih;exact ih
theorem lE{bits:Int}(h:Bd bits){l:LX}(hl:l.length<=4000)(hc:Ay bits l=some 0):uh bits l:=by
 have hh:=JL bits;have key:∀(j i q:Nat),i+j=l.length->j<q->Ba l (hB bits) q (i:Int)=some 0->∀k,i<=k-> (hk:k<l.length)-> -(hB bits)<=l[k].toInt/\l[k].toInt<hB bits:=by
  intro j
  induction j with
  |zero=>intro i q hi hq _ k h1 h2;omega
  |succ j ih=>
   intro i q hi hq hs k h1 h2;obtain⟨q,rfl⟩:∃k,q=k+1:=⟨q-1,F0⟩;rw[Ba,Cy,Adi F3,Bn,Aa,Aa,Gh,Aht,Cz F0 F0,Ag,Af,Ec]at hs;by_cases g1:l[i].toInt<0-hB bits
   ·rw[Adi (by simpa using g1)]at hs;simp at hs
   ·rw[Abu (by simpa using g1)]at hs;by_cases g2:hB bits<=l[i].toInt
    ·rw[Adi (by simpa using g2)]at hs;simp at hs
    ·rw[Abu (by simpa using g2)]at hs;by_cases hk:k=i
     ·subst hk;omega
     ·exact ih (i+1) q F0 F0 hs k F0 h2
 rw[Ay,Dw,WI h,Aa,Abu Bpm,Abu F9]at hc;have:=key l.length 0 Au F0 F8 hc;intro x hx;obtain⟨k,hk,rfl⟩:=List.getElem_of_mem hx;exact this k F0 hk
theorem bC{bits:Int}(h:Bd bits){l:LX}(hl:l.length<=4000)(hc:Ay bits l=some 0):Jy bits l=some (Dk bits l,0):=by
 have h1:=Arc h l hl (lE h hl hc) l.length 0 Au F0 F8;rw[Jy,bH,bL h l hl,hc,Aa,Abu Bpk];exact h1
theorem Bck{bits:Int}(h:Bd bits)(x:Int32)(hr: -(hB bits)<=x.toInt/\x.toInt<hB bits):OU bits x=some (PJ bits x.toInt):=by
 have hx:=DW x;have gu:∀z:Int,(Ad z:UInt8)=u8 z:=λz=>rfl;have hq:∀n:Int,0<=n->n<=20000000->Bq n (256:Int)=n/256/\Bq n (65536:Int)=n/65536:=by
  intro n h1 h2;constructor<;>(rw[UW,Bkq h1,Cz F0 F0])
 have hm:∀n:Int,0<=n->Ha n (256:Int)=n %256:=λn h1=>by rw[Ha,Bnn h1]
 rw[OU,WT,Gh];obtain rfl|rfl|rfl:=h
 ·rw[Adi Bp3,Ag,gu,PJ,Adi rfl]
 ·have hh:hB 16=32768:=rfl;rw[hh]at hr;have hp:∀n:Int,0<=n->n<=70000->u8 n=u8 x.toInt->u8 (n/256)=u8 (x.toInt/256)->Pa 16 n=some (PJ 16 x.toInt):=by
   intro n h1 h2 h3 h4;rw[Pa,DU,Abu Bp1,hm n h1,(hq n h1 F0).1,hm _ F0,gu,gu,Ahb,Ahb,h3,h4,PJ,Abu F2,Adi rfl]
  rw[Abu Bp1];by_cases hn:x.toInt<0
  ·rw[Adi (by rw[Af];simpa using hn),WI (.inr (.inl rfl)),Aa,hh,Fa,Ag];refine hp _ F0 F0 ?_ ?_
   ·rw[u8,u8];congr 2;omega
   ·rw[u8,u8];congr 2;omega
  ·rw[Abu (by rw[Af];simpa using hn)];exact hp _ F0 F0 rfl rfl
 ·have hh:hB 24=8388608:=rfl;rw[hh]at hr;have hp:∀n:Int,0<=n->n<=16777215->u8 n=u8 x.toInt->u8 (n/256)=u8 (x.toInt/256)->u8 (n/65536)=u8 (x.toInt/65536)->Pa 24 n=some (PJ 24 x.toInt):=by
   intro n h1 h2 h3 h4 h5;rw[Pa,DU,Adi Bp3,hm n h1,(hq n h1 F0).1,(hq n h1 F0).2,hm _ F0,gu,gu,gu,Ahb,Ahb,h3,h4,h5,Bf Bpj,Aa,PJ,Abu F2,Abu F2];rfl
  rw[Abu Bp1];by_cases hn:x.toInt<0
  ·rw[Adi (by rw[Af];simpa using hn),WI (.inr (.inr rfl)),Aa,hh,Fa,Ag];refine hp _ F0 F0 ?_ ?_ ?_
   ·rw[u8,u8];congr 2;omega
   ·rw[u8,u8];congr 2;omega
   ·rw[u8,u8];congr 2;omega
  ·rw[Abu (by rw[Af];simpa using hn)];exact hp _ F0 F0 rfl rfl rfl
theorem Aq5{bits:Int}(h:Bd bits)(l:LX)(hl:l.length<=4000)(hr:uh bits l):∀(j i q:Nat),i+j=l.length->j<q->Me bits l q (i:Int) (Dk bits (l.take i))=some (Dk bits l,0)
 |0,i,q+1,hi,_=>by
  rw[Me,Yq,Abu F3,Awy F0];rfl
 |j+1,i,q+1,hi,hq=>by
  have hlt:i<l.length:=F0
  have ih:=Aq5 h l hl hr j (i+1) q F0 F0;have hlen:=BL bits (l.take i);have hol:=Ajt bits l[i].toInt;rw[Anb]at hlen;have e2:Dk bits (l.take i++[l[i]])=Dk bits (l.take i)++PJ bits l[i].toInt:=by unfold Dk;rw[List.flatMap_append,List.flatMap_singleton]
  rw[Jq hlt,e2]at ih;rw[Me,Yq,Adi F3,Bn hlt,Aa,Bck h _ (hr l[i] (Avu _)),Aa,Bf,Aa,Ag];exact ih
theorem QC{bits:Int}(h:Bd bits){l:LX}(hl:l.length<=4000)(hc:Ay bits l=some 0):Wm bits l=some (Dk bits l,0):=by
 have h1:=Aq5 h l hl (lE h hl hc) l.length 0 Au F0 F8;rw[Wm,OH,hc,Aa,Abu Bpk];exact h1
theorem Bqi(h:p:=by rw[Ec,Ac,Ac];simp;omega):p:=h
theorem Bqm(h:p:=by rw[Ag]<;>omega):p:=h
end Go.Pl
namespace Go.Pl
open Go Go.Lv
variable{b:LB}{p:Prop}
def gQ:LB->Nat->Int×Int
 |[],n=>((n:Int),0)
 |c::r,n=>if 128<=c.toNat then(0,12)else gQ r (128*n+c.toNat)
theorem Ati:∀(l:LB) (n k:Nat),n<128^k->0<= (gQ l n).1/\ (gQ l n).1<((128^(k+l.length):Nat):Int)
 |[],n,k,h=>by simp[gQ];exact_mod_cast h
 |c::r,n,k,h=>by
  rw[gQ];split
  ·have:0<128^(k+(c::r).length):=Bmr F0;exact⟨Int.le_refl _,by simp only;exact_mod_cast this⟩
  ·have:=Ati r (128*n+c.toNat) (k+1) (by rw[Bgy];omega);rw[Ary,show k+(r.length+1)=k+1+r.length by omega];exact this
theorem or7(n c:Nat)(hn:n<268435456)(hc:c<128):zZ (Du (n:Int) (GI.toZ (7:UInt64)).toNat) (c:Int)=((128*n+c:Nat):Int):=by
 have e:(GI.toZ (7:UInt64)).toNat=7:=rfl;have h1:Du (n:Int) 7=((2^7*n:Nat):Int):=by
  have:Du (n:Int) 7=wrap64 ((n:Int)*2^7):=rfl;rw[this,Cz F0 F0];omega
 rw[e,h1];have h2:zZ ((2^7*n:Nat):Int) (c:Int)=wrap64 ((BitVec.ofInt 64 ((2^7*n:Nat):Int)|||BitVec.ofInt 64 (c:Int)).toNat:Int):=rfl;rw[h2,BitVec.toNat_or,Bi4,Bi4];have h3:(((2^7*n:Nat):Int) %((2^64:Nat):Int)).toNat=2^7*n:=F0
 have h4:((c:Int) %((2^64:Nat):Int)).toNat=c:=F0
 rw[h3,h4,<-Bj3 (by simpa using hc),Cz F0 F0]
theorem As5(b:LB)(hb:b.length=4):∀(j i q n:Nat),i+j=4->j<q->n<128^i->Qa b q (n:Int) (i:Int)=some (gQ (b.drop i) n)
 |0,i,q+1,n,hi,_,_=>by
  rw[Qa,CB,Abu F3,show b.drop i=[] by simp;omega];rfl
 |j+1,i,q+1,n,hi,hq,hn=>by
  have hlt:i<b.length:=F0
  have hn2:n<268435456:=Aw0 hn (show 128^i<=128^4 from Anl F0 F0);rw[Qa,CB,Adi F3,Bn hlt,Aa,drop_cons hlt,gQ,Bbm];by_cases hc:128<=b[i].toNat
  ·rw[Adi F7,Adi hc]
  ·rw[Abu F7,Abu hc,YK,or7 n _ hn2 F0,Ag];exact As5 b hb j (i+1) q _ F0 F0 (by rw[Bgy];omega)
theorem Bbj(b:LB)(hb:b.length=4):∀(j i q n:Nat),i+j=4->j<q->n<128^i->Mh b q (n:Int) (i:Int)=some (gQ (b.drop i) n)
 |0,i,q+1,n,hi,_,_=>by
  rw[Mh,Ys,Abu Bpi,show b.drop i=[] by simp;omega];rfl
 |j+1,i,q+1,n,hi,hq,hn=>by
  have hlt:i<b.length:=F0
  have hn2:n<268435456:=Aw0 hn (show 128^i<=128^4 from Anl F0 F0);rw[Mh,Ys,Adi Bpi,Bn hlt,Aa,drop_cons hlt,gQ,Azn];have h128:(128:UInt8).toNat=128:=rfl;by_cases hc:128<=b[i].toNat
  ·rw[Adi (by simpa using hc),Adi hc]
  ·have h3:=b[i].toNat_lt;rw[Abu (by simpa using hc),Abu hc,Aa,YK,Fa,Ag,Ag];have:=Bbj b hb j (i+1) q (128*n+b[i].toNat) F0 F0 (by rw[Bgy];omega);rw[<-this];rfl
theorem Ao7(b:LB)(hb:b.length=4):RG b=some (gQ b 0):=by
 have h:=As5 b hb 4 0 Au 0 F0 F8 Bpj;rw[RG,QP,Abu (by rw[Ah,Ac];simp;omega),iZ];exact h
theorem Awc(b:LB)(hb:b.length=4):GJ b=some (gQ b 0):=by
 have h:=Bbj b hb 4 0 Au 0 F0 F8 Bpj;rw[GJ,OI,Abu (by rw[Ah,Ac];simp;omega),NR];exact h
theorem Aon(hb:b.length=4):0<= (gQ b 0).1/\ (gQ b 0).1<268435456:=by
 have:=Ati b 0 0 Bpj;rw[hb]at this;simpa using this
theorem mR(s p:LB):Oj s p=some (decide (p.length<=s.length/\s.take p.length=p)):=by
 rw[Oj];by_cases h:p.length<=s.length
 ·rw[Adi Bqi,show Ac p=(p.length:Int)from rfl,Ct,Aa,Fp,Aa,Ajx];congr 1;rw[An7];simp[h]
 ·rw[Abu Bqi];simp[h]
def jO(b:LB)(n:Int):Int×Int:=
 if 4000<n then(0,4)else if(b.length:Int)<n then(0,24)else
 if b.getD 5 0=16/\ (b.take n.toNat).drop (n-10).toNat≠ [51,68,73]++part b 3 7 then(0,12)else(n,0)
def jy(b:LB)(r:Int):Int×Int:=jO b (r+10+(if b.getD 5 0=16 then 10 else 0))
def Zi(b:LB):Int×Int:=
 if ¬(3<=b.length/\b.take 3=[73,68,51])then(0,6)else if b.length<10 then(0,24)else
 if(gQ (part b 6 4) 0).2≠0\/b.getD 4 0≠0\/ ¬((b.getD 5 0=0/\2<= (b.getD 3 0).toNat/\ (b.getD 3 0).toNat<=4)\/ (b.getD 5 0=16/\b.getD 3 0=4))then(0,12)else
 jy b (gQ (part b 6 4) 0).1
theorem zA{i:Nat}(h:i<b.length):Am b (i:Int)=some (b.getD i 0):=by
 rw[Bn h];simp[List.getD_eq_getElem?_getD,h]
theorem So(a w:Nat)(h:a+w<=b.length:=by omega):Br b (a:Int) ((a+w:Nat):Int)=some (part b a w):=by
 rw[Qn];rfl
theorem Bdz(b:LB)(r:Int)(h10:10<=b.length)(h0:0<=r)(h1:r<268435456):AE b r=some (jy b r):=by
 have g5:Am b (5:Int)=some (b.getD 5 0):=zA (i:=5) F0;have key:∀n:Int,10<=n->n<268435500->Zv b n=some (jO b n):=by
  intro n hn hn2;rw[Zv,TN,jO];by_cases c1:4000<n
  ·rw[Adi (by rw[Ap];simpa using c1),Adi c1]
  ·rw[Abu (by rw[Ap];simpa using c1),Abu c1];by_cases c2:(b.length:Int)<n
   ·rw[Adi (by rw[Af,Ac];simpa using c2),Adi c2]
   ·have e3:Br b (3:Int) (10:Int)=some (part b 3 7):=So 3 7;rw[Abu (by rw[Af,Ac];simpa using c2),Abu c2,g5,Aa];by_cases c3:b.getD 5 0=16
    ·rw[Adi (by rw[mO];simpa using c3),Bv,Qn,Aa,e3,Aa,Bf (by rw[Ek];simp),Aa];by_cases c4:(b.take n.toNat).drop (n-10).toNat=[51,68,73]++part b 3 7
     ·rw[Abu (by simpa using c4),Abu (by intro h;exact h.2 c4)]
     ·rw[Adi (by simpa using c4),Adi ⟨c3,c4⟩]
    ·rw[Abu (by rw[mO];simpa using c3),Abu (λh=>c3 h.1)]
 rw[AE,SH,g5,Aa,jy];by_cases c3:b.getD 5 0=16
 ·rw[Adi (by rw[mO];simpa using c3),Ag Bqm Bqm,Ag,key _ F0 F0,Adi c3,show 10+r+10=r+10+10 by omega]
 ·rw[Abu (by rw[mO];simpa using c3),Ag,key _ F0 F0,Abu c3,show 10+r=r+10+0 by omega]
theorem Baz(b:LB)(hb:b.length<4611686018427387904):JV b=some (Zi b):=by
 rw[JV,SN,Zi];by_cases h3:3<=b.length
 ·rw[Abu F3,Ct,Aa];by_cases hp:b.take 3=[73,68,51]
  ·rw[Abu (by simpa using hp),Abu (by simp[h3,hp]),UJ,SX];by_cases h10:b.length<10
   ·rw[Adi F3,Adi h10]
   ·have e6:Br b (6:Int) (10:Int)=some (part b 6 4):=So 6 4;have g3:Am b (3:Int)=some (b.getD 3 0):=zA (i:=3) F0;have g4:Am b (4:Int)=some (b.getD 4 0):=zA (i:=4) F0;have g5:Am b (5:Int)=some (b.getD 5 0):=zA (i:=5) F0;obtain⟨v1,v2⟩:=Aon (b:=part b 6 4) (Ek);rw[Abu F3,Abu h10,e6,Aa,Awc _ (Ek),Aa];have ht:=Bdz b (gQ (part b 6 4) 0).1 F0 v1 v2;generalize gQ (part b 6 4) 0=v at*
    obtain⟨v,e⟩:=v;simp only at ht v1 v2⊢;simp only[Aa,g3,g4,g5,ht];generalize b.getD 3 0=x at*
    generalize b.getD 4 0=y at*
    generalize b.getD 5 0=z at*
    simp only[Apt,Bii,Bbm,Ah];by_cases he:e=0<;>by_cases hy:y=0<;>by_cases hz:z=0<;>by_cases hz2:z=16<;>by_cases hx:x=4<;>by_cases hx2:x.toNat<2<;>by_cases hx4:4<x.toNat<;>simp_all<;>(rw[Abu F0,Abu F0])
  ·rw[Adi (by simpa using hp),Adi (by simp[hp])]
 ·rw[Adi F3,Adi (by simp[h3])]
theorem Ae2(b:LB)(n:Int)(h10:10<=b.length)(hn:10<=n)(hn2:n<268435500):UY b (b.getD 5 0) n=some (jO b n):=by
 rw[UY,oZ];by_cases c1:4000<n
 ·rw[Adi (by rw[Ap];simpa using c1),jO,Adi c1]
 ·rw[Abu (by rw[Ap];simpa using c1)];by_cases c2:(b.length:Int)<n
  ·rw[Adi (by rw[Af,Ac];simpa using c2),jO,Abu c1,Adi c2]
  ·have e3:Br b (3:Int) (10:Int)=some (part b 3 7):=So 3 7;rw[Abu (by rw[Af,Ac];simpa using c2)];by_cases c3:b.getD 5 0=16
   ·have hl:((b.take n.toNat).drop (n-10).toNat).length=10:=by simp;omega
    have ht:jO b n=if(b.take n.toNat).drop (n-10).toNat≠ [51,68,73]++part b 3 7 then(0,12)else(n,0):=by rw[jO,Abu c1,Abu c2];simp only[c3,true_and]
    rw[Adi (by rw[mO];simpa using c3),Bv,Qn,Aa,ht];generalize(b.take n.toNat).drop (n-10).toNat=f at*
    rw[Ct,Aa,Bp,Aa,e3,Aa,Fp,Aa];have hf:f=f.take 3++f.drop 3:=(Bj4 3 f).symm;by_cases c4:f=[51,68,73]++part b 3 7
    ·subst c4;simp
    ·by_cases c5:f.take 3=[51,68,73]
     ·have:f.drop 3≠part b 3 7:=λh=>c4 (by rw[hf,c5,h]);simp only[Bmf,Awv]at c4;simp[c4,c5,this]
     ·simp only[Bmf,Awv]at c4;simp[c4,c5]
   ·rw[Abu (by rw[mO];simpa using c3),jO,Abu c1,Abu c2,Abu (λh=>c3 h.1)]
theorem Az5(b:LB)(r:Int)(h10:10<=b.length)(h0:0<=r)(h1:r<268435456):VR b r (b.getD 5 0)=some (jy b r):=by
 rw[VR,pJ,jy];by_cases c3:b.getD 5 0=16
 ·rw[Adi (by rw[mO];simpa using c3),Ag Bqm Bqm,Ag,Ae2 b _ h10 F0 F0,Adi c3]
 ·rw[Abu (by rw[mO];simpa using c3),Ag,Ae2 b _ h10 F0 F0,Abu c3];simp
theorem Av8(b:LB)(hb:b.length<4611686018427387904):XI b=some (Zi b):=by
 rw[XI,FD,mR,Aa];by_cases hp:3<=b.length/\b.take 3=[73,68,51]
 ·rw[Abu (by simpa using hp)];by_cases h10:b.length<10
  ·rw[Adi F3,Zi,Abu (λh=>h hp),Adi h10]
  ·have e6:Br b (6:Int) (10:Int)=some (part b 6 4):=So 6 4;have g3:Am b (3:Int)=some (b.getD 3 0):=zA (i:=3) F0;have g4:Am b (4:Int)=some (b.getD 4 0):=zA (i:=4) F0;have g5:Am b (5:Int)=some (b.getD 5 0):=zA (i:=5) F0;obtain⟨v1,v2⟩:=Aon (b:=part b 6 4) (Ek);have ht:=Az5 b (gQ (part b 6 4) 0).1 F0 v1 v2;rw[Abu F3,g3,Aa,g5,Aa,VA,VQ,e6,Aa,Ao7 _ (Ek),Aa,Zi,Abu (λh=>h hp),Abu h10];generalize gQ (part b 6 4) 0=v at*
   obtain⟨v,e⟩:=v;simp only at ht v1 v2⊢;simp only[Aa,g4,UR,oP];generalize b.getD 3 0=x at*
   generalize b.getD 4 0=y at*
   generalize b.getD 5 0=z at*
   simp only[Apt,Bje,mO,Azn,Ah];have e2:(2:UInt8).toNat=2:=rfl;have e4:(4:UInt8).toNat=4:=rfl;by_cases he:e=0<;>by_cases hy:y=0<;>by_cases hz:z=0<;>by_cases hz2:z=16<;>by_cases hx:x=4<;>by_cases hx2:2<=x.toNat<;>by_cases hx4:x.toNat<=4<;>simp_all
 ·rw[Adi (by rw[Bgu,Bh4];exact hp),Zi,Adi hp]
theorem Bb1{n:Int}(h:Zi b=(n,0)):10<=n/\n<=b.length/\n<=4000:=by
 unfold Zi at h;split at h; · simp at h
 split at h; · simp at h
 split at h; · simp at h
 rename_i h10 _;obtain⟨v1,v2⟩:=Aon (b:=part b 6 4) (Ek);unfold jy at h;generalize hm:(gQ (part b 6 4) 0).1+10+(if b.getD 5 0=16 then 10 else 0)=m at h;unfold jO at h;split at h; · simp at h
 split at h; · simp at h
 split at h; · simp at h
 simp only[Aki,Bpb]at h;subst h;refine⟨?_,F0,F0⟩;rw[<-hm];split<;>omega
theorem Bp6(h:p:=by rw[Af,Ac];simp):p:=h
theorem Bpv(h:p:=by rw[Ek];omega):p:=h
theorem Bql(h:p:=by rw[Az];omega):p:=h
theorem Bpu(h:p:=by simp[Az]):p:=h
end Go.Pl
namespace Go.Pl
open Go Go.Lv
def oz:LB:=[65,80,69,84,65,71,69,88]
def Rz(n m fl:Nat):LB:=oz++Fg 2000 4++Fg (n+32) 4++Fg m 4++Fg fl 4++List.replicate 8 0
theorem fW{n:Nat}(h:n<18446744073709551616):(UInt64.ofNat n).toNat=n:=by rw[Ajs,Ajb h]
theorem wO(n m:Int)(fl:UInt64)(c:UInt64)(i q:Nat)(acc:LB)(hi:i<6)(hc:Am ([(2000:UInt64),(Ad (Ae n (32:Int)):UInt64),(Ad m:UInt64),fl,(0:UInt64),(0:UInt64)]:LQ) (i:Int)=some c)(h:c.toNat<4294967296)(ha:acc.length<=1000000):
  GX n m fl (q+1) (i:Int) acc=GX n m fl q ((i+1:Nat):Int) (acc++Fg c.toNat 4):=by
 have hb:=MB c 4 F0 F0 (by simpa using h);rw[GX,mX,Adi F3,hc,Aa,Aa,show((4:Int))=((4:Nat):Int)from rfl,hb,Aa];simp only;rw[Bf Bql,Aa,Ag];rfl
theorem zn(n m:Nat)(fl:UInt64)(hn:n<=3000)(hm:m<=1000)(hf:fl.toNat<4294967296):vV (n:Int) (m:Int) fl=some (Rz n m fl.toNat):=by
 have e1:(Ad (Ae (n:Int) (32:Int)):UInt64).toNat=n+32:=by rw[Ag,show(n:Int)+32=((n+32:Nat):Int) by omega,Mx,fW F0]
 have e2:(Ad (m:Int):UInt64).toNat=m:=by rw[Mx,fW F0]
 have hF:Au=(Au-7)+1+1+1+1+1+1+1:=by have:=As;omega
 rw[vV,B8,Aam,hF];rw[show((0:Int))=((0:Nat):Int)from rfl,wO n m fl 2000 0 _ _ F0 rfl F2 Bpj,wO n m fl _ 1 _ _ F0 rfl (by rw[e1];omega) Bpu,wO n m fl _ 2 _ _ F0 rfl (by rw[e2];omega) Bpu,
  wO n m fl fl 3 _ _ F0 rfl hf Bpu,wO n m fl 0 4 _ _ F0 rfl F2 Bpu,wO n m fl 0 5 _ _ F0 rfl F2 Bpu,e1,e2]
 rw[GX,mX,Abu Bp6,zR,Ac3,Rz];have z:Fg (0:UInt64).toNat 4++Fg (0:UInt64).toNat 4=List.replicate 8 0:=F2
 have z2:Fg (2000:UInt64).toNat 4=Fg 2000 4:=rfl;rw[Ajp _ (Fg (0:UInt64).toNat 4),z,z2];rfl
theorem O7(n m:Nat)(fl:UInt64)(hn:n<=3000)(hm:m<=1000)(hf:fl.toNat<4294967296):Vl (n:Int) (m:Int) fl=some (Rz n m fl.toNat):=by
 have e1:(Ad (Ae (n:Int) (32:Int)):UInt64).toNat=n+32:=by rw[Ag,show(n:Int)+32=((n+32:Nat):Int) by omega,Mx,fW F0]
 have e2:(Ad (m:Int):UInt64).toNat=m:=by rw[Mx,fW F0]
 have w:∀c:UInt64,Fo c 4=some (Fg c.toNat 4):=λc=>Acj c 4 F0;have z2:Fg (2000:UInt64).toNat 4=Fg 2000 4:=rfl;rw[Vl];simp only[w,e1,e2,Aa];rw[Bf Bpu,Aa,Bf Bpu,Aa,Bf Bpu,Aa,Bf Bpu,Aa,pM,Aa,Bf Bpu,Aa,z2];rfl
theorem YI{b:LB}{a w k:Nat}(h:a+w<=k):part (b.take k) a w=part b a w:=by rw[part,part,Bor,Bhu h]
def IH(b:LB):Bool:=decide (Ga (part b 12 4)<32\/3032<Ga (part b 12 4)\/1000<Ga (part b 16 4))
theorem Bbd(b:LB)(h:20<=b.length):(((Cj (eS (part b 12 4)) (32:UInt64))||(Dx (eS (part b 12 4)) (3032:UInt64)))||(Dx (eS (part b 16 4)) (1000:UInt64)))=IH b:=by
 rw[wI,Uc,Uc,RP Bpv,RP Bpv,IH];show((decide (Ga (part b 12 4)<32)||decide (3032<Ga (part b 12 4)))||decide (1000<Ga (part b 16 4)))=_;simp[Bool.or_assoc]
theorem S3(b:LB)(h:20<=b.length)(hb:IH b=false):Aq (Ad (eS (part b 12 4)):Int) (32:Int)=((Ga (part b 12 4)-32:Nat):Int)/\ (Ad (eS (part b 16 4)):Int)=((Ga (part b 16 4):Nat):Int)/\Ga (part b 12 4)-32<=3000/\Ga (part b 16 4)<=1000:=by
 simp only[IH,Bh4]at hb;refine⟨?_,RM Bpv,F0,F0⟩;rw[RM Bpv,Bv];omega
theorem nF(b:LB)(fl:UInt64)(h:20<=b.length)(hl:b.length<4611686018427387904)(hf:fl.toNat<4294967296):
  YM b fl=some (if IH b=true then(0,0,false)else(((Ga (part b 12 4)-32:Nat):Int),((Ga (part b 16 4):Nat):Int),b==Rz (Ga (part b 12 4)-32) (Ga (part b 16 4)) fl.toNat)):=by
 have a1:HZ b 12 4=some (eS (part b 12 4),0):=rH b 12 4 F0 F0 F0 hl;have a2:HZ b 16 4=some (eS (part b 16 4),0):=rH b 16 4 F0 F0 F0 hl;rw[YM,a1,Aa];simp only;rw[a2,Aa];simp only;rw[Bbd b h];cases hb:IH b with
 |true=>rfl
 |false=>
  obtain⟨i1,i2,i3,i4⟩:=S3 b h hb;rw[i1,i2,zn _ _ _ i3 i4 hf];rfl
theorem Ajy(b:LB)(h:20<=b.length)(hl:b.length<4611686018427387904):
  Za b=some (if IH b=true then(0,0,false)else(((Ga (part b 12 4)-32:Nat):Int),((Ga (part b 16 4):Nat):Int),true)):=by
 have a1:Br b 12 16=some (part b 12 4):=So 12 4;have a2:Br b 16 20=some (part b 16 4):=So 16 4;rw[Za,a1,Aa,Amj _ Bpv,Aa,a2,Aa,Amj _ Bpv,Aa,Bbd b h];cases hb:IH b with
 |true=>rfl
 |false=>
  obtain⟨i1,i2,i3,i4⟩:=S3 b h hb;rw[i1,i2];rfl
def Lt(b:LB):Int×Int:=
 if ¬(8<=b.length/\b.take 8=oz)then(0,6)else if b.length<32 then(0,24)else
 if IH b=true\/b.take 32≠Rz (Ga (part b 12 4)-32) (Ga (part b 16 4)) 2684354560 then(0,12)else
 if b.length<Ga (part b 12 4)+32 then(0,24)else
 if(b.take (Ga (part b 12 4)+32)).drop (Ga (part b 12 4))≠Rz (Ga (part b 12 4)-32) (Ga (part b 16 4)) 2147483648 then(0,12)else(((Ga (part b 12 4)+32:Nat):Int),0)
theorem Aky(b:LB):IH (b.take 32)=IH b:=by rw[IH,IH,YI F0,YI F0]
section
variable {b:LB}
theorem fa1(h:¬(8<=b.length/\b.take 8=oz)):Lt b=(0,6):=by rw[Lt,Adi h]
theorem fa2(h:8<=b.length/\b.take 8=oz)(h2:b.length<32):Lt b=(0,24):=by rw[Lt,Abu (λh'=>h' h),Adi h2]
variable (h:8<=b.length/\b.take 8=oz) (h2:¬b.length<32)
include h h2
theorem fa3(h3:IH b=true):Lt b=(0,12):=by rw[Lt,Abu (λh'=>h' h),Abu h2,Adi (.inl h3)]
theorem fa4(h4:b.take 32≠Rz (Ga (part b 12 4)-32) (Ga (part b 16 4)) 2684354560):Lt b=(0,12):=by rw[Lt,Abu (λh'=>h' h),Abu h2,Adi (.inr h4)]
variable (h3:IH b=false) (h4:b.take 32=Rz (Ga (part b 12 4)-32) (Ga (part b 16 4)) 2684354560)
include h3 h4
theorem fa5(h5:b.length<Ga (part b 12 4)+32):Lt b=(0,24):=by
 rw[Lt,Abu (λh'=>h' h),Abu h2,Abu (λh'=>h'.elim (λe=>by rw[h3]at e;cases e) λe=>e h4),Adi h5]
theorem fa6(h5:¬b.length<Ga (part b 12 4)+32)(h6:(b.take (Ga (part b 12 4)+32)).drop (Ga (part b 12 4))≠Rz (Ga (part b 12 4)-32) (Ga (part b 16 4)) 2147483648):Lt b=(0,12):=by
 rw[Lt,Abu (λh'=>h' h),Abu h2,Abu (λh'=>h'.elim (λe=>by rw[h3]at e;cases e) λe=>e h4),Abu h5,Adi h6]
theorem fa7(h5:¬b.length<Ga (part b 12 4)+32)(h6:(b.take (Ga (part b 12 4)+32)).drop (Ga (part b 12 4))=Rz (Ga (part b 12 4)-32) (Ga (part b 16 4)) 2147483648):Lt b=(((Ga (part b 12 4)+32:Nat):Int),0):=by
 rw[Lt,Abu (λh'=>h' h),Abu h2,Abu (λh'=>h'.elim (λe=>by rw[h3]at e;cases e) λe=>e h4),Abu h5,Abu (λh'=>h' h6)]
end
theorem Ao0(b:LB)(hl:b.length<4611686018427387904):wA b=some (Lt b):=by
 rw[wA,mR,Aa];by_cases hp:8<=b.length/\b.take 8=oz
 ·rw[Abu (by simpa [oz]using hp)];by_cases h32:b.length<32
  ·rw[Adi F3,fa2 hp h32]
  ·have t:=nF (b.take 32) 2684354560 F7 F7 F2;rw[Aky,YI F0,YI F0]at t;rw[Abu F3,Ct,Aa,show(32:Int).toNat=32 from rfl,t,Aa];cases hb:IH b with
   |true=>rw[fa3 hp h32 hb];simp
   |false=>
    obtain⟨i1,i2,i3,i4⟩:=S3 b F0 hb;have i5:32<=Ga (part b 12 4):=by simp only[IH,Bh4]at hb;omega
    simp only[Bdk,Bm7,false_or];by_cases c1:b.take 32=Rz (Ga (part b 12 4)-32) (Ga (part b 16 4)) 2684354560
    ·have c1':b.take 32=Rz (Ga (part b 12 4)-32) (Ga (part b 16 4)) (2684354560:UInt64).toNat:=c1;rw[Abu (by simpa using c1'),Ag];have e1:((Ga (part b 12 4)-32:Nat):Int)+64=((Ga (part b 12 4)+32:Nat):Int):=F0
     rw[e1];by_cases c2:b.length<Ga (part b 12 4)+32
     ·rw[Adi F3,fa5 hp h32 hb c1 c2]
     ·rw[Abu F3,Bv,Qn,Aa,zn _ _ _ i3 i4 F2,Aa,Fp,Aa];rw[show(((Ga (part b 12 4)+32:Nat):Int)).toNat=Ga (part b 12 4)+32 by omega,show(((Ga (part b 12 4)+32:Nat):Int)-32).toNat=Ga (part b 12 4) by omega];by_cases c3:(b.take (Ga (part b 12 4)+32)).drop (Ga (part b 12 4))=Rz (Ga (part b 12 4)-32) (Ga (part b 16 4)) 2147483648
      ·have c3':(b.take (Ga (part b 12 4)+32)).drop (Ga (part b 12 4))=Rz (Ga (part b 12 4)-32) (Ga (part b 16 4)) (2147483648:UInt64).toNat:=c3;rw[Abu (by simpa using c3'),fa7 hp h32 hb c1 c2 c3]
      ·have c3':¬(b.take (Ga (part b 12 4)+32)).drop (Ga (part b 12 4))=Rz (Ga (part b 12 4)-32) (Ga (part b 16 4)) (2147483648:UInt64).toNat:=c3;rw[Adi (by simpa using c3'),fa6 hp h32 hb c1 c2 c3]
    ·have c1':¬b.take 32=Rz (Ga (part b 12 4)-32) (Ga (part b 16 4)) (2684354560:UInt64).toNat:=c1;rw[Adi (by simpa using c1'),fa4 hp h32 c1]
 ·rw[Adi (by rw[Bgu,Bh4];exact hp),fa1 hp]
theorem Aux(b:LB)(hl:b.length<4611686018427387904):GD b=some (Lt b):=by
 rw[GD,NL];by_cases h8:8<=b.length
 ·rw[Abu F3,Ct,Aa,show(8:Int).toNat=8 from rfl];by_cases ha:b.take 8=oz
  ·have hp:=And.intro h8 ha;rw[Abu (by simpa [oz]using ha),OA,NT];by_cases h32:b.length<32
   ·rw[Adi F3,fa2 hp h32]
   ·have t:=Ajy (b.take 32) F7 F7;rw[Aky,YI F0,YI F0]at t;rw[Abu F3,Ct,Aa,show(32:Int).toNat=32 from rfl,t,Aa];cases hb:IH b with
    |true=>rw[fa3 hp h32 hb];simp
    |false=>
     obtain⟨i1,i2,i3,i4⟩:=S3 b F0 hb;have i5:32<=Ga (part b 12 4):=by simp only[IH,Bh4]at hb;omega
     simp only[Bdk,Bm7,false_or,Aa,Boo];rw[Zh,O7 _ _ _ i3 i4 F2,Aa,Aa];by_cases c1:b.take 32=Rz (Ga (part b 12 4)-32) (Ga (part b 16 4)) 2684354560
     ·have c1':b.take 32=Rz (Ga (part b 12 4)-32) (Ga (part b 16 4)) (2684354560:UInt64).toNat:=c1;rw[Abu (by simpa using c1'),OP,OB,Ag];have e1:64+((Ga (part b 12 4)-32:Nat):Int)=((Ga (part b 12 4)+32:Nat):Int):=F0
      rw[e1];by_cases c2:b.length<Ga (part b 12 4)+32
      ·rw[Adi F3,fa5 hp h32 hb c1 c2]
      ·rw[Abu F3,Bv,Qn,Aa,Oc,Adi rfl,O7 _ _ _ i3 i4 F2,Aa,Aa];rw[show(((Ga (part b 12 4)+32:Nat):Int)).toNat=Ga (part b 12 4)+32 by omega,show(((Ga (part b 12 4)+32:Nat):Int)-32).toNat=Ga (part b 12 4) by omega];by_cases c3:(b.take (Ga (part b 12 4)+32)).drop (Ga (part b 12 4))=Rz (Ga (part b 12 4)-32) (Ga (part b 16 4)) 2147483648
       ·have c3':(b.take (Ga (part b 12 4)+32)).drop (Ga (part b 12 4))=Rz (Ga (part b 12 4)-32) (Ga (part b 16 4)) (2147483648:UInt64).toNat:=c3;rw[Abu (by simpa using c3'),fa7 hp h32 hb c1 c2 c3]
       ·have c3':¬(b.take (Ga (part b 12 4)+32)).drop (Ga (part b 12 4))=Rz (Ga (part b 12 4)-32) (Ga (part b 16 4)) (2147483648:UInt64).toNat:=c3;rw[Adi (by simpa using c3'),fa6 hp h32 hb c1 c2 c3]
     ·have c1':¬b.take 32=Rz (Ga (part b 12 4)-32) (Ga (part b 16 4)) (2684354560:UInt64).toNat:=c1;rw[Adi (by simpa using c1'),fa4 hp h32 c1]
  ·rw[Adi (by simpa [oz]using ha),fa1 (λh=>ha h.2)]
 ·rw[Adi F3,fa1 (λh=>h8 h.1)]
theorem Awg{b:LB}{n:Int}(h:Lt b=(n,0)):64<=n/\n<=b.length:=by
 unfold Lt at h;split at h; · simp at h
 split at h; · simp at h
 split at h; · simp at h
 rename_i hb;split at h; · simp at h
 split at h; · simp at h
 simp only[Aki,Bpb]at h;have hb':¬IH b=true:=λe=>hb (.inl e);simp only[IH,Ahz]at hb';omega
def Df(b:LB):Int×Int:=if(Zi b).2≠6 then Zi b else Lt b
theorem size_eq(b:LB)(hl:b.length<4611686018427387904):AN b=some (Df b):=by
 rw[AN,Av8 b hl,Aa,Ao0 b hl];by_cases h:(Zi b).2=6
 ·simp[Df,h,Ah]
 ·simp[Df,h,Ah]
theorem tP{b:LB}{n:Int}(h:Df b=(n,0)):10<=n/\n<=b.length:=by
 unfold Df at h;split at h
 ·have:=Bb1 h;omega
 ·have:=Awg h;omega
def Cn(b:LB):Nat->Nat->LI×Int
 |0,_=>([],6)
 |j+1,p=>if(Df (b.drop p)).2=6 then([],0)else if(Df (b.drop p)).2≠0 then([],(Df (b.drop p)).2)else
  if 4000<(p:Int)+(Df (b.drop p)).1 then([],4)else
  if(Cn b j (p+(Df (b.drop p)).1.toNat)).2=0 then((Df (b.drop p)).1::(Cn b j (p+(Df (b.drop p)).1.toNat)).1,0)else([],(Cn b j (p+(Df (b.drop p)).1.toNat)).2)
theorem wS(b:LB):∀(j p:Nat),p<=b.length->p<=4000-> (Cn b j p).2=0-> (∀x∈(Cn b j p).1,10<=x)/\ (p:Int)+(Cn b j p).1.sum<=b.length/\ (p:Int)+(Cn b j p).1.sum<=4000
 |0,p,_,_,h=>by simp[Cn]at h
 |j+1,p,hp,hq,h=>by
  rw[Cn]at h⊢;split at h
  ·rename_i h6;rw[Adi h6];simp;omega
  ·rename_i h6;split at h
   ·rename_i h0;exact absurd h h0
   ·rename_i h0;rw[Abu h6,Abu h0];have hz:Df (b.drop p)=((Df (b.drop p)).1,0):=by rw[Prod.ext_iff];exact⟨rfl,Classical.not_not.1 h0⟩
    have hs:=tP hz;rw[Anx]at hs;split at h
    ·simp at h
    ·rename_i h4;rw[Abu h4];split at h
     ·rename_i h00;rw[Adi h00];obtain⟨i1,i2,i3⟩:=wS b j _ F0 F0 h00;refine⟨λx hx=>?_,?_,?_⟩
      ·rcases List.mem_cons.1 hx with rfl|hx
       ·exact hs.1
       ·exact i1 x hx
      ·simp only[Bha];omega
      ·simp only[Bha];omega
     ·rename_i h00;exact absurd h h00
def Aao(b:LB)(j p:Nat):Int×Int:=if(Cn b j p).2=0 then((p:Int)+(Cn b j p).1.sum,0)else(0,(Cn b j p).2)
theorem Acv(b:LB)(hl:b.length<4611686018427387904):∀(j p q:Nat),p<=b.length->p<=4000->b.length-p<j->j<=q->Yd b q (p:Int)=some (Aao b j p)
 |0,p,q,_,_,h,_=>by omega
 |j+1,p,q,hp,hp4,hj,hq=>by
  obtain⟨q,rfl⟩:∃k,q=k+1:=⟨q-1,F0⟩;rw[Yd,Bp,Aa,Ajx,size_eq _ F7,Aa,Ar,Ar,Ah,Aao];by_cases h6:(Df (b.drop p)).2=6
  ·rw[Adi (by simpa using h6)];have:Cn b (j+1) p=([],0):=by rw[Cn,Adi h6]
   rw[this];simp
  ·rw[Abu (by simpa using h6)];by_cases h0:(Df (b.drop p)).2=0
   ·have hz:Df (b.drop p)=((Df (b.drop p)).1,0):=by rw[Prod.ext_iff];exact⟨rfl,h0⟩
    have hs:=tP hz;rw[Anx]at hs;rw[Ag,Ap];by_cases h4:4000<(p:Int)+(Df (b.drop p)).1
    ·rw[Adi (by simp[h0];omega)];have:Cn b (j+1) p=([],4):=by rw[Cn,Abu h6,Abu (λh=>h h0),Adi h4]
     rw[this];simp
    ·rw[Abu (by simp[h0];omega),Abu (by simpa using h0)];have ih:=Acv b hl j (p+(Df (b.drop p)).1.toNat) q F0 F0 F0 F0;rw[show(p:Int)+(Df (b.drop p)).1=((p+(Df (b.drop p)).1.toNat:Nat):Int) by omega,ih,Aao];have:Cn b (j+1) p=if(Cn b j (p+(Df (b.drop p)).1.toNat)).2=0 then((Df (b.drop p)).1::(Cn b j (p+(Df (b.drop p)).1.toNat)).1,0)else([],(Cn b j (p+(Df (b.drop p)).1.toNat)).2):=by
      rw[Cn,Abu h6,Abu (λh=>h h0),Abu h4]
     rw[this];by_cases hr:(Cn b j (p+(Df (b.drop p)).1.toNat)).2=0
     ·simp only[hr,Bpg,Bha];congr 2;omega
     ·simp only[hr,Bm7]
   ·rw[Abu (by simp[h0]),Adi (by simpa using h0)];have:Cn b (j+1) p=([],(Df (b.drop p)).2):=by rw[Cn,Abu h6,Adi h0]
    rw[this];simp[h0]
def Ax9(b:LB)(j p:Nat)(xs:LI):LI×Int:=if(Cn b j p).2=0 then(xs++(Cn b j p).1,0)else([],(Cn b j p).2)
theorem Ayg(bk:Int->LI->Option (LI×Int))(b:LB)(p:Nat)(hp:p<=b.length)(xs:LI)(hx:xs.length<=4000)(hl:b.length<4611686018427387904):Yw (Rm bk b) b (p:Int) xs=Rm bk b (p:Int) xs (Df (b.drop p)).1 (Df (b.drop p)).2:=by
 have hf:=Aux (b.drop p) F7;rw[Yw,Bp,Aa,Ajx,Baz _ F7,Aa];by_cases h:(Zi (b.drop p)).2=6
 ·simp[Df,h,Ar,hf]
 ·simp[Df,h,Ar]
theorem Agc(b:LB)(hl:b.length<4611686018427387904):∀(j p q:Nat) (xs:LI),p<=b.length->p<=4000->b.length-p<j->j<=q->xs.length<=p->Rc b q (p:Int) xs=some (Ax9 b j p xs)
 |0,p,q,_,_,_,h,_,_=>by omega
 |j+1,p,q,xs,hp,hp4,hj,hq,hx=>by
  obtain⟨q,rfl⟩:∃k,q=k+1:=⟨q-1,F0⟩;rw[Rc,Ayg _ b p hp xs F0 hl,Rm,NZ,Ar,Ah,Ax9];by_cases h6:(Df (b.drop p)).2=6
  ·rw[Adi (by simpa using h6)];have:Cn b (j+1) p=([],0):=by rw[Cn,Adi h6]
   rw[this];simp
  ·rw[Abu (by simpa using h6)];by_cases h0:(Df (b.drop p)).2=0
   ·have hz:Df (b.drop p)=((Df (b.drop p)).1,0):=by rw[Prod.ext_iff];exact⟨rfl,h0⟩
    have hs:=tP hz;rw[Anx]at hs;rw[Abu (by simpa using h0),Ag,Ap];by_cases h4:4000<(p:Int)+(Df (b.drop p)).1
    ·rw[Adi F7];have:Cn b (j+1) p=([],4):=by rw[Cn,Abu h6,Abu (λh=>h h0),Adi h4]
     rw[this];simp
    ·rw[Abu F7,Bf F7,Aa];have ih:=Agc b hl j (p+(Df (b.drop p)).1.toNat) q (xs++[(Df (b.drop p)).1]) F0 F0 F0 F0 F7;rw[show(p:Int)+(Df (b.drop p)).1=((p+(Df (b.drop p)).1.toNat:Nat):Int) by omega,ih,Ax9];have:Cn b (j+1) p=if(Cn b j (p+(Df (b.drop p)).1.toNat)).2=0 then((Df (b.drop p)).1::(Cn b j (p+(Df (b.drop p)).1.toNat)).1,0)else([],(Cn b j (p+(Df (b.drop p)).1.toNat)).2):=by
      rw[Cn,Abu h6,Abu (λh=>h h0),Abu h4]
     rw[this];by_cases hr:(Cn b j (p+(Df (b.drop p)).1.toNat)).2=0
     ·simp only[hr,Bpg];simp
     ·simp only[hr,Bm7]
   ·rw[Adi (by simpa using h0)];have:Cn b (j+1) p=([],(Df (b.drop p)).2):=by rw[Cn,Abu h6,Adi h0]
    rw[this];simp[h0]
theorem su:∀{l:LI},(∀x∈l,10<=x)->0<=l.sum/\ (l.length:Int)<=l.sum
 |[],_=>by simp
 |x::l,h=>by
  have h1:=h x Bdj;have h2:=su (l:=l) λy hy=>h y (Avl _ hy);simp only[Bha,Ary];omega
theorem yt(r:Int)(l:LI)(hl:l.length<=4000)(hx:∀x∈l,10<=x):∀(j i q:Nat) (n:Int),i+j=l.length->j<q->0<=n->n+(l.drop i).sum<=4000->Ma r l q n (i:Int)=some (n+(l.drop i).sum,r)
 |0,i,q+1,n,hi,_,_,_=>by
  rw[Ma,Yh,Abu F3,show i=l.length by omega,Bl3];simp[OO,NK]
 |j+1,i,q+1,n,hi,hq,hn,hs=>by
  have hlt:i<l.length:=F0
  rw[drop_cons hlt,Bha]at hs⊢;have h1:=hx l[i] (Avu hlt);have h2:=su (l:=l.drop (i+1)) λy hy=>hx y (Bms hy);rw[Ma,Yh,Adi F3,Bn hlt,Aa,Aa,Ag,Ag];have ih:=yt r l hl hx j (i+1) q (n+l[i]) F0 F0 F0 F0;rw[show((i:Int)+1)=((i+1:Nat):Int) by omega,ih];congr 2;omega
def Bs(b:LB):Int×Int:=Aao b (b.length+1) 0
theorem Qi(b:LB)(hl:b.length<4611686018427387904):Ju b=some (Bs b):=by
 have:=Acv b hl (b.length+1) 0 Au F0 F0 F0 F8;exact this
theorem CE(b:LB)(hl:b.length<4611686018427387904):My b=some (Bs b):=by
 have h:=Agc b hl (b.length+1) 0 Au [] F0 F0 F0 F8 Bpj;have h':ZN b=some (Ax9 b (b.length+1) 0 []):=h;rw[My,NX,h',Aa,Bs,Aao,Ax9];have ho:=wS b (b.length+1) 0 F0 F0;by_cases h0:(Cn b (b.length+1) 0).2=0
 ·obtain⟨i1,i2,i3⟩:=ho h0;have hp:=su i1;simp only[h0,Bpg,Awv];have:=yt 0 (Cn b (b.length+1) 0).1 F0 i1 (Cn b (b.length+1) 0).1.length 0 Au 0 F0 F8 F0 (by simpa using i3);simpa [Yj]using this
 ·simp only[h0,Bm7];have:=yt (Cn b (b.length+1) 0).2 [] Bpj Bpj 0 0 Au 0 Bpj F8 F0 Bpj;simpa [Yj]using this
theorem BP{b:LB}(h:(Bs b).2=0):0<= (Bs b).1/\ (Bs b).1<=b.length/\ (Bs b).1<=4000:=by
 unfold Bs Aao at h⊢;split at h
 ·rename_i h0;rw[Adi h0];obtain⟨i1,i2,i3⟩:=wS b (b.length+1) 0 F0 F0 h0;have hp:=su i1;exact⟨by simp;omega,i2,i3⟩
 ·rename_i h0;exact absurd h h0
theorem Bpw{p:Prop}(h:p:=by rw[Af,Ac,Ac];simp;omega):p:=h
end Go.Pl
namespace Go.Pl
open Go Go.Lv
def Ak(r:Nat):Nat:=max 1 (256*r/245)
theorem Eh(r:Nat):1<=Ak r:=Nat.le_max_left _ _
theorem TG{r:Nat}(h:r<=1048576):Ak r<=1100000:=by unfold Ak;omega
theorem Acz{r:Nat}(h:r<=1048576):H5 (1:Int) (Bq (Bi (256:Int) (r:Int)) (245:Int))=(Ak r:Int):=by
 rw[Fa,UW,Bkq F0,Cz F0 F0,Ait,Ak];omega
def Al(g n:Nat):LI:=List.replicate ((n-1)/g) (g:Int)++[((n-(n-1)/g*g:Nat):Int)]
theorem We(g n:Nat):(Al g n).length=(n-1)/g+1:=by simp[Al]
theorem RO{g n:Nat}(h:n<=g)(h1:1<=n):Al g n=[(n:Int)]:=by
 rw[Al,Bmg F0];simp
theorem uY{g n:Nat}(hg:1<=g)(h:g<n):Al g n=(g:Int)::Al g (n-g):=by
 have e:(n-1)/g=(n-g-1)/g+1:=by rw[<-Nat.add_div_right _ F0];congr 1;omega
 rw[Al,Al,e,Bj5,Bmf];congr 4;have:=Bjv (n-g-1) g;rw[An5,Bjg];omega
theorem E3{g n:Nat}(hg:1<=g)(h1:1<=n):(n+g-1)/g=(n-1)/g+1:=by
 rw[<-Nat.add_div_right _ F0];congr 1;omega
theorem vG{r:Nat}(h1:1<=r)(h:r<=1048576):Ph (r:Int)=some ((Ak r:Int),0):=by
 rw[Ph,Abu Bpo,Acz h]
theorem Azl{r:Nat}(h:r<=1048576):Zk (r:Int)=some (Ak r:Int):=by rw[Zk,Acz h]
theorem mP{r n:Nat}(h1:1<=r)(h:r<=1048576)(n1:1<=n)(n2:n<=4000):Ki (r:Int) (n:Int)=some (if 1000<(n-1)/Ak r+1 then(0,4)else((((n-1)/Ak r+1:Nat):Int),0)):=by
 have hp:=Eh r;have hl:=TG h;have e:Bq (Aq (Ae (n:Int) (Ak r:Int)) (1:Int)) (Ak r:Int)=(((n-1)/Ak r+1:Nat):Int):=by
  have:(n+Ak r-1)/Ak r<=n+Ak r-1:=Ayq _ _;rw[Ag,Bv,UW,Bkq F0,show(n:Int)+(Ak r:Int)-1=((n+Ak r-1:Nat):Int) by omega,<-Int.natCast_ediv,E3 hp n1];rw[E3 hp n1]at this;generalize(n-1)/Ak r=k at*
  exact Cz F0 F0
 rw[Ki,vG h1 h,Aa];simp only;rw[Abu Bpk,Abu Bpo,Bk Bpl,Aa,e];by_cases hk:1000<(n-1)/Ak r+1
 ·rw[Adi Bpn,Adi hk]
 ·rw[Abu Bpn,Abu hk]
theorem Ac5{r:Nat}(h:r<=1048576):∀(j n q:Nat) (acc:LI),n<=4000->n<=j->j<q->acc.length+n<=10000->Gl (r:Int) q (n:Int) acc=some (acc++(if n=0 then []else Al (Ak r) n))
 |0,n,q+1,acc,hn,hj,hq,ha=>by
  obtain rfl:n=0:=F0
  rw[Gl,Mf,Abu Bpz];simp[Rn,Rh]
 |j+1,n,q+1,acc,hn,hj,hq,ha=>by
  have hp:=Eh r;have hl:=TG h;by_cases h0:n=0
  ·subst h0;rw[Gl,Mf,Abu Bpz];simp[Rn,Rh]
  ·rw[Gl,Mf,Adi Bpn,Azl h,Aa,Bf F7,Aa,Aa,Bv,IY];by_cases hs:n<=Ak r
   ·rw[show min (n:Int) (Ak r:Int)=(n:Int) by omega,Abu h0,RO hs F0];have hz:∃k,q=k+1:=⟨q-1,F0⟩;obtain⟨q,rfl⟩:=hz;rw[Gl,Mf,Abu Bpn];simp[Rn,Rh]
   ·rw[show min (n:Int) (Ak r:Int)=(Ak r:Int) by omega,show(n:Int)-(Ak r:Int)=((n-Ak r:Nat):Int) by omega,Ac5 h j (n-Ak r) q _ F0 F0 F0 F7,Abu F0,Abu h0,uY hp (show Ak r<n by omega)];simp
theorem jW{r n:Nat}(h:r<=1048576)(n1:1<=n)(n2:n<=4000):Fv (r:Int) (n:Int)=some (Al (Ak r) n):=by
 have:=Ac5 h n n Au [] n2 (An6 _) F8 F7;rw[Fv,NW,NI,this,Abu F0];rfl
theorem mul_one(m:Nat)(h:m<=100000):RN (1:UInt64) (UInt64.ofNat m)=some (0,UInt64.ofNat m):=by
 have y1:(UInt64.ofNat m).toNat=m:=fW F0;have s1:Cw (1:UInt64) (GI.toZ (32:UInt64)).toNat=0:=F2
 have s2:Cw (UInt64.ofNat m) (GI.toZ (32:UInt64)).toNat=0:=by
  apply UInt64.toNat_inj.1;rw[MR,y1];exact Bmg (Bmm h F2)
 have s0:Cw (0:UInt64) (GI.toZ (32:UInt64)).toNat=0:=F2
 have a1:Ez (1:UInt64) (4294967295:UInt64)=1:=F2
 have a0:Ez (0:UInt64) (4294967295:UInt64)=0:=F2
 have a2:Ez (UInt64.ofNat m) (4294967295:UInt64)=UInt64.ofNat m:=by
  apply UInt64.toNat_inj.1;rw[Acg,UInt64.toNat_and,y1]
  show m&&& (2^32-1)=m;rw[Bko,Ajb F0]
 have m1:∀x:UInt64,Bi 1 x=x:=λx=>by rw[TK,UInt64.one_mul]
 have m0:∀x:UInt64,Bi 0 x=0:=λx=>by rw[TK,UInt64.zero_mul]
 have p0:∀x:UInt64,Ae 0 x=x:=λx=>by rw[TR,UInt64.zero_add]
 have p1:∀x:UInt64,Ae x 0=x:=λx=>by rw[TR,UInt64.add_zero]
 rw[RN,VH];simp only[s1,s2,a1,a2,m1,m0,p0,p1,s0,a0,Aa]
theorem cu(v:Int)(m:Nat)(hm:m<=100000):∀(j n q:Nat),1<=n->n<=m->m-n<=j->j<q->Gg q (n:Int) (List.replicate n v++List.replicate (m-n) 0)=some (List.replicate m v)
 |j,n,q+1,hn,hnm,hj,hq=>by
  have hlen:Ac (List.replicate n v++List.replicate (m-n) 0)=(m:Int):=by simp[Ac];omega
  rw[Gg,Ja,hlen];by_cases h:n<m
  ·obtain⟨j,rfl⟩:∃k,j=k+1:=⟨j-1,F0⟩;rw[Adi Bpi];have v1:jT (m:Int) (n:Int) (m:Int)=some ():=by rw[jT,Bk];simp;omega
   have v2:jT (m:Int) (0:Int) (n:Int)=some ():=by rw[jT,Bk];simp;omega
   have e1:dB (List.replicate n v++List.replicate (m-n) 0) (0:Int) ((n:Int)-0)=List.replicate n v:=by
    simp[dB]
   rw[v1,Aa,v2,Aa,e1];have e2:bN ((m:Int)-(n:Int)) (List.replicate n v).length=((min n (m-n):Nat):Int):=by
    rw[bN,Aw4];split<;>omega
   have e3:Zx (List.replicate n v++List.replicate (m-n) 0) (n:Int) ((m:Int)-(n:Int)) (List.replicate n v)=List.replicate (n+min n (m-n)) v++List.replicate (m-(n+min n (m-n))) 0:=by
    have t1:((m:Int)-(n:Int)).toNat=m-n:=F0
    have t2:(List.replicate n v++List.replicate (m-n) (0:Int)).take n=List.replicate n v:=by simp
    rw[Zx,t1,Ajx,t2,List.take_replicate,Aw4,<-Ajp,List.replicate_append_replicate,List.drop_append,Aw4,Nat.min_comm (m-n) n];simp only[List.drop_replicate];rw[show n-(n+min n (m-n))=0 by omega,List.replicate_zero,Awv,show m-n-(n+min n (m-n)-n)=m-(n+min n (m-n)) by omega]
   rw[e2,e3,Ag,show(n:Int)+((min n (m-n):Nat):Int)=((n+min n (m-n):Nat):Int) by omega];exact cu v m hm j (n+min n (m-n)) q F0 F0 F0 F0
  ·rw[Abu Bpi];obtain rfl:n=m:=F0
   simp[Lu,Rq]
theorem Awk(v:Int)(m:Nat)(hm:m<=100000):Rl [v] (m:Int)=some (List.replicate m v):=by
 have y1:(UInt64.ofNat m).toNat=m:=fW F0;have c1:(Ad (Ac [v]):UInt64)=1:=by rfl
 have c2:(Ad (m:Int):UInt64)=UInt64.ofNat m:=Mx m;have c3:(Ad (UInt64.ofNat m):Int)=(m:Int):=by rw[wU F0,y1]
 rw[Rl,Tp,Abu Bpr,EY,Ti,c1,c2,mul_one m hm,Aa];simp only;rw[Abu (by rw[Uc,Uc,y1];simp;show m<=9223372036854775807;omega),EP,Tt,c3,pM,Aa,Bk Bqa,Aa,EX,Ajx];by_cases h0:m=0
 ·subst h0;have hF:Au=(Au-1)+1:=by have:=As;omega
  rw[hF,Gg,Ja];simp[Ac,WZ,bN,Af,Lu,Rq]
 ·have:=cu v m hm m 1 Au F0 F0 F0 F8;have e1:bN (Ac (List.replicate m (0:Int))) [v].length=((1:Nat):Int):=by simp[bN,Ac];omega
  have e2:WZ (List.replicate m (0:Int)) [v]=List.replicate 1 v++List.replicate (m-1) 0:=by
   obtain⟨k,rfl⟩:∃k,m=k+1:=⟨m-1,F0⟩;simp[WZ]
  rw[e1,e2,this]
theorem Av0(l m:LI)(h:l.length+m.length<=1000000):Re [l,m]=some (l++m):=by
 have hF:Au=(Au-3)+1+1+1:=by have:=As;omega
 rw[Re,Tm,EK];have g0:Am [l,m] (0:Int)=some l:=rfl;have g1:Am [l,m] (1:Int)=some m:=rfl;have l2:Ac [l,m]=2:=rfl;have h3:Rv [l,m] []=some (l++m):=by
  rw[Rv,Rr,Ru,hF,Fq,Ig,l2,Adi F2,g0,Aa,Bf F7,Aa,Awv,show Ae (0:Int) 1=1 by decide,
   Fq,Ig,l2,Adi F2,g1,Aa,Bf,Aa,show Ae (1:Int) 1=2 by decide,Fq,Ig,l2,Abu F2]
  rfl
 rw[hF,Ge,Iy,l2,Adi F2,g0,Aa,Ag Bpt Bpt,Abu Bp6,show Ae (0:Int) 1=1 by decide,
  Ge,Iy,l2,Adi F2,g1,Aa,Ag Bpt Bpt,Abu Bpw,show Ae (1:Int) 1=2 by decide,
  Ge,Iy,l2,Abu F2,CY,Rw,Abu Bpw,CZ,Rs]
 have z:Aq (0:Int) 0=0:=F2
 have n0:(0:Int)+Ac l+Ac m=((l.length+m.length:Nat):Int):=by simp[Ac]
 rw[z,n0,Bv,Int.sub_zero];by_cases hp:0<l.length+m.length
 ·rw[Adi Bpn,show jT (0:Int) 0 0=some ()from rfl,Aa,pM,Aa,Bf F7,Aa];rw[show jT (Ac ([]++List.replicate ((l.length+m.length:Nat):Int).toNat (0:Int))) 0 0=some () by rw[jT,Bk];simp[Ac];omega,Aa];simp only[dB,Int.sub_self,Int.toNat_zero,Bj8];exact h3
 ·rw[Abu Bpn];exact h3
theorem Anh{r n:Nat}(h1:1<=r)(h:r<=1048576)(n1:1<=n)(n2:n<=4000)(hk:(n-1)/Ak r+1<=1000):AI (r:Int) (n:Int)=some (Al (Ak r) n,0):=by
 have hp:=Eh r;have hl:=TG h;have hd:=Bjv (n-1) (Ak r);rw[AI,mP h1 h n1 n2,Abu F0,Aa];simp only;rw[Abu Bpk,vG h1 h,Aa];simp only;rw[Al];generalize(n-1)/Ak r=k at*
 have e1:Aq ((k+1:Nat):Int) 1=(k:Int):=by rw[Bv];omega
 have e2:(k:Int)*(Ak r:Int)=((k*Ak r:Nat):Int):=by simp
 rw[e1,Awk _ _ F0,Aa,Fa (by rw[e2];omega) (by rw[e2];omega),e2,Bv,aW,Av0 _ _ F7,Aa,Aa,show(n:Int)-((k*Ak r:Nat):Int)=((n-k*Ak r:Nat):Int) by omega]
def Fs(f c w r n:Nat):Bool:=decide ((f=1\/f=2)/\ (1<=c/\c<=6)/\ (w=8\/w=16\/w=24)/\ (1<=r/\r<=1048576)/\1<=n)
def Xn(c r n:Nat):Bool:=decide (n<=4000/c/\ (n-1)/Ak r+1<=1000)
theorem dP(f c w r n:Nat):Th (f:Int) (c:Int) (w:Int) (r:Int) (n:Int)=some (Fs f c w r n):=by
 have e2:Vo (f:Int) (c:Int) (w:Int) (r:Int) (n:Int)=some (decide ((f=1\/f=2)/\ (1<=c/\c<=6)/\ (1<=r/\r<=1048576)/\1<=n)):=by
  rw[Vo,PO];congr 1;rw[An7];simp only[Ar,Ap,OG,Ajo,Biu,Bcg,Ahz];omega
 have g:∀k:Nat,geq (w:Int) (k:Int)=decide (w=k):=λk=>by rw[Ar,An7];simp;omega
 have g8:geq (w:Int) (8:Int)=decide (w=8):=g 8;have g16:geq (w:Int) (16:Int)=decide (w=16):=g 16;have g24:geq (w:Int) (24:Int)=decide (w=24):=g 24;rw[Th,PB,e2,g8,g16,g24,Fs];by_cases h8:w=8
 ·subst h8;simp
 ·by_cases h16:w=16
  ·subst h16;simp
  ·by_cases h24:w=24
   ·subst h24;simp
   ·simp[h8,h16,h24]
theorem C6(f c w r n:Nat):Ll (f:Int) (c:Int) (w:Int) (r:Int) (n:Int)=some (Fs f c w r n):=by
 rw[Ll,Fs];simp only[Ar,Ec,OG,Ajo,Biu,Bcg,Ahz,Bop];split
 ·rename_i h;congr 1;rw[An7];simp only[Ajo,Biu,Bcg,Ahz];omega
 ·rename_i h;congr 1;symm;rw[Bh4];omega
theorem Bgs{c:Nat}(h:1<=c):Bq (4000:Int) (c:Int)=((4000/c:Nat):Int):=by
 have:4000/c<=4000:=Ayq _ _;rw[UW,Bkq F0,show(4000:Int)=((4000:Nat):Int)from rfl,<-Int.natCast_ediv];generalize 4000/c=k at*
 exact Cz F0 F0
theorem vS{f c w r n:Nat}(h:Fs f c w r n=true):UE (f:Int) (c:Int) (w:Int) (r:Int) (n:Int)=some (Xn c r n):=by
 simp only[Fs,Ahz]at h;have hd:4000/c<=4000:=Ayq _ _;rw[UE,Bk Bpl,Aa,Bgs F0,Xn];generalize 4000/c=m at*
 by_cases h1:n<=m
 ·rw[Abu Bpn,mP F0 F0 F0 F0,Aa];generalize(n-1)/Ak r+1=k;by_cases h2:1000<k
  ·rw[Adi h2];simp[Ar,OG];omega
  ·rw[Abu h2];simp[Ar,OG,h1];omega
 ·rw[Adi Bpn];simp[h1]
theorem Aef{f c w r n:Nat}(h:Fs f c w r n=true):Zq (f:Int) (c:Int) (w:Int) (r:Int) (n:Int)=some (!Xn c r n):=by
 simp only[Fs,Ahz]at h;have hd:4000/c<=4000:=Ayq _ _;rw[Zq,Bk Bpl,Aa,Bgs F0,Xn];generalize 4000/c=m at*
 by_cases h1:n<=m
 ·rw[Abu Bpn,jW F0 F0 F0,Aa,Ac,We];generalize(n-1)/Ak r+1=k;congr 1;rw[Ap,An7];simp only[Ahz,Bgu,Bh4];omega
 ·rw[Adi Bpn];simp[h1]
def Pu:LB:=[84,84,65,49]
def f0(b:LB):Nat:=Ga (part b 4 2)
def f1(b:LB):Nat:=Ga (part b 6 2)
def f2(b:LB):Nat:=Ga (part b 8 2)
def f3(b:LB):Nat:=Ga (part b 10 4)
def f4(b:LB):Nat:=Ga (part b 14 4)
abbrev H6:=Int×Int×Int×Int×Int×Int
def Eo(b:LB):H6:=
 if b.take (min 4 b.length)≠Pu.take (min 4 b.length)then(0,0,0,0,0,12)else if b.length<22 then(0,0,0,0,0,24)else
 if(Eu (b.take 18)).toNat≠Ga (part b 18 4)then(0,0,0,0,0,22)else
 if Fs (f0 b) (f1 b) (f2 b) (f3 b) (f4 b)=false then(0,0,0,0,0,12)else
 if Xn (f1 b) (f3 b) (f4 b)=false then(0,0,0,0,0,4)else((f0 b:Int),(f1 b:Int),(f2 b:Int),(f3 b:Int),(f4 b:Int),0)
section
variable {b:LB}
theorem rs1(h:b.take (min 4 b.length)≠Pu.take (min 4 b.length)):Eo b=(0,0,0,0,0,12):=by rw[Eo,Adi h]
variable (h:b.take (min 4 b.length)=Pu.take (min 4 b.length))
include h
theorem rs2(h2:b.length<22):Eo b=(0,0,0,0,0,24):=by rw[Eo,Abu (λe=>e h),Adi h2]
variable (h2:¬b.length<22)
include h2
theorem rs3(h3:(Eu (b.take 18)).toNat≠Ga (part b 18 4)):Eo b=(0,0,0,0,0,22):=by rw[Eo,Abu (λe=>e h),Abu h2,Adi h3]
variable (h3:(Eu (b.take 18)).toNat=Ga (part b 18 4))
include h3
theorem rs4(h4:Fs (f0 b) (f1 b) (f2 b) (f3 b) (f4 b)=false):Eo b=(0,0,0,0,0,12):=by rw[Eo,Abu (λe=>e h),Abu h2,Abu (λe=>e h3),Adi h4]
variable (h4:Fs (f0 b) (f1 b) (f2 b) (f3 b) (f4 b)=true)
include h4
theorem rs5(h5:Xn (f1 b) (f3 b) (f4 b)=false):Eo b=(0,0,0,0,0,4):=by rw[Eo,Abu (λe=>e h),Abu h2,Abu (λe=>e h3),Abu (by rw[h4];simp),Adi h5]
theorem rs6(h5:Xn (f1 b) (f3 b) (f4 b)=true):Eo b=((f0 b:Int),(f1 b:Int),(f2 b:Int),(f3 b:Int),(f4 b:Int),0):=by rw[Eo,Abu (λe=>e h),Abu h2,Abu (λe=>e h3),Abu (by rw[h4];simp),Abu (by rw[h5];simp)]
end
theorem Axp(b:LB)(h2:¬b.length<22):Bg (Ad (Eu (b.take 18)):UInt64) (eS (part b 18 4))=decide ((Eu (b.take 18)).toNat≠Ga (part b 18 4)):=by
 rw[XN,Ed,An7];simp only[Box,ne_eq,Ahz];rw[<-Bng,fW (by have:=(Eu (b.take 18)).toNat_lt;omega),RP Bpv]
theorem rB(b:LB)(a w:Nat)(i q:Nat)(l:LI)(hi:i<5)(hl:l.length=5)(hw:Am ([2,2,2,4,4]:LI) (i:Int)=some (w:Int))(h1:1<=w)(h4:w<=4)(ha:a+w<=b.length)(hb:b.length<4611686018427387904):
  Qj b (q+1) (a:Int) (i:Int) l=Qj b q ((a+w:Nat):Int) ((i+1:Nat):Int) (l.set i (Ga (part b a w):Int)):=by
 rw[Qj,JI,Adi Bpi,hw,Aa,rH b a w h1 F0 ha hb,Aa];simp only;rw[Bn,Aa,Tk _ F0,Aa,RM (by rw[Ek ha];omega),Ag,Ag];rfl
theorem Azb(b:LB)(h22:¬b.length<22)(hb:b.length<4611686018427387904):aE b 4 0 (List.replicate 5 0)=JG [(f0 b:Int),(f1 b:Int),(f2 b:Int),(f3 b:Int),(f4 b:Int)]:=by
 have hF:Au=(Au-6)+1+1+1+1+1+1:=by have:=As;omega
 rw[aE,hF,show(4:Int)=((4:Nat):Int)from rfl,show(0:Int)=((0:Nat):Int)from rfl];rw[rB b 4 2 0 _ _ F0 Bpj rfl F0 F0 F0 hb,rB b 6 2 1 _ _ F0 Bpj rfl F0 F0 F0 hb,rB b 8 2 2 _ _ F0 Bpj rfl F0 F0 F0 hb,
  rB b 10 4 3 _ _ F0 Bpj rfl F0 F0 F0 hb,rB b 14 4 4 _ _ F0 Bpj rfl F0 F0 F0 hb,Qj,JI,Abu Bpr]
 rfl
theorem Bm8(b:LB):Kl [84,84,65,49] (b.take (min 4 b.length))=some (decide (b.take (min 4 b.length)=Pu.take (min 4 b.length))):=by
 have hl:(b.take (min 4 b.length)).length=min 4 b.length:=by rw[Anb];omega
 rw[Kl,Ia,Adi (by rw[Ec,Ac,Ac,hl];simp;omega),Ac,hl,Ct F0 F7,Aa,Aa,Ajx];congr 1;rw[An7];rw[Ahz,Bcg];exact eq_comm
theorem Blg(b:LB):Iu (4:Int) (Ac b)=((min 4 b.length:Nat):Int):=by rw[IY,Ac];omega
theorem QI(b:LB)(hb:b.length<4611686018427387904):Nh b=some (Eo b):=by
 rw[Nh,bQ,Blg,Ct,Aa,Ajx,Bm8,Aa];by_cases h:b.take (min 4 b.length)=Pu.take (min 4 b.length)
 ·rw[Abu (by simpa using h)];by_cases h2:b.length<22
  ·rw[Adi F3,rs2 h h2]
  ·have a1:HZ b 18 4=some (eS (part b 18 4),0):=rH b 18 4 F0 F0 F0 hb;rw[Abu F3,a1,Aa];simp only;rw[Ct,Aa,show(18:Int).toNat=18 from rfl,T2 _ F7,Aa];simp only;rw[Axp b h2];by_cases h3:(Eu (b.take 18)).toNat=Ga (part b 18 4)
   ·rw[Abu (by simpa using h3),Azb b h2 hb,JG,uN];rw[show Am [(f0 b:Int),(f1 b:Int),(f2 b:Int),(f3 b:Int),(f4 b:Int)] 0=some (f0 b:Int)from rfl,show Am [(f0 b:Int),(f1 b:Int),(f2 b:Int),(f3 b:Int),(f4 b:Int)] 1=some (f1 b:Int)from rfl,show Am [(f0 b:Int),(f1 b:Int),(f2 b:Int),(f3 b:Int),(f4 b:Int)] 2=some (f2 b:Int)from rfl,
     show Am [(f0 b:Int),(f1 b:Int),(f2 b:Int),(f3 b:Int),(f4 b:Int)] 3=some (f3 b:Int)from rfl,show Am [(f0 b:Int),(f1 b:Int),(f2 b:Int),(f3 b:Int),(f4 b:Int)] 4=some (f4 b:Int)from rfl]
    simp only[Aa,dP];cases h4:Fs (f0 b) (f1 b) (f2 b) (f3 b) (f4 b)with
    |false=>rw[rs4 h h2 h3 h4];rfl
    |true=>
     rw[vS h4,Abu Bpj,Aa];cases h5:Xn (f1 b) (f3 b) (f4 b)with
     |false=>rw[rs5 h h2 h3 h4 h5];rfl
     |true=>rw[rs6 h h2 h3 h4 h5];rfl
   ·rw[Adi (by simpa using h3),rs3 h h2 h3]
 ·rw[Adi (by simpa using h),rs1 h]
theorem jE(b:LB)(hb:b.length<4611686018427387904):Nw b=some (Eo b):=by
 rw[Nw,SS,Blg,Ct,Aa,Ajx,Ct F0 F7,Aa,Ajx];by_cases h:b.take (min 4 b.length)=Pu.take (min 4 b.length)
 ·rw[Abu (by rw[h];simp[Pu]),TX,SW];by_cases h2:b.length<22
  ·rw[Adi F3,rs2 h h2]
  ·have a1:Br b 18 22=some (part b 18 4):=So 18 4;have c1:Br b 4 6=some (part b 4 2):=So 4 2;have c2:Br b 6 8=some (part b 6 2):=So 6 2;have c3:Br b 8 10=some (part b 8 2):=So 8 2;have c4:Br b 10 14=some (part b 10 4):=So 10 4;have c5:Br b 14 18=some (part b 14 4):=So 14 4;have hs:Bg (eS (part b 18 4)) (Ad (Eu (b.take 18)):UInt64)=decide ((Eu (b.take 18)).toNat≠Ga (part b 18 4)):=by
    rw[<-Axp b h2,XN,XN,An7];simp only[Box,ne_eq];exact not_congr eq_comm
   have lp:∀a w,a+w<=b.length->Ep (part b a w)=some (eS (part b a w)):=λa w h=>Amj _ (by rw[Ek h];omega);rw[Abu F3,a1,Aa,Ct,Aa,show(18:Int).toNat=18 from rfl,lp _ _ F0,Aa,Axs _ F7,Aa,hs];by_cases h3:(Eu (b.take 18)).toNat=Ga (part b 18 4)
   ·rw[Abu (by simpa using h3),UB,TI,c1,Aa,c2,Aa,c3,Aa,c4,Aa,c5,Aa,lp _ _ F0,Aa,lp _ _ F0,Aa,lp _ _ F0,Aa,lp _ _ F0,Aa,lp _ _ F0,Aa,
     TU,TH,RM Bpv,RM Bpv,RM Bpv,RM Bpv,RM Bpv]
    rw[show Ga (part b 4 2)=f0 b from rfl,show Ga (part b 6 2)=f1 b from rfl,show Ga (part b 8 2)=f2 b from rfl,show Ga (part b 10 4)=f3 b from rfl,show Ga (part b 14 4)=f4 b from rfl,C6,Aa];cases h4:Fs (f0 b) (f1 b) (f2 b) (f3 b) (f4 b)with
    |false=>rw[rs4 h h2 h3 h4];rfl
    |true=>
     rw[Aef h4,Abu Bpj,Aa];cases h5:Xn (f1 b) (f3 b) (f4 b)with
     |false=>rw[rs5 h h2 h3 h4 h5];rfl
     |true=>rw[rs6 h h2 h3 h4 h5];rfl
   ·rw[Adi (by simpa using h3),rs3 h h2 h3]
 ·rw[Adi (by simpa [Pu]using h),rs1 h]
theorem tX{b:LB}(h:(Eo b).2.2.2.2.2=0):Eo b=((f0 b:Int),(f1 b:Int),(f2 b:Int),(f3 b:Int),(f4 b:Int),0)/\22<=b.length/\Fs (f0 b) (f1 b) (f2 b) (f3 b) (f4 b)=true/\Xn (f1 b) (f3 b) (f4 b)=true:=by
 unfold Eo at h⊢;split at h; · simp at h
 rename_i c1;rw[Abu c1];split at h; · simp at h
 rename_i c2;rw[Abu c2];split at h; · simp at h
 rename_i c3;rw[Abu c3];split at h; · simp at h
 rename_i c4;rw[Abu c4];split at h; · simp at h
 rename_i c5;rw[Abu c5];exact⟨rfl,F0,by simpa using c4,by simpa using c5⟩
theorem sV{f c w r n:Nat}(h:Fs f c w r n=true)(h2:Xn c r n=true):Eb (f:Int) (c:Int) (w:Int) (r:Int) (n:Int)=some (Al (Ak r) n,0):=by
 have hc:Pg (f:Int) (c:Int) (w:Int) (r:Int) (n:Int)=some 0:=by
  rw[Pg,dP,Aa,h,Abu Bpj,vS h,Aa,h2];rfl
 have hd:4000/c<=4000:=Ayq _ _;simp only[Fs,Ahz]at h;simp only[Xn,Ahz]at h2;rw[Eb,hc,Aa,Abu Bpk,Anh F0 F0 F0 F0 h2.2];rfl
def okL:LI->Int->Bool
 |[],_=>true
 |x::l,left=>decide (5<=x/\x<=left)&&okL l (left-x)
theorem Aos:∀l:LI,(∀x∈l,5<=x)->0<=l.sum
 |[],_=>by simp
 |x::l,h=>by
  have h1:=h x Bdj;have h2:=Aos l λy hy=>h y (Avl _ hy);rw[Bha];omega
theorem FI:∀(l:LI) (left:Int),0<=left-> (okL l left=true↔(∀x∈l,5<=x)/\l.sum<=left)
 |[],left,h=>by simp[okL];exact h
 |x::l,left,h=>by
  rw[okL,Ajo,Ahz,Bha];by_cases hx:5<=x/\x<=left
  ·rw[FI l (left-x) F0];constructor
   ·rintro⟨_,h1,h2⟩;exact⟨λy hy=>(List.mem_cons.1 hy).elim (λe=>e▸hx.1) (h1 y),F0⟩
   ·rintro⟨h1,h2⟩;exact⟨hx,λy hy=>h1 y (Avl _ hy),F0⟩
  ·constructor
   ·rintro⟨h1,_⟩;exact absurd h1 hx
   ·rintro⟨h1,h2⟩;have h3:=h1 x Bdj;have:0<=l.sum:=Aos l λy hy=>h1 y (Avl _ hy);omega
theorem Adk(l:LI)(hl:l.length<=1000):∀(j i q:Nat) (left:Int),i+j=l.length->j<q->0<=left->left<=100000->Vj l q left (i:Int)=some (if okL (l.drop i) left=true then 0 else 8)
 |0,i,q+1,left,hi,_,_,_=>by
  rw[Vj,MU,Abu F3,show i=l.length by omega,Bl3];rfl
 |j+1,i,q+1,left,hi,hq,h0,h1=>by
  have hlt:i<l.length:=F0
  rw[Vj,MU,Adi F3,Bn hlt,Aa,drop_cons hlt];by_cases h:5<=l[i]/\l[i]<=left
  ·rw[Abu Bpo,Bv,Ag];have ih:=Adk l hl j (i+1) q (left-l[i]) F0 F0 F0 F0;rw[show((i:Int)+1)=((i+1:Nat):Int) by omega,ih];simp[okL,h]
  ·rw[Adi Bpo];have:okL (l[i]::l.drop (i+1)) left=false:=by rw[okL,Bj6 h];rfl
   rw[this];rfl
def Vy(l:LI):Bool:=decide (1<=l.length/\l.length<=1000)&&okL l 100000
theorem Ajl(l:LI)(hl:l.length<=1000):Td l=some (if Vy l=true then 0 else 8):=by
 rw[Td,LZ,Vy];by_cases h:1<=l.length
 ·rw[Abu (by rw[Ar,Ap,Ac];simp;constructor;(intro e;subst e;simp at h);omega),tE];have:=Adk l hl l.length 0 Au 100000 F0 F8 F0 F0;rw[List.drop_zero]at this;rw[Bk9 (show 1<=l.length/\l.length<=1000 from⟨h,hl⟩),Bmz];exact this
 ·have:l=[]:=by
   cases l with
   |nil=>rfl
   |cons _ _=>simp at h
  subst this;rfl
theorem Aga(l:LI)(hl:l.length<=1000):∀(j i q:Nat) (s:Int),i+j=l.length->j<q->0<=s->s<=100000*(i:Int)->Mi l q s (i:Int)=some (if(∀x∈l.drop i,5<=x/\x<=100000)/\s+(l.drop i).sum<=100000 then 0 else 8)
 |0,i,q+1,s,hi,_,_,_=>by
  rw[Mi,Yt,Abu F3,show i=l.length by omega,Bl3,LW,MK];by_cases h:s<=100000
  ·rw[Abu Bpn,Adi F7]
  ·rw[Adi Bpn,Abu F7]
 |j+1,i,q+1,s,hi,hq,h0,h1=>by
  have hlt:i<l.length:=F0
  rw[Mi,Yt,Adi F3,Bn hlt,Aa,drop_cons hlt];by_cases h5:l[i]<5
  ·rw[Adi (by rw[Af];simpa using h5),Abu (λh=>by have:=(h.1 l[i] Bdj).1;omega)]
  ·rw[Abu (by rw[Af];simpa using h5),Aa];by_cases h6:100000<l[i]
   ·rw[Adi (by rw[Ap];simpa using h6),Abu (λh=>by have:=(h.1 l[i] Bdj).2;omega)]
   ·rw[Abu (by rw[Ap];simpa using h6),OC,NY,Bn hlt,Aa,Ag,Ag];have ih:=Aga l hl j (i+1) q (s+l[i]) F0 F0 F0 F0;rw[show((i:Int)+1)=((i+1:Nat):Int) by omega,ih];have e:((∀x∈l.drop (i+1),5<=x/\x<=100000)/\s+l[i]+(l.drop (i+1)).sum<=100000)↔((∀x∈l[i]::l.drop (i+1),5<=x/\x<=100000)/\s+(l[i]::l.drop (i+1)).sum<=100000):=by
     rw[Bha,List.forall_mem_cons,Bo2];constructor
     ·rintro⟨a,b⟩;exact⟨⟨F0,a⟩,b⟩
     ·rintro⟨⟨_,a⟩,b⟩;exact⟨a,b⟩
    simp only[e]
theorem P5:∀{l:LI},(∀x∈l,5<=x)->∀x∈l,x<=l.sum
 |[],_,x,hx=>by simp at hx
 |y::l,h,x,hx=>by
  have h1:=h y Bdj;have h2:=Aos l λz hz=>h z (Avl _ hz);rw[Bha];rcases List.mem_cons.1 hx with rfl|hx
  ·omega
  ·have:=P5 (l:=l) (λz hz=>h z (Avl _ hz)) x hx;omega
theorem Am9(l:LI)(hl:l.length<=1000):Ji l=some (if Vy l=true then 0 else 8):=by
 rw[Ji,Yi,Vy];by_cases h:1<=l.length
 ·have:=Aga l hl l.length 0 Au 0 F0 F8 F0 F0;rw[Abu (by rw[Af,Ap,Ac];simp;omega),OK];refine Bma this ?_;rw[List.drop_zero,Bk9 (show 1<=l.length/\l.length<=1000 from⟨h,hl⟩),Bmz];have e:((∀x∈l,5<=x/\x<=100000)/\0+l.sum<=100000)↔okL l 100000=true:=by
   rw[FI l 100000 F0,Int.zero_add];constructor
   ·rintro⟨a,b⟩;exact⟨λx hx=>(a x hx).1,b⟩
   ·rintro⟨a,b⟩;exact⟨λx hx=>⟨a x hx,Int.le_trans (P5 a x hx) b⟩,b⟩
  simp only[e]
 ·have:l=[]:=by
   cases l with
   |nil=>rfl
   |cons _ _=>simp at h
  subst this;rfl
theorem YX(l:LI):Td l=some (if Vy l=true then 0 else 8):=by
 by_cases hl:l.length<=1000
 ·exact Ajl l hl
 ·rw[Td,LZ,Adi F9,Vy,Bj6 F0];rfl
theorem gP(l:LI):Ji l=some (if Vy l=true then 0 else 8):=by
 by_cases hl:l.length<=1000
 ·exact Am9 l hl
 ·rw[Ji,Yi,Adi F9,Vy,Bj6 F0];rfl
theorem Ap8(l:LI)(hl:l.length<=1000)(hx:∀x∈l,0<=x/\x<4294967296):Td l=some (if Vy l=true then 0 else 8):=YX l
theorem Aum(l:LI)(hl:l.length<=1000)(hx:∀x∈l,0<=x/\x<4294967296):Ji l=some (if Vy l=true then 0 else 8):=gP l
def UM(b:LB)(n:Nat):LI:=(List.range n).map λi=>(Ga (part b (4*i) 4):Int)
theorem Vr(b:LB)(n:Nat):(UM b n).length=n:=by simp[UM]
theorem Afl(b:LB)(n:Nat):UM b (n+1)=UM b n++[(Ga (part b (4*n) 4):Int)]:=by simp[UM,List.range_succ]
theorem Aq2(b:LB)(n:Nat)(h:4*n<=b.length):∀x∈UM b n,0<=x/\x<4294967296:=by
 intro x hx;simp only[UM,List.mem_map,List.mem_range]at hx;obtain⟨i,hi,rfl⟩:=hx;have:=um (l:=part b (4*i) 4) Bpv;omega
def En(b:LB)(n:Nat):LI×Int:=
 if ¬(1<=n/\n<=1000)then([],2)else if b.length<4*n+4 then([],24)else if(Eu (b.take (4*n))).toNat≠Ga (part b (4*n) 4)then([],22)else
 if Vy (UM b n)=true then(UM b n,0)else([],12)
theorem Asf{b:LB}{n:Nat}(h:1<=n/\n<=1000)(h2:¬b.length<4*n+4):Bg (Ad (Eu (b.take (4*n))):UInt64) (eS (part b (4*n) 4))=decide ((Eu (b.take (4*n))).toNat≠Ga (part b (4*n) 4)):=by
 rw[XN,Ed,An7];simp only[Box,ne_eq,Ahz];rw[<-Bng,fW (by have:=(Eu (b.take (4*n))).toNat_lt;omega),RP Bpv]
section
variable {b:LB} {n:Nat}
theorem ss1(h:¬(1<=n/\n<=1000)):En b n=([],2):=by rw[En,Adi h]
variable (h:1<=n/\n<=1000)
include h
theorem ss2(h2:b.length<4*n+4):En b n=([],24):=by rw[En,Abu (λe=>e h),Adi h2]
variable (h2:¬b.length<4*n+4)
include h2
theorem ss3(h3:(Eu (b.take (4*n))).toNat≠Ga (part b (4*n) 4)):En b n=([],22):=by rw[En,Abu (λe=>e h),Abu h2,Adi h3]
theorem ss4(h3:(Eu (b.take (4*n))).toNat=Ga (part b (4*n) 4)):En b n=if Vy (UM b n)=true then(UM b n,0)else([],12):=by rw[En,Abu (λe=>e h),Abu h2,Abu (λe=>e h3)]
end
theorem Af4(b:LB)(l8:LI)(n:Nat)(hn:n<=1000)(h8:l8.length=n)(hb:4*n+4<=b.length)(hb2:b.length<4611686018427387904):∀(j i q:Nat),i+j=n->j<q->Ya b l8 q (i:Int) (UM b i++List.replicate j 0)=QX (UM b n)
 |0,i,q+1,hi,_=>by
  obtain rfl:i=n:=F0
  rw[Ya,RF,Abu F3];simp
 |j+1,i,q+1,hi,hq=>by
  have hlen:(UM b i++List.replicate (j+1) 0).length=i+(j+1):=by simp[Vr]
  have ha:=rH b (4*i) 4 F0 F0 F0 hb2;rw[Ya,RF,Adi F3,Fa,show(4:Int)*(i:Int)=((4*i:Nat):Int) by omega,show(4:Int)=((4:Nat):Int)from rfl,ha,Aa];simp only;rw[Bn (by rw[hlen];omega),Aa,Tk _ (by rw[hlen];omega),Aa,RM Bpv,Ag,Bj5,lO (Vr _ _)];have ih:=Af4 b l8 n hn h8 hb hb2 j (i+1) q F0 F0;rw[Afl]at ih;rw[show((i:Int)+1)=((i+1:Nat):Int) by omega,<-ih];simp
theorem wV(b:LB)(n:Nat)(hb:b.length<=100100):GC b (n:Int)=some (En b n):=by
 rw[GC,iH];by_cases h:1<=n/\n<=1000
 ·rw[Abu Bpo,Fa,Ag];by_cases h2:b.length<4*n+4
  ·rw[Adi F3,ss2 h h2]
  ·have ha:HZ b (4*(n:Int)) 4=some (eS (part b (4*n) 4),0):=by
    rw[show(4:Int)*(n:Int)=((4*n:Nat):Int) by omega];exact rH b (4*n) 4 F0 F0 F0 F0
   rw[Abu F3,ha,Aa];simp only;rw[Ct,Aa,show(4*(n:Int)).toNat=4*n by omega,T2 _ F7,Aa];simp only;rw[Asf h h2];by_cases h3:(Eu (b.take (4*n))).toNat=Ga (part b (4*n) 4)
   ·have hlp:=Af4 b (List.replicate n 0) n F0 Bpj F0 F0 n 0 Au F0 F8;rw[Abu (by simpa using h3),pM,Aa,Bk Bqa,Aa,yE,Ajx];refine Bma (hlp) ?_;rw[QX,yX,Ap8 _ (by rw[Vr];omega) (Aq2 b n F0),Aa,ss4 h h2 h3];cases Vy (UM b n)<;>rfl
   ·rw[Adi (by simpa using h3),ss3 h h2 h3]
 ·rw[Adi Bpo,ss1 h]
theorem yJ(b:LB)(n:Nat)(hn:n<=1000)(hb:4*n+4<=b.length)(hb2:b.length<4611686018427387904):∀(j i q:Nat),i+j=n->j<q->Nd b (n:Int) q (i:Int) (UM b i)=AT (UM b n)
 |0,i,q+1,hi,_=>by
  obtain rfl:i=n:=F0
  rw[Nd,AM,Abu Bpr]
 |j+1,i,q+1,hi,hq=>by
  have hc:Br b ((4:Int)*(i:Int)) ((4:Int)*(i:Int)+4)=some (part b (4*i) 4):=by
   rw[show(4:Int)*(i:Int)=((4*i:Nat):Int) by omega];exact So (4*i) 4
  rw[Nd,AM,Adi Bpi,Fa,Ag,hc,Aa,Amj _ Bpv,Aa,Bf (by rw[Vr];simp;omega),Aa,
   RM Bpv,Ag,<-Afl]
  exact yJ b n hn hb hb2 j (i+1) q F0 F0
theorem Adv(b:LB)(n:Nat)(hb:b.length<=100100):Ta b (n:Int)=some (En b n):=by
 rw[Ta,RZ];by_cases h:1<=n/\n<=1000
 ·rw[Abu Bpo,Fa,Ag];by_cases h2:b.length<4*n+4
  ·rw[Adi F3,ss2 h h2]
  ·have hc:Br b ((4:Int)*(n:Int)) ((4:Int)*(n:Int)+4)=some (part b (4*n) 4):=by
    rw[show(4:Int)*(n:Int)=((4*n:Nat):Int) by omega];exact So (4*n) 4
   have hs:Bg (eS (part b (4*n) 4)) (Ad (Eu (b.take (4*n))):UInt64)=decide ((Eu (b.take (4*n))).toNat≠Ga (part b (4*n) 4)):=by
    rw[<-Asf h h2,XN,XN,An7];simp only[Box,ne_eq];exact not_congr eq_comm
   rw[Abu F3,hc,Aa,Ct,Aa,show(4*(n:Int)).toNat=4*n by omega,Amj _ Bpv,Aa,Axs _ F7,Aa,hs];by_cases h3:(Eu (b.take (4*n))).toNat=Ga (part b (4*n) 4)
   ·have hlp:=yJ b n F0 F0 F0 n 0 Au F0 F8;rw[Abu (by simpa using h3),SV,RY,UD];refine Bma hlp ?_;rw[AT,TP,Aum _ (by rw[Vr];omega) (Aq2 b n F0),Aa,ss4 h h2 h3];cases Vy (UM b n)<;>rfl
   ·rw[Adi (by simpa using h3),ss3 h h2 h3]
 ·rw[Adi Bpo,ss1 h]
theorem jJ{b:LB}{n:Nat}(h:(En b n).2=0):En b n=(UM b n,0)/\1<=n/\n<=1000/\4*n+4<=b.length/\ (∀x∈UM b n,5<=x)/\ (UM b n).sum<=100000:=by
 unfold En at h⊢;split at h; · simp at h
 rename_i c1;rw[Abu c1];split at h; · simp at h
 rename_i c2;rw[Abu c2];split at h; · simp at h
 rename_i c3;rw[Abu c3];split at h
 ·rename_i c4;rw[Adi c4];have c4':=c4;rw[Vy,Ajo,FI _ _ F0]at c4';exact⟨rfl,F0,F0,F0,c4'.2.1,c4'.2.2⟩
 ·simp at h
theorem Bqq{p:Prop}(h:p:=by rw[Ac];omega):p:=h
end Go.Pl
namespace Go.Pl
open Go Go.Lv
variable{f c w r n:Nat}
def Iv(b:LB):LB:=b.drop (Bs b).1.toNat
abbrev Op8:=Int×Int×Int×Int×Int×Int×LI×Int
def VD(e:Int):Op8:=(0,0,0,0,0,0,[],e)
theorem Ad4(A K:Nat)(h:A<=200000)(hk:K<=1000):Ae (Ae (A:Int) (Bi 4 (K:Int))) 4=((A+4*K+4:Nat):Int):=by
 rw[Fa,Ag (a:=(A:Int)) F0 F0,Ag];omega
theorem vU(h1:Fs f c w r n=true)(h2:Xn c r n=true)(b:LB)(hb:b.length<=100100)(A:Nat)(hA:A<=b.length):
  Qq b (f:Int) (c:Int) (w:Int) (r:Int) (n:Int) (A:Int)=
   some (if(En (b.drop A) (Al (Ak r) n).length).2≠0 then VD (En (b.drop A) (Al (Ak r) n).length).2 else((f:Int),(c:Int),(w:Int),(r:Int),(n:Int),((A+4*(Al (Ak r) n).length+4:Nat):Int),(En (b.drop A) (Al (Ak r) n).length).1,0)):=by
 rw[Qq,sK,sV h1 h2,Aa];simp only;rw[Abu Bpk,Bp,Aa,Ac,show(A:Int).toNat=A from rfl,wV _ _ F7,Aa];by_cases h:(En (b.drop A) (Al (Ak r) n).length).2≠0
 ·rw[Adi h,Adi (by rw[Ah];simpa using h)];rfl
 ·have h0:(En (b.drop A) (Al (Ak r) n).length).2=0:=by simpa using h
  obtain⟨g1,g2,g3,g4,g5,g6⟩:=jJ h0;have gl:(En (b.drop A) (Al (Ak r) n).length).1.length=(Al (Ak r) n).length:=by rw[g1];exact Vr _ _
  rw[Abu h,Abu (by rw[Ah];simpa using h),Ac,gl,Ad4 _ _ F0 F0]
theorem Ax2(h1:Fs f c w r n=true)(h2:Xn c r n=true)(b:LB)(hb:b.length<=100100)(A:Nat)(hA:A<=b.length):
  Pk b (f:Int) (c:Int) (w:Int) (r:Int) (n:Int) (A:Int)=
   some (if(En (b.drop A) (Al (Ak r) n).length).2≠0 then VD (En (b.drop A) (Al (Ak r) n).length).2 else((f:Int),(c:Int),(w:Int),(r:Int),(n:Int),((A+4*(Al (Ak r) n).length+4:Nat):Int),(En (b.drop A) (Al (Ak r) n).length).1,0)):=by
 have hs:(1<=r/\r<=1048576)/\1<=n/\1<=c:=by
  simp only[Fs,Ahz]at h1;omega
 have hf:n<=4000:=by
  simp only[Xn,Ahz]at h2;have:=Ayq 4000 c;omega
 rw[Pk,JO,Bp,Aa,jW hs.1.2 hs.2.1 hf,Aa,Ac,show(A:Int).toNat=A from rfl,Adv _ _ F7,Aa];simp only;rw[JK,KA];by_cases h:(En (b.drop A) (Al (Ak r) n).length).2≠0
 ·rw[Adi h,Adi (by rw[Ah];simpa using h)];rfl
 ·have h0:(En (b.drop A) (Al (Ak r) n).length).2=0:=by simpa using h
  obtain⟨g1,g2,g3,g4,g5,g6⟩:=jJ h0;have gl:(En (b.drop A) (Al (Ak r) n).length).1.length=(Al (Ak r) n).length:=by rw[g1];exact Vr _ _
  rw[Abu h,Abu (by rw[Ah];simpa using h),Ac,gl,Ad4 _ _ F0 F0]
structure Opn (b p:LB) (f c w r n A:Nat) (l:LI):Prop where
 prog:Dl b p=some ((f:Int),(c:Int),(w:Int),(r:Int),(n:Int),(A:Int),l,0)
 ref:Ff b p=some ((f:Int),(c:Int),(w:Int),(r:Int),(n:Int),(A:Int),l,0)
 pass:p.length<=64
 file:b.length<=100000
 shape:Fs f c w r n=true
 fit:Xn c r n=true
 len:l.length=(Al (Ak r) n).length
 some1:1<=l.length/\l.length<=1000
 five:∀x∈l,5<=x
 sum:l.sum<=100000
 at':A<=b.length
 tag:(Bs b).2=0
 head:Eo (Iv b)=((f:Int),(c:Int),(w:Int),(r:Int),(n:Int),0)
 tab:En (b.drop ((Bs b).1.toNat+22+(if f=2 then 8 else 0))) l.length=(l,0)
 pos:A=(Bs b).1.toNat+22+(if f=2 then 8 else 0)+4*l.length+4
theorem N2(b p:LB)(hb:b.length<=100100)(hp:p.length<=64):
  (∃e:Int,e≠0/\Dl b p=some (VD e)/\Ff b p=some (VD e))\/ (∃f c w r n A l,Opn b p f c w r n A l):=by
 by_cases h1:100000<b.length
 ·refine .inl ⟨4,F0,?_,?_⟩
  ·rw[Dl,Uz,Abu F9,Adi F9];rfl
  ·rw[Ff,Wh,Adi F9];rfl
 have hP:Dl b p=Dl b p:=rfl;have hR:Ff b p=Ff b p:=rfl
 conv at hP=>rhs;rw[Dl,Uz,Abu F9,Abu F9,Qi b F0,Aa]
 conv at hR=>rhs;rw[Ff,Wh,Abu F9,CE b F0,Aa]
 by_cases h2:(Bs b).2=0
 ·obtain⟨p0,p1,p2⟩:=BP h2;have hc:=Bp (l:=b) p0 p1;simp only[h2]at hP hR;rw[Abu Bpk,hc,Aa,show b.drop (Bs b).1.toNat=Iv b from rfl,QI _ (by simp[Iv];omega),Aa]at hP;rw[Abu Bpk,hc,Aa,show b.drop (Bs b).1.toNat=Iv b from rfl,jE _ (by simp[Iv];omega),Aa]at hR;by_cases h3:(Eo (Iv b)).2.2.2.2.2=0
  ·obtain⟨g1,g2,g3,g4⟩:=tX h3;have hlen:(Iv b).length=b.length-(Bs b).1.toNat:=by simp[Iv]
   generalize hF:(Bs b).1.toNat=F at*
   have hF':(Bs b).1=(F:Int):=F0
   rw[g1,hF']at hP hR;simp only at hP hR;generalize f0 (Iv b)=f at*
   generalize f1 (Iv b)=c at*
   generalize f2 (Iv b)=w at*
   generalize f3 (Iv b)=r at*
   generalize f4 (Iv b)=n at*
   have t22:Ae (F:Int) 22=((F+22:Nat):Int):=by rw[Ag];omega
   have t30:Ae ((F+22:Nat):Int) 8=((F+30:Nat):Int):=by rw[Ag];omega
   have Bmh:f=1\/f=2:=by simp only[Fs,Ahz]at g3;omega
   rw[Abu Bpk,t22,t30]at hP hR;have hend:∀A:Nat,A<=b.length->A=F+22+(if f=2 then 8 else 0)->Dl b p=Qq b (f:Int) (c:Int) (w:Int) (r:Int) (n:Int) (A:Int)->Ff b p=Pk b (f:Int) (c:Int) (w:Int) (r:Int) (n:Int) (A:Int)->
     (∃e:Int,e≠0/\Dl b p=some (VD e)/\Ff b p=some (VD e))\/ (∃f c w r n A l,Opn b p f c w r n A l):=by
    intro A hA hA2 e1 e2;rw[vU g3 g4 b hb A hA]at e1;rw[Ax2 g3 g4 b hb A hA]at e2;by_cases h:(En (b.drop A) (Al (Ak r) n).length).2≠0
    ·rw[Adi h]at e1 e2;exact .inl ⟨_,h,e1,e2⟩
    ·have h0:(En (b.drop A) (Al (Ak r) n).length).2=0:=by simpa using h
     obtain⟨k1,k2,k3,k4,k5,k6⟩:=jJ h0;have gl:(En (b.drop A) (Al (Ak r) n).length).1.length=(Al (Ak r) n).length:=by rw[k1];exact Vr _ _
     rw[Abu h]at e1 e2;rw[Anx]at k4;refine .inr ⟨f,c,w,r,n,_,_,⟨e1,e2,hp,F0,g3,g4,gl,F0,by rw[k1];exact k5,by rw[k1];exact k6,F0,h2,g1,by rw[gl,hF,<-hA2];exact Prod.ext rfl h0,by rw[gl,hF,<-hA2]⟩⟩
   by_cases NF:((p==([]:LB)) !=(geq (f:Int) (1:Int)))=true
   ·rw[Adi NF]at hP hR;exact .inl ⟨26,F0,hP,hR⟩
   ·rw[Abu NF]at hP hR;have hpf:(p=[]↔f=1):=by
     rw[Ar]at NF;have h5:(p==([]:LB))=((f:Int)==1):=by simpa using NF
     have h6:(p==([]:LB))=true↔((f:Int)==1)=true:=by rw[h5]
     rw[Bcg,Bcg]at h6;rw[h6];omega
    by_cases h5:f=2
    ·have Aw2:p≠ []:=λe=>by have:=hpf.1 e;omega
     have h64:(p !=([]:LB))=true:=by simpa using Aw2
     rw[Adi h64]at hP;rw[Adi (by rw[Ar,h5];rfl),Bv Bqq Bqq]at hR;by_cases h6:b.length<F+30
     ·rw[Adi F3]at hP hR;exact .inl ⟨24,F0,hP,hR⟩
     ·have hseg:((b.take (F+30)).drop (F+22)).length=8:=by simp;omega
      rw[Abu F3,Qn,Aa]at hP hR;rw[Pn,jL p hp,Aa]at hP;rw[iO p hp,Aa]at hR;simp only at hP;rw[Abu (by rw[Ah,Ah,Ac,Ac,Az,show((F+30:Nat):Int).toNat=F+30 from rfl,show((F+22:Nat):Int).toNat=F+22 from rfl,hseg];simp),Fp,Aa,Aa]at hP;simp only at hP;rw[Abu Bpk]at hP;generalize(b.take ((F+30:Nat):Int).toNat).drop ((F+22:Nat):Int).toNat=seg at*
      by_cases h7:seg=Fg (Uo p).toNat 8
      ·rw[Abu (by simp[h7])]at hP;rw[Abu (by simp[h7])]at hR;exact hend (F+30) F0 (by rw[Adi h5]) hP hR
      ·rw[Adi (by simpa using h7)]at hP;rw[Adi (by simpa using h7)]at hR;exact .inl ⟨26,F0,hP,hR⟩
    ·have hpe:p=[]:=hpf.2 F0;rw[Abu (by rw[hpe];simp)]at hP;rw[Abu Bpm]at hR;exact hend (F+22) F0 (by rw[Abu h5]) hP hR
  ·generalize Eo (Iv b)=v at*
   obtain⟨v1,v2,v3,v4,v5,v6⟩:=v;simp only at h3 hP hR;rw[Adi (by rw[Ah];simpa using h3)]at hP hR;exact .inl ⟨v6,h3,hP,hR⟩
 ·generalize Bs b=v at*
  obtain⟨v,e⟩:=v;simp only at h2 hP hR;rw[Adi (by rw[Ah];simpa using h2)]at hP hR;exact .inl ⟨e,h2,hP,hR⟩
theorem Agv(l:LI)(i:Nat):(l.take i).sum+(l.drop i).sum=l.sum:=by
 conv=>rhs;rw[<-Bj4 i l,List.sum_append]
theorem Ik{l:LI}(h5:∀x∈l,5<=x)(i:Nat):0<= (l.take i).sum/\ (l.take i).sum<=l.sum:=by
 have h1:=Aos (l.take i) λx hx=>h5 x (Bos hx);have h2:=Aos (l.drop i) λx hx=>h5 x (Bms hx);have:=Agv l i;omega
theorem Kh{l:LI}{i:Nat}(h:i<l.length):(l.take (i+1)).sum=(l.take i).sum+l[i]:=by
 rw[Jq h,List.sum_append];simp
section
variable {l:LI} (hl:l.length<=1000) (h5:∀x∈l,5<=x) (hs:l.sum<=100000)
include hl h5 hs
theorem Ab5(f c w r n A:Int)(hA:0<=A)(hA2:A<=200000)(k:Nat)(hk:k<=l.length):∀(j i q:Nat),i+j=k->j<q->Mg (k:Int) f c w r n A l q (A+(l.take i).sum) (i:Int)=some (A+(l.take k).sum)
 |0,i,q+1,hi,_=>by
  rw[Mg,Yl,Abu Bpi,show i=k by omega];rfl
 |j+1,i,q+1,hi,hq=>by
  have hlt:i<l.length:=F0
  have ih:=Ab5 f c w r n A hA hA2 k hk j (i+1) q F0 F0;have b1:=Ik h5 i;have b2:=Ik h5 (i+1);have e:=Kh hlt;rw[e,<-Bo2]at ih;rw[Mg,Yl,Adi Bpi,Bn hlt,Aa,Ag,Ag];exact ih
theorem Aub(f c w r n A:Int)(hA:0<=A)(hA2:A<=200000)(k:Nat)(hk:k<=l.length):YW f c w r n A l (k:Int)=some (A+(l.take k).sum):=by
 have h:=Ab5 hl h5 hs f c w r n A hA hA2 k hk k 0 Au F0 F8;rw[Bj8,Bog,Int.add_zero]at h;exact h
end
theorem Wn{g:Nat}(hg:1<=g)(hn:1<=n){x:Int}(h:x∈Al g n):∃m:Nat,x=m/\1<=m/\m<=n:=by
 have hmul:=Bjv (n-1) g;rw[Al,List.mem_append]at h;rcases h with h|h
 ·rw[List.mem_replicate]at h;have h1:1<= (n-1)/g:=Nat.pos_of_ne_zero h.1;have:=Ajr g h1;exact⟨g,h.2,hg,F0⟩
 ·rw[List.mem_singleton]at h;exact⟨_,h,F0,F0⟩
theorem Kn(h:Fs f c w r n=true):(1<=c/\c<=6)/\Bd (w:Int)/\ (1<=r/\r<=1048576)/\1<=n/\ (f=1\/f=2):=by
 simp only[Fs,Ahz]at h;refine⟨h.2.1,?_,h.2.2.2.1,h.2.2.2.2,h.1⟩;rcases h.2.2.1 with rfl|rfl|rfl
 ·exact .inl rfl
 ·exact .inr (.inl rfl)
 ·exact .inr (.inr rfl)
theorem Bp2{p:Prop}(h:p:=by rw[Anb];omega):p:=h
end Go.Pl
namespace Go.Pl
open Go Go.Lv
variable{bits e:Int}{l:LI}{x:LX}{n f c w r A k m v:Nat}
theorem Bhl(n m:Nat):Rz n m 0≠Rz n m 2147483648:=by
 intro h;simp[Rz,Fg,oz]at h
def Di(b:LB):LB:=b.drop (b.length-32)
theorem Ak0{b:LB}(h:32<=b.length):(Di b).length=32:=by rw[Di,Anx];omega
def OJ(t:LB):Nat:=Ga (part t 12 4)-32
def mnA(t:LB):Nat:=Ga (part t 16 4)
def AR(b:LB):Int×Int:=
 if ¬(32<=b.length/\ (Di b).take 8=oz)then(0,6)else if IH (Di b)=true then(0,12)else
 if Di b=Rz (OJ (Di b)) (mnA (Di b)) 0 then(if b.length<OJ (Di b)+32 then(0,24)else(((OJ (Di b)+32:Nat):Int),0))else
 if Di b≠Rz (OJ (Di b)) (mnA (Di b)) 2147483648 then(0,12)else
 if b.length<OJ (Di b)+64 then(0,24)else
 if(b.take (b.length-(OJ (Di b)+64)+32)).drop (b.length-(OJ (Di b)+64))≠Rz (OJ (Di b)) (mnA (Di b)) 2684354560 then(0,12)else(((OJ (Di b)+64:Nat):Int),0)
section
variable {b:LB}
theorem ba1(h:¬(32<=b.length/\ (Di b).take 8=oz)):AR b=(0,6):=by rw[AR,Adi h]
variable (h:32<=b.length/\ (Di b).take 8=oz)
include h
theorem ba2(h2:IH (Di b)=true):AR b=(0,12):=by rw[AR,Abu (λh'=>h' h),Adi h2]
variable (h2:IH (Di b)=false)
include h2
theorem ba3(h3:Di b=Rz (OJ (Di b)) (mnA (Di b)) 0):AR b=if b.length<OJ (Di b)+32 then(0,24)else(((OJ (Di b)+32:Nat):Int),0):=by
 rw[AR,Abu (λh'=>h' h),Abu (by rw[h2];simp),Adi h3]
variable (h3:Di b≠Rz (OJ (Di b)) (mnA (Di b)) 0)
include h3
theorem ba4(h4:Di b≠Rz (OJ (Di b)) (mnA (Di b)) 2147483648):AR b=(0,12):=by
 rw[AR,Abu (λh'=>h' h),Abu (by rw[h2];simp),Abu h3,Adi h4]
variable (h4:Di b=Rz (OJ (Di b)) (mnA (Di b)) 2147483648)
include h4
theorem ba5(h5:b.length<OJ (Di b)+64):AR b=(0,24):=by
 rw[AR,Abu (λh'=>h' h),Abu (by rw[h2];simp),Abu h3,Abu (λe=>e h4),Adi h5]
theorem ba6(h5:¬b.length<OJ (Di b)+64):AR b=if(b.take (b.length-(OJ (Di b)+64)+32)).drop (b.length-(OJ (Di b)+64))≠Rz (OJ (Di b)) (mnA (Di b)) 2684354560 then(0,12)else(((OJ (Di b)+64:Nat):Int),0):=by
 rw[AR,Abu (λh'=>h' h),Abu (by rw[h2];simp),Abu h3,Abu (λe=>e h4),Abu h5]
end
theorem Akx{b:LB}{n:Int}(h:AR b=(n,0)):32<=n/\n<=b.length:=by
 unfold AR at h;split at h; · simp at h
 rename_i h32;split at h; · simp at h
 split at h
 ·split at h; · simp at h
  simp only[Aki,Bpb]at h;omega
 split at h; · simp at h
 split at h; · simp at h
 split at h; · simp at h
 simp only[Aki,Bpb]at h;omega
theorem Auv{b:LB}(h:(AR b).2≠0):(AR b).1=0:=by
 revert h
 unfold AR;split; · simp
 split; · simp
 split
 ·split<;>simp
 split; · simp
 split; · simp
 split<;>simp
theorem Bai{b:LB}(h:32<=b.length)(hl:b.length<4611686018427387904):Aq (Ac b) 32=((b.length-32:Nat):Int)/\Br b ((b.length-32:Nat):Int) (Ac b)=some (Di b):=by
 refine⟨by rw[Ac,Bv];omega,?_⟩;rw[Bp];rfl
theorem Awu(b:LB)(hl:b.length<4611686018427387904):H3 b=some (AR b):=by
 rw[H3,jr];by_cases h32:32<=b.length
 ·obtain⟨e1,e2⟩:=Bai h32 hl;have hl3:=Ak0 h32;rw[Abu (by rw[e1,Af];simp),e1,e2,Aa,mR,Aa];by_cases hp:(Di b).take 8=oz
  ·have h:=And.intro h32 hp;rw[Abu (by simpa [oz,hl3]using hp),Y5,lq,e1,e2,Aa,nF _ 0 F0 F0 F2,Aa];cases hb:IH (Di b)with
   |true=>
    rw[ba2 h hb];simp only[Bpg,Bdk,Bm7];rw[Aa,nF _ 2147483648 F0 F0 F2,Aa,hb];rfl
   |false=>
    obtain⟨i1,i2,i3,i4⟩:=S3 (Di b) F0 hb;have eI:Ga (part (Di b) 12 4)-32=OJ (Di b):=rfl;have eM:Ga (part (Di b) 16 4)=mnA (Di b):=rfl;simp only[Bdk,Bm7];rw[eI]at i3;rw[eM]at i4;rw[eI,eM];by_cases c1:Di b=Rz (OJ (Di b)) (mnA (Di b)) 0
    ·have c1':Di b=Rz (OJ (Di b)) (mnA (Di b)) (0:UInt64).toNat:=c1;rw[Adi (by simpa using c1'),ba3 h hb c1];by_cases c2:b.length<OJ (Di b)+32
     ·rw[Adi Bpi,Adi c2]
     ·rw[Abu Bpi,Abu c2,Ag];rfl
    ·have c1':¬Di b=Rz (OJ (Di b)) (mnA (Di b)) (0:UInt64).toNat:=c1;rw[Abu (by simpa using c1'),Aa,nF _ 2147483648 F0 F0 F2,Aa,hb];simp only[Bdk,Bm7];rw[eI,eM];by_cases c2:Di b=Rz (OJ (Di b)) (mnA (Di b)) 2147483648
     ·have c2':Di b=Rz (OJ (Di b)) (mnA (Di b)) (2147483648:UInt64).toNat:=c2;rw[Abu (by simpa using c2'),Ag];by_cases c3:b.length<OJ (Di b)+64
      ·rw[Adi F3,ba5 h hb c1 c2 c3]
      ·rw[Abu F3,Ac,Bv,Ag,Qn,Aa,zn _ _ _ i3 i4 F2,Aa,Fp,Aa,ba6 h hb c1 c2 c3];rw[show((b.length:Int)-(((OJ (Di b):Nat):Int)+64)).toNat=b.length-(OJ (Di b)+64) by omega,show((b.length:Int)-(((OJ (Di b):Nat):Int)+64)+32).toNat=b.length-(OJ (Di b)+64)+32 by omega];have e7:(2684354560:UInt64).toNat=2684354560:=rfl;rw[e7];by_cases c4:(b.take (b.length-(OJ (Di b)+64)+32)).drop (b.length-(OJ (Di b)+64))=Rz (OJ (Di b)) (mnA (Di b)) 2684354560
       ·rw[Abu (by simpa using c4),Abu (λe=>e c4)];rfl
       ·rw[Adi (by simpa using c4),Adi c4]
     ·have c2':¬Di b=Rz (OJ (Di b)) (mnA (Di b)) (2147483648:UInt64).toNat:=c2;rw[Adi (by simpa using c2'),ba4 h hb c1 c2]
  ·rw[Adi (by rw[Bgu,Bh4];intro h;exact hp h.2),ba1 (λh=>hp h.2)]
 ·rw[Adi (by rw[Ac,Bv,Af];simp;omega),ba1 (λh=>h32 h.1)]
theorem Bey{b:LB}(h:32<=b.length):(b.take (b.length-32+8)).drop (b.length-32)=(Di b).take 8:=by
 rw[Di,List.take_drop]
theorem Bbp(b:LB)(hl:b.length<4611686018427387904):JY b=some (AR b):=by
 rw[JY,RU];by_cases h32:32<=b.length
 ·obtain⟨e1,e2⟩:=Bai h32 hl;have hl3:=Ak0 h32;rw[Abu F3,e1,Ag,Qn,Aa,show((b.length-32:Nat):Int).toNat=b.length-32 from rfl,show(((b.length-32:Nat):Int)+8).toNat=b.length-32+8 by omega,Bey h32];by_cases hp:(Di b).take 8=oz
  ·have h:=And.intro h32 hp;rw[Abu (by simpa [oz]using hp),UC,TZ,e1,e2,Aa,Ajy _ F0 F0,Aa];cases hb:IH (Di b)with
   |true=>rw[ba2 h hb];rfl
   |false=>
    obtain⟨i1,i2,i3,i4⟩:=S3 (Di b) F0 hb;have eI:Ga (part (Di b) 12 4)-32=OJ (Di b):=rfl;have eM:Ga (part (Di b) 16 4)=mnA (Di b):=rfl;simp only[Bdk,Bm7,Boo];rw[eI]at i3;rw[eM]at i4;rw[eI,eM,Oc,Adi rfl,O7 _ _ _ i3 i4 F2,Aa,Aa];have e7:(2147483648:UInt64).toNat=2147483648:=rfl;have e8:(2684354560:UInt64).toNat=2684354560:=rfl;rw[e7];by_cases c2:Di b=Rz (OJ (Di b)) (mnA (Di b)) 2147483648
    ·have c1:Di b≠Rz (OJ (Di b)) (mnA (Di b)) 0:=λe=>Bhl (OJ (Di b)) (mnA (Di b)) (e.symm.trans c2);rw[Abu (by simpa using c2),AU,AD,Adi (by simpa using c2),BD,BM,Ag (a:=32) F0 F0,Ag];by_cases c3:b.length<OJ (Di b)+64
     ·rw[Adi F3,ba5 h hb c1 c2 c3]
     ·rw[Abu F3,Adi (by simpa using c2),Ac,Bv,Ag,Qn,Aa,Zh,O7 _ _ _ i3 i4 F2,Aa,Aa,ba6 h hb c1 c2 c3,e8];rw[show((b.length:Int)-(32+((OJ (Di b):Nat):Int)+32)).toNat=b.length-(OJ (Di b)+64) by omega,show((b.length:Int)-(32+((OJ (Di b):Nat):Int)+32)+32).toNat=b.length-(OJ (Di b)+64)+32 by omega];by_cases c4:(b.take (b.length-(OJ (Di b)+64)+32)).drop (b.length-(OJ (Di b)+64))=Rz (OJ (Di b)) (mnA (Di b)) 2684354560
      ·rw[Abu (by simpa using c4),Abu (λe=>e c4),show(32+((OJ (Di b):Nat):Int)+32)=((OJ (Di b)+64:Nat):Int) by omega]
      ·rw[Adi (by simpa using c4),Adi c4]
    ·rw[Adi (by simpa using c2),Oc,Abu Bpj,O7 _ _ _ i3 i4 F2,Aa,Aa];have e9:(0:UInt64).toNat=0:=rfl;rw[e9];by_cases c1:Di b=Rz (OJ (Di b)) (mnA (Di b)) 0
     ·rw[Abu (by simpa using c1),AU,AD,Abu (by simpa using c2),BD,BM,Ag,ba3 h hb c1,Abu (c:=(Di b==Rz (OJ (Di b)) (mnA (Di b)) 2147483648)=true) (by simpa using c2)];by_cases c3:b.length<OJ (Di b)+32
      ·rw[Adi F3,Adi c3]
      ·rw[Abu F3,Abu c3,show(32+((OJ (Di b):Nat):Int))=((OJ (Di b)+32:Nat):Int) by omega]
     ·rw[Adi (by simpa using c1),ba4 h hb c1 c2]
  ·rw[Adi (by simpa [oz]using hp),ba1 (λh=>hp h.2)]
 ·rw[Adi F3,ba1 (λh=>h32 h.1)]
def Aik:Nat->LB->Nat->Int×Int
 |0,_,_=>(0,38)
 |j+1,b,a=>if b=[]then((a:Int),0)else if(AR b).2≠0 then(0,38)else Aik j (b.take (b.length-(AR b).1.toNat)) (a+1)
theorem Al4:∀(j q a:Nat) (b:LB),b.length<j->j<=q->b.length<=4000->a+b.length<=4000->Xl q (a:Int) b=some (Aik j b a)
 |0,_,_,_,h,_,_,_=>by omega
 |j+1,q+1,a,b,h,hq,h4,ha=>by
  rw[Xl,VP,Aik];by_cases hb:b=[]
  ·subst hb;rw[Abu F2,Adi rfl];rfl
  ·have hpos:0<b.length:=List.length_pos_iff.2 hb;rw[Adi F9,Abu hb,Awu b F0,Aa];have hbad:=Auv (b:=b);have hok:=λn=>Akx (b:=b) (n:=n);generalize AR b=v at*
   obtain⟨n,e⟩:=v;simp only at hbad⊢;rw[PW,kQ];by_cases he:e≠0
   ·rw[Adi he,hbad he,Adi F2]
   ·obtain⟨k1,k2⟩:=hok n (by rw[show e=0 by simpa using he]);rw[Abu he,Abu Bpm,Ac,Bv,Ct,Aa,kW,kZ,Ag];rw[show((b.length:Int)-n).toNat=b.length-n.toNat by omega];have ih:=Al4 j q (a+1) (b.take (b.length-n.toNat)) Bp2 F0 Bp2 Bp2;rw[<-ih];rfl
theorem Arv:∀(j q a:Nat) (b:LB),b.length<j->j<=q->b.length<=4000->a+b.length<=4000->Pp q b (a:Int)=some (Aik j b a)
 |0,_,_,_,h,_,_,_=>by omega
 |j+1,q+1,a,b,h,hq,h4,ha=>by
  rw[Pp,NC,Aik];by_cases hb:b=[]
  ·subst hb;rw[Abu F2,Adi rfl];rfl
  ·have hpos:0<b.length:=List.length_pos_iff.2 hb;rw[Adi F9,Abu hb,Bbp b F0,Aa];have hok:=λn=>Akx (b:=b) (n:=n);generalize AR b=v at*
   obtain⟨n,e⟩:=v;simp only;by_cases he:e≠0
   ·rw[Adi he,Adi (by rw[Ah];simpa using he)]
   ·obtain⟨k1,k2⟩:=hok n (by rw[show e=0 by simpa using he]);rw[Abu he,Abu (by rw[Ah];simpa using he),Ac,Bv,Ct,Aa,Ag];rw[show((b.length:Int)-n).toNat=b.length-n.toNat by omega];have ih:=Arv j q (a+1) (b.take (b.length-n.toNat)) Bp2 F0 Bp2 Bp2;rw[<-ih];rfl
def Nx(b:LB):Int×Int:=if 4000<b.length then(0,38)else Aik (b.length+1) b 0
theorem jk(b:LB)(hl:b.length<4611686018427387904):KE b=some (Nx b):=by
 rw[KE,VK,Nx];by_cases h:4000<b.length
 ·rw[Adi F9,Adi h]
 ·rw[Abu F9,Abu h];exact Al4 _ Au 0 b F0 F8 F0 F0
theorem D0(b:LB)(hl:b.length<4611686018427387904):Ud b=some (Nx b):=by
 rw[Ud,JD,Nx];by_cases h:4000<b.length
 ·rw[Adi F9,Adi h]
 ·rw[Abu F9,Abu h];exact Arv _ Au 0 b F0 F8 F0 F0
theorem GM{a b:Nat}(h:a<9223372036854775808:=by omega):Bq (a:Int) (b:Int)=((a/b:Nat):Int):=by
 have:a/b<=a:=Ayq _ _;rw[UW,Bkq F0,<-Int.natCast_ediv];generalize a/b=k at*
 exact Cz F0 F0
theorem P8(h:Bd bits)(x:Int):(PJ bits x).length=wB bits:=by
 obtain rfl|rfl|rfl:=h<;>rfl
theorem AA{bits:Int}(h:Bd bits):∀l:LX,(Dk bits l).length=l.length*wB bits
 |[]=>by simp[Dk]
 |x::l=>by
  have h1:=AA h l;have h2:=P8 h x.toInt;simp only[Dk,List.flatMap_cons,Afz,Ary,Bol]at*
  omega
def qh(b:LB)(A:Nat)(l:LI)(k:Nat):LB:=(b.take ((A:Int)+(l.take (k+1)).sum).toNat).drop ((A:Int)+(l.take k).sum).toNat
structure Gts (b p:LB) (f c w r n A:Nat) (l:LI) (k m:Nat) (x:LX) (s:LB) (e:Int):Prop where
 mom:Am (Al (Ak r) n) (k:Int)=some (m:Int)
 pos:1<=m/\m*c<=4000
 got:Vn b p (f:Int) (c:Int) (w:Int) (r:Int) (n:Int) (A:Int) l (k:Int)=some (s,e)
 none':e≠0->s=[]/\x=[]
 some':e=0->s=Dk (w:Int) x/\x.length=m*c/\Ay (w:Int) x=some 0/\Jy (w:Int) x=some (s,0)/\ (A:Int)+(l.take (k+1)).sum<=b.length
 way:((b.length:Int)<(A:Int)+(l.take (k+1)).sum/\e=24)\/ ((A:Int)+(l.take (k+1)).sum<=b.length/\Kj (c:Int) (w:Int) (Mn p) (m:Int) (qh b A l k)=some (x,e)/\Dq (c:Int) (w:Int) (Mn p) (m:Int) (qh b A l k)=some (x,e))
theorem BO{b p:LB}(o:Opn b p f c w r n A l)(k:Nat)(hk:k<l.length):∃m x s e,Gts b p f c w r n A l k m x s e:=by
 obtain⟨hc,hw,hr,hn,_⟩:=Kn o.shape;have hfit:n<=4000/c:=by have:=o.fit;simp only[Xn,Ahz]at this;exact this.1
 have hn4:n<=4000:=by have:=Ayq 4000 c;omega
 have hA:=o.at';have An2:=o.file;have hlen:=o.len;have b1:=Ik o.five k;have b2:=Ik o.five (k+1);have e:=Kh hk;have h5:=o.five l[k] (Avu _);have hsum:=o.sum;have hs1:=o.some1;have hkf:k<(Al (Ak r) n).length:=F0
 obtain⟨m,hm,m1,m2⟩:=Wn (Eh r) hn (Avu hkf);have Bge:Am (Al (Ak r) n) (k:Int)=some (m:Int):=by rw[Bn hkf,hm]
 have hpos:1<=m/\m*c<=4000:=by
  refine⟨m1,?_⟩;have:=Ajr c (Boy m2 hfit);have:=Bjv 4000 c;omega
 have hR:Vn b p (f:Int) (c:Int) (w:Int) (r:Int) (n:Int) (A:Int) l (k:Int)=Vn b p (f:Int) (c:Int) (w:Int) (r:Int) (n:Int) (A:Int) l (k:Int):=rfl
 conv at hR=>rhs;rw[Vn,WM,Aub hs1.2 o.five o.sum _ _ _ _ _ (A:Int) F0 F0 k F0,Aa,Bn hk,Aa,Bv Bqq Bqq]
 by_cases hto:(b.length:Int)<(A:Int)+(l.take (k+1)).sum
 ·rw[Adi (by rw[Af,Ac,Ahz];omega)]at hR;exact⟨m,[],[],24,Bge,hpos,hR,λ_=>⟨rfl,rfl⟩,λh=>by simp at h, .inl ⟨hto,rfl⟩⟩
 ·rw[Abu (by rw[Af,Ac,Ahz];omega),TO p o.pass,jW hr.2 hn hn4]at hR;simp only[Aa]at hR;rw[Ag (a:=(A:Int)+(l.take k).sum) (b:=l[k]) F0 F0,Bo2,<-e,Bge]at hR;simp only[Aa]at hR;rw[Qn,Aa]at hR;obtain⟨x,er,g1,g2,g3,g4⟩:=HM (ch:=c) (n:=m) (t:=Mn p) (qh b A l k) hw (Ks p) hc.1 hc.2 m1 F0;rw[show(b.take ((A:Int)+(l.take (k+1)).sum).toNat).drop ((A:Int)+(l.take k).sum).toNat=qh b A l k from rfl,g2,Aa]at hR;simp only at hR;rw[WO,WV]at hR;by_cases her:er=0
  ·obtain⟨g5,g6,g7⟩:=g3 her;rw[Abu (by rw[Ah];simpa using her),QC hw g6 g5,Aa]at hR;subst her;exact⟨m,x,_,0,Bge,hpos,hR,λh=>absurd rfl h,λ_=>⟨rfl,g7,g5,bC hw g6 g5,F0⟩, .inr ⟨F0,g1,g2⟩⟩
  ·rw[Adi (by rw[Ah];simpa using her)]at hR;exact⟨m,x,_,er,Bge,hpos,hR,λh=>⟨rfl,g4 h⟩,λh=>absurd h her, .inr ⟨F0,g1,g2⟩⟩
theorem Gts.lens{b p:LB}{s:LB}(hw:Bd (w:Int))(g:Gts b p f c w r n A l k m x s e):s.length<=12000/\x.length<=4000/\ (e=0->s.length=m*c*wB (w:Int)):=by
 by_cases he:e=0
 ·obtain⟨h1,h2,_⟩:=g.some' he;have h3:=BL (w:Int) x;have h4:=AA hw x;have h5:=g.pos;rw[<-h1]at h3 h4;refine⟨F0,F0,λ_=>by rw[h4,h2]⟩
 ·obtain⟨h1,h2⟩:=g.none' he;exact⟨by simp[h1],by simp[h2],λh=>absurd h he⟩
def pD(G:Nat->LB×Int)(be:Int):Nat->Nat->LB->LB×Int
 |0,_,acc=>if be≠0 then([],38)else(acc,0)
 |j+1,k,acc=>if(G k).2≠0 then([],(G k).2)else pD G be j (k+1) (acc++(G k).1)
def Il(b p:LB)(f c w r n A:Nat)(l:LI)(k:Nat):LB×Int:=(Vn b p (f:Int) (c:Int) (w:Int) (r:Int) (n:Int) (A:Int) l (k:Int)).getD ([],0)
theorem Gts.eq{b p:LB}{s:LB}(g:Gts b p f c w r n A l k m x s e):Il b p f c w r n A l k=(s,e):=by rw[Il,g.got];rfl
def YB(b:LB)(A:Nat)(l:LI):Int:=(Nx (b.drop ((A:Int)+l.sum).toNat)).2
def Ty(b:LB)(k:Nat):Nat:=(b.getD k 0).toNat
theorem M4(b:LB)(k:Nat):Ty b k<256:=(b.getD k 0).toNat_lt
def sx(n:Nat)(b:LB)(a:Nat):Int:=
 if n=1 then(Ty b a:Int)-128 else
 if n=2 then(if Ty b a+256*Ty b (a+1)<32768 then(Ty b a+256*Ty b (a+1):Nat)else((Ty b a+256*Ty b (a+1):Nat):Int)-65536)else
 (if Ty b a+256*Ty b (a+1)+65536*Ty b (a+2)<8388608 then(Ty b a+256*Ty b (a+1)+65536*Ty b (a+2):Nat)else((Ty b a+256*Ty b (a+1)+65536*Ty b (a+2):Nat):Int)-16777216)
def qG(n m:Nat)(b:LB):LX:=(List.range m).map λx=>Int32.ofInt (sx n b (x*n))
theorem vZ(n m:Nat)(b:LB):(qG n m b).length=m:=by simp[qG]
theorem Az3(n m:Nat)(b:LB):qG n (m+1) b=qG n m b++[Int32.ofInt (sx n b (m*n))]:=by simp[qG,List.range_succ]
theorem tU{n:Int}(h: -2147483648<=n)(h':n<2147483648):(Int32.ofInt n).toInt=n:=by
 rw[Bmq,Int.bmod_def,show((Int32.size:Nat):Int)=4294967296 from rfl];split<;>omega
theorem wP{b:LB}(h:k<b.length):Am b (k:Int)=some (b.getD k 0):=by
 rw[Bn h];simp[List.getD_eq_getElem?_getD,h]
theorem bJ(c:UInt8):(Ad c:Int32)=Int32.ofInt (c.toNat:Int):=rfl
theorem S8(k:Nat)(hk:k<=32)(h:v<2147483648):Du (Int32.ofInt (v:Int)) k=Int32.ofInt ((v*2^k:Nat):Int):=by
 have e:Du (Int32.ofInt (v:Int)) k=Int32.ofInt ((Int32.ofInt (v:Int)).toInt*2^min k 32):=rfl;rw[e,tU F0 F0,Bhu hk];simp
theorem Bfr{i:Nat}(hv:v<2^i)(hw:w*2^i<2147483648)(hi:i<=31):zZ (Int32.ofInt (v:Int)) (Int32.ofInt ((w*2^i:Nat):Int))=Int32.ofInt ((v+w*2^i:Nat):Int):=by
 have hv2:v<2147483648:=Aw0 hv (show 2^i<=2^31 from Anl F0 hi);have e:zZ (Int32.ofInt (v:Int)) (Int32.ofInt ((w*2^i:Nat):Int))=Int32.ofInt ((BitVec.ofInt 32 (Int32.ofInt (v:Int)).toInt|||BitVec.ofInt 32 (Int32.ofInt ((w*2^i:Nat):Int)).toInt).toNat:Int):=rfl;rw[e,tU F0 F0,tU F0 F0,BitVec.toNat_or,Bi4,Bi4];have a1:((v:Int) %((2^32:Nat):Int)).toNat=v:=F0
 have a2:(((w*2^i:Nat):Int) %((2^32:Nat):Int)).toNat=w*2^i:=F0
 rw[a1,a2,Nat.or_comm,Aw7 w,<-Bj3 hv,Bn7]
theorem Ag3(w:Nat)(h:w<2147483648):zZ (0:Int32) (Int32.ofInt (w:Int))=Int32.ofInt (w:Int):=by
 have:=Bfr (v:=0) (w:=w) (i:=0) Bpj (by simpa using h) F0;simpa using this
theorem carry(hk:k<=31)(h:v*2^k<4294967296)(hv:v<2147483648):Cw (Du (Int32.ofInt (v:Int)) k) k=Int32.ofInt ((if v*2^k<2147483648 then((v*2^k:Nat):Int)else((v*2^k:Nat):Int)-4294967296).fdiv (2^k)):=by
 rw[S8 k F0 hv];have e:∀x:Int32,Cw x k=Int32.ofInt (x.toInt.fdiv (2^min k 32)):=λ_=>rfl;have hX:(Int32.ofInt ((v*2^k:Nat):Int)).toInt=if v*2^k<2147483648 then((v*2^k:Nat):Int)else((v*2^k:Nat):Int)-4294967296:=by
  rw[Bmq,Int.bmod_def,show((Int32.size:Nat):Int)=4294967296 from rfl];generalize v*2^k=X at*
  split<;>split<;>omega
 rw[e,Bhu F0,hX]
theorem sx2(b:LB)(a:Nat):sx 2 b a=if Ty b a+256*Ty b (a+1)<32768 then((Ty b a+256*Ty b (a+1):Nat):Int)else((Ty b a+256*Ty b (a+1):Nat):Int)-65536:=rfl
theorem sx3(b:LB)(a:Nat):sx 3 b a=if Ty b a+256*Ty b (a+1)+65536*Ty b (a+2)<8388608 then((Ty b a+256*Ty b (a+1)+65536*Ty b (a+2):Nat):Int)else((Ty b a+256*Ty b (a+1)+65536*Ty b (a+2):Nat):Int)-16777216:=rfl
variable (b:LB)
theorem Blm(bk:Int->LX->Option (LX×Int))(a:Nat)(acc:LX)(h:a+1<=b.length)(hl:b.length<=100000)(ha:acc.length<=100000)(j25:Int->LX->Int32->Int->Option (LX×Int))(j30:LX->Option (LX×Int)):
  Gz (Kr bk 8 b) j25 j30 8 b (a:Int) acc=bk ((a+1:Nat):Int) (acc++[Int32.ofInt (sx 1 b a)]):=by
 have hb:=M4 b a;have e:Aq (Ad (b.getD a 0):Int32) (128:Int32)=Int32.ofInt (sx 1 b a):=by
  have e1:Aq (Ad (b.getD a 0):Int32) (128:Int32)=Int32.ofInt ((Int32.ofInt ((b.getD a 0).toNat:Int)).toInt-(128:Int32).toInt):=rfl;rw[e1,tU F0 (by have:=(b.getD a 0).toNat_lt;omega)];rfl
 have q8:Bq (8:Int) 8=1:=F2
 rw[Gz,Adi F3,Adi Bp3,wP F0,Aa,e,Bf F7,Aa,Kr,Zf,q8,Ag];rfl
theorem Bi0(bk:Int->LX->Option (LX×Int))(a:Nat)(acc:LX)(h:a+2<=b.length)(hl:b.length<=100000)(ha:acc.length<=100000)(j28:Int->LX->Option (LX×Int))(j30:LX->Option (LX×Int)):
  Gz j28 (Nz bk 16 b) j30 16 b (a:Int) acc=bk ((a+2:Nat):Int) (acc++[Int32.ofInt (sx 2 b a)]):=by
 have h0:=M4 b a;have h1:=M4 b (a+1);have q:Bq (16:Int) 8=2:=F2
 have hF:Au=(Au-3)+1+1+1:=by have:=As;omega
 have z0:(GI.toZ (Bi (8:Int) 0)).toNat=0:=F2
 have z1:(GI.toZ (Bi (8:Int) 1)).toNat=8:=F2
 have z16:(GI.toZ (Aq (32:Int) 16)).toNat=16:=F2
 have s0:Du (Int32.ofInt (Ty b a:Int)) 0=Int32.ofInt (Ty b a:Int):=by have:=S8 (v:=Ty b a) 0 F0 F0;simpa using this
 have s1:Du (Int32.ofInt (Ty b (a+1):Int)) 8=Int32.ofInt ((Ty b (a+1)*2^8:Nat):Int):=S8 8 F0 F0;have o1:=Bfr (v:=Ty b a) (w:=Ty b (a+1)) (i:=8) (by simpa using h0) F0 F0;have c:=carry (v:=Ty b a+Ty b (a+1)*2^8) (k:=16) F0 F0 F0;rw[Gz,Adi F3,Abu Bp1,Nz,hF,Fk,Gu,q,Adi F2,show Ae (a:Int) 0=((a:Nat):Int) by rw[Ag];omega,wP F0,Aa,Bk F2,Aa,z0,
  bJ,show((b.getD a 0).toNat:Int)=(Ty b a:Int)from rfl,s0,Ag3 _ F0,show Ae (0:Int) 1=1 by decide,
  Fk,Gu,q,Adi F2,show Ae (a:Int) 1=((a+1:Nat):Int) by rw[Ag];omega,wP F0,Aa,Bk F2,Aa,z1,
  bJ,show((b.getD (a+1) 0).toNat:Int)=(Ty b (a+1):Int)from rfl,s1,o1,show Ae (1:Int) 1=2 by decide,
  Fk,Gu,q,Abu F2,Zl,IJ,Bk F2,Aa,Aa,z16,c,Bf F7,Aa,Kr,Zf,q,Ag]
 have e:((if(Ty b a+Ty b (a+1)*2^8)*2^16<2147483648 then(((Ty b a+Ty b (a+1)*2^8)*2^16:Nat):Int)else(((Ty b a+Ty b (a+1)*2^8)*2^16:Nat):Int)-4294967296).fdiv (2^16))=sx 2 b a:=by
  rw[Bb6 _ F0,sx2];split<;>split<;>omega
 rw[e];rfl
theorem Bi5(bk:Int->LX->Option (LX×Int))(a:Nat)(acc:LX)(h:a+3<=b.length)(hl:b.length<=100000)(ha:acc.length<=100000)(j28:Int->LX->Option (LX×Int))(j30:LX->Option (LX×Int)):
  Gz j28 (Nz bk 24 b) j30 24 b (a:Int) acc=bk ((a+3:Nat):Int) (acc++[Int32.ofInt (sx 3 b a)]):=by
 have h0:=M4 b a;have h1:=M4 b (a+1);have h2:=M4 b (a+2);have q:Bq (24:Int) 8=3:=F2
 have hF:Au=(Au-4)+1+1+1+1:=by have:=As;omega
 have z0:(GI.toZ (Bi (8:Int) 0)).toNat=0:=F2
 have z1:(GI.toZ (Bi (8:Int) 1)).toNat=8:=F2
 have z2:(GI.toZ (Bi (8:Int) 2)).toNat=16:=F2
 have z8:(GI.toZ (Aq (32:Int) 24)).toNat=8:=F2
 have s0:Du (Int32.ofInt (Ty b a:Int)) 0=Int32.ofInt (Ty b a:Int):=by have:=S8 (v:=Ty b a) 0 F0 F0;simpa using this
 have s1:Du (Int32.ofInt (Ty b (a+1):Int)) 8=Int32.ofInt ((Ty b (a+1)*2^8:Nat):Int):=S8 8 F0 F0;have s2:Du (Int32.ofInt (Ty b (a+2):Int)) 16=Int32.ofInt ((Ty b (a+2)*2^16:Nat):Int):=S8 16 F0 F0;have o1:=Bfr (v:=Ty b a) (w:=Ty b (a+1)) (i:=8) (by simpa using h0) F0 F0;have o2:=Bfr (v:=Ty b a+Ty b (a+1)*2^8) (w:=Ty b (a+2)) (i:=16) F0 F0 F0;have c:=carry (v:=Ty b a+Ty b (a+1)*2^8+Ty b (a+2)*2^16) (k:=8) F0 F0 F0;rw[Gz,Adi F3,Abu Bp1,Nz,hF,Fk,Gu,q,Adi F2,show Ae (a:Int) 0=((a:Nat):Int) by rw[Ag];omega,wP F0,Aa,Bk F2,Aa,z0,
  bJ,show((b.getD a 0).toNat:Int)=(Ty b a:Int)from rfl,s0,Ag3 _ F0,show Ae (0:Int) 1=1 by decide,
  Fk,Gu,q,Adi F2,show Ae (a:Int) 1=((a+1:Nat):Int) by rw[Ag];omega,wP F0,Aa,Bk F2,Aa,z1,
  bJ,show((b.getD (a+1) 0).toNat:Int)=(Ty b (a+1):Int)from rfl,s1,o1,show Ae (1:Int) 1=2 by decide,
  Fk,Gu,q,Adi F2,show Ae (a:Int) 2=((a+2:Nat):Int) by rw[Ag];omega,wP F0,Aa,Bk F2,Aa,z2,
  bJ,show((b.getD (a+2) 0).toNat:Int)=(Ty b (a+2):Int)from rfl,s2,o2,show Ae (2:Int) 1=3 by decide,
  Fk,Gu,q,Abu F2,Zl,IJ,Bk F2,Aa,Aa,z8,c,Bf F7,Aa,Kr,Zf,q,Ag]
 have e:((if(Ty b a+Ty b (a+1)*2^8+Ty b (a+2)*2^16)*2^8<2147483648 then(((Ty b a+Ty b (a+1)*2^8+Ty b (a+2)*2^16)*2^8:Nat):Int)else(((Ty b a+Ty b (a+1)*2^8+Ty b (a+2)*2^16)*2^8:Nat):Int)-4294967296).fdiv (2^8))=sx 3 b a:=by
  rw[Bb6 _ F0,sx3];split<;>split<;>omega
 rw[e];rfl
theorem E9(bits:Int)(n m:Nat)(hn:1<=n)(hm:b.length=m*n)(hl:b.length<=100000)(step:∀(q a:Nat) (acc:LX),a+n<=b.length->acc.length<=100000->Ew bits b (q+1) (a:Int) acc=Ew bits b q ((a+n:Nat):Int) (acc++[Int32.ofInt (sx n b a)])):
  ∀(j x q:Nat),x+j=m->j<q->Ew bits b q ((x*n:Nat):Int) (qG n x b)=some (qG n m b,0)
 |0,x,q+1,hx,_=>by
  obtain rfl:x=m:=F0
  rw[Ew,Gz,Abu F3];rfl
 |j+1,x,q+1,hx,hq=>by
  have h1:(x+1)*n<=m*n:=Ajr n F0;rw[An5,Bjg]at h1;have h2:m<=m*n:=Bo1 m hn;rw[step q (x*n) _ F0 (by rw[vZ];omega),<-Az3,show x*n+n=(x+1)*n by rw[An5,Bjg]];exact E9 bits n m hn hm hl step j (x+1) q F0 F0
theorem Bk7(h:Bd bits)(hl:b.length<=100000)(q a:Nat)(acc:LX)(ha:a+wB bits<=b.length)(hc:acc.length<=100000):
  Ew bits b (q+1) (a:Int) acc=Ew bits b q ((a+wB bits:Nat):Int) (acc++[Int32.ofInt (sx (wB bits) b a)]):=by
 rw[Ew];obtain rfl|rfl|rfl:=h
 ·exact Blm b _ a acc ha hl hc _ _
 ·exact Bi0 b _ a acc ha hl hc _ _
 ·exact Bi5 b _ a acc ha hl hc _ _
theorem lL(h:Bd bits)(hm:b.length=m*wB bits)(h4:m<=4000):Nb bits b=some (qG (wB bits) m b,0):=by
 have hn:=Z6 bits;have hl:b.length<=12000:=by rw[hm];exact Bhr h4 hn.2
 rw[Nb,QF,Aau h,Aa];simp only;rw[Abu Bpk,Aqc h,Bk Bpl,Aa];have hr:Ha (Ac b) (wB bits:Int)=0:=by rw[Ac,DF,hm,Bj2];rfl
 have hq:Bq (Ac b) (wB bits:Int)=(m:Int):=by rw[Ac,GM,hm,Bnc _ F0]
 rw[Abu (by rw[Ah,hr];simp),Aa,hq,Abu Bpn,fN];have:=E9 b bits (wB bits) m F0 hm F0 (λq a acc ha hc=>Bk7 b h F0 q a acc ha hc) m 0 Au F0 F8;simpa [qG]using this
end Go.Pl
namespace Go.Pl
open Go Go.Lv
variable{bits:Int}{c w:Nat}{p:Prop}
theorem Bi1(hc:c<=6)(hw:Bd (w:Int)):Bq (Bi (c:Int) (w:Int)) 8=((c*wB (w:Int):Nat):Int):=by
 have h:w=8\/w=16\/w=24:=by unfold Bd at hw;omega
 have:c=0\/c=1\/c=2\/c=3\/c=4\/c=5\/c=6:=F0
 rcases h with rfl|rfl|rfl<;>rcases this with rfl|rfl|rfl|rfl|rfl|rfl|rfl<;>rfl
theorem Bh5(hw:Bd (w:Int)):8*wB (w:Int)=w/\w<=24:=by
 have h:w=8\/w=16\/w=24:=by unfold Bd at hw;omega
 rcases h with rfl|rfl|rfl<;>exact⟨rfl,F0⟩
theorem Bjn{t:Nat}(ht:t<=4000)(hc:c<=6)(hw:Bd (w:Int)):Bq (Bi (Bi (t:Int) (c:Int)) (w:Int)) 8=((t*(c*wB (w:Int)):Nat):Int):=by
 obtain⟨h1,h2⟩:=Bh5 hw;have e1:(t:Int)*(c:Int)=((t*c:Nat):Int):=by simp
 have b1:t*c<=4000*6:=Bhr ht hc;have b2:t*c*w<=24000*24:=Bhr b1 h2;rw[Fa (a:=(t:Int)) (by rw[e1];omega) (by rw[e1];omega),e1,Fa Bps Bps,<-Aw3,show(8:Int)=((8:Nat):Int)from rfl,GM];congr 1;generalize wB (w:Int)=W at*
 subst h1;rw[Nat.mul_left_comm,Nat.mul_div_cancel_left _ F0,Bg8]
def O9(w:Nat)(y:LB×Int):LX:=if y.2≠0 then []else qG (wB (w:Int)) (y.1.length/wB (w:Int)) y.1
theorem T6(z:Int):(u8 z).toNat=(z %256).toNat:=by
 have:(z %256).toNat<256:=F0
 rw[u8,Aw5,Ajb F0]
theorem yh{bits:Int}(h:Bd bits):∀(l:LX) (i j:Nat),i<l.length->j<wB bits-> (Dk bits l).getD (i*wB bits+j) 0=(PJ bits (l.getD i 0).toInt).getD j 0
 |[],i,j,hi,_=>by simp at hi
 |x::l,0,j,_,hj=>by
  have h1:=P8 h x.toInt;have e:Dk bits (x::l)=PJ bits x.toInt++Dk bits l:=by simp[Dk]
  rw[e,Bpc,Bg2,List.getD_eq_getElem?_getD,List.getD_eq_getElem?_getD,List.getElem?_append_left F0];rfl
 |x::l,i+1,j,hi,hj=>by
  have h1:=P8 h x.toInt;have e:Dk bits (x::l)=PJ bits x.toInt++Dk bits l:=by simp[Dk]
  have ih:=yh h l i j (by simpa using hi) hj;have e2:(i+1)*wB bits+j=(PJ bits x.toInt).length+(i*wB bits+j):=by rw[An5,Bjg,h1];omega
  rw[e,e2,List.getD_eq_getElem?_getD,List.getElem?_append_right F0,Bj7,<-List.getD_eq_getElem?_getD,ih];rfl
theorem Bf5(h:Bd bits)(l:LX)(hr:uh bits l)(i:Nat)(hi:i<l.length):Int32.ofInt (sx (wB bits) (Dk bits l) (i*wB bits))=l.getD i 0:=by
 have hm:l.getD i 0∈l:=by rw[List.getD_eq_getElem?_getD,List.getElem?_eq_getElem hi];exact Avu hi
 have hv:=hr _ hm;have g:∀j,j<wB bits->Ty (Dk bits l) (i*wB bits+j)=((PJ bits (l.getD i 0).toInt).getD j 0).toNat:=λj hj=>by rw[Ty,yh h l i j hi hj]
 generalize l.getD i 0=x at*
 have key:sx (wB bits) (Dk bits l) (i*wB bits)=x.toInt:=by
  generalize hA:i*wB bits=a at*
  obtain rfl|rfl|rfl:=h
  ·have g0:=g 0 F2;have e1:(PJ 8 x.toInt).getD 0 0=u8 (x.toInt+128):=rfl;rw[Bli,e1,T6]at g0;simp only[hB]at hv;simp at hv;have e2:wB 8=1:=rfl;rw[e2,sx,Adi rfl,g0];omega
  ·have g0:=g 0 F2;have g1:=g 1 F2;have e0:(PJ 16 x.toInt).getD 0 0=u8 x.toInt:=rfl;have e1:(PJ 16 x.toInt).getD 1 0=u8 (x.toInt/256):=rfl;rw[Bli,e0,T6]at g0;rw[e1,T6]at g1;simp only[hB]at hv;simp at hv;have e2:wB 16=2:=rfl;rw[e2,sx2,g0,g1];split<;>omega
  ·have g0:=g 0 F2;have g1:=g 1 F2;have g2:=g 2 F2;have e0:(PJ 24 x.toInt).getD 0 0=u8 x.toInt:=rfl;have e1:(PJ 24 x.toInt).getD 1 0=u8 (x.toInt/256):=rfl;have e3:(PJ 24 x.toInt).getD 2 0=u8 (x.toInt/65536):=rfl;rw[Bli,e0,T6]at g0;rw[e1,T6]at g1;rw[e3,T6]at g2;simp only[hB]at hv;simp at hv;have e2:wB 24=3:=rfl;rw[e2,sx3,g0,g1,g2];split<;>omega
 rw[key];simp
theorem Adx(h:Bd bits)(l:LX)(hr:uh bits l):qG (wB bits) l.length (Dk bits l)=l:=by
 refine Bit (vZ _ _ _) λi h1 h2=>?_;have:=Bf5 h l hr i h2;simp only[qG,Bnl,Bnb];rw[this,List.getD_eq_getElem?_getD,List.getElem?_eq_getElem h2];rfl
theorem Gts.J1{b p:LB}{f r n A:Nat}{l:LI}{k m:Nat}{x:LX}{s:LB}{e:Int}(hw:Bd (w:Int))(g:Gts b p f c w r n A l k m x s e):O9 w (s,e)=x:=by
 have hwb:=Z6 (w:Int);by_cases he:e=0
 ·obtain⟨h1,h2,h3,_⟩:=g.some' he;have h4:=g.pos;have h5:=AA hw x;rw[O9,Abu (by simpa using he)];simp only;rw[h1,h5,Bnc _ F0];exact Adx hw x (lE hw F0 h3)
 ·rw[O9,Adi he,(g.none' he).2]
theorem Bqj(h:p:=by rw[Af,Ahz];omega):p:=h
theorem Bqd(h:p:=by simp[Iv];omega):p:=h
theorem Bpx(h:p:=by rw[Afz];omega):p:=h
theorem Bpy(h:p:=by rw[Anx];omega):p:=h
end Go.Pl
namespace Go.Pl
open Go Go.Lv
variable{e bits:Int}
abbrev C5:=Int×Int×Int×LX×Int
def wX(e:Int):C5:=(0,0,0,[],e)
theorem G8{seg p:LB}(hs:seg.length=8)(hp:p.length<=64):Pn seg p=some (seg==Fg (Uo p).toNat 8,0):=by
 rw[Pn,jL p hp,Aa];simp only;rw[Abu (by rw[Ah,Ah,Ac,Ac,Az,hs];simp),Fp,Aa]
theorem Bcw(b p:LB)(m c w h o q n g y ab:Int)(k v:LI)(he:e≠0):Vg b p m c w h o q n g k e y ab v=some (wX e):=by
 rw[Vg,Vp,Adi (by rw[Ah];simpa using he)];rfl
theorem sj(b p:LB)(m c w h o q n g y ab:Int)(k:LI)(he:e≠0):Vh b p m c w h o q n g y ab k e=some (wX e):=by
 rw[Vh,LA,Adi (by rw[Ah];simpa using he)];rfl
theorem Ban(b p:LB)(m c w h o q n g y ab:Int)(k:LI):Vh b p m c w h o q n g y ab k 0=LC b p m c w h o q n g y ab k:=by
 rw[Vh,LA,Abu Bpk]
def cW(X:Nat->LX)(E:Nat->Int)(be:Int):Nat->Nat->LX->LX×Int
 |0,_,acc=>if be≠0 then([],38)else(acc,0)
 |j+1,k,acc=>if E k≠0 then([],E k)else cW X E be j (k+1) (acc++X k)
def NQ(c w r:Nat)(y:LX×Int):C5:=if y.2≠0 then wX y.2 else((c:Int),(w:Int),(r:Int),y.1,0)
def lH(b p:LB)(f c w r n A:Nat)(l:LI):C5:=
 NQ c w r (cW (λk=>O9 w (Il b p f c w r n A l k)) (λk=>(Il b p f c w r n A l k).2) (YB b A l) l.length 0 [])
section
variable {b p:LB} {f c w r n A:Nat} {l:LI} (o:Opn b p f c w r n A l)
include o
theorem wJ(a1 a2 a3 a4:Int):∀(j k q:Nat) (acc:LX),k+j=l.length->j<q-> (k=l.length-> (A:Int)+l.sum<=b.length)->acc.length<=4000*k->
  Vf b l (f:Int) (c:Int) (w:Int) (r:Int) (n:Int) a1 a2 a3 (A:Int) a4 (Mn p) (Al (Ak r) n) q ((A:Int)+(l.take k).sum) (k:Int) acc=
   some (NQ c w r (cW (λk=>O9 w (Il b p f c w r n A l k)) (λk=>(Il b p f c w r n A l k).2) (YB b A l) j k acc))
 |0,k,q+1,acc,hk,_,hfit,_=>by
  have hA:=o.at';have An2:=o.file;have hs1:=o.some1;have hsum:=o.sum;have b1:=Ik o.five l.length;have hf:=hfit F0;obtain rfl:k=l.length:=F0
  rw[Bd0]at b1⊢;rw[Vf,LV,Abu Bp6,aM,qW,Bp,Aa,jk _ Bpy,Aa,cW,YB];generalize Nx (b.drop ((A:Int)+l.sum).toNat)=v;obtain⟨v1,v2⟩:=v;simp only;by_cases hv:v2≠0
  ·rw[Adi hv,Adi (by rw[Ah];simpa using hv),NQ,Adi Bpj];rfl
  ·rw[Abu hv,Abu (by rw[Ah];simpa using hv),NQ,Abu Bpj]
 |j+1,k,q+1,acc,hk,hq,hfit,hacc=>by
  have hA:=o.at';have An2:=o.file;have hs1:=o.some1;have hsum:=o.sum;have b1:=Ik o.five k;have b2:=Ik o.five (k+1);have hkl:k<l.length:=F0
  have e2:=Kh hkl;have h5:=o.five l[k] (Avu _);obtain⟨m,x,s,e,g⟩:=BO o k hkl;obtain⟨hc,hw,hr,hn,_⟩:=Kn o.shape;have hl:=g.lens hw;rw[Vf,LV,Adi F3,Bn hkl,Aa,Aa,Ag (a:=(A:Int)+(l.take k).sum) F0 F0,Bo2,<-e2,Ac,cW,g.eq];simp only;rcases g.way with⟨h1,h2⟩|⟨h1,h2,_⟩
  ·rw[Adi Bqj,Adi (by rw[h2];simp),h2,NQ,Adi Bpj];rfl
  ·rw[Abu Bqj,g.mom];simp only[Aa];rw[Qn,Aa,show(b.take ((A:Int)+(l.take (k+1)).sum).toNat).drop ((A:Int)+(l.take k).sum).toNat=qh b A l k from rfl,h2,Aa];simp only;rw[aI,sH];by_cases he:e≠0
   ·rw[Adi (by rw[Ah];simpa using he),Adi he,NQ,Adi he];rfl
   ·have he0:e=0:=by simpa using he
    have An3:=(g.some' he0).2.2.2.2;rw[Abu (by rw[Ah];simpa using he),Abu he,g.J1 hw,Bf,Aa,Ag (a:=(A:Int)+(l.take k).sum) F0 F0,Bo2,<-e2,Ag];exact wJ a1 a2 a3 a4 j (k+1) q (acc++x) F0 F0 (λh=>by rw[h,Bd0]at An3;exact An3) Bpx
theorem yQ:∀(j k q:Nat) (acc:LX),k+j=l.length->j<q-> (k=l.length-> (A:Int)+l.sum<=b.length)->acc.length<=4000*k->
  Nl b (f:Int) (c:Int) (w:Int) (r:Int) (n:Int) l (Al (Ak r) n) (Mn p) q ((A:Int)+(l.take k).sum) (k:Int) acc=
   some (NQ c w r (cW (λk=>O9 w (Il b p f c w r n A l k)) (λk=>(Il b p f c w r n A l k).2) (YB b A l) j k acc))
 |0,k,q+1,acc,hk,_,hfit,_=>by
  have hA:=o.at';have An2:=o.file;have hs1:=o.some1;have hsum:=o.sum;have b1:=Ik o.five l.length;have hf:=hfit F0;obtain rfl:k=l.length:=F0
  rw[Bd0]at b1⊢;rw[Nl,BJ,Abu Bp6,OM,NM,Bp,Aa,D0 _ Bpy,Aa,cW,YB];generalize Nx (b.drop ((A:Int)+l.sum).toNat)=v;obtain⟨v1,v2⟩:=v;simp only;by_cases hv:v2≠0
  ·rw[Adi hv,Adi (by rw[Ah];simpa using hv),NQ,Adi Bpj];rfl
  ·rw[Abu hv,Abu (by rw[Ah];simpa using hv),NQ,Abu Bpj]
 |j+1,k,q+1,acc,hk,hq,hfit,hacc=>by
  have hA:=o.at';have An2:=o.file;have hs1:=o.some1;have hsum:=o.sum;have b1:=Ik o.five k;have b2:=Ik o.five (k+1);have hkl:k<l.length:=F0
  have e2:=Kh hkl;have h5:=o.five l[k] (Avu _);obtain⟨m,x,s,e,g⟩:=BO o k hkl;obtain⟨hc,hw,hr,hn,_⟩:=Kn o.shape;have hl:=g.lens hw;rw[Nl,BJ,Adi F3,Bn hkl,Aa,Aa,Ac,Bv,cW,g.eq];simp only;rcases g.way with⟨h1,h2⟩|⟨h1,_,h2⟩
  ·rw[Adi Bqj,Adi (by rw[h2];simp),h2,NQ,Adi Bpj];rfl
  ·rw[Abu Bqj,g.mom];simp only[Aa];rw[Ag (a:=(A:Int)+(l.take k).sum) F0 F0,Bo2,<-e2,Qn,Aa,show(b.take ((A:Int)+(l.take (k+1)).sum).toNat).drop ((A:Int)+(l.take k).sum).toNat=qh b A l k from rfl,h2,Aa];simp only;rw[ON,NP];by_cases he:e≠0
   ·rw[Adi (by rw[Ah];simpa using he),Adi he,NQ,Adi he];rfl
   ·have he0:e=0:=by simpa using he
    have An3:=(g.some' he0).2.2.2.2;rw[Abu (by rw[Ah];simpa using he),Abu he,g.J1 hw,Bf,Aa,Bn hkl,Aa,Aa,Ag (a:=(A:Int)+(l.take k).sum) F0 F0,Bo2,<-e2,Ag];exact yQ j (k+1) q (acc++x) F0 F0 (λh=>by rw[h,Bd0]at An3;exact An3) Bpx
end
theorem Ae8(l:LI)(b p:LB)(m c w h o q n g:Int)(k:LI)(hl:l.length<=1000)(h5:∀x∈l,5<=x)(A:Int)(hA:0<=A)(hb:A+l.sum<=1000000):∀(j i z:Nat),i+j=l.length->j<z->Ur l b p m c w h o q n g k z (i:Int) (A+(l.take i).sum)=aB b p l m c w h o q n g (A+l.sum) k
 |0,i,z+1,hi,_=>by
  rw[Ur,KJ,Abu F3,show i=l.length by omega,Bd0]
 |j+1,i,z+1,hi,hz=>by
  have hlt:i<l.length:=F0
  have b1:=Ik h5 i;have b2:=Ik h5 (i+1);have e:=Kh hlt;have ih:=Ae8 l b p m c w h o q n g k hl h5 A hA hb j (i+1) z F0 F0;rw[e,<-Bo2]at ih;rw[Ur,KJ,Adi F3,Bn hlt,Aa,Aa,Ag,Ag];exact ih
theorem Aof(b p:LB)(hb:b.length<=100100)(hp:p.length<=64):
  (∃e:Int,e≠0/\Dl b p=some (VD e)/\Kx b p=some (wX e)/\Ky b p=some (wX e))\/
  (∃f c w r n T:Nat,∃q d:Int,T<=b.length/\b.length<=100000/\Fs f c w r n=true/\Xn c r n=true/\
   Dl b p=Qq b (f:Int) (c:Int) (w:Int) (r:Int) (n:Int) (T:Int)/\
   Kx b p=LC b p (f:Int) (c:Int) (w:Int) (r:Int) (n:Int) q d (T:Int) 0 0 (Al (Ak r) n)/\
   Ky b p=(GA b (T:Int) (f:Int) (c:Int) (w:Int) (r:Int) (n:Int)).bind λ(h,ae)=>if Bg ae 0=true then some (wX ae)else(Fv (r:Int) (n:Int)).bind λp2=>(Nv p).bind λ(u,ap)=>SO b (f:Int) (c:Int) (w:Int) (r:Int) (n:Int) h p2 u (Ae (T:Int) (Ae (Bi 4 (Ac h)) 4)) 0 []):=by
 have hO:Dl b p=Dl b p:=rfl;have hV:Kx b p=Kx b p:=rfl;have hR:Ky b p=Ky b p:=rfl
 conv at hO=>rhs;rw[Dl,Uz,Abu F9]
 conv at hV=>rhs;rw[Kx,gH,Abu F9,qY]
 conv at hR=>rhs;rw[Ky,SP,Abu F9,aY]
 by_cases h1:100000<b.length
 ·rw[Adi F9]at hO hV hR;refine .inl ⟨4,F0,hO,?_,?_⟩
  ·rw[hV,Aa];rfl
  ·rw[hR,Aa];rfl
 rw[Abu F9]at hO hV hR;rw[Qi b F0,Aa]at hO hV;rw[CE b F0,Aa]at hR;by_cases h2:(Bs b).2=0
 ·obtain⟨p0,p1,p2⟩:=BP h2;have hc:=Bp (l:=b) p0 p1;simp only[h2]at hO hV hR;rw[Abu Bpk,hc,Aa,show b.drop (Bs b).1.toNat=Iv b from rfl]at hO hV hR;rw[QI _ Bqd,Aa]at hO hV;rw[jE _ Bqd,Aa]at hR;by_cases h3:(Eo (Iv b)).2.2.2.2.2=0
  ·obtain⟨g1,g2,g3,g4⟩:=tX h3;have hlen:(Iv b).length=b.length-(Bs b).1.toNat:=by simp[Iv]
   generalize hF:(Bs b).1.toNat=F at*
   have hF':(Bs b).1=(F:Int):=F0
   rw[g1,hF']at hO hV hR;simp only at hO hV hR;generalize f0 (Iv b)=f at*
   generalize f1 (Iv b)=c at*
   generalize f2 (Iv b)=w at*
   generalize f3 (Iv b)=r at*
   generalize f4 (Iv b)=n at*
   have t22:Ae (F:Int) 22=((F+22:Nat):Int):=by rw[Ag];omega
   have t30:Ae ((F+22:Nat):Int) 8=((F+30:Nat):Int):=by rw[Ag];omega
   have Bmh:f=1\/f=2:=by simp only[Fs,Ahz]at g3;omega
   rw[Abu Bpk,t22,t30]at hO;rw[Abu Bpk,sV g3 g4,Aa,t22,t30]at hV;rw[Aa]at hR;simp only at hV hR;rw[Abu Bpk,t22,WQ,t30]at hR;by_cases NF:((p==([]:LB)) !=(geq (f:Int) (1:Int)))=true
   ·rw[Adi NF]at hO hR;refine .inl ⟨26,F0,hO,?_,?_⟩
    ·rw[hV];by_cases h5:f=2
     ·rw[Adi (by rw[Ar,h5];rfl),Aa];simp only;rw[Abu Bpk,Adi NF,sj _ _ _ _ _ _ _ _ _ _ _ _ _ F0]
     ·rw[Abu Bpm,Aa];simp only;rw[Abu Bpk,Adi NF,sj _ _ _ _ _ _ _ _ _ _ _ _ _ F0]
    ·rw[hR,Aa];rfl
   ·rw[Abu NF]at hO hR;have hpf:(p=[]↔f=1):=by
     rw[Ar]at NF;have h5:(p==([]:LB))=((f:Int)==1):=by simpa using NF
     have h6:(p==([]:LB))=true↔((f:Int)==1)=true:=by rw[h5]
     rw[Bcg,Bcg]at h6;rw[h6];omega
    by_cases h5:f=2
    ·have Aw2:p≠ []:=λe=>by have:=hpf.1 e;omega
     rw[Adi (by rw[Ar,h5];rfl),Aa]at hV;simp only at hV;rw[Abu Bpk,Abu NF,Abu Bpm]at hV;rw[Adi (by simpa using Aw2)]at hO;rw[Abu (by simpa using Aw2)]at hR;by_cases h6:b.length<F+30
     ·rw[Adi F3]at hO hV hR;refine .inl ⟨24,F0,hO,?_,?_⟩
      ·rw[hV,sj _ _ _ _ _ _ _ _ _ _ _ _ _ F0]
      ·rw[hR,Aa];rfl
     ·have hseg:((b.take (F+30)).drop (F+22)).length=8:=by simp;omega
      rw[Abu F3,Qn,Aa,show((F+30:Nat):Int).toNat=F+30 from rfl,show((F+22:Nat):Int).toNat=F+22 from rfl]at hO hV hR;rw[G8 hseg hp,Aa]at hO hV;rw[iO p hp,Aa]at hR;simp only at hO hV;rw[Abu Bpk]at hO;generalize(b.take (F+30)).drop (F+22)=seg at*
      by_cases h7:seg=Fg (Uo p).toNat 8
      ·rw[Abu (by simp[h7])]at hO hV;rw[Abu (by simp[h7]),Aa]at hR;simp only at hR;rw[Abu Bpk]at hR;rw[Ban]at hV;exact .inr ⟨f,c,w,r,n,F+30,(F:Int),((F+22:Nat):Int),F0,F0,g3,g4,hO,hV,hR⟩
      ·rw[Adi (by simpa using h7)]at hO hV;rw[Adi (by simpa using h7)]at hR;refine .inl ⟨26,F0,hO,?_,?_⟩
       ·rw[hV,sj _ _ _ _ _ _ _ _ _ _ _ _ _ F0]
       ·rw[hR,Aa];rfl
    ·have hpe:p=[]:=hpf.2 F0;rw[Abu Bpm,Aa]at hV;simp only at hV;rw[Abu Bpk,Abu NF,Adi Bpm,Ban]at hV;rw[Abu (by rw[hpe];simp)]at hO;rw[Adi (by rw[hpe];rfl),Aa]at hR;simp only at hR;rw[Abu Bpk]at hR;exact .inr ⟨f,c,w,r,n,F+22,(F:Int),((F+22:Nat):Int),F0,F0,g3,g4,hO,hV,hR⟩
  ·generalize Eo (Iv b)=v at*
   obtain⟨v1,v2,v3,v4,v5,v6⟩:=v;simp only at h3 hO hV hR;rw[Adi (by rw[Ah];simpa using h3)]at hO hV;refine .inl ⟨v6,h3,hO,?_,?_⟩
   ·rw[hV,Aa];simp only;rw[Adi (by rw[Ah];simpa using h3)];rfl
   ·rw[hR,Aa];simp only;rw[Adi (by rw[Ah];simpa using h3)];rfl
 ·generalize Bs b=v at*
  obtain⟨v,e⟩:=v;simp only at h2 hO hV hR;rw[Adi (by rw[Ah];simpa using h2)]at hO hV hR;refine .inl ⟨e,h2,hO,?_,?_⟩
  ·rw[hV,Aa];simp only;rw[Adi (by rw[Ah];simpa using h2)];rfl
  ·rw[hR,Aa];simp only;rw[Adi (by rw[Ah];simpa using h2)];rfl
theorem vL(b p:LB)(hb:b.length<=100100)(hp:p.length<=64):
  (∃e:Int,e≠0/\Dl b p=some (VD e)/\Ff b p=some (VD e)/\Kx b p=some (wX e)/\Ky b p=some (wX e))\/
  (∃f c w r n A l,Opn b p f c w r n A l/\Kx b p=some (lH b p f c w r n A l)/\Ky b p=some (lH b p f c w r n A l)):=by
 have Bhf:∀{e e2:Int},VD e=VD e2->e=e2:=λh=>by simpa [VD]using h
 rcases Aof b p hb hp with⟨e,he,h1,h2,h3⟩|⟨f,c,w,r,n,T,q,d,hT,An2,g3,g4,hO,hV,hR⟩
 ·rcases N2 b p hb hp with⟨e',he',k1,k2⟩|⟨f,c,w,r,n,A,l,o⟩
  ·rw[h1]at k1;have:=Bhf (Axh k1);subst this;exact .inl ⟨e,he,h1,k2,h2,h3⟩
  ·have:=o.prog;rw[h1]at this;have:=Axh this;simp only[VD,Aki]at this;exact absurd this.2.2.2.2.2.2.2 he
 ·obtain⟨hc,hw,hr,hn,_⟩:=Kn g3;have hfit:n<=4000/c:=by simp only[Xn,Ahz]at g4;exact g4.1
  have hn4:n<=4000:=by have:=Ayq 4000 c;omega
  rw[vU g3 g4 b hb T hT]at hO;have hcut:=Bp (l:=b) (a:=(T:Int)) F0 F0;rw[Ajx]at hcut;have hdl:(b.drop T).length<=100100:=by simp;omega
  rw[LC,bA,Abu F3,hcut,Aa,Ac,wV _ _ hdl,Aa]at hV;rw[GA,hcut,Aa,jW hr.2 hn hn4,Aa,Ac,Adv _ _ hdl,Aa,Aa]at hR;by_cases h:(En (b.drop T) (Al (Ak r) n).length).2≠0
  ·rw[Adi h]at hO;generalize En (b.drop T) (Al (Ak r) n).length=v at*
   obtain⟨v1,v2⟩:=v;simp only at h hO hV hR;rcases N2 b p hb hp with⟨e',he',k1,k2⟩|⟨f,c,w,r,n,A,l,o⟩
   ·rw[hO]at k1;have:=Bhf (Axh k1);subst this;refine .inl ⟨_,h,hO,k2,?_,?_⟩
    ·rw[hV,YT,JH,Adi (by rw[Ah];simpa using h),Bcw _ _ _ _ _ _ _ _ _ _ _ _ _ _ h]
    ·rw[hR,Adi (by rw[Ah];simpa using h)]
   ·have:=o.prog;rw[hO]at this;have:=Axh this;simp only[VD,Aki]at this;exact absurd this.2.2.2.2.2.2.2 h
  ·have h0:(En (b.drop T) (Al (Ak r) n).length).2=0:=by simpa using h
   rw[Abu h]at hO;generalize hsv:En (b.drop T) (Al (Ak r) n).length=v at*
   obtain⟨v1,v2⟩:=v;simp only at h0 hO hV hR;subst h0;rcases N2 b p hb hp with⟨e',he',k1,k2⟩|⟨f',c',w',r',n',A,l,o⟩
   ·rw[hO]at k1;have:=Axh k1;simp only[VD,Aki]at this;exact absurd this.2.2.2.2.2.2.2.symm he'
   ·have hp2:=o.prog;rw[hO]at hp2;have hp3:=Axh hp2;simp only[Aki]at hp3;obtain⟨i1,i2,i3,i4,i5,i6,i7,_⟩:=hp3;obtain rfl:f=f':=F0
    obtain rfl:c=c':=F0
    obtain rfl:w=w':=F0
    obtain rfl:r=r':=F0
    obtain rfl:n=n':=F0
    subst i7;have hlen:=o.len;have hs1:=o.some1;have hsum:=o.sum;have hA:=o.at';have hAT:(A:Int)=(T:Int)+4*(v1.length:Int)+4:=F0
    have a1:Bi 4 (v1.length:Int)=4*(v1.length:Int):=Fa;have eV:Ae (Ae (T:Int) (Bi 4 (Ac v1))) 4=(A:Int):=by
     rw[Ac,a1,Ag (a:=(T:Int)) F0 F0,Ag];omega
    have eR:Ae (T:Int) (Ae (Bi 4 (Ac v1)) 4)=(A:Int):=by
     rw[Ac,a1,Ag (a:=4*(v1.length:Int)) F0 F0,Ag];omega
    have hlv:=wJ o q d (T:Int) ((A:Int)+v1.sum) v1.length 0 Au [] F0 F8 F0 Bpj;have hlr:=yQ o v1.length 0 Au [] F0 F8 F0 Bpj;rw[Bj8,Bog,Int.add_zero]at hlv hlr;refine .inr ⟨f,c,w,r,n,A,v1,o,?_,?_⟩
    ·have hs:=Ae8 v1 b p (f:Int) (c:Int) (w:Int) (r:Int) (n:Int) q d (T:Int) (Al (Ak r) n) hs1.2 o.five (A:Int) F0 F0 v1.length 0 Au F0 F8;rw[Bj8,Bog,Int.add_zero]at hs;rw[hV,YT,JH,Abu Bpk,qU,eV];refine Bma hs ?_;rw[aB,ZL,eV,Vg,Vp,Abu Bpk,YN p o.pass,Aa];exact hlv
    ·rw[hR,Abu Bpk,Aa,TO p o.pass,Aa,eR];exact hlr
def P4(b:LB):LI:=Al (Ak (f3 (Iv b))) (f4 (Iv b))
theorem Apk{ch:Nat}(hb:Bd bits)(h1:1<=ch)(h6:ch<=6):Gf (ch:Int) bits=some 0:=by
 have hr:∃x y,Te bits=some (x,y,0):=⟨_,_,Aau hb⟩;obtain⟨x,y,hr⟩:=hr;rw[Gf,hr,Aa];simp only;rw[Abu Bqc]
abbrev P6':=Int×Int×Int×LX×LI×Int
def Azy(e:Int):P6':=(0,0,0,[],[],e)
theorem Aca{c r n:Nat}(h:Xn c r n=true):1<= (Al (Ak r) n).length/\ (Al (Ak r) n).length<=1000:=by
 simp only[Xn,Ahz]at h;rw[We];exact⟨Nat.le_add_left _ _,h.2⟩
theorem Aha(g:Nat):∀K:Nat,(List.replicate K (g:Int)).sum=((K*g:Nat):Int)
 |0=>by simp
 |K+1=>by
  rw[Bj5,Bha,Aha g K,Bol];omega
theorem sW{g n:Nat}(hn:1<=n):(Al g n).sum=(n:Int):=by
 have h:=Bjv (n-1) g;rw[Al,List.sum_append,Aha];simp only[Bha,Bog];omega
theorem Ai4:∀{l:LI},(∀x∈l,0<=x)->0<=l.sum
 |[],_=>by simp
 |x::l,h=>by
  have h1:=h x Bdj;have h2:=Ai4 (l:=l) λy hy=>h y (Avl _ hy);rw[Bha];omega
theorem nP{l:LI}(h:∀x∈l,0<=x)(i:Nat):0<= (l.take i).sum/\ (l.take i).sum<=l.sum:=by
 have h1:=Ai4 (l:=l.take i) λx hx=>h x (Bos hx);have h2:=Ai4 (l:=l.drop i) λx hx=>h x (Bms hx);have:=Agv l i;omega
def ID(c w:Nat)(fr:LI)(k:Nat):Int:=(((fr.take k).sum.toNat*(c*wB (w:Int)):Nat):Int)
section
variable {f c w r n:Nat} (h1:Fs f c w r n=true) (h2:Xn c r n=true)
include h1 h2
theorem QJ:(∀x∈Al (Ak r) n,0<=x)/\ (Al (Ak r) n).sum=(n:Int)/\n<=4000:=by
 obtain⟨hc,hw,hr,hn,_⟩:=Kn h1;have hfit:n<=4000/c:=by simp only[Xn,Ahz]at h2;exact h2.1
 have hn4:n<=4000:=by have:=Ayq 4000 c;omega
 refine⟨λx hx=>?_,sW hn,hn4⟩;obtain⟨m,rfl,_⟩:=Wn (Eh r) hn hx;omega
end
section
variable {b p:LB} {f c w r n A:Nat} {l:LI} (o:Opn b p f c w r n A l)
include o
theorem Axx(h:(lH b p f c w r n A l).2.2.2.2=0):(A:Int)+l.sum<=b.length:=by
 have hs1:=o.some1;have key:∀(j k:Nat) (acc:LX),k+j=l.length->1<=j-> (cW (λk=>O9 w (Il b p f c w r n A l k)) (λk=>(Il b p f c w r n A l k).2) (YB b A l) j k acc).2=0-> (A:Int)+l.sum<=b.length:=by
  intro j
  induction j with
  |zero=>intro k acc _ h;omega
  |succ j ih=>
   intro k acc hk _ h;obtain⟨m,x,s,e,g⟩:=BO o k F0;rw[cW]at h;by_cases he:(Il b p f c w r n A l k).2≠0
   ·rw[Adi he]at h;exact absurd h he
   ·rw[Abu he]at h;by_cases hj:j=0
    ·rw[g.eq]at he;have:=(g.some' (by simpa using he)).2.2.2.2;rw[show k+1=l.length by omega,Bd0]at this;exact this
    ·exact ih (k+1) _ F0 F0 h
 rw[lH,NQ]at h;refine key l.length 0 [] F0 hs1.1 ?_;split at h
 ·simpa [wX]using h
 ·rename_i h2;simpa using h2
end
theorem Apj(C W:Nat)(fr:LI):ID C W fr 0=0:=by rw[ID,Bj8,Bog];simp
theorem Api(C W:Nat){fr:LI}(hp:∀z∈fr,0<=z){A m:Nat}(hA:A<fr.length)(hm:fr[A]=(m:Int)):ID C W fr (A+1)=ID C W fr A+((m*C*wB (W:Int):Nat):Int):=by
 have hs:0<= (fr.take A).sum:=by
  have:∀l:LI,(∀z∈l,0<=z)->0<=l.sum:=by
   intro l
   induction l with
   |nil=>intro _;simp
   |cons a l ih=>intro h;rw[Bha];have:=h a Bpj;have:=ih (λz hz=>h z (by simp[hz]));omega
  exact this _ λz hz=>hp z (Bos hz)
 have e:(fr.take (A+1)).sum=(fr.take A).sum+m:=by rw[Jq hA,List.sum_append,Bha,Bog,hm];omega
 rw[ID,ID,e];have:((fr.take A).sum+(m:Int)).toNat=(fr.take A).sum.toNat+m:=F0
 rw[this,An5,Bg8 m];omega
theorem YO(h:Bd bits){l:LX}(hl:l.length<=4000)(hr:uh bits l):Ay bits l=some 0:=by
 have hh:=JL bits;have key:∀(j i q:Nat),i+j=l.length->j<q->Ba l (hB bits) q (i:Int)=some 0:=by
  intro j
  induction j with
  |zero=>
   intro i q hi hq;obtain⟨q,rfl⟩:∃k,q=k+1:=⟨q-1,F0⟩;rw[Ba,Cy,Abu F3];rfl
  |succ j ih=>
   intro i q hi hq;obtain⟨q,rfl⟩:∃k,q=k+1:=⟨q-1,F0⟩;have hx:=hr l[i] (Avu F0);rw[Ba,Cy,Adi F3,Bn,Aa,Aa,Gh,Aht,Cz F0 F0,Ag,Af,Ec,Abu F7,Abu F7];exact ih (i+1) q F0 F0
 rw[Ay,Dw,WI h,Aa,Abu Bpm,Abu F9];exact key l.length 0 Au F0 F8
theorem Aoy(bits:Int)(a b:LX):Dk bits (a++b)=Dk bits a++Dk bits b:=by unfold Dk;rw[List.flatMap_append]
def Wb{α:Type}(G:Nat->List α):Nat->Nat->List α
 |0,_=>[]
 |j+1,k=>G k++Wb G j (k+1)
theorem Alg{α:Type}(G:Nat->List α):∀(i j k:Nat),Wb G (i+j) k=Wb G i k++Wb G j (k+i)
 |0,j,k=>by simp[Wb]
 |i+1,j,k=>by
  rw[show i+1+j=(i+j)+1 by omega,Wb,Wb,Alg G i j (k+1),Ajp,show k+1+i=k+(i+1) by omega]
theorem Agy{α:Type}(G:Nat->List α)(i k:Nat):Wb G (i+1) k=Wb G i k++G (k+i):=by
 rw[Alg G i 1 k];simp[Wb]
theorem Aax(w:Nat)(G:Nat->LB×Int)(be:Int):∀(j k:Nat) (acc:LB) (Bjw:LX),(pD G be j k acc).2=(cW (λk=>O9 w (G k)) (λk=>(G k).2) be j k Bjw).2
 |0,k,acc,Bjw=>by
  rw[pD,cW];split<;>rfl
 |j+1,k,acc,Bjw=>by
  rw[pD,cW];split
  ·rfl
  ·exact Aax w G be j (k+1) _ _
theorem uE(X:Nat->LX)(E:Nat->Int)(be:Int):∀(j k:Nat) (acc:LX),(cW X E be j k acc).2=0->be=0/\ (∀i,k<=i->i<k+j->E i=0)/\ (cW X E be j k acc).1=acc++Wb X j k
 |0,k,acc,h=>by
  rw[cW]at h⊢;by_cases hb:be≠0
  ·rw[Adi hb]at h;cases h
  ·rw[Abu hb];exact⟨by simpa using hb,λi h1 h2=>by omega,by simp[Wb]⟩
 |j+1,k,acc,h=>by
  rw[cW]at h⊢;by_cases hb:E k≠0
  ·rw[Adi hb]at h;exact absurd h hb
  ·rw[Abu hb]at h⊢;obtain⟨h1,h2,h3⟩:=uE X E be j (k+1) _ h;refine⟨h1,λi i1 i2=>?_,?_⟩
   ·by_cases hi:i=k
    ·subst hi;simpa using hb
    ·exact h2 i F0 F0
   ·rw[h3,Wb,Ajp]
theorem S1(G:Nat->LB×Int):∀(j k:Nat) (acc:LB),(∀i,k<=i->i<k+j-> (G i).2=0)->pD G 0 j k acc=(acc++Wb (λi=>(G i).1) j k,0)
 |0,k,acc,h=>by
  rw[pD,Abu Bpj,Wb];simp
 |j+1,k,acc,h=>by
  rw[pD,Abu (by rw[h k F0 F0];simp),S1 G j (k+1) _ λi h1 h2=>h i F0 F0,Wb,Ajp]
section
variable {b p:LB} {f c w r n A:Nat} {l:LI} (o:Opn b p f c w r n A l) (hE:∀i,i<l.length-> (Il b p f c w r n A l i).2=0)
include o hE
theorem Ajj(i:Nat)(hi:i<l.length):∃m:Nat,Am (Al (Ak r) n) (i:Int)=some (m:Int)/\1<=m/\ (Il b p f c w r n A l i).1=Dk (w:Int) (O9 w (Il b p f c w r n A l i))/\ (O9 w (Il b p f c w r n A l i)).length=m*c/\uh (w:Int) (O9 w (Il b p f c w r n A l i)):=by
 have hw:=(Kn o.shape).2.1;obtain⟨m,x,s,e,g⟩:=BO o i hi;have h0:=hE i hi;have hsm:=g.J1 hw;have hl:=g.lens hw;rw[g.eq]at h0⊢;rw[hsm];obtain⟨h1,h2,h3,_⟩:=g.some' h0;exact⟨m,g.mom,g.pos.1,h1,h2,lE hw F0 h3⟩
theorem T8:∀(j k:Nat),k+j<=l.length->Dk (w:Int) (Wb (λi=>O9 w (Il b p f c w r n A l i)) j k)=Wb (λi=>(Il b p f c w r n A l i).1) j k
 |0,k,_=>rfl
 |j+1,k,h=>by
  obtain⟨m,_,_,h1,_⟩:=Ajj o hE k F0;rw[Wb,Wb,Aoy,T8 j (k+1) F0,<-h1]
theorem uy:∀(j k:Nat),k+j<=l.length->uh (w:Int) (Wb (λi=>O9 w (Il b p f c w r n A l i)) j k)
 |0,k,_=>λx hx=>by simp[Wb]at hx
 |j+1,k,h=>by
  obtain⟨m,_,_,_,_,h1⟩:=Ajj o hE k F0;intro x hx;rw[Wb,List.mem_append]at hx;rcases hx with hx|hx
  ·exact h1 x hx
  ·exact uy j (k+1) F0 x hx
theorem Atf:∀(j:Nat),j<=l.length-> (Wb (λi=>O9 w (Il b p f c w r n A l i)) j 0).length=((Al (Ak r) n).take j).sum.toNat*c
 |0,_=>by simp[Wb]
 |j+1,h=>by
  obtain⟨m,h0,_,_,h1,_⟩:=Ajj o hE j F0;have hlen:=o.len;have hlt:j<(Al (Ak r) n).length:=F0
  rw[Bn hlt]at h0;have h0':=Axh h0;obtain⟨g1,g2,g3⟩:=QJ o.shape o.fit;have b:=nP g1 j;rw[Agy,Afz,Atf j F0,Bg2,h1,Kh hlt,h0'];rw[show(((Al (Ak r) n).take j).sum+(m:Int)).toNat=((Al (Ak r) n).take j).sum.toNat+m by omega,An5]
theorem T0:(Wb (λi=>O9 w (Il b p f c w r n A l i)) l.length 0).length=n*c:=by
 have hn:=(Kn o.shape).2.2.2.1;rw[Atf o hE l.length (An6 _),o.len,Bd0,sW hn];simp
theorem Aty:Jy (w:Int) (Wb (λi=>O9 w (Il b p f c w r n A l i)) l.length 0)=some (Wb (λi=>(Il b p f c w r n A l i).1) l.length 0,0):=by
 have hw:=(Kn o.shape).2.1;have hfit:n<=4000/c:=by have:=o.fit;simp only[Xn,Ahz]at this;exact this.1
 have hN:n*c<=4000:=by
  have h1:=Ajr c hfit;have h2:=Bjv 4000 c;omega
 have ht:=T0 o hE;rw[bC hw F0 (YO hw F0 (uy o hE l.length 0 F0)),T8 o hE l.length 0 F0]
end
theorem Axi{r:Nat}(h1:1<=r)(h:r<=1048576):Sp (r:Int)=some ((Ak r:Int),0):=by
 have hv:=Acz h;have e:Bi (r:Int) 256=Bi 256 (r:Int):=by rw[Fa,Fa];omega
 rw[Sp,Abu Bpo,e];have hq:0<=Bq (Bi 256 (r:Int)) 245:=by
  have e2:Bi 256 (r:Int)=((256*r:Nat):Int):=by rw[Fa];omega
  rw[e2,show(245:Int)=((245:Nat):Int)from rfl,GM];omega
 rw[Ait]at hv;by_cases hz:Bq (Bi 256 (r:Int)) 245=0
 ·rw[Adi (by rw[Ar];simpa using hz)];rw[hz]at hv;have:(1:Int)=(Ak r:Int):=F0
  rw[this]
 ·rw[Abu (by rw[Ar];simpa using hz)];have:Bq (Bi 256 (r:Int)) 245=(Ak r:Int):=F0
  rw[this]
theorem C1{r:Nat}(h:r<=1048576)(K:Nat)(hK:K<=1000):∀(j n q:Nat) (acc:LI),n<=4000->n<=j->j<q->acc.length+n<=10000-> (acc++(if n=0 then []else Al (Ak r) n)).length=K->Ei (Ak r:Int) q (n:Int) acc=some (acc++(if n=0 then []else Al (Ak r) n),0)
 |0,n,q+1,acc,hn,hj,hq,ha,hk=>by
  obtain rfl:n=0:=F0
  rw[Adi rfl,Ap3]at hk;rw[Ei,Io,Abu Bpz,Pb,Ul,Abu F9,Adi rfl,Ap3]
 |j+1,n,q+1,acc,hn,hj,hq,ha,hk=>by
  have hp:=Eh r;have hl:=TG h;by_cases h0:n=0
  ·subst h0;rw[Adi rfl,Ap3]at hk;rw[Ei,Io,Abu Bpz,Pb,Ul,Abu F9,Adi rfl,Ap3]
  ·rw[Ei,Io,Adi Bpn,Bf F7,Aa,IY];rw[Abu h0]at hk⊢;by_cases hs:n<=Ak r
   ·rw[show min (n:Int) (Ak r:Int)=(n:Int) by omega,Bv,Int.sub_self];have ih:=C1 h K hK j 0 q (acc++[(n:Int)]) F0 F0 F0 F7 (by rw[Adi rfl,Ap3];rw[RO hs F0]at hk;exact hk);rw[Adi rfl,Ap3]at ih;rw[RO hs F0];exact ih
   ·rw[show min (n:Int) (Ak r:Int)=(Ak r:Int) by omega,Bv,show(n:Int)-(Ak r:Int)=((n-Ak r:Nat):Int) by omega];have e:acc++Al (Ak r) n=(acc++[(Ak r:Int)])++Al (Ak r) (n-Ak r):=by rw[uY hp (show Ak r<n by omega)];simp
    have ih:=C1 h K hK j (n-Ak r) q (acc++[(Ak r:Int)]) F0 F0 F0 F7 (by rw[Abu F0,<-e];exact hk);rw[Abu F0,<-e]at ih;exact ih
theorem Bf4{r n:Nat}(h1:1<=r)(h:r<=1048576)(n1:1<=n)(n2:n<=4000)(hk:(n-1)/Ak r+1<=1000):∃z:Int,Hj (r:Int) (n:Int)=some (z,0):=by
 have hl:=C1 h (Al (Ak r) n).length (by rw[We];omega) n n Au [] n2 (An6 _) F8 F7 (by rw[Abu F0];rfl);rw[Hj,Vz,Pe,Axi h1 h,Aa];simp only;rw[Abu Bqc,DS,hl,Aa];exact⟨_,rfl⟩
section
variable {b p:LB} {f c w r n A:Nat} {l:LI} (o:Opn b p f c w r n A l)
include o
theorem Bfb{X:LX}{N:Nat}(hN:1<=N)(hNn:N<=n)(hX:X.length=N*c)(hr':uh (w:Int) X):Da (c:Int) (w:Int) (r:Int) X=some 0:=by
 obtain⟨hc,hw,hr,hn,_⟩:=Kn o.shape;have hfit:n<=4000/c/\ (n-1)/Ak r+1<=1000:=by have:=o.fit;simpa only[Xn,Ahz]using this
 have hX4:X.length<=4000:=by
  have h1:=Ajr c (Boy hNn hfit.1);have h2:=Bjv 4000 c;omega
 have hX1:1<=X.length:=by rw[hX];exact Boi hN F0
 have hhB:=JL (w:Int);have hq4:=D9 hc.1 hc.2;have hn4:n<=4000:=by have:=Ayq 4000 c;omega
 generalize 4000/c=mm at*
 have e20:Dd (c:Int) (w:Int)=some 0:=by
  rw[Dd,Abu Bpo,WI hw,Aa,Abu Bpm]
 have Bn5:Ha (Ac X) (c:Int)=0:=by
  rw[Ac,hX,DF,Bj2];rfl
 have eA:Ce (c:Int) (w:Int) X=some 0:=by
  rw[Ce,e20,Aa,Abu F2,YO hw hX4 hr',Aa,Abu F2,Abu F3,Bk Bpl,Aa,Bn5,Abu F2]
 have Bjx:Bq (Ac X) (c:Int)=(N:Int):=by rw[Ac,GM,hX,Bnc _ F0]
 have e21:Dm (c:Int) (w:Int) (N:Int)=some 0:=by
  rw[Dm,e20,Aa,Abu Bp4,Bk Bpl,Aa,hq4,Abu Bpn]
 obtain⟨z,e22⟩:=Bf4 hr.1 hr.2 hN F0 (by have:=Nat.div_le_div_right (c:=Ak r) (show N-1<=n-1 by omega);omega);rw[Da,Ft,Aa];simp only;rw[eA,Aa,Abu F2,Bk Bpl,Aa,Bjx,Zr,Ft,Aa];simp only;rw[e21,Aa,Abu F2,e22,Aa,Aa];rfl
end
theorem Bqn{p:Prop}(h:p:=by simp[Az];omega):p:=h
end Go.Pl
namespace Go.Pl
open Go Go.Lv
variable{n:Int}{m o b p:LB}{f:LQ}{x:LX}{d:List Bool}{k c a v w ch l N:Nat}
def xM(n:Nat):LB:=List.replicate (n %2) 0
def Y3(c k:LB):LB:=c++Fg k.length 4++k++xM k.length
def Xq(k m:LB):Nat:=20+k.length+k.length %2+m.length+m.length %2
def cR(k m:LB):LB:=[82,73,70,70]++Fg (Xq k m) 4++[87,65,86,69]++Y3 [102,109,116,32] k++Y3 [100,97,116,97] m
abbrev two(k m:LB):List (LB×LB×Unit):=[([102,109,116,32],k,()),([100,97,116,97],m,())]
theorem Bbx(n:Nat)(h:n<4611686018427387904):Ez (n:Int) (1:Int)=((n %2:Nat):Int):=by
 have e:Ez (n:Int) (1:Int)=wrap64 ((BitVec.ofInt 64 (n:Int)&&&BitVec.ofInt 64 1).toNat:Int):=rfl;rw[e,Bo3,Bi4,Bi4];have h1:((n:Int) %((2^64:Nat):Int)).toNat=n:=F0
 have h2:((1:Int) %((2^64:Nat):Int)).toNat=2^1-1:=F2
 rw[h1,h2,Bko,Cz F0 F0]
theorem Bat:∃q,Au=q+1+1+1:=⟨Au-3,by have:=As;omega⟩
theorem nY(k m:LB):Ac (two k m)=2:=rfl
theorem Ba8(k m:LB):Am (two k m) 0=some ([102,109,116,32],k,()):=rfl
theorem Bac(k m:LB):Am (two k m) 1=some ([100,97,116,97],m,()):=rfl
theorem g01:Ae (0:Int) 1=1:=F2
theorem g11:Ae (1:Int) 1=2:=F2
theorem Bg1{k:LB}(hk:k.length<=100)(hm:m.length<=20000):PA (two k m)=some ((Xq k m:Nat):Int):=by
 obtain⟨q,hq⟩:=Bat;rw[PA,nD,G3,hq,BU,KU,nY,Adi F2,Ba8,Aa,g01,BU,KU,nY,Adi F2,Bac,Aa,g11,BU,KU,nY,Abu F2,mS,O1];simp only[Ac];rw[Bbx _ F0,Bbx _ F0];have h1:Ae (8:Int) (k.length:Int)=8+(k.length:Int):=Ag;have h2:Ae (8:Int) (m.length:Int)=8+(m.length:Int):=Ag;have h3:Ae (8+(k.length:Int)) ((k.length %2:Nat):Int)=8+(k.length:Int)+((k.length %2:Nat):Int):=Ag;have h4:Ae (8+(m.length:Int)) ((m.length %2:Nat):Int)=8+(m.length:Int)+((m.length %2:Nat):Int):=Ag;have h5:Ae (4:Int) (8+(k.length:Int)+((k.length %2:Nat):Int))=4+(8+(k.length:Int)+((k.length %2:Nat):Int)):=Ag;rw[h1,h2,h3,h4,h5,Ag];unfold Xq;congr 1;omega
theorem Bl4(k:LB):KR [102,109,116,32] k=some false:=by kernel_rfl
theorem Bki(k:LB):KR [100,97,116,97] k=some false:=by kernel_rfl
theorem Bji{k:LB}(hk:k.length<=100)(hm:m.length<=20000):AL [87,65,86,69] (two k m)=some 0:=by
 obtain⟨q,hq⟩:=Bat;rw[AL,QW,nY,Abu F2,show Sg [87,65,86,69]=some true from by kernel_rfl,Aa,Abu F2,Bg1 hk hm,Aa,Abu (by
  rw[Ag (by unfold Xq;omega) (by unfold Xq;omega),Ap];unfold Xq;simp;omega)]
 rw[tJ,hq,Vm,BF,nY,Adi F2,Ba8,Aa];dsimp only;rw[Bl4,Aa,MQ,aR,Abu F2,ZQ,aT,g01,Vm,BF,nY,Adi F2,Bac,Aa];dsimp only;rw[Bki,Aa,MQ,aR,Abu F2,ZQ,aT,g11,Vm,BF,nY,Abu F2,bY,sF,aQ,sP,BB,tM,Abu F2,vD,sA]
theorem As8{id:LB}{n:Nat}(ho:o.length<=100000)(hi:id.length<=4)(hn:n<4294967296):YL o id (n:Int)=some (o++id++Fg n 4):=by
 have h1:(UInt64.ofNat n).toNat=n:=by rw[Ajs];omega
 have h:=MB (UInt64.ofNat n) 4 F0 F0 (by rw[h1];omega);rw[h1]at h;rw[YL,Mx,show(4:Int)=((4:Nat):Int)from rfl,h,Aa];simp only;rw[Bf,Aa,Bf Bqn]
theorem Blq{k:LB}{c:LB}{l:List (LB×LB×Unit)}(ho:o.length<=60000)(hc:c.length<=4)(hk:k.length<=20000):SG ((c,k,())::l) o=SG l (o++Y3 c k):=by
 rw[SG];dsimp only;rw[show Ac k=((k.length:Nat):Int)from rfl,As8 F0 hc F0,Aa,Bf Bqn,Aa,Bbx _ F0,pM,Aa,Ajx,Bf Bqn,Aa];unfold Y3 xM;simp only[Ajp]
theorem Ao1{k:LB}(hk:k.length<=100)(hm:m.length<=20000):QR [87,65,86,69] (two k m)=some (cR k m,0):=by
 rw[QR,Bji hk hm,Aa,Abu F2,Bg1 hk hm,Aa,As8 Bpj Bpj (by unfold Xq;omega),Aa,Bf Bpu,Aa,Blq Bpu Bpj F0,Blq (by simp[Y3,xM,Az];omega) Bpj hm,SG,Aa];unfold cR;simp only[Awv,Ajp]
def Ao9(c w r:Int)(g:UInt64):LB:=
 Fg g.toNat 2++Fg (Ad c:UInt64).toNat 2++Fg (Ad r:UInt64).toNat 4++Fg (Bi (Ad r:UInt64) (Ad (Bq (Bi c w) 8):UInt64)).toNat 4++Fg (Ad (Bq (Bi c w) 8):UInt64).toNat 2++Fg (Ad w:UInt64).toNat 2
theorem CT{a:Bool}{h:Int}{v:UInt64}(q:Nat)(hn:h<n)(hg:Am f h=some v)(hw:Am ([(2:Int),(2:Int),(4:Int),(4:Int),(2:Int),(2:Int),(2:Int),(2:Int),(4:Int)]:LI) h=some (k:Int))
  (h1:1<=k) (h8:k<=8) (hv:v.toNat<256^k) (hb:b.length<=100):Fh a n f (q+1) h b=Fh a n f q (Ae h 1) (b++Fg v.toNat k):=by
 rw[Fh,Un,Adi (by rw[Af];simpa using hn),hg,Aa,Aa,hw,Aa,MB v k h1 h8 hv,Aa];simp only;rw[Bf Bqn,Aa]
theorem Ayr:∃q,Au=q+1+1+1+1+1+1+1+1+1+1:=⟨Au-10,by have:=As;omega⟩
theorem Bgq{v0 v1 v2 v3 v4 v5:UInt64}{t:LQ}(h0:v0.toNat<65536)(h1:v1.toNat<65536)(h2:v2.toNat<4294967296)(h3:v3.toNat<4294967296)(h4:v4.toNat<65536)(h5:v5.toNat<65536)(a:Bool)(n:Int)(hn:6<=n):
  ∃q,OS a n (v0::v1::v2::v3::v4::v5::t) 0 []=Fh a n (v0::v1::v2::v3::v4::v5::t) (q+1+1+1+1) 6 (Fg v0.toNat 2++Fg v1.toNat 2++Fg v2.toNat 4++Fg v3.toNat 4++Fg v4.toNat 2++Fg v5.toNat 2):=by
 obtain⟨q,hq⟩:=Ayr;refine⟨q,?_⟩;have e:∀i:Nat,i<10->Ae ((i:Nat):Int) 1=((i+1:Nat):Int):=λi hi=>by rw[Ag];omega
 rw[OS,hq,
  CT (k:=2) _ F0 (show _=some v0 from rfl) rfl F0 F0 h0 Bpj,show Ae (0:Int) 1=1 from e 0 F0,
  CT (k:=2) _ F0 (show _=some v1 from rfl) rfl F0 F0 h1 Bpu,show Ae (1:Int) 1=2 from e 1 F0,
  CT (k:=4) _ F0 (show _=some v2 from rfl) rfl F0 F0 h2 Bpu,show Ae (2:Int) 1=3 from e 2 F0,
  CT (k:=4) _ F0 (show _=some v3 from rfl) rfl F0 F0 h3 Bpu,show Ae (3:Int) 1=4 from e 3 F0,
  CT (k:=2) _ F0 (show _=some v4 from rfl) rfl F0 F0 h4 Bpu,show Ae (4:Int) 1=5 from e 4 F0,
  CT (k:=2) _ F0 (show _=some v5 from rfl) rfl F0 F0 h5 Bpu,show Ae (5:Int) 1=6 from e 5 F0]
 simp only[Awv]
theorem Azv(q:Nat):Fh false n f (q+1) n b=some b:=by
 rw[Fh,Un,Abu Bpr,CQ,QV,Abu F2]
def Ach:LB:=[1,0,0,0,0,0,16,0,128,0,0,170,0,56,155,113]
theorem Awm(hb:b.length<=100)(q:Nat):Fh true n f (q+1) n b=some (b++Ach):=by
 rw[Fh,Un,Abu Bpr,CQ,QV,Adi rfl,show Br ([1,0,0,0,0,0,16,0,128,0,0,170,0,56,155,113]:LB) 0 16=some Ach from by kernel_rfl,Aa,Bf (by simp[Ach];omega),Aa]
theorem Ar9(h1:1<=c)(h6:c<=6):(Ad (Aq (Du (1:UInt32) (GI.toZ (Ad (c:Int):UInt64)).toNat) 1):UInt64)=Aq (Du (1:UInt64) (GI.toZ (c:Int)).toNat) 1/\ (Aq (Du (1:UInt64) (GI.toZ (c:Int)).toNat) 1).toNat<4294967296:=by
 have:c=1\/c=2\/c=3\/c=4\/c=5\/c=6:=F0
 rcases this with rfl|rfl|rfl|rfl|rfl|rfl<;>exact⟨by kernel_rfl,F2⟩
theorem Bap(h1:1<=c)(h6:c<=6)(hw:Bd (w:Int)){R:UInt64}(hR:R.toNat<=1048576):
  (Ad (c:Int):UInt64).toNat<65536/\ (Ad (Bq (Bi (c:Int) (w:Int)) 8):UInt64).toNat<65536/\ (Ad (w:Int):UInt64).toNat<65536/\ (Bi R (Ad (Bq (Bi (c:Int) (w:Int)) 8):UInt64)).toNat<4294967296:=by
 have hc:c=1\/c=2\/c=3\/c=4\/c=5\/c=6:=F0
 have hw':w=8\/w=16\/w=24:=by unfold Bd at hw;omega
 have key:∀B:UInt64,B.toNat<=18-> (Bi R B).toNat<4294967296:=λB hB=>by
  have e:Bi R B=UInt64.ofNat (R.toNat*B.toNat):=by
   show GI.ofZ (((R.toNat:Nat):Int)*((B.toNat:Nat):Int))=_;rw[<-Aw3];exact Gj _
  have:=Bhr hR hB;rw[e,Ajs,Ajb F0];omega
 rcases hc with rfl|rfl|rfl|rfl|rfl|rfl<;>rcases hw' with rfl|rfl|rfl<;>exact⟨F2,F2,F2,key _ F2⟩
theorem X1{r:Nat}(h1:1<=c)(h6:c<=6)(hw:Bd (w:Int))(hr1:1<=r)(hr:r<=1048576):Ra (c:Int) (w:Int) (r:Int)=some 0:=by
 rw[Ra,Abu Bpo];have hw':w=8\/w=16\/w=24:=by unfold Bd at hw;omega
 rcases hw' with rfl|rfl|rfl
 ·rw[Adi F2,Adi F2]
 ·rw[Abu F2,Adi F2,Adi F2]
 ·rw[Abu F2,Abu F2,Adi F2]
theorem wu(c w r:Int)(g:UInt64):(Ao9 c w r g).length=16:=by simp[Ao9,Az]
theorem Ax1(a b:Int32):a-(a-b)=b:=by
 apply Int32.toBitVec_inj.1;simp only[Int32.toBitVec_sub];apply Bob;simp only[BitVec.toNat_sub];have:=a.toBitVec.isLt;have:=b.toBitVec.isLt;omega
theorem eY(a b:Int32):a-b+b=a:=by
 apply Int32.toBitVec_inj.1;simp only[Int32.toBitVec_sub,Int32.toBitVec_add];apply Bob;simp only[BitVec.toNat_sub,BitVec.toNat_add];have:=a.toBitVec.isLt;have:=b.toBitVec.isLt;omega
def mxV(f:Nat->Int32)(ch i:Nat):Int32:=if i+1<ch then f (i+1)-f i else if 1<ch then f (ch-1)-Bq (f (ch-1)-f (ch-2)) (2:Int32)else f (ch-1)
theorem Azs{f g:Nat->Int32}{ch:Nat}(h1:1<=ch)(h:∀i,i<ch->f i=mxV g ch i):∀j,j<ch->unV f ch j=g (ch-1-j)
 |0,_=>by
  rw[unV];by_cases h2:1<ch
  ·rw[Adi h2,h (ch-1) F0,h (ch-2) F0,mxV,mxV,Abu F0,Adi h2,Adi F0,show ch-2+1=ch-1 by omega,eY,Nat.sub_zero]
  ·rw[Abu h2,h (ch-1) F0,mxV,Abu F0,Abu h2,Nat.sub_zero]
 |j+1,hj=>by
  rw[unV,Azs h1 h j F0,h (ch-2-j) F0,mxV,Adi F0,show ch-2-j+1=ch-1-j by omega,Ax1];congr 1;omega
def mx(ch:Nat)(x:LX):LX:=(List.range x.length).map λk=>mxV (λi=>x.getD (k-k %ch+i) 0) ch (k %ch)
theorem ZO(ch:Nat)(x:LX):(mx ch x).length=x.length:=by simp[mx]
theorem Ayf(h:k<x.length):(mx ch x).getD k 0=mxV (λi=>x.getD (k-k %ch+i) 0) ch (k %ch):=by
 rw[Km (by rw[ZO];exact h)];simp[mx]
theorem Bjc(h1:1<=ch)(hm:x.length %ch=0):tq ch (mx ch x)=x:=by
 apply Bit (by rw[nK,ZO]);intro k hk1 hk2;have hr:=Bl6 k (show 0<ch by omega);have hle:=Bow k ch;have ha:(k-k %ch) %ch=0:=Nat.mod_eq_zero_of_dvd (Nat.dvd_sub_mod k);have hb:=K2 ha hm F0;have e:=L6 (m:=mx ch x) ha hr (by rw[ZO];omega);rw[show k-k %ch+k %ch=k by omega]at e;rw[<-Km hk1,<-Km hk2,e];rw[Azs (g:=λi=>x.getD (k-k %ch+i) 0) h1 (λi hi=>?_) (ch-1-k %ch) F0]
 ·congr 1;omega
 ·rw[Ayf F0];have h2:(k-k %ch+i) %ch=i:=by rw[Nat.add_mod,ha,Bg2,Nat.mod_mod,Ajb hi]
  rw[h2,show k-k %ch+i-i=k-k %ch by omega]
def uA(x:Int32):UInt32:=UInt32.ofNat (if 0<=x.toInt then 2*x.toInt.toNat else 2*(-x.toInt-1).toNat+1)
theorem Azk(x:Int32):ZC (uA x)=x:=by
 have h:=DW x;have e:(uA x).toNat=if 0<=x.toInt then 2*x.toInt.toNat else 2*(-x.toInt-1).toNat+1:=by
  rw[uA,Asg];split<;>exact Ajb F0
 rw[ZC,e];by_cases h0:0<=x.toInt
 ·rw[Adi h0,Adi F0,show((2*x.toInt.toNat/2:Nat):Int)=x.toInt by omega,Bjl]
 ·rw[Abu h0,Abu F0,show -(((2*(-x.toInt-1).toNat+1)/2:Nat):Int)-1=x.toInt by omega,Bjl]
theorem Afe{α:Type}(ch c:Nat)(f g:α->Nat->α)(a0:α):∀m:Nat,(∀i,i<m->∀a,f a i=g a i)->pre ch c f a0 m=pre ch c g a0 m
 |0,_=>rfl
 |m+1,h=>by
  rw[pre,pre,Afe ch c f g a0 m λi hi=>h i F0,h m F0]
theorem Ase(bits:Int)(ch:Nat)(t:LX)(v w:LU)(c i:Nat)(h:i<=v.length):cst bits ch t (v++w) c i=cst bits ch t v c i:=by
 unfold cst;apply Afe;intro j hj a;have:(v++w).getD j 0=v.getD j 0:=by
  rw[List.getD_eq_getElem?_getD,List.getD_eq_getElem?_getD,List.getElem?_append_left F0]
 rw[this]
def oq(bits:Int)(s:CS)(x:Int32):Int32:=x-gs (shB bits) s.1-gF (sB bits) s.2.1 s.2.2
theorem Afk(bits:Int)(s:CS)(x:Int32):Aj2 bits s (oq bits s x)=x:=by
 rw[Aj2,oq,eY,eY]
def evl(bits:Int)(ch:Nat)(t m:LX):Nat->LU
 |0=>[]
 |i+1=>evl bits ch t m i++[uA (oq bits (cst bits ch t (evl bits ch t m i) (i %ch) i) (m.getD i 0))]
theorem wN(bits:Int)(ch:Nat)(t m:LX):∀i,(evl bits ch t m i).length=i
 |0=>rfl
 |i+1=>by rw[evl,Afz,wN bits ch t m i];rfl
theorem Ai5(bits:Int)(ch:Nat)(t m:LX):∀(j i:Nat),∃w,evl bits ch t m (i+j)=evl bits ch t m i++w
 |0,i=>⟨[],Bpj⟩
 |j+1,i=>by
  obtain⟨w,hw⟩:=Ai5 bits ch t m j i;rw[<-Bhe,evl,hw];exact⟨_,Ajp _ _ _⟩
theorem Bcr(bits:Int)(ch:Nat)(t m:LX):J1 bits ch t (evl bits ch t m m.length)=m:=by
 have hl:=wN bits ch t m m.length;apply Bit (by rw[nZ,hl]);intro i h1 h2;rw[<-Km h1,<-Km h2,Aiv _ _ _ _ F0];obtain⟨w,hw⟩:=Ai5 bits ch t m (m.length-(i+1)) (i+1);rw[show i+1+(m.length-(i+1))=m.length by omega,evl,Ajp]at hw;have hli:=wN bits ch t m i;rw[hw,Ase _ _ _ _ _ _ _ F0];have hg:(evl bits ch t m i++([uA (oq bits (cst bits ch t (evl bits ch t m i) (i %ch) i) (m.getD i 0))]++w)).getD i 0=uA (oq bits (cst bits ch t (evl bits ch t m i) (i %ch) i) (m.getD i 0)):=by
  rw[List.getD_eq_getElem?_getD,List.getElem?_append_right F0,hli,Nat.sub_self];rfl
 rw[hg,Azk,Afk]
def tb(l:List Bool)(k:Nat):Nat:=if l.getD k false=true then 1 else 0
theorem Aqw(b:Bool)(l:List Bool):tb (b::l) 0=if b=true then 1 else 0:=rfl
theorem Aru(b:Bool)(l:List Bool)(k:Nat):tb (b::l) (k+1)=tb l k:=by simp[tb]
theorem Ar3{a b:List Bool}(h:k<a.length):tb (a++b) k=tb a k:=by
 rw[tb,tb,List.getD_eq_getElem?_getD,List.getD_eq_getElem?_getD,List.getElem?_append_left h]
theorem Ahk(a b:List Bool)(k:Nat):tb (a++b) (a.length+k)=tb b k:=by
 rw[tb,tb,List.getD_eq_getElem?_getD,List.getD_eq_getElem?_getD,List.getElem?_append_right F0,Bj7]
theorem Aij{l:List Bool}(h:l.length<=k):tb l k=0:=by
 rw[tb,List.getD_eq_getElem?_getD,List.getElem?_eq_none h];rfl
def At(p:LB)(a:Nat)(c:List Bool):Prop:=∀i,i<c.length->Hv p (a+i)=tb c i
theorem At.left{c:List Bool}(h:At p a (c++d)):At p a c:=λi hi=>by
 rw[h i Bpx,Ar3 hi]
theorem At.right{c:List Bool}(h:At p a (c++d)):At p (a+c.length) d:=λi hi=>by
 rw[Bhe,h (c.length+i) Bpx,Ahk]
theorem At.cons{b:Bool}{c:List Bool}(h:At p a (b::c)):Hv p a=(if b=true then 1 else 0)/\At p (a+1) c:=by
 have h0:=h 0 Bpj;rw[Bli,Aqw]at h0;refine⟨h0,λi hi=>?_⟩;have:=h (i+1) F7;rw[Aru]at this;rw[show a+1+i=a+(i+1) by omega,this]
def oQ:Nat->Nat->List Bool
 |_,0=>[]
 |v,n+1=>decide (v %2=1)::oQ (v/2) n
theorem Uq:∀(v n:Nat),(oQ v n).length=n
 |_,0=>rfl
 |v,n+1=>by rw[oQ,Ary,Uq (v/2) n]
theorem PG(p:LB):∀(n a v:Nat),At p a (oQ v n)->Cf p a n=v %2^n
 |0,a,v,_=>by rw[Cf,Nat.pow_zero,Nat.mod_one]
 |n+1,a,v,h=>by
  rw[oQ]at h;obtain⟨h0,h1⟩:=h.cons;rw[Cf,h0,PG p n (a+1) (v/2) h1,Bgy,Aw7 (2^n) 2,Nat.mod_mul];have:=Nat.mod_two_eq_zero_or_one v;rcases this with e|e<;>simp[e]
theorem Aah(p:LB):∀(q m a:Nat) (c:List Bool),At p a (List.replicate q true++c)->q<=m->He p a m=q+He p (a+q) (m-q)
 |0,m,a,c,h,hm=>by simp
 |q+1,m,a,c,h,hm=>by
  rw[Bj5,Bmf]at h;obtain⟨h0,h1⟩:=h.cons;obtain⟨m,rfl⟩:∃k,m=k+1:=⟨m-1,F0⟩;rw[He,Adi (by rw[h0];rfl),Aah p q m (a+1) c h1 F0,show a+1+q=a+(q+1) by omega,show m+1-(q+1)=m-q by omega];omega
theorem Bcu{m:Nat}(h:Hv p a=0):He p a m=0:=by
 cases m with
 |zero=>rfl
 |succ m=>rw[He,Abu F0]
def ZU(l v:Nat):List Bool:=if 48<=v/2^l then List.replicate 48 true++oQ v 32 else List.replicate (v/2^l) true++(false::oQ (v %2^l) l)
theorem Avs(hl:l<=24):1<= (ZU l v).length/\ (ZU l v).length<=80:=by
 rw[ZU];generalize v/2^l=q;split
 ·rw[Afz,Aw4,Uq];omega
 ·rw[Afz,Aw4,Ary,Uq];omega
theorem Atv(hl:l<=24)(hv:v<2^32)(h:At p a (ZU l v))(hN:a+(ZU l v).length<=N):YY p N a l=(UInt32.ofNat v,((a+(ZU l v).length:Nat):Int),0):=by
 rw[ZU]at h hN⊢;by_cases h48:48<=v/2^l
 ·rw[Adi h48]at h hN⊢;rw[Afz,Aw4,Uq]at hN⊢;have hm:min 48 (N-a)=48:=F0
  have ho:=Aah p 48 48 a (oQ v 32) h (An6 _);rw[Nat.sub_self,He,Bli]at ho;have hr:=h.right;rw[Aw4]at hr;have hval:=PG p 32 (a+48) v hr;rw[Ajb hv]at hval;rw[YY,Abu F0,hm,ho,Abu F0,Adi rfl,Abu F0,hval,Abu F0]
 ·rw[Abu h48]at h hN⊢;rw[Afz,Aw4,Ary,Uq]at hN⊢;generalize hq:v/2^l=q at*
  have hr:=h.right;rw[Aw4]at hr;obtain⟨h0,h1⟩:=hr.cons;have hm:q<min 48 (N-a):=F0
  have ho:=Aah p q (min 48 (N-a)) a _ h F0;rw[Bcu (a:=a+q) (m:=min 48 (N-a)-q) (by rw[h0];rfl),Bli]at ho;have hval:=PG p l (a+q+1) (v %2^l) h1;rw[Nat.mod_mod]at hval;have hdm:=Bm9 v (2^l);rw[hq,Aw7]at hdm;rw[YY,Abu F0,ho,Adi hm,Abu F0,hval,hdm,show a+q+1+l=a+(q+(l+1)) by omega]
def Tz(k l:Nat)(v:UInt32):List Bool:=if v.toNat<2^k then false::oQ v.toNat k else true::ZU l (v.toNat-2^k)
theorem iV(v:UInt32)(hk:k<=24)(hl:l<=24):1<= (Tz k l v).length/\ (Tz k l v).length<=81:=by
 have:=Avs (v:=v.toNat-2^k) hl;rw[Tz];split
 ·rw[Ary,Uq];omega
 ·rw[Ary];omega
theorem Av2{v:UInt32}(hk:k<=24)(hl:l<=24)(h:At p a (Tz k l v))(hN:a+(Tz k l v).length<=N):iL p N a k l=(v,((a+(Tz k l v).length:Nat):Int),0):=by
 have Bqs:=v.toNat_lt;have hof:UInt32.ofNat v.toNat=v:=by simp
 rw[Tz]at h hN⊢;by_cases hs:v.toNat<2^k
 ·rw[Adi hs]at h hN⊢;rw[Ary,Uq]at hN⊢;obtain⟨h0,h1⟩:=h.cons;have hval:=PG p k (a+1) v.toNat h1;rw[Ajb hs]at hval;rw[iL,Abu F0,Adi (by rw[h0];rfl),Abu F0,hval,hof,show a+1+k=a+(k+1) by omega]
 ·rw[Abu hs]at h hN⊢;rw[Ary]at hN⊢;obtain⟨h0,h1⟩:=h.cons;have hsub:=Nat.sub_le v.toNat (2^k);have hr:=Atv hl (by omega:v.toNat-2^k<2^32) h1 (by omega:a+1+_<=N);have ht:(UInt32.ofNat (v.toNat-2^k)).toNat=v.toNat-2^k:=by rw[Asg];exact Ajb F0
  rw[iL,Abu F0,Abu (by rw[h0];decide),hr];simp only;rw[Abu F2,ht,Abu F0,show v.toNat-2^k+2^k=v.toNat by omega,hof,show a+1+(ZU l (v.toNat-2^k)).length=a+((ZU l (v.toNat-2^k)).length+1) by omega]
def bv:List Bool->Nat
 |[]=>0
 |b::r=>(if b=true then 1 else 0)+2*bv r
theorem Bg7:∀l:List Bool,bv l<2^l.length
 |[]=>by decide
 |b::r=>by
  have:=Bg7 r;rw[bv,Ary,Bgy];split<;>omega
theorem Azw:∀(l:List Bool) (k:Nat),bv l/2^k %2=tb l k
 |[],k=>by simp[bv,tb]
 |b::r,0=>by
  rw[bv,Aqw,Nat.pow_zero,Nat.div_one];split<;>omega
 |b::r,k+1=>by
  have:((if b=true then 1 else 0)+2*bv r)/2=bv r:=by split<;>omega
  rw[bv,Aru,Bgy,Aw7 (2^k) 2,<-Bmt,this,Azw r k]
def Na(c:List Bool):LB:=(List.range ((c.length+7)/8)).map λj=>UInt8.ofNat (bv ((c.drop (8*j)).take 8))
theorem Xw(c:List Bool):(Na c).length=(c.length+7)/8:=by simp[Na]
theorem HI(c:List Bool)(i:Nat):Hv (Na c) i=tb c i:=by
 rw[Hv];by_cases h:i/8<(c.length+7)/8
 ·have hg:(Na c).getD (i/8) 0=UInt8.ofNat (bv ((c.drop (8*(i/8))).take 8)):=by
   rw[List.getD_eq_getElem?_getD,List.getElem?_eq_getElem (by rw[Xw];exact h)];simp[Na]
  have hlt:=Bg7 ((c.drop (8*(i/8))).take 8);have hl8:((c.drop (8*(i/8))).take 8).length<=8:=by rw[Anb];omega
  have hp:=Anl (show 0<2 by omega) hl8;have hn:(UInt8.ofNat (bv ((c.drop (8*(i/8))).take 8))).toNat=bv ((c.drop (8*(i/8))).take 8):=by
   rw[Aw5];exact Ajb F0
  rw[hg,hn,Azw,tb,tb];have:((c.drop (8*(i/8))).take 8).getD (i %8) false=c.getD i false:=by
   rw[List.getD_eq_getElem?_getD,List.getD_eq_getElem?_getD,List.getElem?_take,Adi F0,List.getElem?_drop,show 8*(i/8)+i %8=i by omega]
  rw[this]
 ·have hg:(Na c).getD (i/8) 0=0:=by
   rw[List.getD_eq_getElem?_getD,List.getElem?_eq_none (by rw[Xw];omega)];rfl
  rw[hg,Aij F0];simp
def To(ch:Nat)(V:LU):Nat->List Bool
 |0=>[]
 |i+1=>To ch V i++Tz (now ch (V.take i)).1 (now ch (V.take i)).2.1 (V.getD i 0)
theorem Ag6(ch:Nat)(v:LU):(now ch v).1<=24/\ (now ch v).2.1<=24:=by
 have:=sX ch v (v.length %ch) v.length;exact⟨this.1,this.2.1⟩
theorem Alh(ch:Nat)(V:LU):∀(j i:Nat),∃w,To ch V (i+j)=To ch V i++w
 |0,i=>⟨[],Bpj⟩
 |j+1,i=>by
  obtain⟨w,hw⟩:=Alh ch V j i;rw[<-Bhe,To,hw];exact⟨_,Ajp _ _ _⟩
theorem jB(ch:Nat)(V:LU):∀i,(To ch V i).length<=81*i
 |0=>by simp[To]
 |i+1=>by
  have h:=Ag6 ch (V.take i);have:=iV (V.getD i 0) h.1 h.2;rw[To,Afz];have:=jB ch V i;omega
theorem Ago(ch:Nat)(V:LU)(N:Nat)(hN:(To ch V V.length).length<=N):∀(j i:Nat),i+j=V.length->Xt ch (Na (To ch V V.length)) N j (To ch V i).length (V.take i)=(V,(To ch V V.length).length,0)
 |0,i,h=>by
  obtain rfl:i=V.length:=F0
  rw[Xt,Bd0]
 |j+1,i,h=>by
  obtain⟨w,hw⟩:=Alh ch V j (i+1);rw[show i+1+j=V.length by omega]at hw;have hk:=Ag6 ch (V.take i);have hcl:=iV (V.getD i 0) hk.1 hk.2;have hAt:At (Na (To ch V V.length)) (To ch V i).length (Tz (now ch (V.take i)).1 (now ch (V.take i)).2.1 (V.getD i 0)):=by
   intro m hm;rw[HI,hw,To,Ajp,Ahk,Ar3 hm]
  have hlen:(To ch V i).length+(Tz (now ch (V.take i)).1 (now ch (V.take i)).2.1 (V.getD i 0)).length<= (To ch V V.length).length:=by
   rw[hw,To,Afz,Afz];omega
  have ih:=Ago ch V N hN j (i+1) F0;rw[To,Afz]at ih;generalize Na (To ch V V.length)=p at*
  generalize(To ch V i).length=a at*
  have hw2:(Tz (now ch (V.take i)).1 (now ch (V.take i)).2.1 (V.getD i 0)).length<=P3 N a:=by unfold P3;omega
  have hAt2:At (Sf p a (P3 N a)) 0 (Tz (now ch (V.take i)).1 (now ch (V.take i)).2.1 (V.getD i 0)):=by
   intro m hm;rw[Bg2,E4,Adi F0,hAt m hm]
  have hb:=Av2 hk.1 hk.2 hAt2 (by omega:0+_<=P3 N a);have hcode:Od ch p N a (V.take i)=(V.getD i 0,((0+(Tz (now ch (V.take i)).1 (now ch (V.take i)).2.1 (V.getD i 0)).length:Nat):Int),0):=hb;rw[Xt,hcode];simp only;rw[Abu F2,Bg2,Ajx];have ht:V.take i++[V.getD i 0]=V.take (i+1):=by
   have hg:V.getD i 0=V[i]:=by rw[List.getD_eq_getElem?_getD,List.getElem?_eq_getElem F0];rfl
   rw[hg,Jq F0]
  rw[ht];exact ih
end Go.Pl
