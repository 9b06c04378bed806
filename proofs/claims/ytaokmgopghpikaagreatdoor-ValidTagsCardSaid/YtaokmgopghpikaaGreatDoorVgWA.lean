/- A part of a proof (see the text that ends in Proof). No conditions. -/
import Derived.Test.YtaokmgopghpikaaGreatDoorVgPA
set_option linter.unusedVariables false
set_option linter.unusedSimpArgs false
namespace Go.Lv
variable{a b:Int}{l:List UInt8}{n:Nat}{α:Type}
theorem Ag(h: -9223372036854775808<=a+b:=by omega)(h':a+b<=9223372036854775807:=by omega):Ae a b=a+b:=by rw[Ar8,Bq h h']
theorem Bi(h: -9223372036854775808<=a-b:=by omega)(h':a-b<=9223372036854775807:=by omega):Ah a b=a-b:=by rw[Asl,Bq h h']
theorem Gp(h: -9223372036854775808<=a*b:=by omega)(h':a*b<=9223372036854775807:=by omega):Bd a b=a*b:=by rw[uL,Bq h h']
theorem NZ(c:UInt8):(Ad c:Int)=(c.toNat:Int):=by rw[Aj7,Bq]<;>have:=c.toNat_lt<;>omega
theorem Avw(c:UInt32):(Ad c:Int)=(c.toNat:Int):=by rw[Age,Bq]<;>have:=c.toNat_lt<;>omega
theorem nR(c:UInt8):(Ad c:UInt64)=UInt64.ofNat c.toNat:=by simp only[Ad,Zq,Gx]
theorem Ct(c:UInt32):(Ad c:UInt64)=UInt64.ofNat c.toNat:=by simp only[Ad,Vz,Gx]
theorem RF(c:UInt64):(Ad c:UInt8)=UInt8.ofNat c.toNat:=by simp only[Ad,Ib,Lo]
theorem nZ(c:UInt32):(Ad c:UInt8)=UInt8.ofNat c.toNat:=by simp only[Ad,Vz,Lo]
theorem Sr(n:Nat):(Ad (n:Int):UInt64)=UInt64.ofNat n:=by simp only[Ad];exact Gx n
theorem Aey(n:Nat):(Ad (n:Int):UInt32)=UInt32.ofNat n:=by simp only[Ad];exact En n
theorem H_(n:Nat):(Ad (n:Int):UInt8)=UInt8.ofNat n:=by simp only[Ad];exact Lo n
theorem uS{c:UInt64}(h:c.toNat<9223372036854775808):(Ad c:Int)=(c.toNat:Int):=by rw[Af7,Bq]<;>omega
theorem qY:Q8=17179869184:=F6
theorem Ao:36893488147419103231<Aq:=F6
theorem Cf{l:List α}(h:n<l.length:=by omega):Aj l (n:Int)=some l[n]:=by simp[Aj,h]
theorem Ra{l:List α}(x:α)(h:n<l.length):He l (n:Int) x=some (l.set n x):=by simp[He,h]
theorem Qo{l:List α}(h:0<=a:=by omega)(h1:a<=b:=by omega)(h2:b<=l.length:=by omega):Ca l a b=some ((l.take b.toNat).drop a.toNat):=by rw[Ca,A4 ⟨h,h1,h2⟩]
theorem Hb{l:List α}(h:0<=a:=by omega)(h1:a<=l.length:=by omega):Ca l a (Ac l)=some (l.drop a.toNat):=by
 unfold Ac;rw[Qo h h1 (Int.le_refl _),F?,RN]
theorem Ji{l:List α}(h:0<=b:=by omega)(h1:b<=l.length:=by omega):Ca l 0 b=some (l.take b.toNat):=by rw[Qo (Int.le_refl _) h h1];rfl
theorem Bu{l m:List α}(h:l.length+m.length<=17179869184:=by omega):Cm l m=some (l++m):=by rw[Cm,qY,A4 h]
theorem rK{n:Int}{z:α}(h:0<=n:=by omega)(h':n<=17179869184:=by omega):vg n z=some (List.replicate n.toNat z):=by rw[vg,qY,A4 ⟨h,h'⟩]
theorem At7:Hu true=some ():=rfl
theorem Bf{b:Bool}(h:b=true):Hu b=some ():=by rw[h];rfl
theorem Aa{β:Type}(a:α)(f:α->Option β):Option.bind (some a) f=f a:=rfl
theorem drop_cons{l:List α}(h:n<l.length):l.drop n=l[n]::l.drop (n+1):=lA h
theorem Mx{l:List α}(h:n<l.length):l.take (n+1)=l.take n++[l[n]]:=by rw[List.take_add_one,KV h];rfl
def Eh:List UInt8->Nat
 |[]=>0
 |x::r=>x.toNat+256*Eh r
theorem um:∀l:List UInt8,Eh l<256^l.length
 |[]=>by simp[Eh]
 |x::r=>by
  have h:=um r;have:=x.toNat_lt;simp only[Eh,I!,KZ];omega
theorem B0:∀l m:List UInt8,Eh (l++m)=Eh l+256^l.length*Eh m
 |[],m=>by simp[Eh]
 |x::r,m=>by
  simp only[Eh,SC,B0 r m,I!,KZ,aA];rw[I5 (256^r.length) 256,S3];omega
def mB(l:List UInt8):UInt64:=UInt64.ofNat (Eh l)
theorem Am2(h:l.length<=8):Eh l<18446744073709551616:=by
 have h1:=um l;have h2:256^l.length<=256^8:=G? F0 h;exact M0 h1 (by simpa using h2)
theorem pq(h:l.length<=4):Eh l<4294967296:=by
 have h1:=um l;have h2:256^l.length<=256^4:=G? F0 h;exact M0 h1 (by simpa using h2)
theorem TW(h:l.length<=8):(mB l).toNat=Eh l:=by
 rw[mB,J',B4 (Am2 h)]
theorem HY(h:l.length<=4):(Ad (mB l):Int)=(Eh l:Int):=by
 have:=pq h;rw[uS]<;>rw[TW F0];omega
def Mn(n:Nat):Nat->List UInt8
 |0=>[]
 |w+1=>UInt8.ofNat n::Mn (n/256) w
theorem Bj:∀(w n:Nat),(Mn n w).length=w
 |0,_=>rfl
 |w+1,n=>by simp[Mn,Bj w]
theorem Aid:∀(w n:Nat),Mn n (w+1)=Mn n w++[UInt8.ofNat (n/256^w)]
 |0,n=>by simp[Mn]
 |w+1,n=>by
  rw[Mn,Aid w (n/256),Mn];simp[WC,KZ,I5]
def Fs(p:List UInt8)(i:Nat):Nat:=(p.getD (i/8) 0).toNat/2^(i %8) %2
theorem Yd(p:List UInt8)(i:Nat):Fs p i<2:=OP _ F0
def Bm(p:List UInt8):Nat->Nat->Nat
 |_,0=>0
 |a,n+1=>Fs p a+2*Bm p (a+1) n
theorem Mg(p:List UInt8):∀(n a:Nat),Bm p a n<2^n
 |0,_=>by simp[Bm]
 |n+1,a=>by
  have:=Mg p n (a+1);have:=Yd p a;rw[Bm,KZ];omega
theorem JG(p:List UInt8):∀(m n a:Nat),Bm p a (m+n)=Bm p a m+2^m*Bm p (a+m) n
 |0,n,a=>by simp[Bm]
 |m+1,n,a=>by
  rw[show m+1+n=(m+n)+1 by omega,Bm,Bm,JG p m n (a+1),show a+1+m=a+(m+1) by omega,KZ,aA,I5 (2^m) 2,S3];omega
theorem qF(p:List UInt8)(a:Nat):Bm p a 1=Fs p a:=by simp[Bm]
theorem jX(p:List UInt8)(a n:Nat):Bm p a (n+1)=Bm p a n+2^n*Fs p (a+n):=by rw[JG p n 1 a,qF]
theorem XH(p:List UInt8)(a:Nat):∀t:Nat,a %8+t<=8->Bm p a t=(p.getD (a/8) 0).toNat/2^(a %8) %2^t
 |0,_=>by simp[Bm,eS]
 |t+1,h=>by
  have h1:(a+t)/8=a/8:=F0
  have h2:(a+t) %8=a %8+t:=F0
  rw[jX,XH p a t F0,Fs,h1,h2,Nat.mod_pow_succ,SL,WC]
theorem tJ{p:List UInt8}:∀(n a:Nat),(∀k,k<n->Fs p (a+k)=0)->Bm p a n=0
 |0,_,_=>rfl
 |n+1,a,h=>by
  have h0:=h 0 F0;rw[Bm,tJ n (a+1) λk hk=>by have:=h (k+1) F0;rwa [show a+1+k=a+(k+1) by omega]];rw[PN]at h0;omega
def okB(p:List UInt8)(n:Nat):Prop:=n<=330000/\p.length=(n+7)/8/\∀k,n<=k->k<8*p.length->Fs p k=0
def Na(p:List UInt8)(a n:Nat):List UInt8:=(List.range ((n+7)/8)).map λj=>UInt8.ofNat (Bm p (a+8*j) (min 8 (n-8*j)))
theorem Hi(p:List UInt8)(a n:Nat):(Na p a n).length=(n+7)/8:=by simp[Na]
theorem Adt(p:List UInt8):∀(n a k:Nat),k<n->Bm p a n/2^k %2=Fs p (a+k)
 |n+1,a,0,_=>by have:=Yd p a;rw[Bm];simp;omega
 |n+1,a,k+1,h=>by
  have hb:=Yd p a;have e:(Fs p a+2*Bm p (a+1) n)/2=Bm p (a+1) n:=F0
  rw[Bm,KZ,I5 (2^k) 2,<-WC,e,Adt p n (a+1) k F0,show a+1+k=a+(k+1) by omega]
theorem Agf(p:List UInt8)(n a k:Nat)(h:n<=k):Bm p a n/2^k %2=0:=by
 have:=Mg p n a;rw[R9 (M0 this (G? F0 h))]
theorem pA(p:List UInt8)(a n k:Nat):Fs (Na p a n) k=if k<n then Fs p (a+k)else 0:=by
 rw[Fs];by_cases hj:k/8<(n+7)/8
 ·have e:(Na p a n).getD (k/8) 0=UInt8.ofNat (Bm p (a+8*(k/8)) (min 8 (n-8*(k/8)))):=by
   rw[D!,KV (by rw[Hi];exact hj)];simp[Na]
  have hlt:Bm p (a+8*(k/8)) (min 8 (n-8*(k/8)))<256:=by
   have:=Mg p (min 8 (n-8*(k/8))) (a+8*(k/8));have h2:2^(min 8 (n-8*(k/8)))<=2^8:=G? F0 F0;omega
  have hu:(UInt8.ofNat (Bm p (a+8*(k/8)) (min 8 (n-8*(k/8))))).toNat=Bm p (a+8*(k/8)) (min 8 (n-8*(k/8))):=by
   rw[M5];exact B4 hlt
  rw[e,hu];by_cases hk:k<n
  ·rw[A4 hk,Adt p _ _ _ F0,show a+8*(k/8)+k %8=a+k by omega]
  ·rw[A! hk,Agf p _ _ _ F0]
 ·have e:(Na p a n).getD (k/8) 0=0:=by
   rw[D!,T3 (by rw[Hi];omega)];rfl
  rw[e,A! F0];simp
theorem pM(p:List UInt8)(a n:Nat)(h:n<=330000):okB (Na p a n) n:=⟨h,Hi p a n,λk hk _=>by rw[pA,A! F0]⟩
theorem Ax7{p q:List UInt8}(hl:p.length=q.length)(h:∀k,k<8*p.length->Fs p k=Fs q k):p=q:=by
 apply P8 hl;intro i h1 h2;have hp:Bm p (8*i) 8=Bm q (8*i) 8:=by
  have key:∀(n a:Nat),a+n<=8*p.length->Bm p a n=Bm q a n:=by
   intro n
   induction n with
   |zero=>intros;rfl
   |succ n ih=>intro a ha;rw[Bm,Bm,h a F0,ih (a+1) F0]
  exact key 8 (8*i) F0
 rw[XH p _ 8 F0,XH q _ 8 F0]at hp;have e1:8*i/8=i:=F0
 have e2:8*i %8=0:=F0
 rw[e1,e2]at hp;have a1:p.getD i 0=p[i]:=by simp[D!,h1]
 have a2:q.getD i 0=q[i]:=by simp[D!,h2]
 rw[a1,a2]at hp;apply UInt8.toNat_inj.1;have:=p[i].toNat_lt;have:=q[i].toNat_lt;simp at hp;omega
end Go.Lv
namespace Go.Pl
open Go Go.Lv
variable{w:Int32}{α:Type}{s:UInt64}
theorem F2{p:Prop}(h:p:=by rw[Af,Ac];simp;omega):p:=h
theorem F9{p:Prop}(h:p:=by rw[Af];simp;omega):p:=h
theorem L9{p:Prop}(h:p:=by rw[Bb];simp;omega):p:=h
theorem NX{p:Prop}(h:p:=by simp[Af,Am];omega):p:=h
theorem O?{p:Prop}(h:p:=by rw[Dn];simp;omega):p:=h
theorem Q9{p:Prop}(h:p:=by unfold Ac;omega):p:=h
theorem C0{p:Prop}(h:p:=by have:=Ao;omega):p:=h
theorem OH{p:Prop}(h:p:=by rw[Dn];simp):p:=h
theorem U?{p:Prop}(h:p:=by rw[Bb];simp):p:=h
theorem SP{p:Prop}(h:p:=by rw[Bb];rfl):p:=h
theorem vC(b:LB)(hb:b.length<4611686018427387904):∀(j q:Nat),j<=b.length->j<q->Lw b q (mB (b.drop j)) ((j:Int)-1)=some (mB b)
 |0,q+1,_,_=>by
  rw[Lw,Zp,A! OH];simp[Ab9,Aae]
 |j+1,q+1,hj,hq=>by
  rw[Lw,Zp,A4 OH,show((j+1:Nat):Int)-1=(j:Int) by omega,Cf,Aa,Bi];have h:Ae (Bd (256:UInt64) (mB (b.drop (j+1)))) (Ad b[j]:UInt64)=mB (b.drop j):=by
   rw[JT,JO,nR,drop_cons (n:=j) F0,mB,mB,Eh,lW,dP];exact UInt64.add_comm _ _
  rw[h];exact vC b hb j q F0 F0
theorem c!(b:LB)(hb:b.length<4611686018427387904):Dc b=some (mB b):=by
 have h:=vC b hb b.length Aq (D1 _) C0;rw[Dc,Aat,Ab5];have e:Ah (Ac b) 1=(b.length:Int)-1:=Bi Q9 Q9;rw[e,<-h,RM];rfl
theorem vK{n c:UInt64}{i:Nat}(hn:n.toNat<2^i)(hc:c.toNat*2^i<18446744073709551616):uB n (Db c i)=UInt64.ofNat (n.toNat+c.toNat*2^i):=by
 rw[Aqa];apply UInt64.toNat_inj.1;rw[UInt64.toNat_or,RZ,B4 hc,I5,Nat.or_comm,<-TP hn,J',B4,RV,I5];have h:=TP hn c.toNat;have h2:2^i*c.toNat+n.toNat<2^64:=by
  rw[h];exact Nat.or_lt_two_pow (by rw[I5];simpa using hc) n.toNat_lt
 rw[RV];first|exact h2|(rw[I5];exact h2)
theorem Agx(b:LB)(hb:b.length<=8):∀(j i q:Nat),i+j=b.length->j<q->Zw b q (mB (b.take i)) (i:Int)=some (mB b,0)
 |0,i,q+1,hi,_=>by
  rw[Zw,TF,A! F2,show i=b.length by omega,RN];rfl
 |j+1,i,q+1,hi,hq=>by
  have hlt:i<b.length:=F0
  rw[Zw,TF,A4 F2,Cf hlt,Aa,Gp,Bf O?,Aa,Ag];have h:uB (mB (b.take i)) (Db (Ad b[i]:UInt64) (GI.toZ ((8:Int)*(i:Int))).toNat)=mB (b.take (i+1)):=by
   have e:(GI.toZ ((8:Int)*(i:Int))).toNat=8*i:=by show((8:Int)*(i:Int)).toNat=_;omega
   have e2:(2:Nat)^(8*i)=256^i:=by rw[eW]
   have h1:=um (b.take i);rw[J1,QM F0]at h1;have h3:=b[i].toNat_lt;have hle:(256:Nat)^(i+1)<=256^8:=G? F0 F0;rw[KZ]at hle;have h4:(Ad b[i]:UInt64).toNat=b[i].toNat:=by rw[nR,J'];omega
   have h5:b[i].toNat*256^i<18446744073709551616:=by
    have:b[i].toNat*256^i<256*256^i:=zl (by simpa using h3) (PW F0);simp at hle;omega
   rw[e,vK (by rw[TW F7,e2];exact h1) (by rw[h4,e2];exact h5),TW F7,h4,e2,Mx hlt];rw[mB,B0];simp only[Eh,J1,QM (Nat.le_of_lt hlt),Nat.mul_zero,PN];rw[I5]
  rw[h];exact Agx b hb j (i+1) q F0 F0
theorem Ar0(b:LB)(h1:1<=b.length)(h2:b.length<=8):fO b=some (mB b,0):=by
 have h:=Agx b h2 b.length 0 Aq F0 C0;rw[fO,jN,A! (by simp[Af,Am,Ac];omega),Av9];exact h
def part(b:LB)(at' w:Nat):LB:=(b.take (at'+w)).drop at'
theorem Dm{b:LB}{a w:Nat}(h:a+w<=b.length:=by omega):(part b a w).length=w:=by simp[part];omega
theorem S2(b:LB)(a w:Nat)(h1:1<=w)(h2:w<=8)(h3:a+w<=b.length)(hb:b.length<4611686018427387904):XB b (a:Int) (w:Int)=some (mB (part b a w),0):=by
 rw[XB,A! NX,A! (by rw[Am,Bi Q9 Q9,Ac];simp;omega),Ag,Qo,Aa];rw[show((a:Int)+(w:Int)).toNat=a+w by omega,show(a:Int).toNat=a by omega];rw[Ar0 _ (by rw[show((b.take (a+w)).drop a).length=_ from Dm h3];exact h1) (by rw[show((b.take (a+w)).drop a).length=_ from Dm h3];exact h2),Aa];rfl
theorem Aub(w:Nat)(hw:w<=1000):∀(j i q:Nat) (n:UInt64) (acc:LB),i+j=w->j<q->acc.length+j<=1000000->Gu (w:Int) q n (i:Int) acc=some (acc++Mn n.toNat j)
 |0,i,q+1,n,acc,hi,_,_=>by
  rw[Gu,Pw,A! F9];simp[Ai7,AI,Mn]
 |j+1,i,q+1,n,acc,hi,hq,ha=>by
  rw[Gu,Pw,A4 F9];have e:(Ad (AX n (256:UInt64)):UInt8)=UInt8.ofNat n.toNat:=by
   rw[RF,Aes];apply UInt8.toNat_inj.1;rw[M5,M5,mK]
   show n.toNat %256 %256=_;omega
  have e2:(Cb n (256:UInt64)).toNat=n.toNat/256:=by rw[rJ,XT];rfl
  rw[Bu F7,Aa,Ag,e];have h:=Aub w hw j (i+1) q (Cb n 256) (acc++[UInt8.ofNat n.toNat]) F0 F0 F7;rw[e2]at h;rw[show((i:Int)+1)=((i+1:Nat):Int) by omega,h,Mn];simp
theorem I1(n:UInt64)(w:Nat)(hw:w<=1000):Dz n (w:Int)=some (Mn n.toNat w):=by
 rw[Dz,AO,AH];have h:=Aub w hw w 0 Aq n [] F0 C0 F7;simpa using h
theorem YI{l m:List α}{x y:α}{i:Nat}(h:l.length=i):(l++x::m).set i y=l++y::m:=by subst h;simp
theorem Abi(n:UInt64)(l4:LB)(w:Nat)(hl:l4.length=w)(hw:w<=8):∀(j i q:Nat),i+j=w->j<q->AQ n l4 q (i:Int) (Mn n.toNat i++List.replicate j 0)=some (Mn n.toNat w,0)
 |0,i,q+1,hi,_=>by
  rw[AQ,TA,A! F2];obtain rfl:i=w:=F0
  simp[eL,Av1]
 |j+1,i,q+1,hi,hq=>by
  have hlen:(Mn n.toNat i++List.replicate (j+1) 0).length=i+(j+1):=by simp[Bj]
  rw[AQ,TA,A4 F2,Gp,Bf O?,Aa,Cf (by rw[hlen];omega),Aa,Ra _ (by rw[hlen];omega),Aa,Ag];have e:(Ad (Bw n (GI.toZ ((8:Int)*(i:Int))).toNat):UInt8)=UInt8.ofNat (n.toNat/256^i):=by
   have e:(GI.toZ ((8:Int)*(i:Int))).toNat=8*i:=by show((8:Int)*(i:Int)).toNat=_;omega
   rw[e,RF,EF,eW]
  rw[e,R8,YI (Bj _ _)];have h:=Abi n l4 w hl hw j (i+1) q F0 F0;rw[Aid]at h;simpa using h
theorem Aqj(n:UInt64)(w:Nat)(h1:1<=w)(h2:w<=8)(h:n.toNat<256^w):xY n (w:Int)=some true:=by
 rw[xY];by_cases h8:w=8
 ·subst h8;rw[A4 SP]
 ·rw[A! L9,Gp,Bf O?,Aa];have e:(GI.toZ ((8:Int)*(w:Int))).toNat=8*w:=by show((8:Int)*(w:Int)).toNat=_;omega
  rw[e,xO];have:Bw n (8*w)=0:=by
   apply UInt64.toNat_inj.1;rw[EF,eW];exact R9 h
  rw[this];rfl
theorem JV(n:UInt64)(w:Nat)(h1:1<=w)(h2:w<=8)(h:n.toNat<256^w):Km n (w:Int)=some (Mn n.toNat w,0):=by
 rw[Km,gL,A! NX,Aqj n w h1 h2 h,Aa,A! A7,rK,Aa,Bf U?,Aa,Av5];have h:=Abi n (List.replicate (w:Int).toNat 0) w A7 h2 w 0 Aq F0 C0;simpa [Mn]using h
theorem J!{p:Prop}(h:p:=by rw[Am];simp;omega):p:=h
theorem C6{p:Prop}(h:p:=by rw[Ak];simp):p:=h
theorem wH(n:Nat)(h:n<4611686018427387904):Cy (n:Int) (7:Int)=((n %8:Nat):Int):=by
 have e:Cy (n:Int) (7:Int)=wrap64 ((BitVec.ofInt 64 (n:Int)&&&BitVec.ofInt 64 7).toNat:Int):=rfl;rw[e,XP,R5,R5];have h1:((n:Int) %((2^64:Nat):Int)).toNat=n:=F0
 have h2:((7:Int) %((2^64:Nat):Int)).toNat=2^3-1:=F6
 rw[h1,h2,W?,Bq F0 F0]
theorem yN(n:Nat):rB (n:Int) (GI.toZ (3:UInt64)).toNat=((n/8:Nat):Int):=by
 have e:rB (n:Int) (GI.toZ (3:UInt64)).toNat=(n:Int).fdiv 8:=rfl;rw[e,Q_ _ F0];omega
theorem Avh{t:Nat}(h:t<=8):Ah (Db (1:UInt8) t) (1:UInt8)=UInt8.ofNat (2^t-1):=by
 have:t=0\/t=1\/t=2\/t=3\/t=4\/t=5\/t=6\/t=7\/t=8:=F0
 rcases this with rfl|rfl|rfl|rfl|rfl|rfl|rfl|rfl|rfl<;>decide
theorem bitsOf(c:UInt8)(off t:Nat)(h:t<=8):(Cy (Bw c off) (Ah (Db (1:UInt8) t) (1:UInt8))).toNat=c.toNat/2^off %2^t:=by
 have hp:2^t<=2^8:=G? F0 h;rw[Avh h,oV,lg,uy,M5,B4 (by have:=PW (n:=t) (show 0<2 by omega);omega),W?]
theorem I3{p:LB}{k:Nat}(h:k<p.length):Aj p (k:Int)=some (p.getD k 0):=by
 rw[Cf h];simp[D!,h]
def Mk(p:LB)(a n:Nat):UInt64:=UInt64.ofNat (Bm p a n)
theorem Vn(p:LB)(a n:Nat)(h:n<=64):(Mk p a n).toNat=Bm p a n:=by
 have h1:=Mg p n a;have h2:2^n<=2^64:=G? F0 h;rw[Mk,J',B4 F0]
theorem Atl(p:LB)(N:Int)(a n:Nat)(hn:n<=64)(ha:a+n<=8*p.length)(hp:p.length<=1000000):∀(j h q:Nat),h+j=n->j<q->JJ (a:Int) (n:Int) p N q (Mk p a h) (h:Int)=some (Mk p a n)
 |j,h,q+1,hj,hq=>by
  rw[JJ,gV];by_cases hlt:h<n
  ·have e1:Ae (a:Int) (h:Int)=((a+h:Nat):Int):=by rw[Ag];omega
   have e2:Gf (Ah (n:Int) (h:Int)) (Ah (8:Int) (((a+h) %8:Nat):Int))=((min (n-h) (8-(a+h) %8):Nat):Int):=by
    rw[GG,Bi,Bi];omega
   have hm:(a+h)/8<p.length:=F0
   rw[A4 F9,e1,yN,I3 hm,Aa,wH _ F0,Bf O?,Aa,e2,Bf OH,Aa,Bf OH,Aa];generalize hT:min (n-h) (8-(a+h) %8)=T;have hT8:T<=8:=F0
   have hT1:1<=T:=F0
   have hb:(a+h) %8+T<=8:=F0
   have hv:=XH p (a+h) T hb;have z1:(GI.toZ (((a+h) %8:Nat):Int)).toNat=(a+h) %8:=rfl;have z2:(GI.toZ ((T:Nat):Int)).toNat=T:=rfl;have z3:(GI.toZ ((h:Nat):Int)).toNat=h:=rfl;rw[z1,z2,z3];have hx:(Ad (Cy (Bw (p.getD ((a+h)/8) 0) ((a+h) %8)) (Ah (Db (1:UInt8) T) (1:UInt8))):UInt64).toNat=Bm p (a+h) T:=by
    rw[nR,J',bitsOf _ _ _ hT8,<-hv];have:=Mg p T (a+h);have h2:2^T<=2^8:=G? F0 hT8;omega
   have hlt2:=Mg p (h+T) a;rw[JG]at hlt2;have h64:2^(h+T)<=2^64:=G? F0 F0;have hor:uB (Mk p a h) (Db (Ad (Cy (Bw (p.getD ((a+h)/8) 0) ((a+h) %8)) (Ah (Db (1:UInt8) T) (1:UInt8))):UInt64) h)=Mk p a (h+T):=by
    rw[vK (by rw[Vn p a h F0];exact Mg p h a) (by rw[hx,I5];omega),hx,Vn p a h F0,Mk,JG,I5 (2^h)]
   rw[hor,Ag,show(h:Int)+((T:Nat):Int)=((h+T:Nat):Int) by omega];exact Atl p N a n hn ha hp (j-T) (h+T) q F0 F0
  ·rw[A! F9,show h=n by omega];rfl
theorem get_eq(p:LB)(N:Int)(a n:Nat)(hn:n<=64)(ha:a+n<=8*p.length)(hp:p.length<=1000000):rI p N (a:Int) (n:Int)=some (Mk p a n):=by
 have:=Atl p N a n hn ha hp n 0 Aq F0 C0;exact this
theorem Wa{p:LB}{n:Nat}(h:okB p n):Hr p (n:Int)=some 0:=by
 obtain⟨h1,h2,h3⟩:=h;have e7:Ae (n:Int) 7=((n+7:Nat):Int):=by rw[Ag];omega
 rw[Hr,e7,yN,A! (by simp[Af,Am,Ak,Ac,h2];omega),wH _ F0];by_cases hz:n %8=0
 ·rw[A! J!]
 ·have el:Ah (Ac p) 1=((p.length-1:Nat):Int):=by rw[Ac,Bi];omega
  rw[A4 J!,el,I3 F0,Aa,Bf O?,Aa];have z:(GI.toZ ((n %8:Nat):Int)).toNat=n %8:=rfl;have hs:Bw (p.getD (p.length-1) 0) (n %8)=0:=by
   apply UInt8.toNat_inj.1;rw[uy];have hv:=XH p n (8-n %8) F0;have h0:Bm p n (8-n %8)=0:=tJ _ _ λk hk=>h3 _ F0 F0;rw[h0,show n/8=p.length-1 by omega]at hv;have hlt:(p.getD (p.length-1) 0).toNat/2^(n %8)<2^(8-n %8):=by
    have:=(p.getD (p.length-1) 0).toNat_lt;rw[Nat.div_lt_iff_lt_mul (PW F0),<-SL,show 8-n %8+n %8=8 by omega];simpa using this
   rw[B4 hlt]at hv;exact hv.symm
  rw[z,hs,A! (by rw[gB];simp)]
theorem uX{p:LB}{N:Nat}(h:okB p N)(a n:Nat)(hn:n<=64):DK p (N:Int) (a:Int) (n:Int)=some (if N<a+n then(0,24)else(Mk p a n,0)):=by
 obtain⟨h1,h2,h3⟩:=h;rw[DK,Wa ⟨h1,h2,h3⟩,Aa,A! C6,A! NX,Bi];by_cases hl:N<a+n
 ·rw[A4 J!,A4 hl]
 ·rw[A! J!,get_eq p N a n hn F0 F0,Aa,A! hl]
theorem e_{p:Prop}(h:p:=by rw[Hi];simp;omega):p:=h
theorem aX{p:Prop}(h:p:=by rw[I5];omega):p:=h
theorem Awy(c:Nat)(h:c<4611686018427387904):Cb (c:Int) (2:Int)=((c/2:Nat):Int):=by
 rw[LC,TQ F0,Bq F0 F0];omega
theorem yQ(c:Nat)(h:c<4611686018427387904):Cb (c:Int) (8:Int)=((c/8:Nat):Int):=by
 rw[LC,TQ F0,Bq F0 F0];omega
theorem YK(c:Nat):Ge (c:Int) (8:Int)=((c %8:Nat):Int):=by rw[Ge,Z3 F0];omega
theorem Axc(c:Nat):Ge (c:Int) (2:Int)=((c %2:Nat):Int):=by rw[Ge,Z3 F0];omega
theorem qH(i c:Nat)(hc:c<256):∀(j k q:Nat),k+j=i %8->j<q->Mb (i:Int) q ((c/2^k:Nat):Int) (k:Int)=some (((c/2^(i %8) %2:Nat):Int))
 |0,k,q+1,hk,_=>by
  rw[Mb,Zh,YK,A! F9,Ach,Ac3,Axc,show k=i %8 by omega]
 |j+1,k,q+1,hk,hq=>by
  have hle:c/2^k<=c:=O' _ _;rw[Mb,Zh,YK,A4 F9,Awy _ F0,Ag,WC,<-KZ];exact qH i c hc j (k+1) q F0 F0
theorem sZ(p:LB)(N:Int)(i:Nat)(h:i/8<p.length)(hi:i<4611686018427387904):Kh p N (i:Int)=some ((Fs p i:Nat):Int):=by
 have hc:=(p.getD (i/8) 0).toNat_lt;have:=qH i (p.getD (i/8) 0).toNat (by simpa using hc) (i %8) 0 Aq F0 C0;rw[Kh,Ac5,yQ _ hi,I3 h,Aa,NZ,Ac4];simpa [Fs]using this
theorem E6(p:LB)(N:Int)(a n:Nat)(ha:a+n<=8*p.length)(hp:p.length<=1000000):∀(j q:Nat),j<=n->j<q->If (a:Int) p N q (Mk p (a+j) (n-j)) ((j:Int)-1)=some (Mk p a n)
 |0,q+1,_,_=>by
  rw[If,Tk,A! OH];rfl
 |j+1,q+1,hj,hq=>by
  have hb:=Yd p (a+j);rw[If,Tk,show((j+1:Nat):Int)-1=(j:Int) by omega,A4 OH,Ag (a:=(a:Int)) F0 F0,show(a:Int)+(j:Int)=((a+j:Nat):Int) by omega,sZ p N (a+j) F0 F0,Aa,Bi];have e:Ae (Bd (2:UInt64) (Mk p (a+(j+1)) (n-(j+1)))) (Ad ((Fs p (a+j):Nat):Int):UInt64)=Mk p (a+j) (n-j):=by
   rw[JT,JO,Sr,Mk,Mk,show n-j=(n-(j+1))+1 by omega,Bm,show a+j+1=a+(j+1) by omega,lW,dP];exact UInt64.add_comm _ _
  rw[e];exact E6 p N a n ha hp j q F0 F0
theorem nA(p:LB)(N:Int)(a n:Nat)(ha:a+n<=8*p.length)(hp:p.length<=1000000):Re p N (a:Int) (n:Int)=some (Mk p a n):=by
 have:=E6 p N a n ha hp n Aq (D1 _) C0;have hz:Mk p (a+n) (n-n)=0:=by rw[Y6];rfl
 rw[hz]at this;rw[Re,FP,FG,Bi];exact this
theorem sP(bit:Int)(N:Nat)(l:LB):∀(j k q:Nat),k+j=N %8->j<q->Ks bit (N:Int) l q ((2^k:Nat):Int) (k:Int)=Wv bit ((2^(N %8):Nat):Int) (N:Int) l
 |0,k,q+1,hk,_=>by
  rw[Ks,Xr,YK,A! F9,show k=N %8 by omega]
 |j+1,k,q+1,hk,hq=>by
  have hp:2^k<=2^8:=G? F0 F0;have e:Bd ((2^k:Nat):Int) 2=((2^(k+1):Nat):Int):=by
   rw[KZ];generalize 2^k=K at*
   rw[Gp];omega
  rw[Ks,Xr,YK,A4 F9,e,Ag];exact sP bit N l j (k+1) q F0 F0
theorem I9(p:LB)(a n j:Nat)(h:j<(n+7)/8):(Na p a n)[j]'(by rw[Hi];exact h)=UInt8.ofNat (Bm p (a+8*j) (min 8 (n-8*j))):=by simp[Na]
theorem sK(p:LB)(a t:Nat)(h:t<=8):Bm p a t<256:=by
 have h1:=Mg p t a;have h2:2^t<=2^8:=G? F0 h;omega
def room(p:LB)(a n:Nat):LB:=if n %8=0 then Na p a n++[0]else Na p a n
theorem Lq(p:LB)(a n:Nat):(room p a n).length=n/8+1:=by
 rw[room];split<;>simp[Hi]<;>omega
theorem N? (p:LB)(a n j:Nat)(h:j<n/8+1):(room p a n)[j]'(by rw[Lq];exact h)=UInt8.ofNat (Bm p (a+8*j) (min 8 (n-8*j))):=by
 have h0:(room p a n)[j]? =some (UInt8.ofNat (Bm p (a+8*j) (min 8 (n-8*j)))):=by
  rw[room];split
  ·by_cases hj:j<(n+7)/8
   ·rw[O1 (by rw[Hi];exact hj),KV (by rw[Hi];exact hj),I9 p a n j hj]
   ·rw[P3 (by rw[Hi];omega),Hi,show j-(n+7)/8=0 by omega,show n-8*j=0 by omega];rfl
  ·rw[KV (by rw[Hi];omega),I9 p a n j F0]
 rw[KV (by rw[Lq];exact h)]at h0;exact O9 h0
theorem rR(p:LB)(a n T:Nat)(h1:1<=T)(h:n %8+T<=8):(room p a n).set (n/8) (UInt8.ofNat (Bm p (a+8*(n/8)) (n %8+T)))=Na p a (n+T):=by
 apply P8 (by rw[R?,Lq,Hi];omega);intro j g1 g2;rw[R?,Lq]at g1;rw[XW,I9 p a (n+T) j (by rw[Hi]at g2;exact g2)];split
 ·rename_i e;subst e;rw[show min 8 (n+T-8*(n/8))=n %8+T by omega]
 ·rw[N? p a n j g1,show min 8 (n-8*j)=8 by omega,show min 8 (n+T-8*j)=8 by omega]
theorem kB(p:LB)(a n:Nat):(room p a n)[n/8]'(by rw[Lq];omega)=UInt8.ofNat (Bm p (a+8*(n/8)) (n %8)):=by
 rw[N? p a n _ F0,show min 8 (n-8*(n/8))=n %8 by omega]
theorem Ais(p:LB)(a n:Nat)(hn:n<=400000):Vw (Na p a n) (n:Int) ((Fs p (a+n):Nat):Int)=some (Na p a (n+1),((n+1:Nat):Int)):=by
 have hb:=Yd p (a+n);have hp:2^(n %8)<=2^7:=G? F0 F0;have hroom:Vw (Na p a n) (n:Int) ((Fs p (a+n):Nat):Int)=Wy ((Fs p (a+n):Nat):Int) (n:Int) (room p a n):=by
  rw[Vw,MR,YK,room];by_cases h0:n %8=0
  ·rw[A4 (by rw[Bb,h0];rfl),Bu e_,Aa,A4 h0]
  ·rw[A! L9,A! h0]
 have hl:=sP ((Fs p (a+n):Nat):Int) n (room p a n) (n %8) 0 Aq F0 C0;rw[hroom,Wy,MY,MO];refine J2 hl ?_;have hg:Aj (room p a n) ((n/8:Nat):Int)=some (UInt8.ofNat (Bm p (a+8*(n/8)) (n %8))):=by
  rw[Cf (by rw[Lq];omega),kB]
 have hlt:=sK p (a+8*(n/8)) (n %8+1) F0;have hsn:=jX p (a+8*(n/8)) (n %8);rw[show a+8*(n/8)+n %8=a+n by omega]at hsn;have hm:Bd ((Fs p (a+n):Nat):Int) ((2^(n %8):Nat):Int)=((2^(n %8)*Fs p (a+n):Nat):Int):=by
  have hle:2^(n %8)*Fs p (a+n)<=2^7*1:=T7 hp F0;rw[uL,<-Tv,Bq F0 aX,I5]
 have hx:Ae (UInt8.ofNat (Bm p (a+8*(n/8)) (n %8))) (Ad (((2^(n %8)*Fs p (a+n):Nat):Int)):UInt8)=UInt8.ofNat (Bm p (a+8*(n/8)) (n %8+1)):=by
  rw[Ap6,H_,hsn,UInt8.ofNat_add]
 rw[Wv,MP,yQ _ F0,hg,Aa,Aa,Aa,hm,hx,Ra _ (by rw[Lq];omega),Aa,rR p a n 1 F0 F0,Ag];rfl
theorem Ate(p:LB)(N:Int)(a n:Nat)(ha:a+n<=8*p.length)(hp:p.length<=1000000)(hn:n<=300000):∀(j m q:Nat),m+j=n->j<q->Gw ((a+n:Nat):Int) p N q ((a+m:Nat):Int) (m:Int) (Na p a m)=some (Na p a n,(n:Int))
 |0,m,q+1,hm,_=>by
  rw[Gw,Pv,A! F9,show m=n by omega];rfl
 |j+1,m,q+1,hm,hq=>by
  rw[Gw,Pv,A4 F9,sZ p N (a+m) F0 F0,Aa,Ais p a m F0,Aa];simp only;rw[Ag];exact Ate p N a n ha hp hn j (m+1) q F0 F0
theorem Bep(p:LB)(N:Int)(a n:Nat)(ha:a+n<=8*p.length)(hp:p.length<=1000000)(hn:n<=300000):JN p N (a:Int) ((a+n:Nat):Int)=some (Na p a n,(n:Int)):=by
 have:=Ate p N a n ha hp hn n 0 Aq F0 C0;exact this
theorem Y9{p:Prop}(h:p:=by rw[Lq];omega):p:=h
theorem S4{p:Prop}(h:p:=by rw[Am];simp):p:=h
theorem Arw{t:Nat}(h:t<=8):Ah (Db (1:UInt64) t) (1:UInt64)=UInt64.ofNat (2^t-1):=by
 have:t=0\/t=1\/t=2\/t=3\/t=4\/t=5\/t=6\/t=7\/t=8:=F0
 rcases this with rfl|rfl|rfl|rfl|rfl|rfl|rfl|rfl|rfl<;>decide
theorem zG(v:UInt64){t:Nat}(h:t<=8):(Cy v (Ah (Db (1:UInt64) t) (1:UInt64))).toNat=v.toNat %2^t:=by
 have hp:2^t<=2^8:=G? F0 h;rw[Arw h,H8,dJ,J',B4 (by have:=PW (n:=t) (show 0<2 by omega);omega),W?]
theorem or8{v w i:Nat}(hv:v<2^i)(hw:w*2^i<256)(hi:i<8):uB (UInt8.ofNat v) (Db (UInt8.ofNat w) i)=UInt8.ofNat (v+w*2^i):=by
 have hp:2^i<=2^8:=G? F0 F0;have hpos:0<2^i:=PW F0;have hw2:w<256:=S6 (lJ w hpos) hw;rw[Ar5];apply UInt8.toNat_inj.1;have e1:(UInt8.ofNat v).toNat=v:=by rw[M5,B4 F0]
 have e2:(UInt8.ofNat w).toNat=w:=by rw[M5,B4 F0]
 rw[UInt8.toNat_or,Aow,e1,e2,B4 hw,I5 w,Nat.or_comm,<-TP hv,M5,RV v];rw[I5]at hw;have hb:2^i*w+v<256:=by
  rw[TP hv];exact Nat.or_lt_two_pow (n:=8) hw F0
 rw[B4 hb]
theorem Atu(p:LB)(a n T:Nat)(h:T<=n)(hn:n<=64):Bw (Mk p a n) T=Mk p (a+T) (n-T):=by
 apply UInt64.toNat_inj.1;rw[EF,Vn p a n hn,Vn p (a+T) (n-T) F0];have:=Mg p T a
 conv=>lhs;rw[show n=T+(n-T) by omega,JG,Nat.add_mul_div_left _ _ (PW F0),R9 this,J?]
theorem D? (p:LB)(a n T:Nat)(h:T<=n)(hn:n<=64):(Mk p a n).toNat %2^T=Bm p a T:=by
 have:=Mg p T a;rw[Vn p a n hn]
 conv=>lhs;rw[show n=T+(n-T) by omega,JG,Nat.add_mul_mod_self_left,B4 this]
theorem G7(bk:Int->Int->LB->Option (LB×Int×Int))(to':Int)(p:LB)(N fr:Int)(r6:UInt64)(a:Nat):∀(j m q:Nat),m+j<=300000->j<=64->j<q->
  Nd bk to' p N fr r6 q (Mk p (a+m) j) (j:Int) (m:Int) (Na p a m)=NI bk to' p N fr ((m+j:Nat):Int) (Na p a (m+j))
 |0,m,q+1,_,_,_=>by
  rw[Nd,NO,A! S4];rfl
 |j+1,m,q+1,hm,hj,hq=>by
  have hroom:Nd bk to' p N fr r6 (q+1) (Mk p (a+m) (j+1)) ((j+1:Nat):Int) (m:Int) (Na p a m)=NS (Nd bk to' p N fr r6 q) to' fr p N r6 (Mk p (a+m) (j+1)) ((j+1:Nat):Int) (m:Int) (room p a m):=by
   rw[Nd,NO,A4 S4,wH m F0,room];by_cases h0:m %8=0
   ·rw[A4 (by rw[Bb,h0];rfl),Bu e_,Aa,A4 h0]
   ·rw[A! L9,A! h0]
  have hl:Ah (Ac (room p a m)) 1=((m/8:Nat):Int):=by
   rw[Ac,Lq,Bi];omega
  have e2:Gf ((j+1:Nat):Int) (Ah (8:Int) ((m %8:Nat):Int))=((min (j+1) (8-m %8):Nat):Int):=by
   rw[GG,Bi];omega
  rw[hroom,NS,Atq,wH m F0,e2,hl];generalize hT:min (j+1) (8-m %8)=T;have hT1:1<=T:=F0
  have hT8:m %8+T<=8:=F0
  have hg:Aj (room p a m) ((m/8:Nat):Int)=some (UInt8.ofNat (Bm p (a+8*(m/8)) (m %8))):=by
   rw[Cf Y9,kB]
  have z1:(GI.toZ ((m %8:Nat):Int)).toNat=m %8:=rfl;have z2:(GI.toZ ((T:Nat):Int)).toNat=T:=rfl;have hlt:=sK p (a+8*(m/8)) (m %8+T) F0;have hadd:=JG p (m %8) T (a+8*(m/8));rw[show a+8*(m/8)+m %8=a+m by omega]at hadd;have hbyte:(Ad (Cy (Mk p (a+m) (j+1)) (Ah (Db (1:UInt64) T) (1:UInt64))):UInt8)=UInt8.ofNat (Bm p (a+m) T):=by
   rw[RF,zG _ F0,D? p (a+m) (j+1) T F0 hj]
  have hnew:uB (UInt8.ofNat (Bm p (a+8*(m/8)) (m %8))) (Db (UInt8.ofNat (Bm p (a+m) T)) (m %8))=UInt8.ofNat (Bm p (a+8*(m/8)) (m %8+T)):=by
   rw[or8 (Mg _ _ _) aX F0,hadd,I5 (2^(m %8))]
  rw[hg,z1,z2,hbyte];simp only[Aa];rw[Bf OH,Aa,Bf O?,Aa,hnew,Ra _ Y9,Aa,rR p a m T hT1 hT8,At1,As3,wH m F0,e2,hT,Bf OH,Aa,z2,Atu p (a+m) (j+1) T F0 hj,Bi,Ag];have ih:=G7 bk to' p N fr r6 a (j+1-T) (m+T) q F0 F0 F0;rw[show m+T+(j+1-T)=m+(j+1) by omega]at ih;rw[<-ih,show a+m+T=a+(m+T) by omega,show((j+1:Nat):Int)-((T:Nat):Int)=((j+1-T:Nat):Int) by omega,show(m:Int)+((T:Nat):Int)=((m+T:Nat):Int) by omega]
theorem Ara(p:LB)(N:Int)(a n:Nat)(ha:a+n<=8*p.length)(hp:p.length<=1000000)(hn:n<=300000):∀(j m f q:Nat),(f=m\/n<=f/\m=n)->m+j=n->f<=n+64->j<q->Vt ((a+n:Nat):Int) p N q ((a+f:Nat):Int) (m:Int) (Na p a m)=some (Na p a n,(n:Int),0)
 |j,m,f,q+1,hf,hm,hf2,hq=>by
  rw[Vt,aE];by_cases hlt:f<n
  ·obtain rfl:f=m:=F0
   have e1:Gf (64:Int) (Ah ((a+n:Nat):Int) ((a+f:Nat):Int))=((min 64 (n-f):Nat):Int):=by
    rw[GG,Bi];omega
   rw[A4 F9,e1,get_eq p N (a+f) _ F0 F0 hp,Aa,aI];have h1:=G7 (Vt ((a+n:Nat):Int) p N q) ((a+n:Nat):Int) p N ((a+f:Nat):Int) (Mk p (a+f) (min 64 (n-f))) a (min 64 (n-f)) f Aq F0 F0 C0;refine J2 h1 ?_;rw[NI,As0,Ag,show((a+f:Nat):Int)+64=((a+(f+64):Nat):Int) by omega];exact Ara p N a n ha hp hn (j-min 64 (n-f)) (f+min 64 (n-f)) (f+64) q F0 F0 F0 F0
  ·rw[A! F9,YV,Atd,show m=n by omega]
theorem Ar7{p:LB}{N:Nat}(h:okB p N)(a n:Nat)(ha:a+n<=N)(hn:n<=300000):gP p (N:Int) (a:Int) ((a+n:Nat):Int)=some (Na p a n,(n:Int),0):=by
 obtain⟨h1,h2,h3⟩:=h;have:=Ara p N a n F0 F0 hn n 0 0 Aq F0 F0 F0 C0;rw[gP,hU,Wa ⟨h1,h2,h3⟩,Aa,A! C6,A! NX,Arc];exact this
theorem Wm{p:Prop}(h:p:=by simp[Af];omega):p:=h
theorem P!{p:Prop}(h:p:=by rw[Af];simp):p:=h
def Fb(p:LB):Nat->Nat->Nat
 |_,0=>0
 |a,m+1=>if Fs p a=1 then 1+Fb p (a+1) m else 0
theorem SY(p:LB):∀(m a:Nat),Fb p a m<=m
 |0,_=>D1 _
 |m+1,a=>by rw[Fb];split<;>have:=SY p m (a+1)<;>omega
theorem H!(p:LB):∀(m a:Nat),∃s,Bm p a m+1=2^(Fb p a m+1)*s+2^Fb p a m/\ (Fb p a m=m->s=0)
 |0,a=>⟨0,by simp[Bm,Fb],λ_=>rfl⟩
 |m+1,a=>by
  have hb:=Yd p a;obtain⟨s,h1,h2⟩:=H! p m (a+1);by_cases h:Fs p a=1
  ·refine⟨s,?_,λe=>h2 ?_⟩
   ·rw[Fb,A4 h,Bm,h,show 1+Fb p (a+1) m+1=(Fb p (a+1) m+1)+1 by omega,show 1+Fb p (a+1) m=Fb p (a+1) m+1 by omega,KZ,KZ (n:=2) (m:=Fb p (a+1) m)];rw[KZ]at h1;generalize Bm p (a+1) m=V at*
    generalize 2^Fb p (a+1) m=W at*
    have e1:W*2*2*s=2*(W*2*s):=by rw[d! (W*2) 2 s,I5]
    omega
   ·rw[Fb,A4 h]at e;omega
  ·refine⟨Bm p (a+1) m,?_,λe=>?_⟩
   ·rw[Fb,A! h,Bm];simp;omega
   ·rw[Fb,A! h]at e;omega
theorem Ap2{n t s:Nat}(h:2^(t+1)*s+2^t<=2^n)(ht:t<n)(x:Nat)(hx:x=2^n-(2^(t+1)*s+2^t)):x&&& (2^(t+1)*s+2^t)=2^t:=by
 have hpos:0<2^t:=PW F0;have hlt:2^t<2^(t+1):=by rw[KZ];omega
 have e:x=2^n-((2^(t+1)*s+(2^t-1))+1):=by rw[hx];congr 1;omega
 apply cW;intro i;rw[Zu,e,Nat.testBit_two_pow_sub_succ F0,zm _ F0,zm _ hlt];by_cases hi:i<t+1
 ·rw[A4 hi,A4 hi,Nat.testBit_two_pow_sub_one,XI];by_cases hit:t=i
  ·subst hit;simp;exact ht
  ·have:¬i=t:=λe=>hit e.symm;simp[hit]
 ·rw[A! hi,A! hi,XI];have:¬t=i:=F0
  simp[this]
theorem All(a:UInt64):(I7 a).toNat=18446744073709551615-a.toNat:=by
 have h:=a.toNat_lt;have e:I7 a=UInt64.ofNat (BitVec.ofInt 64 18446744073709551615^^^BitVec.ofInt 64 (a.toNat:Int)).toNat:=Gx _;have h1:BitVec.ofInt 64 (a.toNat:Int)=a.toBitVec:=qz a;have h2:(BitVec.ofInt 64 18446744073709551615:BitVec 64)=BitVec.allOnes 64:=F6
 rw[e,J',h1,h2,BitVec.allOnes_xor,dQ];show(18446744073709551616-1-a.toNat) %18446744073709551616=18446744073709551615-a.toNat;omega
theorem Akh(a:UInt64):(pJ a).toNat=(18446744073709551616-a.toNat) %18446744073709551616:=by
 have h:=a.toNat_lt;have e:pJ a=UInt64.ofNat ((0-(a.toNat:Int)) %18446744073709551616).toNat:=mo _;rw[e,J'];show((0-(a.toNat:Int)) %18446744073709551616).toNat %18446744073709551616=_;omega
def Au8:LB:=[0,1,56,2,57,49,28,3,61,58,42,50,38,29,17,4,62,47,59,36,45,43,51,22,53,39,33,30,24,18,12,5,63,55,48,27,60,41,37,16,46,35,44,21,52,32,23,11,54,26,40,15,34,20,31,10,25,14,19,9,13,8,7,6]
theorem Afm:∀t:Fin 64,Aj Au8 (GI.toZ (Bw (Bd (UInt64.ofNat (2^t.val)) (285870213051353865:UInt64)) (GI.toZ (58:UInt64)).toNat))=some (UInt8.ofNat t.val):=by decide +kernel
theorem Aur(x:UInt64)(t s:Nat)(ht:t<64)(h:x.toNat+(2^(t+1)*s+2^t)=18446744073709551616):Fv x=some (t:Int):=by
 have hpos:0<2^t:=PW F0;have hx:x.toNat=2^64-(2^(t+1)*s+2^t):=by show x.toNat=18446744073709551616-_;omega
 have hle:2^t<=2^63:=G? F0 F0;have hne:x≠0:=by
  intro e;rw[e]at h;have h':2^t*(2*s+1)=2^64:=by
   rw[aA,R2,<-S3,<-KZ]
   show _=18446744073709551616;simpa using h
  have h2:2^64=2^t*2^(64-t):=by rw[<-SL];congr 1;omega
  rw[h2]at h';have h3:=Nat.eq_of_mul_eq_mul_left hpos h';rw[show 64-t=(63-t)+1 by omega,KZ]at h3;omega
 have hx0:x.toNat≠0:=λe=>hne (UInt64.toNat_inj.1 e);have hl:Cy x (pJ x)=UInt64.ofNat (2^t):=by
  apply UInt64.toNat_inj.1;rw[H8,dJ,Akh,show(18446744073709551616-x.toNat) %18446744073709551616=2^(t+1)*s+2^t by omega,Ap2 (n:=64) (by show _<=18446744073709551616;omega) ht _ hx,J',B4];exact S6 hle F6
 have hb:=Afm ⟨t,ht⟩;rw[Fv,A! (by rw[xO];simpa using hne),hl];refine J2 (congrArg (λo=>Option.bind o λc=>some (Ad c:Int)) hb) ?_;rw[Aa,NZ,M5,B4 (by show t<256;omega)]
theorem Aqc(p:LB)(a m:Nat)(hm:m<=48):Fv (I7 (Mk p a m))=some ((Fb p a m:Nat):Int):=by
 obtain⟨s,h1,h2⟩:=H! p m a;have hle:=SY p m a;have hlt:=Mg p m a;have h48:2^m<=2^48:=G? F0 hm;have hn:(I7 (Mk p a m)).toNat=18446744073709551615-Bm p a m:=by rw[All,Vn p a m F0]
 have h3:(281474976710656:Nat)=2^48:=rfl;refine Aur _ (Fb p a m) s F0 ?_;rw[hn];omega
def X'(p:LB)(N a:Nat):Int×Int×Int:=
 if Fb p a (min 48 (N-a))<min 48 (N-a)then((Fb p a (min 48 (N-a)):Nat),((a+Fb p a (min 48 (N-a))+1:Nat):Int),0)else
 if Fb p a (min 48 (N-a))=48 then(48,((a+48:Nat):Int),0)else(0,0,24)
theorem Ak9{p:LB}{N:Nat}(h:okB p N)(a:Nat)(ha:a<N):HE p (N:Int) (a:Int)=some (X' p N a):=by
 have hN:=h.1;have e1:Gf (48:Int) (Ah (N:Int) (a:Int))=((min 48 (N-a):Nat):Int):=by rw[GG,Bi];omega
 have hle:=SY p (min 48 (N-a)) a;rw[HE,Yj,Wa h,Aa,A! C6,A! P!,A! O?,e1,uX h a _ F0,A! F0,Aa];simp only;rw[UN,Aqs,A! C6,Aqc p a _ F0,Aa,Aqt,Aq5,e1,X'];by_cases h1:Fb p a (min 48 (N-a))<min 48 (N-a)
 ·rw[A4 F9,A4 h1,Ag (a:=(a:Int)) F0 F0,show Ae (0:Int) 1=1 by decide,Ag];congr 3;omega
 ·rw[A! F9,A! h1,Aqp,Aq0];by_cases h2:Fb p a (min 48 (N-a))=48
  ·rw[A4 (by rw[Bb,h2];rfl),A4 h2,h2,Ag (a:=(a:Int)) F0 F0,Ag];congr 3;omega
  ·rw[A! L9,A! h2];rfl
theorem Aee(p:LB):∀(m a:Nat),Fb p a m<m->Fs p (a+Fb p a m)≠1
 |0,_,h=>by simp[Fb]at h
 |m+1,a,h=>by
  by_cases hb:Fs p a=1
  ·rw[Fb,A4 hb]at h⊢;have:=Aee p m (a+1) F0;rwa [show a+(1+Fb p (a+1) m)=a+1+Fb p (a+1) m by omega]
  ·rw[Fb,A! hb];exact hb
theorem Acr(p:LB):∀(m a k:Nat),k<Fb p a m->Fs p (a+k)=1
 |0,a,k,h=>by simp[Fb]at h
 |m+1,a,k,h=>by
  by_cases hb:Fs p a=1
  ·rw[Fb,A4 hb]at h;cases k with
   |zero=>exact hb
   |succ k=>
    have:=Acr p m (a+1) k F0;rwa [show a+(k+1)=a+1+k by omega]
  ·rw[Fb,A! hb]at h;omega
def unR(p:LB)(N a:Nat):Int×Int:=if(X' p N a).2.2=0 then((X' p N a).1,(X' p N a).2.1)else(-1,0)
theorem K5{p:LB}{N:Nat}(h:okB p N)(a:Nat)(ha:a<N):∀(j k q:Nat),k+j=Fb p a (min 48 (N-a))->j<q->Kk (a:Int) p (N:Int) q (k:Int)=some (unR p N a)
 |0,k,q+1,hk,_=>by
  obtain⟨hN,hl,hz⟩:=h;have hle:=SY p (min 48 (N-a)) a;have hk':k=Fb p a (min 48 (N-a)):=F0
  have e1:Ae (a:Int) (k:Int)=((a+k:Nat):Int):=by rw[Ag];omega
  have hend:Xq (a:Int) (k:Int) p (N:Int)=some (unR p N a):=by
   rw[Xq,NB,e1];by_cases h48:k=48
   ·have hu:X' p N a=(48,((a+48:Nat):Int),0):=by rw[X',<-hk',A! F0,A4 h48]
    rw[A4 (by rw[Bb,h48];rfl),unR,hu,h48];rfl
   ·rw[A! L9];by_cases hN2:N<=a+k
    ·have hu:X' p N a=(0,0,24):=by rw[X',<-hk',A! F0,A! h48]
     rw[A4 O?,unR,hu];rfl
    ·have hu:X' p N a=(((k:Nat):Int),((a+k+1:Nat):Int),0):=by rw[X',<-hk',A4 F0]
     rw[A! O?,unR,hu,Ag];rfl
  rw[Kk,Xm,e1];by_cases hc:a+k<N/\k<48
  ·have hb:=Yd p (a+k);have hs:=Aee p (min 48 (N-a)) a F0;rw[<-hk']at hs;rw[A4 Wm,sZ p _ (a+k) F0 F0,Aa,A! L9,hend]
  ·rw[A! Wm,hend]
 |j+1,k,q+1,hk,hq=>by
  obtain⟨hN,hl,hz⟩:=h;have hle:=SY p (min 48 (N-a)) a;have hb:=Acr p (min 48 (N-a)) a k F0;have e1:Ae (a:Int) (k:Int)=((a+k:Nat):Int):=by rw[Ag];omega
  rw[Kk,Xm,e1,A4 Wm,sZ p _ (a+k) F0 F0,Aa,hb,A4 F6,Ag];exact K5 ⟨hN,hl,hz⟩ a ha j (k+1) q F0 F0
theorem Ajq{p:LB}{N:Nat}(h:okB p N)(a:Nat)(ha:a<N):Adw p (N:Int) (a:Int)=some (unR p N a):=by
 have hle:=SY p (min 48 (N-a)) a;have:=K5 h a ha (Fb p a (min 48 (N-a))) 0 Aq F0 C0;exact this
theorem uq{p:LB}{N a:Nat}(h:Fb p a (min 48 (N-a))<min 48 (N-a)):X' p N a=(((Fb p a (min 48 (N-a)):Nat):Int),((a+Fb p a (min 48 (N-a))+1:Nat):Int),0):=by rw[X',A4 h]
theorem wD{p:LB}{N a:Nat}(h:¬Fb p a (min 48 (N-a))<min 48 (N-a))(h2:Fb p a (min 48 (N-a))=48):X' p N a=(48,((a+48:Nat):Int),0):=by rw[X',A! h,A4 h2]
theorem uK{p:LB}{N a:Nat}(h:¬Fb p a (min 48 (N-a))<min 48 (N-a))(h2:¬Fb p a (min 48 (N-a))=48):X' p N a=(0,0,24):=by rw[X',A! h,A! h2]
theorem Af0{p:LB}{N:Nat}(h:okB p N)(a:Nat)(ha:N<=a):HE p (N:Int) (a:Int)=some (0,0,24):=by
 rw[HE,Yj,Wa h,Aa,A! C6,A! P!,A4 O?]
def SG(p:LB)(N a k:Nat):UInt32×Int×Int:=
 if N<=a then(0,0,24)else
 if Fb p a (min 48 (N-a))<min 48 (N-a)then
  (if N<a+Fb p a (min 48 (N-a))+1+k then(0,0,24)else(UInt32.ofNat (Fb p a (min 48 (N-a))*2^k+Bm p (a+Fb p a (min 48 (N-a))+1) k),((a+Fb p a (min 48 (N-a))+1+k:Nat):Int),0))
 else if Fb p a (min 48 (N-a))=48 then
  (if N<a+48+32 then(0,0,24)else if Bm p (a+48) 32/2^k<48 then(0,0,12)else(UInt32.ofNat (Bm p (a+48) 32),((a+48+32:Nat):Int),0))
 else(0,0,24)
theorem pV{p:LB}{a n:Nat}(h:n<=32):(Ad (Mk p a n):UInt32)=UInt32.ofNat (Bm p a n):=by
 have e:(Ad (Mk p a n):UInt32)=UInt32.ofNat (Mk p a n).toNat:=by simp only[Ad,Ib,En]
 rw[e,Vn p a n F0]
theorem SZ{n:Nat}(h:n<4294967296):(UInt32.ofNat n).toNat=n:=by rw[L?];exact B4 h
theorem C!(p:LB)(a:Nat){n:Nat}(h:n<=32):Bm p a n<4294967296:=by
 have h1:=Mg p n a;have h2:2^n<=2^32:=G? F0 h;omega
theorem As1{q v k:Nat}(hq:q<48)(hv:v<2^k)(hk:k<=24):uB (Db (Ad (q:Int):UInt32) k) (UInt32.ofNat v)=UInt32.ofNat (q*2^k+v):=by
 have hp:2^k<=2^24:=G? F0 hk;have h1:q*2^k<=47*2^24:=T7 F0 hp;rw[Aou];apply UInt32.toNat_inj.1;rw[UInt32.toNat_or,dX,Aey,SZ F0,SZ (n:=v) F0,B4 F0,I5 q,<-TP hv,SZ aX]
theorem Aoo{p:LB}{N:Nat}(h:okB p N)(a k:Nat)(hk:k<=24):kK p (N:Int) (a:Int) (k:Int)=some (SG p N a k):=by
 have hN:=h.1;rw[kK,Asu,Wa h,Aa,A! C6,A! NX];by_cases ha:N<=a
 ·rw[Af0 h a ha,Aa,SG,A4 ha];rfl
 have hle:=SY p (min 48 (N-a)) a;rw[Ak9 h a F0,Aa];by_cases h1:Fb p a (min 48 (N-a))<min 48 (N-a)
 ·have hS:SG p N a k=if N<a+Fb p a (min 48 (N-a))+1+k then(0,0,24)else(UInt32.ofNat (Fb p a (min 48 (N-a))*2^k+Bm p (a+Fb p a (min 48 (N-a))+1) k),((a+Fb p a (min 48 (N-a))+1+k:Nat):Int),0):=by rw[SG,A! ha,A4 h1]
  rw[uq h1,hS];generalize Fb p a (min 48 (N-a))=q at*
  simp only;rw[A! C6,A! L9,aQ,ZQ,uX h _ k F0,Aa];by_cases h2:N<a+q+1+k
  ·rw[A4 h2,A4 h2];rfl
  ·rw[A! h2,A! h2];simp only;have z:(GI.toZ (k:Int)).toNat=k:=rfl;rw[A! C6,A4 F9,Bf OH,Aa,z,pV F0,As1 F0 (Mg _ _ _) hk,Ag];rfl
 ·by_cases h2:Fb p a (min 48 (N-a))=48
  ·have hS:SG p N a k=if N<a+48+32 then(0,0,24)else if Bm p (a+48) 32/2^k<48 then(0,0,12)else(UInt32.ofNat (Bm p (a+48) 32),((a+48+32:Nat):Int),0):=by rw[SG,A! ha,A! h1,A4 h2]
   have hg:=uX h (a+48) 32 F0;rw[wD h1 h2,hS];simp only;rw[A! C6,A4 SP,aQ,ZQ];refine J2 (congrArg (λo=>Option.bind o _) hg) ?_;rw[Aa];by_cases h3:N<a+48+32
   ·rw[A4 h3,A4 h3];rfl
   ·rw[A! h3,A! h3];simp only;have z:(GI.toZ (k:Int)).toNat=k:=rfl;have hv:=C! p (a+48) (n:=32) F0;rw[A! C6,A! P!,Wi,Bf OH,Aa,Aa,z,pV F0,nH];have e:(decide ((48:UInt32).toNat<= (Bw (UInt32.ofNat (Bm p (a+48) 32)) k).toNat))=decide (¬Bm p (a+48) 32/2^k<48):=by
     rw[IJ,SZ hv];simp
    rw[e];by_cases h4:Bm p (a+48) 32/2^k<48
    ·rw[A4 (by simp[h4]),A4 h4]
    ·rw[A! F7,A! h4,Ag];rfl
  ·rw[uK h1 h2,SG,A! ha,A! h1,A! h2];rfl
theorem G5(k:Nat)(hk:k<=63):∀(j i q:Nat),i+j=k->j<q->Ie (k:Int) q (UInt64.ofNat (2^i)) (i:Int)=some (UInt64.ofNat (2^k))
 |0,i,q+1,hi,_=>by
  rw[Ie,Tn,A! F9,show i=k by omega];rfl
 |j+1,i,q+1,hi,hq=>by
  have e:Bd (UInt64.ofNat (2^i)) (2:UInt64)=UInt64.ofNat (2^(i+1)):=by
   rw[JO,KZ,dP];rfl
  rw[Ie,Tn,A4 F9,Ag,e];exact G5 k hk j (i+1) q F0 F0
theorem JQ(k:Nat)(hk:k<=63):Fj (k:Int)=some (UInt64.ofNat (2^k)):=
 G5 k hk k 0 Aq F0 C0
theorem SU{k:Nat}(hk:k<=63):(UInt64.ofNat (2^k)).toNat=2^k:=by
 have hp:2^k<=2^63:=G? F0 hk;rw[J',B4 F0]
theorem An4(v:UInt32)(k:Nat)(hk:k<=24):BF v (k:Int)=some ((min 48 (v.toNat/2^k):Nat):Int):=by
 have hpos:0<2^k:=PW F0;have hv:=v.toNat_lt;rw[BF,JQ k F0,Aa,Bf (by rw[NM];simp only[TJ,ne_eq,<-U!,SU (show k<=63 by omega)];simp),Aa];have e:(Cb (Ad v:UInt64) (UInt64.ofNat (2^k))).toNat=v.toNat/2^k:=by
  rw[rJ,XT,Ct,SU F0,J',B4 F0]
 have hle:v.toNat/2^k<=v.toNat:=O' _ _;have e2:Gf (48:UInt64) (Cb (Ad v:UInt64) (UInt64.ofNat (2^k)))=UInt64.ofNat (min 48 (v.toNat/2^k)):=by
  apply UInt64.toNat_inj.1;rw[J',B4 F0];show(if _ then _ else _:UInt64).toNat=_;rw[show(GI.toZ (Cb (Ad v:UInt64) (UInt64.ofNat (2^k))))=((v.toNat/2^k:Nat):Int) by rw[Ib,e],show GI.toZ (48:UInt64)=48 from rfl];split
  ·rw[e];omega
  ·show 48=_;omega
 rw[e2,uS (by rw[J',B4]<;>omega),J',B4 F0]
theorem Ajm{p:LB}{N:Nat}(h:okB p N)(a k:Nat)(hk:k<=24):HB p (N:Int) (a:Int) (k:Int)=some (SG p N a k):=by
 obtain⟨hN,hl,hz⟩:=h;have h:okB p N:=⟨hN,hl,hz⟩;rw[HB,MM];by_cases ha:N<=a
 ·rw[A4 O?,SG,A4 ha]
 have hle:=SY p (min 48 (N-a)) a;rw[A! O?,Ajq h a F0,Aa,unR];by_cases h1:Fb p a (min 48 (N-a))<min 48 (N-a)
 ·have hS:SG p N a k=if N<a+Fb p a (min 48 (N-a))+1+k then(0,0,24)else(UInt32.ofNat (Fb p a (min 48 (N-a))*2^k+Bm p (a+Fb p a (min 48 (N-a))+1) k),((a+Fb p a (min 48 (N-a))+1+k:Nat):Int),0):=by rw[SG,A! ha,A4 h1]
  rw[uq h1,hS];generalize Fb p a (min 48 (N-a))=q at*
  rw[A4 rfl];simp only;rw[A! L9,Xo,Xd,Bi];by_cases h2:N<a+q+1+k
  ·rw[A4 Wm,A4 h2]
  ·have hp:2^k<=2^24:=G? F0 hk;have hm:q*2^k<=47*2^24:=T7 F0 hp;have hv:=Mg p k (a+q+1);have e:(Ad (Ae (Bd (Ad (q:Int):UInt64) (UInt64.ofNat (2^k))) (Mk p (a+q+1) k)):UInt32)=UInt32.ofNat (q*2^k+Bm p (a+q+1) k):=by
    have e1:Ae (Bd (Ad (q:Int):UInt64) (UInt64.ofNat (2^k))) (Mk p (a+q+1) k)=UInt64.ofNat (q*2^k+Bm p (a+q+1) k):=by
     rw[JT,JO,Sr,Mk,lW,dP]
    rw[e1];have e2:∀x:UInt64,(Ad x:UInt32)=UInt32.ofNat x.toNat:=λx=>by simp only[Ad,Ib,En]
    rw[e2,J',B4 F0]
   rw[A! Wm,A! h2,nA p _ _ k F0 F0,Aa,A4 F9,JQ k F0,Aa,e,Ag];rfl
 ·by_cases h2:Fb p a (min 48 (N-a))=48
  ·have hS:SG p N a k=if N<a+48+32 then(0,0,24)else if Bm p (a+48) 32/2^k<48 then(0,0,12)else(UInt32.ofNat (Bm p (a+48) 32),((a+48+32:Nat):Int),0):=by rw[SG,A! ha,A! h1,A4 h2]
   rw[wD h1 h2,hS,A4 rfl];simp only;rw[A4 SP,Xo,Xd,Bi];by_cases h3:N<a+48+32
   ·rw[A4 Wm,A4 h3]
   ·have hg:=nA p (N:Int) (a+48) 32 F0 F0;have hv:=C! p (a+48) (n:=32) F0;rw[A! Wm,A! h3];refine J2 (congrArg (λo=>Option.bind o _) hg) ?_;rw[Aa,A! P!,pV F0,An4 _ k hk,Aa,SZ hv];by_cases h4:Bm p (a+48) 32/2^k<48
    ·rw[A4 F9,A4 h4]
    ·rw[A! F9,A! h4,Ag];rfl
  ·rw[uK h1 h2,SG,A! ha,A! h1,A! h2];have e:(if((0:Int),(0:Int),(24:Int)).2.2=0 then(((0:Int),(0:Int),(24:Int)).1,((0:Int),(0:Int),(24:Int)).2.1)else((-1:Int),(0:Int)))=(-1,0):=F6
   rw[e];rfl
theorem Ar3{p:LB}{N a k:Nat}{v:UInt32}{n:Int}(h:SG p N a k=(v,n,0)):(a:Int)<n/\n<=N:=by
 unfold SG at h;split at h
 ·simp at h
 split at h
 ·split at h
  ·simp at h
  ·simp only[O7]at h;omega
 ·split at h
  ·split at h
   ·simp at h
   ·split at h
    ·simp at h
    ·simp only[O7]at h;omega
  ·simp at h
def okD(k l:Nat)(s t:UInt64):Prop:=k<=24/\l<=24/\s.toNat<=68719476735/\t.toNat<=68719476735
theorem G!(a b:UInt64)(h:a.toNat<=b.toNat):Gf a b=a:=by
 show(if _ then _ else _)=_;rw[Ib,Ib,A! F0]
theorem Ark(a:UInt64):geq a a=true:=by rw[xO];simp
theorem uV{k l:Nat}{t:UInt64}(h:okD k l s t):RG (k:Int) (l:Int) s t=some 0:=by
 obtain⟨h1,h2,h3,h4⟩:=h;have e1:Gf (pT (k:Int) 0) 24=(k:Int):=by rw[GG,tq];omega
 have e2:Gf (pT (l:Int) 0) 24=(l:Int):=by rw[GG,tq];omega
 have e3:Gf s (68719476735:UInt64)=s:=G! _ _ (by simpa using h3);have e4:Gf t (68719476735:UInt64)=t:=G! _ _ (by simpa using h4);have e5:∀a:Int,geq a a=true:=λa=>by rw[Bb];simp
 rw[RG,HU,VE,HN,UA,Ap7,e1,e2,e3,e4,e5,e5,Ark,Ark];rfl
def Uc(s n:UInt64):UInt64:=s+n-s/16
def kS(k:Nat)(s:UInt64):Nat:=if 0<k/\s.toNat<2^(k+4)then k-1 else if k<24/\2^(k+5)<s.toNat then k+1 else k
theorem wT{k:Nat}(h:k<=24)(s:UInt64):kS k s<=24:=by
 unfold kS;by_cases h1:0<k/\s.toNat<2^(k+4)
 ·rw[A4 h1];omega
 ·rw[A! h1];split<;>omega
theorem n!{k:Nat}(h:¬(0<k/\s.toNat<2^(k+4))):(if k<24/\2^(k+5)<s.toNat then((k+1:Nat):Int)else(k:Int))=((kS k s:Nat):Int):=by
 rw[kS,A! h];split<;>rfl
theorem nP{n:UInt64}(h:s.toNat<=68719476735)(hn:n.toNat<=4294967295):(Uc s n).toNat<=68719476735:=by
 have h1:=s.toNat_lt;have e:(s+n).toNat=s.toNat+n.toNat:=by rw[UInt64.toNat_add];omega
 have e2:(s/16).toNat=s.toNat/16:=by rw[XT];rfl
 rw[Uc,kX _ _ (by rw[kY,e,e2];omega),e,e2];omega
theorem VP(s n:UInt64):Ae s (Ah n (Bw s (GI.toZ (4:UInt64)).toNat))=Uc s n:=by
 have e:Bw s (GI.toZ (4:UInt64)).toNat=s/16:=by
  apply UInt64.toNat_inj.1;rw[EF,XT];rfl
 rw[e,JT,rT,Uc,UInt64.sub_eq_add_neg,UInt64.sub_eq_add_neg,UInt64.add_assoc]
theorem qG(s n:UInt64):Ah (Ae s n) (Cb s (16:UInt64))=Uc s n:=by rw[JT,rT,rJ,Uc]
theorem Aue{k:Nat}(h:k<=24):(Db (16:UInt64) k).toNat=2^(k+4):=by
 have hp:2^k<=2^24:=G? F0 h;rw[RZ,SL]
 show 16*2^k %_=2^k*16;rw[B4 F0,I5]
theorem Atb{k:Nat}(h:k<=24):(Db (32:UInt64) k).toNat=2^(k+5):=by
 have hp:2^k<=2^24:=G? F0 h;rw[RZ,SL]
 show 32*2^k %_=2^k*32;rw[B4 F0,I5]
theorem wz{k:Nat}(h:0<k)(h2:s.toNat<2^(k+4)):kS k s=k-1:=by rw[kS,A4 ⟨h,h2⟩]
theorem x!{k:Nat}(h:¬(0<k/\s.toNat<2^(k+4)))(h2:k<24)(h3:2^(k+5)<s.toNat):kS k s=k+1:=by rw[kS,A! h,A4 ⟨h2,h3⟩]
theorem b?{k:Nat}(h:¬(0<k/\s.toNat<2^(k+4)))(h2:¬(k<24/\2^(k+5)<s.toNat)):kS k s=k:=by rw[kS,A! h,A! h2]
theorem bR(k:Nat)(hk:k<=24)(s:UInt64)(f:Int->Option α):
  (if(Dq (k:Int) (0:Int))=true then(
   Option.bind (Hu (Lj (k:Int) (0:Int))) λ_=>
   if(Ci s (Db (16:UInt64) (GI.toZ (k:Int)).toNat))=true then f (Ah (k:Int) (1:Int))
   else(if(Ci (k:Int) (24:Int))=true then(
    Option.bind (Hu (Lj (k:Int) (0:Int))) λ_=>
    if(Dq s (Db (32:UInt64) (GI.toZ (k:Int)).toNat))=true then f (Ae (k:Int) (1:Int))else f (k:Int))
    else f (k:Int)))
  else(if(Ci (k:Int) (24:Int))=true then(
    Option.bind (Hu (Lj (k:Int) (0:Int))) λ_=>
    if(Dq s (Db (32:UInt64) (GI.toZ (k:Int)).toNat))=true then f (Ae (k:Int) (1:Int))else f (k:Int))
    else f (k:Int)))=f ((kS k s:Nat):Int):=by
 have z:(GI.toZ (k:Int)).toNat=k:=rfl;rw[z,Bf OH];simp only[Aa];rw[xU,TD,Aue hk,Atb hk];by_cases h0:0<k
 ·rw[A4 J!];by_cases h1:s.toNat<2^(k+4)
  ·rw[A4 (by simp[h1]),wz h0 h1,Bi];congr 1;omega
  ·rw[A! F7];by_cases h2:k<24
   ·rw[A4 F9];by_cases h3:2^(k+5)<s.toNat
    ·rw[A4 (by simp[h3]),x! (λh=>h1 h.2) h2 h3,Ag];rfl
    ·rw[A! F7,b? (λh=>h1 h.2) (λh=>h3 h.2)]
   ·rw[A! F9,b? (λh=>h1 h.2) (λh=>h2 h.1)]
 ·rw[A! J!];by_cases h2:k<24
  ·rw[A4 F9];by_cases h3:2^(k+5)<s.toNat
   ·rw[A4 (by simp[h3]),x! (λh=>h0 h.1) h2 h3,Ag];rfl
   ·rw[A! F7,b? (λh=>h0 h.1) (λh=>h3 h.2)]
  ·rw[A! F9,b? (λh=>h0 h.1) (λh=>h2 h.1)]
theorem sA(k:Nat)(hk:k<=24)(s n:UInt64):Tw (k:Int) s n=some (((kS k (Uc s n):Nat):Int),Uc s n):=by
 have g1:Ae (k:Int) 4=((k+4:Nat):Int):=by rw[Ag];omega
 have g2:Ae (k:Int) 5=((k+5:Nat):Int):=by rw[Ag];omega
 have hp:Ug (k:Int) s n=some (if k<24/\2^(k+5)<(Uc s n).toNat then((k+1:Nat):Int)else(k:Int),Uc s n):=by
  rw[Ug,KP,g2,JQ _ F0,Aa,qG,TD,SU F0];by_cases h2:k<24
  ·rw[A4 F9];by_cases h3:2^(k+5)<(Uc s n).toNat
   ·rw[A4 (by simp[h3]),A4 ⟨h2,h3⟩,Ag];rfl
   ·rw[A! F7,A! (λh=>h3 h.2)]
  ·rw[A! F9,A! (λh=>h2 h.1)]
 rw[Tw,JF,g1,JQ _ F0,Aa,qG,xU,SU F0,hp];by_cases h0:0<k
 ·rw[A4 J!];by_cases h1:(Uc s n).toNat<2^(k+4)
  ·rw[A4 (by simp[h1]),wz h0 h1,Bi];congr 2;omega
  ·rw[A! F7,n! (λh=>h1 h.2)]
 ·rw[A! J!,n! (λh=>h0 h.1)]
def xM(v:UInt32):UInt64:=UInt64.ofNat v.toNat
theorem vJ(v:UInt32):(xM v).toNat<=4294967295:=by have:=v.toNat_lt;rw[xM,J',B4 F0];omega
def cC(k:Nat)(v:UInt32):UInt32:=UInt32.ofNat (v.toNat-2^k)
def lK(l:Nat)(t:UInt64)(k:Nat)(v:UInt32):Nat:=if v.toNat<2^k then l else kS l (Uc t (xM (cC k v)))
def lT(t:UInt64)(k:Nat)(v:UInt32):UInt64:=if v.toNat<2^k then t else Uc t (xM (cC k v))
theorem Aix{k l:Nat}{t:UInt64}(h:okD k l s t)(v:UInt32):okD (kS k (Uc s (xM v))) (lK l t k v) (Uc s (xM v)) (lT t k v):=by
 obtain⟨h1,h2,h3,h4⟩:=h;refine⟨wT h1 _,?_,nP h3 (vJ v),?_⟩
 ·unfold lK;split; · exact h2
  exact wT h2 _
 ·unfold lT;split; · exact h4
  exact nP h4 (vJ _)
theorem Ash(k l:Nat)(s t:UInt64)(hk:k<=24)(v:UInt32):GU (k:Int) (l:Int) s t v=some (decide (v.toNat<2^k)):=by
 have:=v.toNat_lt;rw[GU,JQ k F0,Aa,xU,SU F0,Ct,J',B4 F0]
theorem left_eq(k l:Nat)(s t:UInt64)(hk:k<=24)(v:UInt32)(h:¬v.toNat<2^k):CY (k:Int) (l:Int) s t v=some (cC k v):=by
 have:=v.toNat_lt;have e2:∀x:UInt64,(Ad x:UInt32)=UInt32.ofNat x.toNat:=λx=>by simp only[Ad,Ib,En]
 have e3:(UInt64.ofNat v.toNat).toNat=v.toNat:=by rw[J',B4 F0]
 rw[CY,JQ k F0,Aa,e2,rT,Ct,kX _ _ (by rw[kY,SU F0,e3];omega),SU F0,e3,cC]
theorem Ahl{k l:Nat}{t:UInt64}(h:okD k l s t)(v:UInt32):Wu (k:Int) (l:Int) s t v=some (((kS k (Uc s (xM v)):Nat):Int),((lK l t k v:Nat):Int),Uc s (xM v),lT t k v):=by
 obtain⟨h1,h2,h3,h4⟩:=h;have hp:∀(r1:Int) (r2:UInt64),Qq v (k:Int) (l:Int) s t r1 r2=some (((kS k (Uc s (xM v)):Nat):Int),r1,Uc s (xM v),r2):=by
  intro r1 r2;rw[Qq,DP,Ct,sA k h1,Aa];rfl
 rw[Wu,BL,Ash k l s t h1,Aa];by_cases hv:v.toNat<2^k
 ·rw[A! (by simp[hv]),hp,lK,A4 hv,lT,A4 hv]
 ·rw[A4 F7,left_eq k l s t h1 v hv,Aa,Ct,sA l h2,Aa];simp only;rw[hp,lK,A! hv,lT,A! hv];rfl
theorem B3(k l:Nat)(s t:UInt64)(hk:k<=24)(v:UInt32):HG (k:Int) (l:Int) s t v=some (if v.toNat<2^k then(0,v)else(1,cC k v)):=by
 have hp:2^k<=2^24:=G? F0 hk;have hpos:0<2^k:=PW F0;have hl:=v.toNat_lt;have z:(GI.toZ (k:Int)).toNat=k:=rfl;have e1:geq (Bw v k) (0:UInt32)=decide (v.toNat<2^k):=by
  rw[ku,H'];simp only[Q7,<-dH,IJ,C9]
  show _/_=0↔_;rw[Nat.div_eq_zero_iff];omega
 have e2:¬v.toNat<2^k->Ah v (Db (1:UInt32) k)=cC k v:=by
  intro h;have e3:(Db (1:UInt32) k).toNat=2^k:=by rw[dX];show 1*2^k %_=_;rw[B4 F0,Y4]
  apply UInt32.toNat_inj.1;rw[zH,k_ _ _ (by rw[ko,e3];omega),e3,cC,SZ F0]
 rw[HG,Bf OH,Aa,Aa,z,e1];by_cases h:v.toNat<2^k
 ·rw[A4 (by simp[h]),A4 h]
 ·rw[A! F7,A! h,e2 h]
abbrev Rd:=UInt32×Int×Int×Int×UInt64×UInt64×Int
theorem Awc{k l:Nat}{t:UInt64}(h:okD k l s t)(v:UInt32)(r:Int):YY (k:Int) (l:Int) s t v r=some (v,r,((kS k (Uc s (xM v)):Nat):Int),((lK l t k v:Nat):Int),Uc s (xM v),lT t k v,0):=by
 obtain⟨h1,h2,h3,h4⟩:=h;have hp:∀(x:Int) (y:UInt64),ED v r (k:Int) s x y=some (v,r,((kS k (Uc s (xM v)):Nat):Int),x,Uc s (xM v),y,0):=by
  intro x y;rw[ED,Atj,Ct,VP,bR k h1];rw[Arf,At9,Aq4,Ap3,Ct,VP];rfl
 rw[YY,YW,B3 k l s t h1,Aa];by_cases hv:v.toNat<2^k
 ·rw[A4 hv];simp only;rw[A! U?,hp,lK,A4 hv,lT,A4 hv]
 ·rw[A! hv];simp only;rw[A4 SP,Ct,VP,bR l h2 _ (λx=>ED v r (k:Int) s x (Uc t (UInt64.ofNat (cC k v).toNat))),hp,lK,A! hv,lT,A! hv];rfl
def YF(p:LB)(N a k l:Nat):UInt32×Int×Int:=
 if N<=a then(0,0,24)else
 if Fs p a=0 then(if N<a+1+k then(0,0,24)else(UInt32.ofNat (Bm p (a+1) k),((a+1+k:Nat):Int),0))else
 if(SG p N (a+1) l).2.2≠0 then(0,0,(SG p N (a+1) l).2.2)else
 if 4294967295<(SG p N (a+1) l).1.toNat+2^k then(0,0,12)else(UInt32.ofNat ((SG p N (a+1) l).1.toNat+2^k),(SG p N (a+1) l).2.1,0)
theorem Ast{p:LB}{N a k l:Nat}(h:(YF p N a k l).2.2=0):(a:Int)<(YF p N a k l).2.1/\ (YF p N a k l).2.1<=N:=by
 revert h
 unfold YF;split
 ·simp
 split
 ·split
  ·simp
  ·simp only;omega
 ·split
  ·intro h;contradiction
  ·rename_i h1;split
   ·simp
   ·intro _;have:=Ar3 (p:=p) (N:=N) (a:=a+1) (k:=l) (v:=(SG p N (a+1) l).1) (n:=(SG p N (a+1) l).2.1) (by
     have e:(SG p N (a+1) l).2.2=0:=by simpa using h1
     rw[<-e])
    simp only;omega
theorem Aol{p:LB}{N:Nat}(h:okB p N)(a:Nat){k l:Nat}{t:UInt64}(hd:okD k l s t):GW p (N:Int) (a:Int) (k:Int) (l:Int) s t=
  some (if(YF p N a k l).2.2≠0 then(0,0,0,0,0,0,(YF p N a k l).2.2)else((YF p N a k l).1,(YF p N a k l).2.1,((kS k (Uc s (xM (YF p N a k l).1)):Nat):Int),((lK l t k (YF p N a k l).1:Nat):Int),Uc s (xM (YF p N a k l).1),lT t k (YF p N a k l).1,0)):=by
 obtain⟨h1,h2,h3,h4⟩:=hd;have hd:okD k l s t:=⟨h1,h2,h3,h4⟩;have hN:=h.1;have hg:=uX h a 1 F0;have hb:=Yd p a;rw[GW,bE,Wa h,Aa,A! C6,uV hd,Aa,A! C6,Ato,ZC];refine J2 (congrArg (λo=>Option.bind o _) hg) ?_;rw[Aa];by_cases ha:N<=a
 ·have hS:YF p N a k l=(0,0,24):=by rw[YF,A4 ha]
  rw[A4 F0,hS];rfl
 rw[A! F0];simp only;have e0:geq (Mk p a 1) (0:UInt64)=decide (Fs p a=0):=by
  rw[xO,H'];simp only[Q7,<-U!,C9,Vn p a 1 F0,qF];rfl
 have e1:Ae (a:Int) 1=((a+1:Nat):Int):=by rw[Ag];omega
 rw[A! C6,e0,e1];by_cases hz:Fs p a=0
 ·rw[A4 (by simp[hz]),uX h (a+1) k F0,Aa];by_cases h5:N<a+1+k
  ·have hS:YF p N a k l=(0,0,24):=by rw[YF,A! ha,A4 hz,A4 h5]
   rw[A4 h5,hS];rfl
  ·have hS:YF p N a k l=(UInt32.ofNat (Bm p (a+1) k),((a+1+k:Nat):Int),0):=by rw[YF,A! ha,A4 hz,A! h5]
   rw[A! h5,hS];simp only;rw[A! C6,Awc hd,pV F0,Ag];rfl
 ·rw[A! (by simp[hz]),Aoo h (a+1) l h2,Aa];have hp:2^k<=2^24:=G? F0 h1;by_cases h5:(SG p N (a+1) l).2.2≠0
  ·have hS:YF p N a k l=(0,0,(SG p N (a+1) l).2.2):=by rw[YF,A! ha,A! hz,A4 h5]
   rw[hS];generalize SG p N (a+1) l=R at*
   obtain⟨v,n,e⟩:=R;simp only at*
   rw[A4 (by rw[Ak];simpa using h5),A4 h5]
  ·have hv:=(SG p N (a+1) l).1.toNat_lt;have z:(GI.toZ (k:Int)).toNat=k:=rfl;have e3:(Db (1:UInt32) k).toNat=2^k:=by rw[dX];show 1*2^k %_=_;rw[B4 F0,Y4]
   by_cases h6:4294967295<(SG p N (a+1) l).1.toNat+2^k
   ·have hS:YF p N a k l=(0,0,12):=by rw[YF,A! ha,A! hz,A! h5,A4 h6]
    rw[hS];generalize SG p N (a+1) l=R at*
    obtain⟨v,n,e⟩:=R;simp only at*
    rw[A! (by rw[Ak];simpa using h5),Bf OH,Aa,z,A4 (by rw[nV,yD,lX,e3];simp;omega),A4 F6]
   ·have hS:YF p N a k l=(UInt32.ofNat ((SG p N (a+1) l).1.toNat+2^k),(SG p N (a+1) l).2.1,0):=by rw[YF,A! ha,A! hz,A! h5,A! h6]
    rw[hS];generalize SG p N (a+1) l=R at*
    obtain⟨v,n,e⟩:=R;simp only at*
    have e4:Ae v (Db (1:UInt32) k)=UInt32.ofNat (v.toNat+2^k):=by
     apply UInt32.toNat_inj.1;rw[yD,lX,e3,SZ F0,B4 F0]
    rw[A! (by rw[Ak];simpa using h5),Bf OH,Aa,z,A! (by rw[nV,yD,lX,e3];simp;omega),e4,Awc hd];rfl
theorem Alo{p:LB}{N:Nat}(h:okB p N)(a:Nat)(k l:Nat)(s t:UInt64)(h1:k<=24)(h2:l<=24):GX p (N:Int) (a:Int) (k:Int) (l:Int) s t=some (YF p N a k l):=by
 have hN:=h.1;have hl:=h.2.1;have hb:=Yd p a;rw[GX];by_cases ha:N<=a
 ·rw[A4 O?,YF,A4 ha]
 rw[A! O?,sZ p _ a F0 F0,Aa,Bi (a:=(N:Int)) (b:=(a:Int)) F0 F0,Bi];have e1:Ae (a:Int) 1=((a+1:Nat):Int):=by rw[Ag];omega
 rw[e1];by_cases hz:Fs p a=0
 ·rw[A4 (by rw[Bb];simp[hz])];by_cases h5:N<a+1+k
  ·rw[A4 F9,YF,A! ha,A4 hz,A4 h5]
  ·rw[A! F9,nA p _ (a+1) k F0 F0,Aa,YF,A! ha,A4 hz,A! h5,pV F0,Ag];rfl
 ·rw[A! L9,Ajm h (a+1) l h2,Aa];have hp:2^k<=2^24:=G? F0 h1;have hv:=(SG p N (a+1) l).1.toNat_lt;have e2:∀x:UInt64,(Ad x:UInt32)=UInt32.ofNat x.toNat:=λx=>by simp only[Ad,Ib,En]
  by_cases h5:(SG p N (a+1) l).2.2≠0
  ·have hS:YF p N a k l=(0,0,(SG p N (a+1) l).2.2):=by rw[YF,A! ha,A! hz,A4 h5]
   rw[hS];generalize SG p N (a+1) l=R at*
   obtain⟨v,n,e⟩:=R;simp only at*
   rw[A4 (by rw[Ak];simpa using h5)]
  ·have hsum:∀v:UInt32,(Ae (Ad v:UInt64) (UInt64.ofNat (2^k))).toNat=v.toNat+2^k:=by
    intro v;have:=v.toNat_lt;have:=PW (n:=k) (show 0<2 by omega);rw[JT,UInt64.toNat_add,Ct,SU F0,J'];omega
   by_cases h6:4294967295<(SG p N (a+1) l).1.toNat+2^k
   ·have hS:YF p N a k l=(0,0,12):=by rw[YF,A! ha,A! hz,A! h5,A4 h6]
    rw[hS];generalize SG p N (a+1) l=R at*
    obtain⟨v,n,e⟩:=R;simp only at*
    rw[A! (by rw[Ak];simpa using h5),JQ k F0,Aa,A4 (by rw[TD,hsum];simpa using h6)]
   ·have hS:YF p N a k l=(UInt32.ofNat ((SG p N (a+1) l).1.toNat+2^k),(SG p N (a+1) l).2.1,0):=by rw[YF,A! ha,A! hz,A! h5,A! h6]
    rw[hS];generalize SG p N (a+1) l=R at*
    obtain⟨v,n,e⟩:=R;simp only at*
    rw[A! (by rw[Ak];simpa using h5),JQ k F0,Aa,A! (by rw[TD,hsum];simpa using h6),e2,hsum]
theorem K0{p:Prop}(h:p:=by rw[Ak];simp;omega):p:=h
theorem Y?{p:Prop}(h:p:=by rw[<-Tv];omega):p:=h
abbrev DuN:=Nat×Nat×UInt64×UInt64
def okN(d:DuN):Prop:=okD d.1 d.2.1 d.2.2.1 d.2.2.2
def nxt(d:DuN)(v:UInt32):DuN:=(kS d.1 (Uc d.2.2.1 (xM v)),lK d.2.1 d.2.2.2 d.1 v,Uc d.2.2.1 (xM v),lT d.2.2.2 d.1 v)
def uw:DuN:=(10,10,16384,16384)
theorem Aj4:okN uw:=⟨F6,F6,F6,F6⟩
theorem Asv{d:DuN}(h:okN d)(v:UInt32):okN (nxt d v):=Aix h v
abbrev DuL:=Int×Int×UInt64×UInt64×Unit
def toI(d:DuN):DuL:=((d.1:Int),(d.2.1:Int),d.2.2.1,d.2.2.2,())
def dI(ch:Nat)(v:LU)(c:Nat):Nat->DuN
 |0=>uw
 |m+1=>if m %ch=c then nxt (dI ch v c m) (v.getD m 0)else dI ch v c m
theorem gJ(ch:Nat)(v:LU)(c:Nat):∀m,okN (dI ch v c m)
 |0=>Aj4
 |m+1=>by rw[dI];split;exact Asv (gJ ch v c m) _;exact gJ ch v c m
theorem sN(ch:Nat)(v w:LU)(c:Nat):∀m,m<=v.length->dI ch (v++w) c m=dI ch v c m
 |0,_=>rfl
 |m+1,h=>by
  have e:(v++w).getD m 0=v.getD m 0:=by simp[D!,O1 (show m<v.length by omega)]
  rw[dI,dI,sN ch v w c m F0,e]
theorem jy(ch:Nat)(v:LU)(c:Nat):∀m,m<=c->c<ch->dI ch v c m=uw
 |0,_,_=>rfl
 |m+1,h,h2=>by rw[dI,A! (by rw[B4 F0];omega),jy ch v c m F0 h2]
theorem Anm(ch:Nat)(v:LU)(c i:Nat)(hi:i %ch=c)(hc:c<ch):∀j,j<ch->dI ch v c (i+1+j)=dI ch v c (i+1)
 |0,_=>rfl
 |j+1,h=>by
  have hne:(i+1+j) %ch≠c:=by
   intro e;have h1:(i+(1+j)) %ch=i %ch:=by rw[hi,<-e];congr 1;omega
   have h2:(1+j) %ch=0:=by
    have h3:=k! h1;rwa [T!]at h3
   rw[B4 F0]at h2;omega
  rw[show i+1+(j+1)=(i+1+j)+1 by omega,dI,A! hne,Anm ch v c i hi hc j F0]
theorem Akn(ch:Nat)(v:LU)(c i:Nat)(hi:i %ch=c)(hc:c<ch):dI ch v c (i+ch)=nxt (dI ch v c i) (v.getD i 0):=by
 have h:=Anm ch v c i hi hc (ch-1) F0;rw[show i+1+(ch-1)=i+ch by omega]at h;rw[h,dI,A4 hi]
theorem rU{l:LU}{k:Nat}(h:k<l.length):Aj l (k:Int)=some (l.getD k 0):=by
 rw[Cf h];simp[D!,h]
theorem OT(a b:Nat):Ge (a:Int) (b:Int)=((a %b:Nat):Int):=by rw[Ge,Z3 F0];omega
theorem Avj(ch:Nat)(v:LU)(hch:1<=ch)(j_:ch<=6)(hv:v.length<=4000):∀(j i q:Nat),i %ch=v.length %ch->i<=v.length->v.length-i<=j->j<q->
  Lb (ch:Int) v q (i:Int) ((dI ch v (v.length %ch) i).1:Int) ((dI ch v (v.length %ch) i).2.1:Int) (dI ch v (v.length %ch) i).2.2.1 (dI ch v (v.length %ch) i).2.2.2=
   some (((dI ch v (v.length %ch) v.length).1:Int),((dI ch v (v.length %ch) v.length).2.1:Int),(dI ch v (v.length %ch) v.length).2.2.1,(dI ch v (v.length %ch) v.length).2.2.2)
 |j,i,q+1,hi,hl,hj,hq=>by
  have hc:v.length %ch<ch:=OP _ F0;rw[Lb,DN];by_cases h:i<v.length
  ·have h1:=Ahl (gJ ch v (v.length %ch) i) (v.getD i 0);rw[A4 F2,rU h,Aa,h1,Aa];have hle:i+ch<=v.length:=by
    have h2:=U7 i ch;have h3:=U7 v.length ch;rw[hi]at h2;have h4:ch*(i/ch)<ch*(v.length/ch):=F0
    have h5:=Nat.lt_of_mul_lt_mul_left h4;have h6:ch*(i/ch+1)<=ch*(v.length/ch):=cZ _ h5;rw[aA]at h6;omega
   have ih:=Avj ch v hch j_ hv (j-ch) (i+ch) q (by rw[XK];exact hi) hle F0 F0;rw[Akn ch v _ i hi hc]at ih;simp only;rw[Ag];exact ih
  ·rw[A! F2,show i=v.length by omega];rfl
theorem Agn(ch:Nat)(v:LU)(hch:1<=ch)(j_:ch<=6)(hv:v.length<=4000):Oe (ch:Int) v=some (((dI ch v (v.length %ch) v.length).1:Int),((dI ch v (v.length %ch) v.length).2.1:Int),(dI ch v (v.length %ch) v.length).2.2.1,(dI ch v (v.length %ch) v.length).2.2.2):=by
 have hc:v.length %ch<ch:=OP _ F0;have hle:v.length %ch<=v.length:=Wk _ _;have h:=Avj ch v hch j_ hv v.length (v.length %ch) Aq (by rw[Y7]) hle F0 C0;rw[jy ch v _ _ (D1 _) hc]at h;rw[Oe,CG,Lp,Aa];simp only;rw[Bf K0,Aa,Ac,OT];exact h
def now(ch:Nat)(v:LU):DuN:=dI ch v (v.length %ch) v.length
def sQ(N a:Nat):Nat:=min 81 (N-a)
def Ka(ch:Nat)(p:LB)(N a:Nat)(out:LU):UInt32×Int×Int:=YF (Na p a (sQ N a)) (sQ N a) 0 (now ch out).1 (now ch out).2.1
def Wj(ch:Nat)(p:LB)(N:Nat):Nat->Nat->LU->LU×Nat×Int
 |0,a,out=>(out,a,0)
 |j+1,a,out=>if(Ka ch p N a out).2.2≠0 then(out,a,(Ka ch p N a out).2.2)else Wj ch p N j (a+(Ka ch p N a out).2.1.toNat) (out++[(Ka ch p N a out).1])
theorem kF{ch:Nat}{p:LB}{N a:Nat}{out:LU}(h:(Ka ch p N a out).2.2=0):0<(Ka ch p N a out).2.1/\ (Ka ch p N a out).2.1<=sQ N a:=by
 have:=Ast h;exact⟨this.1,this.2⟩
theorem Aez{ch:Nat}{p:LB}{N a:Nat}{out:LU}(h:(Ka ch p N a out).2.2=0):((a:Int)+(Ka ch p N a out).2.1)=((a+(Ka ch p N a out).2.1.toNat:Nat):Int):=by
 have:=kF h;omega
def sts(ch:Nat)(v:LU):List DuL:=(List.range 6).map λc=>toI (dI ch v c v.length)
theorem og{ch:Nat}{v:LU}{c:Nat}(h:c<6):Aj (sts ch v) (c:Int)=some (toI (dI ch v c v.length)):=by
 rw[Cf (by simp[sts];exact h)];simp[sts]
theorem sO{ch:Nat}{v:LU}{c:Nat}(x:UInt32)(h:c<6)(hc:c=v.length %ch):He (sts ch v) (c:Int) (toI (nxt (dI ch v c v.length) x))=some (sts ch (v++[x])):=by
 rw[Ra _ (by simp[sts];exact h)];congr 1;apply P8 (by simp[sts]);intro i h1 h2;rw[XW];simp only[sts,T9,U0];have e:(v++[x]).getD v.length 0=x:=by simp
 rw[B6,cQ,dI,e,sN ch v [x] i v.length (D1 _)];by_cases hi:c=i
 ·subst hi;rw[A4 rfl,A4 hc.symm]
 ·rw[A! hi,A! F0]
theorem Aqb{ch:Nat}{v:LU}{c:Nat}(hc:c=v.length %ch):dI ch v c v.length=now ch v:=by rw[now,hc]
section
variable {p:LB} {N ch n:Nat}
theorem Awv(hp:okB p N)(h1:1<=ch)(h6:ch<=6)(hn:n*ch<=4000):∀(j a q:Nat) (out:LU),out.length+j=n*ch->j<q->a<=N->
  Ll (ch:Int) (n:Int) p (N:Int) q (a:Int) (out.length:Int) (sts ch out) out=
   some (if(Wj ch p N j a out).2.2≠0 then([],0,(Wj ch p N j a out).2.2)else((Wj ch p N j a out).1,((Wj ch p N j a out).2.1:Int),0))
 |j,a,q+1,out,hj,hq,ha=>by
  have hN:=hp.1;have hnn:n<=n*ch:=lJ n F0;have em:Bd (n:Int) (ch:Int)=((n*ch:Nat):Int):=by rw[Gp Y? Y?,Tv]
  rw[Ll,Rn,em];cases j with
  |zero=>
   rw[A! F9];rfl
  |succ j=>
   have hc:out.length %ch<6:=M0 (OP _ F0) h6;have ew:Gf (Ae (a:Int) 81) (N:Int)=((a+sQ N a:Nat):Int):=by rw[GG,Ag];unfold sQ;omega
   have hw:a+sQ N a<=N:=by unfold sQ;omega
   have hw2:sQ N a<=81:=by unfold sQ;omega
   have hd:=Aol (pM p a (sQ N a) F0) 0 (gJ ch out (out.length %ch) out.length);have iG:YF (Na p a (sQ N a)) (sQ N a) 0 (dI ch out (out.length %ch) out.length).1 (dI ch out (out.length %ch) out.length).2.1=Ka ch p N a out:=rfl;rw[A4 F9,ew,Ar7 hp a _ hw F0,Aa];simp only;rw[A! C6,Bf K0,Aa,OT,og hc,Aa,Aa];refine J2 (congrArg (λo=>Option.bind o _) hd) ?_;rw[Aa,iG,Wj];by_cases he:(Ka ch p N a out).2.2≠0
   ·rw[A4 he,A4 he];simp only;rw[Qt,Zb,A4 (by rw[Ak];simpa using he),A4 he]
   ·have he0:(Ka ch p N a out).2.2=0:=by simpa using he
    have hok:=kF he0;have hset:=sO (ch:=ch) (v:=out) (Ka ch p N a out).1 hc rfl;rw[A! he,A! he];simp only;rw[Qt,Zb,A! C6,Bf K0,Aa,OT,og hc,Aa];refine J2 (congrArg (λo=>Option.bind o _) hset) ?_;rw[Aa,Aaf,Ac1,Bu F7,Aa,Ag,Ag,Aez he0];have ih:=Awv hp h1 h6 hn j (a+(Ka ch p N a out).2.1.toNat) q (out++[(Ka ch p N a out).1]) F7 F0 F0;rw[B6,cQ]at ih;exact ih
theorem rO{p:LB}(hN:N=8*p.length)(hN2:N<=330000)(h1:1<=ch)(h6:ch<=6)(hn:n*ch<=4000):∀(j a q:Nat) (out:LU),out.length+j=n*ch->j<q->a<=N->
  Es (ch:Int) (n:Int) p q (a:Int) (out.length:Int) out=
   if(Wj ch p N j a out).2.2≠0 then some ((Wj ch p N j a out).1,(Wj ch p N j a out).2.2)else Tq ((Wj ch p N j a out).2.1:Int) p (Wj ch p N j a out).1
 |j,a,q+1,out,hj,hq,ha=>by
  have hnn:n<=n*ch:=lJ n F0;have em:Bd (n:Int) (ch:Int)=((n*ch:Nat):Int):=by rw[Gp Y? Y?,Tv]
  have e8:Bd (8:Int) (Ac p)=(N:Int):=by rw[Ac,Gp];omega
  rw[Es,FW,em];cases j with
  |zero=>
   rw[A! F9];rfl
  |succ j=>
   have ew:Gf (Ae (a:Int) 81) (N:Int)=((a+sQ N a:Nat):Int):=by rw[GG,Ag];unfold sQ;omega
   have hw:a+sQ N a<=N:=by unfold sQ;omega
   have hw2:sQ N a<=81:=by unfold sQ;omega
   have hpre:(Option.bind Lp λ(r_4,r_5,r_6,r_7)=>
     if(Lj (out.length:Int) (ch:Int))=true then(
     Option.bind (Oe (ch:Int) out) λ(r_8,r_9,r_10,r_11)=>
     Ih (Es (ch:Int) (n:Int) p q) (ch:Int) (n:Int) p (a:Int) (out.length:Int) out r_8 r_9 r_10 r_11)
     else Ih (Es (ch:Int) (n:Int) p q) (ch:Int) (n:Int) p (a:Int) (out.length:Int) out r_4 r_5 r_6 r_7)=
     Ih (Es (ch:Int) (n:Int) p q) (ch:Int) (n:Int) p (a:Int) (out.length:Int) out ((now ch out).1:Int) ((now ch out).2.1:Int) (now ch out).2.2.1 (now ch out).2.2.2:=by
    rw[Lp,Aa];by_cases hc:ch<=out.length
    ·simp only;rw[A4 O?,Agn ch out h1 h6 F0,Aa];rfl
    ·have e:now ch out=uw:=by rw[now,B4 F0,jy ch out _ _ (D1 _) F0]
     simp only;rw[A! O?,e];rfl
   have hd:=Alo (pM p a (sQ N a) F0) 0 (now ch out).1 (now ch out).2.1 (now ch out).2.2.1 (now ch out).2.2.2 (gJ ch out _ _).1 (gJ ch out _ _).2.1;have iG:YF (Na p a (sQ N a)) (sQ N a) 0 (now ch out).1 (now ch out).2.1=Ka ch p N a out:=rfl;rw[A4 F9,hpre,Ih,FQ,e8,ew,Bep p (N:Int) a _ F0 F0 F0,Aa];simp only;refine J2 (congrArg (λo=>Option.bind o _) hd) ?_;rw[Aa,iG,Wj];by_cases he:(Ka ch p N a out).2.2≠0
   ·rw[A4 he,A4 (by rw[Ak];simpa using he),A4 he]
   ·have he0:(Ka ch p N a out).2.2=0:=by simpa using he
    have hok:=kF he0;have ih:=rO hN hN2 h1 h6 hn j (a+(Ka ch p N a out).2.1.toNat) q (out++[(Ka ch p N a out).1]) F7 F0 F0;have hx:=Aez he0;rw[B6,cQ]at ih;rw[A! he];generalize Ka ch p N a out=R at*
    obtain⟨v,nx,e⟩:=R;simp only at*
    rw[A! (by rw[Ak];simpa using he),Bu F7,Aa,Ag,Ag,hx];exact ih
end
theorem iy{ch:Nat}{p:LB}{N:Nat}:∀(j a:Nat) (out:LU),a<=N-> (Wj ch p N j a out).2.1<=N/\ (Wj ch p N j a out).1.length<=out.length+j/\ ((Wj ch p N j a out).2.2=0-> (Wj ch p N j a out).1.length=out.length+j)
 |0,a,out,h=>⟨h,D1 _,λ_=>rfl⟩
 |j+1,a,out,h=>by
  rw[Wj];split
  ·rename_i he;exact⟨h,A7,λe=>absurd e he⟩
  ·rename_i he;have hok:=kF (ch:=ch) (p:=p) (N:=N) (a:=a) (out:=out) (by simpa using he);have hw:a+sQ N a<=N:=by unfold sQ;omega
   have ih:=iy (ch:=ch) (p:=p) (N:=N) j (a+(Ka ch p N a out).2.1.toNat) (out++[(Ka ch p N a out).1]) F0;rw[B6,cQ]at ih;exact⟨ih.1,F0,λe=>by have:=ih.2.2 e;omega⟩
theorem Ayo(ch n:Int)(b:LB)(N:Int):Zn ch n b N 0 (List.replicate 6 ((0:Int),(0:Int),(0:UInt64),(0:UInt64),()))=Aa1 ch n b N (List.replicate 6 ((10:Int),(10:Int),(16384:UInt64),(16384:UInt64),())):=by
 have e:Aq=(Aq-7)+1+1+1+1+1+1+1:=by have:=Ao;omega
 rw[Zn,e];rfl
theorem values_eq{p:LB}{N ch n:Nat}(hp:okB p N)(h1:1<=ch)(h6:ch<=6)(hn:n*ch<=4000):CU (ch:Int) (n:Int) p (N:Int)=
  some (if(Wj ch p N (n*ch) 0 []).2.2≠0 then([],0,(Wj ch p N (n*ch) 0 []).2.2)else((Wj ch p N (n*ch) 0 []).1,((Wj ch p N (n*ch) 0 []).2.1:Int),0)):=by
 have h:=Awv hp h1 h6 hn (n*ch) 0 Aq [] A7 C0 F0;rw[CU,CT,Ayo];exact h
theorem Adg(p:LB)(x:LU)(N:Nat)(hN:N=8*p.length)(hN2:N<=330000):∀(j a q:Nat),a+j=N->j<q->Ij p x q (a:Int)=some (x,if Bm p a j=0 then 0 else 12)
 |0,a,q+1,ha,_=>by
  have e8:Bd (8:Int) (Ac p)=(N:Int):=by rw[Ac,Gp];omega
  rw[Ij,Tf,e8,A! F9,Bm,A4 rfl];rfl
 |j+1,a,q+1,ha,hq=>by
  have e8:Bd (8:Int) (Ac p)=(N:Int):=by rw[Ac,Gp];omega
  have hb:=Yd p a;rw[Ij,Tf,e8,A4 F9,sZ p _ a F0 F0,Aa,Bm];by_cases h:Fs p a=0
  ·rw[A! (by rw[Ak];simp[h]),Ag,h];have ih:=Adg p x N hN hN2 j (a+1) q F0 F0;rw[show((a:Int)+1)=((a+1:Nat):Int) by omega,ih];congr 2;by_cases hv:Bm p (a+1) j=0
   ·rw[A4 hv,A4 F0]
   ·rw[A! hv,A! F0]
  ·rw[A4 K0,A! F0]
theorem qM{p:LB}{N ch n:Nat}(hN:N=8*p.length)(hN2:N<=330000)(h1:1<=ch)(h6:ch<=6)(hn:n*ch<=4000):BI (ch:Int) (n:Int) p=
  some (if(Wj ch p N (n*ch) 0 []).2.2≠0 then((Wj ch p N (n*ch) 0 []).1,(Wj ch p N (n*ch) 0 []).2.2)else
   ((Wj ch p N (n*ch) 0 []).1,if 7<N-(Wj ch p N (n*ch) 0 []).2.1\/Bm p (Wj ch p N (n*ch) 0 []).2.1 (N-(Wj ch p N (n*ch) 0 []).2.1)≠0 then 12 else 0)):=by
 have h:=rO hN hN2 h1 h6 hn (n*ch) 0 Aq [] A7 C0 F0;have hat:=(iy (ch:=ch) (p:=p) (N:=N) (n*ch) 0 [] F0).1;have e8:Bd (8:Int) (Ac p)=(N:Int):=by rw[Ac,Gp];omega
 rw[BI,JZ];refine J2 h ?_;generalize Wj ch p N (n*ch) 0 []=V at*
 obtain⟨v,a,e⟩:=V;simp only at*
 by_cases he:e≠0
 ·rw[A4 he,A4 he]
 ·rw[A! he,A! he,Tq,FA,e8,Bi];by_cases h7:7<N-a
  ·rw[A4 J!,A4 (.inl h7)]
  ·rw[A! J!,FH,Adg p v N hN hN2 (N-a) a Aq F0 C0];by_cases hv:Bm p a (N-a)=0
   ·rw[A4 hv,A! F0]
   ·rw[A! hv,A4 (.inr hv)]
theorem xu(n:Int):(GI.ofZ n:Int32)=Int32.ofInt n:=rfl
theorem HX(a:Int32):GI.toZ a=a.toInt:=rfl
theorem VY(a b:Int32):Ae a b=a+b:=by
 rw[Ae,HX,HX,xu,mR,Q6,Q6]
theorem QB(a b:Int32):Ah a b=a-b:=by
 rw[Ah,HX,HX,xu,mS,Q6,Q6]
theorem nX(a b:Int32):geq a b=(a==b):=by
 rw[geq,HX,HX,H'];simp[Int32.toInt_inj]
theorem Ano(a b:Int32):Bl a b=(a !=b):=by
 rw[Bl,HX,HX,H'];simp[Int32.toInt_inj]
def ZE(p:Nat->Bool)(a b:LX):LX:=(List.range a.length).map λk=>if p k=true then a.getD k 0 else b.getD k 0
section
variable {p q:Nat->Bool} {a b:LX}
theorem HW:(ZE p a b).length=a.length:=by simp[ZE]
theorem Hj{k:Nat}(h:k<a.length):a.getD k 0=a[k]:=by simp[D!,h]
theorem Qe{k:Nat}(h:k<(ZE p a b).length):(ZE p a b)[k]=if p k=true then a.getD k 0 else b.getD k 0:=by simp[ZE]
theorem Yr{k:Nat}(h:k<a.length):Aj (ZE p a b) (k:Int)=some (if p k=true then a.getD k 0 else b.getD k 0):=by
 rw[Cf (by rw[HW];exact h),Qe]
theorem Sd(h:∀k,k<a.length->p k=q k):ZE p a b=ZE q a b:=by
 apply cY;intro k hk;rw[h k (List.mem_range.1 hk)]
theorem aO{k:Nat}(h:k<a.length):He (ZE p a b) (k:Int) (a.getD k 0)=some (ZE (λj=>p j||decide (j=k)) a b):=by
 rw[Ra _ (by rw[HW];exact h)];congr 1;apply P8 (by simp[HW]);intro i h1 h2;rw[XW,Qe,Qe];by_cases hi:k=i
 ·subst hi;simp
 ·have:¬i=k:=λe=>hi e.symm;simp[hi,this]
theorem kM(h:∀k,k<a.length->p k=true):ZE p a b=a:=by
 apply P8 (by simp[HW]);intro i h1 h2;rw[Qe,A4 (h i h2),Hj h2]
theorem eK(hl:b.length=a.length)(h:∀k,k<a.length->p k=false):ZE p a b=b:=by
 apply P8 (by simp[HW,hl]);intro i h1 h2;rw[Qe,h i F0];simp[D!,h2]
end
theorem Wn{p:Prop}(h:p:=by rw[Bb];decide):p:=h
theorem yK(a b:Int32):Bd a b=a*b:=by
 rw[Bd,HX,HX,xu,Int32.ofInt_mul,Q6,Q6]
theorem Xl(a:Int32): -2147483648<=a.toInt/\a.toInt<2147483648:=⟨a.le_toInt,a.toInt_lt⟩
theorem Em(a:Int32):(Ad a:Int)=a.toInt:=by
 have:=Xl a
 show wrap64 a.toInt=_;rw[Bq]<;>omega
theorem OB(n:Int):(Ad n:Int32)=Int32.ofInt n:=rfl
theorem Ag9(x:Int):Int32.ofInt (x %4294967296)=Int32.ofInt x:=by
 apply Int32.toInt_inj.1;rw[U1,U1];exact Int.emod_bmod x 4294967296
theorem xT(x:Int):Cl x=some (Int32.ofInt x):=by
 have e1:(Ad x:UInt64).toNat=(x %18446744073709551616).toNat:=by
  rw[Axa,J',B4 F0]
 have e2:(Ad (Ad x:UInt64):UInt32).toNat=(x %4294967296).toNat:=by
  have e:(Ad (Ad x:UInt64):UInt32)=UInt32.ofNat (Ad x:UInt64).toNat:=by simp only[Ad,Ib,En]
  rw[e,L?,e1];show(x %18446744073709551616).toNat %4294967296=_;omega
 have e3:(Ad (Ad (Ad x:UInt64):UInt32):Int32)=Int32.ofInt ((Ad (Ad x:UInt64):UInt32).toNat:Int):=rfl;rw[Cl,e3,e2,<-Ag9 x];congr 2;omega
theorem pL(a b:Int32):Cl (Ae (Ad a:Int) (Ad b:Int))=some (a+b):=by
 have:=Xl a;have:=Xl b;rw[Em,Em,Ag,xT,mR,Q6,Q6]
theorem Ak8(a b:Int32):Cl (Bd (Ad a:Int) (Ad b:Int))=some (a*b):=by
 have ha:=Xl a;have hb:=Xl b;have h1: -9223372036854775808<=a.toInt*b.toInt/\a.toInt*b.toInt<=9223372036854775807:=by
  have h2:(a.toInt*b.toInt).natAbs<=2147483648*2147483648:=by
   rw[Int.natAbs_mul];exact T7 F0 F0
  omega
 rw[Em,Em,Gp h1.1 h1.2,xT,Int32.ofInt_mul,Q6,Q6]
def Q? (s:Int)(t p:LX):Prop:=(s=9\/s=10)/\t.length=16/\p.length=16
theorem tM{s:Int}{t p:LX}(h:Q? s t p):HC s t p=some 0:=by
 obtain⟨rfl|rfl,_,_⟩:=h<;>rfl
theorem H? {l:LX}{k:Nat}(h:k<l.length):Aj l (k:Int)=some (l.getD k 0):=by
 rw[Cf h];simp[D!,h]
def gX(t p:LX):Nat->Int32
 |0=>0
 |i+1=>gX t p i+t.getD i 0*p.getD i 0
def half(s:Int):Int32:=if s=9 then 256 else 512
def gF(s:Int)(t p:LX):Int32:=Int32.ofInt ((half s+gX t p 16).toInt.fdiv (if s=9 then 512 else 1024))
theorem Acx{s:Int}{t p:LX}(h:Q? s t p):∀(j i q:Nat),i+j=16->j<q->So t s p q (half s+gX t p i) (i:Int)=some (gF s t p,0)
 |0,i,q+1,hi,_=>by
  obtain rfl:i=16:=F0
  have hs:=h.1;rw[So,HR,A! P!,UP,Aqw,Bf O?,Aa];obtain rfl|rfl:=hs<;>rfl
 |j+1,i,q+1,hi,hq=>by
  obtain⟨hs,ht,hp⟩:=h;rw[So,HR,A4 F9,H? F0,Aa,H? F0,Aa,Aa,Ag (b:=1) F0 F0,VY,yK,Int32.add_assoc];exact Acx ⟨hs,ht,hp⟩ j (i+1) q F0 F0
theorem M!{s:Int}{t p:LX}(h:Q? s t p):QQ s t p=some (gF s t p,0):=by
 have hs:=h.1;have h1:=Acx h 16 0 Aq F0 C0;have e:Db (1:Int32) (GI.toZ (Ah s (1:Int))).toNat=half s+gX t p 0:=by
  obtain rfl|rfl:=hs<;>rfl
 rw[QQ,UJ,tM h,Aa,A! C6,Bf (by rw[Dn,Bi];simp;omega),Aa,Aq8,e];exact h1
theorem M2{s:Int}{t p:LX}(ht:t.length=16)(hp:p.length=16){g:Int32}(hg:gX t p 16=g):∀(j i q:Nat),i+j=16->j<q->Kq s t p q (gX t p i).toInt (i:Int)=some g
 |0,i,q+1,hi,_=>by
  obtain rfl:i=16:=F0
  rw[Kq,Ws,A! P!,MN,NF,OB,Q6,hg]
 |j+1,i,q+1,hi,hq=>by
  have ih:=M2 (s:=s) ht hp hg j (i+1) q F0 F0;rw[gX]at ih;rw[Kq,Ws,A4 F9,H? F0,H? F0,Aa,Aa,Aa,Aa,Ak8,Aa,<-Em (gX t p i),pL,Aa,Em,Ag];exact ih
theorem Aj1{s:Int}{t p:LX}(h:Q? s t p):Adq s t p=some (gX t p 16):=
 M2 h.2.1 h.2.2 rfl 16 0 Aq F0 C0
theorem Ahp(x n:Int)(hn:n=512\/n=1024\/n=16\/n=32):(if x.tmod n<0 then x.tdiv n-1 else x.tdiv n)=x.fdiv n:=by
 have hs:n.sign=1:=by obtain rfl|rfl|rfl|rfl:=hn<;>rfl
 rw[dR,Int.tmod_eq_emod,hs,Q_ _ F0];by_cases h:0<=x\/n∣x
 ·rw[A4 h,A4 h];obtain rfl|rfl|rfl|rfl:=hn<;>(rw[A! F0];omega)
 ·rw[A! h,A! h];obtain rfl|rfl|rfl|rfl:=hn<;>(rw[A4 F0];omega)
theorem N1(x n:Int)(hn:n=512\/n=1024\/n=16\/n=32)(h: -1000000000000<=x)(h':x<=1000000000000): -1000000000000<=x.tdiv n/\x.tdiv n<=1000000000000:=by
 have hs:n.sign=1:=by obtain rfl|rfl|rfl|rfl:=hn<;>rfl
 rw[dR,hs];by_cases h:0<=x\/n∣x
 ·rw[A4 h];obtain rfl|rfl|rfl|rfl:=hn<;>omega
 ·rw[A! h];obtain rfl|rfl|rfl|rfl:=hn<;>omega
theorem Aut(x n:Int)(hn:n=512\/n=1024\/n=16\/n=32)(h: -1000000000000<=x)(h':x<=1000000000000):Cb x n=x.tdiv n:=by
 have:=N1 x n hn h h';rw[LC,Bq F0 F0]
theorem Aco(x n:Int)(hn:n=512\/n=1024\/n=16\/n=32)(h: -1000000000000<=x)(h':x<=1000000000000):
  (if(Ci (Ge x n) (0:Int))=true then some (Ad (Ah (Cb x n) (1:Int)):Int32)else some (Ad (Cb x n):Int32))=some (Int32.ofInt (x.fdiv n)):=by
 have hb:=N1 x n hn h h';rw[Af,Ge,Aut x n hn h h',Bi,OB,OB,<-Ahp x n hn];by_cases hx:x.tmod n<0
 ·rw[A4 (by simpa using hx),A4 hx]
 ·rw[A! (by simpa using hx),A! hx]
theorem Anu{s:Int}{t p:LX}(h:Q? s t p):CN s t p=some (gF s t p):=by
 obtain⟨hs,ht,hp⟩:=h;have h:Q? s t p:=⟨hs,ht,hp⟩;have hx:=Xl (gX t p 16+half s);have key:∀n:Int,(n=512\/n=1024)-> (half s).toInt=n/2->gF s t p=Int32.ofInt ((half s+gX t p 16).toInt.fdiv n)->Vm s t p n=some (gF s t p):=by
  intro n hn hh hg;have e2:Cb n (2:Int)=(half s).toInt:=by rw[hh];obtain rfl|rfl:=hn<;>rfl
  rw[Vm,II,Aj1 h,Aa,e2,<-Em (half s),pL,Aa,Bf K0,Aa,Aa,Em,Aco _ n F0 F0 F0,hg,Int32.add_comm]
 rw[CN,IQ];obtain rfl|rfl:=hs
 ·rw[A4 SP];exact key 512 (.inl rfl) rfl rfl
 ·rw[A! Wn];exact key 1024 (.inr rfl) rfl rfl
def za(i:Nat):Int32:=if i=0 then 4 else if i<4 then 2 else 1
def sg(x:Int32):Int32:=if x.toInt<0 then -1 else if 0<x.toInt then 1 else 0
def yL(t p:LX)(w:Int32):LX:=(List.range 16).map λi=>t.getD i 0+za i*sg (p.getD i 0)*sg w
theorem DU(t p:LX)(w:Int32):(yL t p w).length=16:=by simp[yL]
theorem oz(t p:LX)(w:Int32){i:Nat}(h:i<16):(yL t p w).getD i 0=t.getD i 0+za i*sg (p.getD i 0)*sg w:=by
 rw[Hj (by rw[DU];exact h)];simp[yL]
theorem step_eq(i:Nat):WH (i:Int)=some (za i):=by
 rw[WH,za];by_cases h:i=0
 ·rw[A4 (by rw[Bb];simp[h]),A4 h]
 ·rw[A! L9,A! h];by_cases h2:i<4
  ·rw[A4 F9,A4 h2]
  ·rw[A! F9,A! h2]
theorem Agj(i:Nat):EC (i:Int)=some (za i):=by
 rw[EC,za];by_cases h:i=0
 ·rw[A4 (by rw[Bb];simp[h]),A4 h]
 ·rw[A! L9,A! h];by_cases h2:i<4
  ·rw[A4 (by rw[K1];simp;omega),A4 h2]
  ·rw[A! (by rw[K1];simp;omega),A! h2]
theorem pz(a b:Int32):Ci a b=decide (a.toInt<b.toInt):=rfl
theorem fW(a b:Int32):Dq a b=decide (b.toInt<a.toInt):=rfl
theorem sign_eq(x:Int32):Ts x=some (sg x):=by
 rw[Ts,sg,pz,fW,show(0:Int32).toInt=0 from rfl];by_cases h:x.toInt<0
 ·rw[A4 (by simpa using h),A4 h]
 ·rw[A! (by simpa using h),A! h];by_cases h2:0<x.toInt
  ·rw[A4 (by simpa using h2),A4 h2]
  ·rw[A! (by simpa using h2),A! h2]
theorem qS:sg 0=0:=rfl
theorem toInt_ne{x:Int32}(h:x≠0):x.toInt≠0:=λe=>h (Int32.toInt_inj.1 (by rw[e];rfl))
theorem jm{x:Int32}(h:x.toInt<0):sg x= -1:=by rw[sg,A4 h]
theorem jo{x:Int32}(h:x≠0)(h2:¬x.toInt<0):sg x=1:=by
 have:=toInt_ne h;rw[sg,A! h2,A4 F0]
theorem kJ(i:Nat):za i=4\/za i=2\/za i=1:=by
 unfold za;by_cases h:i=0
 ·rw[A4 h];exact .inl rfl
 ·rw[A! h];split;exact .inr (.inl rfl);exact .inr (.inr rfl)
theorem Agv{x:Int32}(hx:x≠0)(hw:w≠0)(h:(x.toInt<0)=(w.toInt<0))(i:Nat):za i*sg x*sg w=za i:=by
 by_cases h1:x.toInt<0
 ·rw[jm h1,jm (by rw[<-h];exact h1)];obtain e|e|e:=kJ i<;>rw[e]<;>decide
 ·rw[jo hx h1,jo hw (by rw[<-h];exact h1)];obtain e|e|e:=kJ i<;>rw[e]<;>decide
theorem Bdx {x:Int32}(hx:x≠0)(hw:w≠0)(h:¬(x.toInt<0)=(w.toInt<0))(i:Nat)(a:Int32):a+za i*sg x*sg w=a-za i:=by
 have key:za i*sg x*sg w=-za i:=by
  by_cases h1:x.toInt<0
  ·have h2:¬w.toInt<0:=λh2=>h (propext ⟨λ_=>h2,λ_=>h1⟩);rw[jm h1,jo hw h2];obtain e|e|e:=kJ i<;>rw[e]<;>decide
  ·have h2:w.toInt<0:=Decidable.by_contra λh2=>h (propext ⟨λh3=>absurd h3 h1,λh3=>absurd h3 h2⟩);rw[jo hx h1,jm h2];obtain e|e|e:=kJ i<;>rw[e]<;>decide
 rw[key,Int32.sub_eq_add_neg]
def rH(i:Nat):Nat->Bool:=λj=>decide (j<i)
theorem N7{a b:LX}{i:Nat}(h:i<a.length):He (ZE (rH i) a b) (i:Int) (a.getD i 0)=some (ZE (rH (i+1)) a b):=by
 rw[aO h];congr 1;apply Sd;intro k _;rw[H'];simp only[rH,O_,C9];omega
theorem Ahg{a b:LX}{i:Nat}(e:a.getD i 0=b.getD i 0):ZE (rH i) a b=ZE (rH (i+1)) a b:=by
 apply cY;intro k _;simp only[rH,C9];by_cases h1:k<i
 ·rw[A4 h1,A4 F0]
 ·by_cases h2:k=i
  ·subst h2;rw[A! h1,A4 F0,e]
  ·rw[A! h1,A! F0]
theorem Avu{a b:LX}{i:Nat}(h:i<a.length):Aj (ZE (rH i) a b) (i:Int)=some (b.getD i 0):=by
 rw[Yr h,A! (by simp[rH])]
theorem Ah7{s:Int}{t p:LX}{w:Int32}(hw:w≠0)(ht:t.length=16)(hp:p.length=16):∀(j i q:Nat),i+j=16->j<q->Sc w p s q (i:Int) (ZE (rH i) (yL t p w) t)=some (s,yL t p w,p,0)
 |0,i,q+1,hi,_=>by
  obtain rfl:i=16:=F0
  rw[Sc,HS,A! P!,kM (λk hk=>by rw[DU]at hk;simpa [rH]using hk)];rfl
 |j+1,i,q+1,hi,hq=>by
  have hl:=DU t p w;have hg:=oz t p w (i:=i) F0;rw[Sc,HS,A4 F9,H? F0,Aa,Ag (b:=1) F0 F0,Avu F0,step_eq];simp only[Aa];rw[VY,QB,nX,pz,pz,show(0:Int32).toInt=0 from rfl];have ih:=Ah7 (s:=s) hw ht hp j (i+1) q F0 F0;by_cases hx:p.getD i 0=0
  ·rw[A4 (by rw[hx];rfl),Ahg (by rw[hg,hx,qS,Int32.mul_zero,Int32.zero_mul,Int32.add_zero])];exact ih
  ·rw[A! (by simpa using hx)];by_cases hs:((p.getD i 0).toInt<0)=(w.toInt<0)
   ·rw[A4 (by rw[Q7];simp only[hs]),show t.getD i 0+za i=(yL t p w).getD i 0 by rw[hg,Agv hx hw hs],N7 F0,Aa];exact ih
   ·rw[A! (by rw[Q7,decide_eq_decide];exact λh=>hs (propext h)),show t.getD i 0-za i=(yL t p w).getD i 0 by rw[hg,Bdx hx hw hs],N7 F0,Aa];exact ih
theorem Aij{t:LX}(p:LX)(ht:t.length=16):yL t p 0=t:=by
 apply P8 (by rw[DU,ht]);intro i h1 h2;have:=oz t p 0 (i:=i) F0;rw[Hj h1,Hj h2]at this;rw[this,qS,Int32.mul_zero,Int32.add_zero]
theorem Awo{s:Int}{t p:LX}(h:Q? s t p)(w:Int32):bI s t p w=some (s,yL t p w,p,0):=by
 rw[bI,UY,tM h,Aa,A! C6,nX];by_cases hw:w=0
 ·rw[A4 (by simpa using hw),hw,Aij p h.2.1]
 ·have h1:=Ah7 (s:=s) hw h.2.1 h.2.2 16 0 Aq F0 C0;rw[eK (by rw[DU,h.2.1]) (λk _=>by simp[rH])]at h1;rw[A! (by simpa using hw)];exact h1
theorem Asd{s:Int}{t p:LX}{w:Int32}(ht:t.length=16)(hp:p.length=16):∀(j i q:Nat),i+j=16->j<q->Gz w s p q (i:Int) (ZE (rH i) (yL t p w) t)=some (s,yL t p w,p)
 |0,i,q+1,hi,_=>by
  obtain rfl:i=16:=F0
  rw[Gz,Pa,A! P!,kM (λk hk=>by rw[DU]at hk;simpa [rH]using hk)];rfl
 |j+1,i,q+1,hi,hq=>by
  have hl:=DU t p w;have hg:=oz t p w (i:=i) F0;rw[Gz,Pa,A4 F9,H? (l:=p) F0,Ag (b:=1) F0 F0,Avu F0,Agj,sign_eq w,Aa,Aa,Aa,Aa,Aa,sign_eq,Aa,Aa,Aa,VY,yK,yK,<-hg,N7 F0,Aa];exact Asd ht hp j (i+1) q F0 F0
theorem Abr{s:Int}{t p:LX}(h:Q? s t p)(w:Int32):IH s t p w=some (s,yL t p w,p):=by
 have h1:=Asd (s:=s) (w:=w) h.2.1 h.2.2 16 0 Aq F0 C0;rw[eK (by rw[DU,h.2.1]) (λk _=>by simp[rH])]at h1;exact h1
theorem An7{p:LX}(h:p.length=16):∃a0 a1 a2 a3 a4 a5 a6 a7 a8 a9 b0 b1 b2 b3 b4 b5,p=[a0,a1,a2,a3,a4,a5,a6,a7,a8,a9,b0,b1,b2,b3,b4,b5]:=by
 match p,h with
 |[a0,a1,a2,a3,a4,a5,a6,a7,a8,a9,b0,b1,b2,b3,b4,b5],_=>exact⟨a0,a1,a2,a3,a4,a5,a6,a7,a8,a9,b0,b1,b2,b3,b4,b5,rfl⟩
theorem oM{s:Int}{t p:LX}(h:Q? s t p)(x:Int32):kU s t p x=some (s,t,x::p.take 15,0):=by
 obtain⟨hs,ht,hp⟩:=h;rw[kU,NT,tM ⟨hs,ht,hp⟩,Aa,A! C6,show cE (16:Int) 1 16=some ()from rfl,Aa,show cE (16:Int) 0 16=some ()from rfl,Aa,ZZ,Arl];obtain⟨a0,a1,a2,a3,a4,a5,a6,a7,a8,a9,b0,b1,b2,b3,b4,b5,rfl⟩:=An7 hp;rfl
def mq(p:LX)(i:Nat):LX:=(List.range 16).map λk=>if k<=i then p.getD k 0 else p.getD (k-1) 0
theorem Yv(p:LX)(i:Nat):(mq p i).length=16:=by simp[mq]
theorem Aox(p:LX)(i k:Nat)(h:k<16):(mq p i).getD k 0=if k<=i then p.getD k 0 else p.getD (k-1) 0:=by
 rw[Hj (by rw[Yv];exact h)];simp[mq]
theorem Ao6(p:LX)(i:Nat)(h:i+1<16):He (mq p (i+1)) ((i+1:Nat):Int) (p.getD i 0)=some (mq p i):=by
 rw[Ra _ (by rw[Yv];exact h)];congr 1;apply P8 (by simp[Yv]);intro k h1 h2;rw[Yv]at h2;rw[XW];simp only[mq,T9,U0];by_cases hk:i+1=k
 ·subst hk;rw[A4 rfl,A! F0];rfl
 ·rw[A! hk];by_cases h3:k<=i
  ·rw[A4 F0,A4 h3]
  ·rw[A! F0,A! h3]
theorem Avi(s:Int)(t p:LX)(x:Int32)(hp:p.length=16):∀(i q:Nat),i<16->i<q->Hq x s t q (i:Int) (mq p i)=some (s,t,x::p.take 15)
 |0,q+1,_,_=>by
  have hg:Aj (mq p 0) (0:Int)=some ((mq p 0).getD 0 0):=H? (l:=mq p 0) (k:=0) (by rw[Yv];omega);have hset:He (mq p 0) (0:Int) x=some ((mq p 0).set 0 x):=Ra (l:=mq p 0) (n:=0) x (by rw[Yv];omega);rw[Hq,Rl,A! S4,BC,CF,hg,Aa,hset,Aa];congr 3;apply P8 (by simp[Yv,hp]);intro k h1 h2;rw[R?,Yv]at h1;rw[XW];cases k with
  |zero=>rw[A4 rfl];rfl
  |succ k=>
   rw[A! F0];simp only[mq,T9,U0,List.getElem_cons_succ,mH];rw[A! F0,dB,Hj F0]
 |i+1,q+1,hi,hq=>by
  have hg:=H? (l:=mq p (i+1)) (k:=i) (by rw[Yv];omega);rw[Aox p (i+1) i F0,A4 F0]at hg;have e1:Ah ((i+1:Nat):Int) (1:Int)=(i:Int):=by rw[Bi];omega
  have hg2:=H? (l:=mq p (i+1)) (k:=i+1) (by rw[Yv];omega);rw[Hq,Rl,A4 S4,e1,hg,Aa,Aa,hg2,Aa,Ao6 p i hi,Aa];exact Avi s t p x hp i q F0 F0
theorem Aha{s:Int}{t p:LX}(hp:p.length=16)(x:Int32):MJ s t p x=some (s,t,x::p.take 15):=by
 have h:=Avi s t p x hp 15 Aq F0 C0;have e:mq p 15=p:=by
  apply P8 (by rw[Yv,hp]);intro k h1 h2;rw[Yv]at h1;simp only[mq,T9,U0];rw[A4 F0,Hj h2]
 rw[e]at h;exact h
theorem Ai9{s:Int}{t p:LX}(h:Q? s t p)(w x:Int32):Q? s (yL t p w) (x::p.take 15):=⟨h.1,DU _ _ _,by simp[h.2.2]⟩
theorem Apf{s:Int}{t p:LX}(h:Q? s t p)(y:Int32):jE s t p y=some (y+gF s t p,s,yL t p y,(y+gF s t p)::p.take 15,0):=by
 rw[jE,M! h,Aa];simp only;rw[A! C6,VY,OS,Awo h,Aa];simp only;rw[oM (s:=s) (t:=yL t p y) (p:=p) ⟨h.1,DU _ _ _,h.2.2⟩,Aa];rfl
theorem Afd{s:Int}{t p:LX}(h:Q? s t p)(y:Int32):Um s t p y=some (y+gF s t p,s,yL t p y,(y+gF s t p)::p.take 15):=by
 rw[Um,Anu h,Aa,pL,Aa,Abr h,Aa];simp only;rw[Aha h.2.2,Aa]
def sB(bits:Int):Int:=if bits=16 then 9 else 10
def shB(bits:Int):Int:=if bits=8 then 4 else 5
def Cj(bits:Int):Prop:=bits=8\/bits=16\/bits=24
def gs(sh:Int)(last:Int32):Int32:=Ad (rB (Ah (Db (Ad last:Int) sh.toNat) (Ad last)) sh.toNat)
theorem Auz(bits:Int):sB bits=9\/sB bits=10:=by unfold sB;split<;>simp
theorem Ao8(bits:Int):0<=shB bits:=by unfold shB;split<;>omega
theorem Aw9{bits:Int}(h:Cj bits)(t:LX):qX bits t=some (sB bits,t,List.replicate 16 0,0):=by
 obtain rfl|rfl|rfl:=h<;>rfl
theorem Atg{bits:Int}(h:Cj bits):gD bits=some (shB bits,0):=by
 obtain rfl|rfl|rfl:=h<;>rfl
theorem Ar6{sh:Int}(h:0<=sh)(last:Int32):SQ sh last=some (gs sh last):=by
 rw[SQ,Bf (by rw[Dn];simpa using h),Aa,Aa];rfl
theorem v?{bits:Int}(h:Cj bits)(last:Int32):Uu bits last=some (gs (shB bits) last,0):=by
 rw[Uu,Atg h,Aa];simp only;rw[A! C6,Ar6 (Ao8 bits),Aa]
theorem M4{bits:Int}(h:Cj bits)(last:Int32)(t p:LX):Us bits last (sB bits) t p=some 0:=by
 rw[Us,Aw9 h,Aa];simp only;rw[A! (by rw[Ak,Ak];simp)]
theorem Af4{bits:Int}(h:Cj bits){t p:LX}(hF:Q? (sB bits) t p)(last y:Int32):
  Ki bits last (sB bits) t p y=some (y+gF (sB bits) t p+gs (shB bits) last,bits,y+gF (sB bits) t p+gs (shB bits) last,sB bits,yL t p y,(y+gF (sB bits) t p)::p.take 15,0):=by
 rw[Ki,M4 h,Aa,A! C6,v? h,Aa];simp only;rw[Apf hF,Aa];simp only;rw[VY]
theorem uJ(sh:Int)(hs:sh=4\/sh=5)(last:Int32):Oh sh last=some (gs sh last):=by
 have hl:=Xl last;have key:∀n:Int,n=16\/n=32->gs sh last=Int32.ofInt (((n-1)*last.toInt).fdiv n)->Rb last n=some (gs sh last):=by
  intro n hn hg;have e:Bd (Ah n (1:Int)) (Ad last:Int)=(n-1)*last.toInt:=by
   obtain rfl|rfl:=hn<;>(rw[Em,Bi,Gp])
  rw[Rb,BH,Bf K0,Aa,Aa,e,Aco _ n F0 (by obtain rfl|rfl:=hn<;>omega) (by obtain rfl|rfl:=hn<;>omega),hg]
 rw[Oh,DS];obtain rfl|rfl:=hs
 ·rw[A! Wn];refine key 16 (.inl rfl) ?_;have e:Db (Ad last:Int) (4:Int).toNat=last.toInt*16:=by
   rw[Em];show wrap64 (last.toInt*2^4)=_;rw[Bq]<;>omega
  rw[gs,e,Em,Bi,OB]
  show Int32.ofInt ((last.toInt*16-last.toInt).fdiv 16)=_;congr 2;omega
 ·rw[A4 SP];refine key 32 (.inr rfl) ?_;have e:Db (Ad last:Int) (5:Int).toNat=last.toInt*32:=by
   rw[Em];show wrap64 (last.toInt*2^5)=_;rw[Bq]<;>omega
  rw[gs,e,Em,Bi,OB]
  show Int32.ofInt ((last.toInt*32-last.toInt).fdiv 32)=_;congr 2;omega
theorem Ahx{bits:Int}(h:Cj bits){t p:LX}(hF:Q? (sB bits) t p)(last y:Int32):
  Uh bits last (sB bits) t p y=some (y+gF (sB bits) t p+gs (shB bits) last,bits,y+gF (sB bits) t p+gs (shB bits) last,sB bits,yL t p y,(y+gF (sB bits) t p)::p.take 15):=by
 have hb:Xh bits last (sB bits) t p=some (Ad (gs (shB bits) last):Int):=by
  rw[Xh];obtain rfl|rfl|rfl:=h
  ·rw[A4 SP,uJ 4 (.inl rfl),Aa];rfl
  ·rw[A! Wn,uJ 5 (.inr rfl),Aa];rfl
  ·rw[A! Wn,uJ 5 (.inr rfl),Aa];rfl
 rw[Uh,Afd hF,Aa];simp only;rw[hb,Aa,pL,Aa]
theorem Avm{bits:Int}(h:Cj bits)(t:LX):Ado bits t=some (bits,0,sB bits,t,List.replicate 16 0,0):=by
 obtain rfl|rfl|rfl:=h<;>rfl
def OO(n:UInt32):Int32:=if n.toNat %2=0 then Int32.ofInt ((n.toNat/2:Nat):Int)else Int32.ofInt (-((n.toNat/2:Nat):Int)-1)
theorem Amc(a b:Int32):(Ri a b).toBitVec=a.toBitVec^^^b.toBitVec:=by
 show(Int32.ofInt ((BitVec.ofInt 32 a.toBitVec.toInt^^^BitVec.ofInt 32 b.toBitVec.toInt).toNat:Int)).toBitVec=_;rw[BitVec.ofInt_toInt,BitVec.ofInt_toInt,lU,BitVec.ofInt_natCast,BitVec.ofNat_toNat,BitVec.setWidth_eq]
theorem Avl(m:Nat)(h:m<2147483648):Ri (Int32.ofInt (m:Int)) (Int32.ofInt (-1))=Int32.ofInt (-(m:Int)-1):=by
 apply Int32.toBitVec_inj.1;have e1:(Int32.ofInt (-1)).toBitVec=BitVec.allOnes 32:=F6
 rw[Amc,e1,BitVec.xor_allOnes,lU,lU];apply XC;rw[dQ,R5,R5];omega
theorem Akl(n:UInt32):Wf n=some (OO n):=by
 have hn:=n.toNat_lt;have e1:(Ad (Bw n (GI.toZ (1:UInt64)).toNat):Int32)=Int32.ofInt ((n.toNat/2:Nat):Int):=by
  show Int32.ofInt ((Bw n 1).toNat:Int)=_;rw[IJ]
 have e2:(Ad (Cy n (1:UInt32)):Int32)=Int32.ofInt ((n.toNat %2:Nat):Int):=by
  show Int32.ofInt ((Cy n (1:UInt32)).toNat:Int)=_;rw[C1,dG]
  show Int32.ofInt ((n.toNat&&&1:Nat):Int)=_;rw[mE]
 rw[Wf,e1,e2,OO];congr 1;by_cases h:n.toNat %2=0
 ·have e3:pJ (Int32.ofInt ((n.toNat %2:Nat):Int))=Int32.ofInt 0:=by rw[h];decide
  rw[A4 h,e3];apply Int32.toBitVec_inj.1;rw[Amc,show(Int32.ofInt 0).toBitVec=0#32 from rfl,BitVec.xor_zero]
 ·have e3:pJ (Int32.ofInt ((n.toNat %2:Nat):Int))=Int32.ofInt (-1):=by rw[show n.toNat %2=1 by omega];decide
  rw[A! h,e3,Avl _ F0]
theorem An5(n:UInt32):CC n=some (OO n):=by
 have hn:=n.toNat_lt;have e1:geq (AX n (2:UInt32)) (0:UInt32)=decide (n.toNat %2=0):=by
  rw[ku,N',H'];simp only[Q7,<-dH,mJ,C9];rfl
 rw[CC,e1,OO];by_cases h:n.toNat %2=0
 ·rw[A4 (by simpa using h),A4 h,D_];rfl
 ·have e2:(Ad n:Int)=(n.toNat:Int):=Avw n;rw[A! (by simpa using h),A! h,e2,Ag,lu,Bq F0 F0,LC,dR,OB];congr 2;rw[A4 (.inr F0),Bq F0 F0];omega
theorem D4{p:Prop}(h:p:=by rw[Am,Ac];simp;omega):p:=h
theorem lY{c:Prop} [Decidable c](h:c):Hu (decide c)=some ():=by rw[eC h];rfl
def ze(f:Nat->Int32)(ch:Nat):Nat->Int32
 |0=>if 1<ch then f (ch-1)+Cb (f (ch-2)) (2:Int32)else f (ch-1)
 |j+1=>ze f ch j-f (ch-2-j)
def xR(ch:Nat)(m:LX):LX:=(List.range m.length).map λk=>ze (λi=>m.getD (k-k %ch+i) 0) ch (ch-1-k %ch)
theorem ZY(ch:Nat)(m:LX):(xR ch m).length=m.length:=by simp[xR]
theorem rE{ch:Nat}{m:LX}{a i:Nat}(ha:a %ch=0)(hi:i<ch)(h:a+i<m.length):(xR ch m).getD (a+i) 0=ze (λi=>m.getD (a+i) 0) ch (ch-1-i):=by
 have hb:(a+i) %ch=i:=by rw[Nat.add_mod,ha,J?,Y7,B4 hi]
 rw[Hj (by rw[ZY];exact h)];simp only[xR,T9,U0,hb];rw[show a+i-i=a by omega]
section
variable (ch:Nat) (m:LX)
theorem M_(h1:1<=ch)(h6:ch<=6)(hm:m.length %ch=0)(hl2:m.length<=4000):WY (ch:Int) m=some 0:=by
 rw[WY,A! NX,A! D4,Bf K0,Aa,A!];rw[Ak,Ge,Ac,<-ZX,hm];simp
theorem Aw1(bk:Int->LX->Option (LX×Int))(at':Nat)(h1:1<=ch)(h6:ch<=6)(hm:at' %ch=0)(hl:at'+ch<=m.length)(hl2:m.length<=4000):∀(i q:Nat),i<=ch-1->i<q->
  Wd bk (ch:Int) (at':Int) q ((i:Int)-1) (ZE (λk=>decide (k<at'\/ (at'+i<=k/\k<at'+ch))) (xR ch m) m)=bk ((at'+ch:Nat):Int) (ZE (λk=>decide (k<at'+ch)) (xR ch m) m)
 |0,q+1,hi,_=>by
  have e4:Ae (at':Int) (ch:Int)=((at'+ch:Nat):Int):=by rw[Ag];omega
  rw[Wd,NL,A! OH,ZV,Asq,e4];congr 1;apply Sd;intro k _;rw[H'];simp;omega
 |i+1,q+1,hi,hq=>by
  have hlen:=ZY ch m;have e2:Ae (at':Int) (ch:Int)-(at':Int)=(ch:Int):=by rw[Ag];omega
  have e3:Ae (i:Int) 1=((i+1:Nat):Int):=by rw[Ag];omega
  have hv:((xR ch m).getD (at'+(i+1)) 0-m.getD (at'+i) 0)=(xR ch m).getD (at'+i) 0:=by
   rw[rE hm F0 F0,rE hm F0 F0,show ch-1-i=(ch-1-(i+1))+1 by omega,ze,show ch-2-(ch-1-(i+1))=i by omega]
  rw[Wd,NL,show((i+1:Nat):Int)-1=(i:Int) by omega,A4 OH,e2,e3,lY F0,Aa,lY F0,Aa,
   show(at':Int)+((i+1:Nat):Int)=((at'+(i+1):Nat):Int) by omega,show(at':Int)+(i:Int)=((at'+i:Nat):Int) by omega,
   Yr F0,Aa,Yr F0,Aa,Aa,A4 F7,A! F7,QB,hv,aO F0,Aa,Bi]
  have ih:=Aw1 bk at' h1 h6 hm hl hl2 i q F0 F0;rw[<-ih];congr 1;apply Sd;intro k _;rw[H'];simp;omega
theorem qU{at' ch n:Nat}(ha:at' %ch=0)(hm:n %ch=0)(h:at'<n):at'+ch<=n:=by
 have d1:=U7 at' ch;have d2:=U7 n ch;rw[ha,PN]at d1;rw[hm,PN]at d2;have hlt:at'/ch<n/ch:=by
  rcases RP (at'/ch) (n/ch)with h'|h'
  ·exact h'
  ·have:=cZ ch h';omega
 have:=cZ ch (show at'/ch+1<=n/ch from hlt);rw[aA]at this;omega
theorem Aca(h1:1<=ch)(h6:ch<=6)(hm:m.length %ch=0)(hl2:m.length<=4000):∀(j at' q:Nat),at' %ch=0->at'<=m.length->m.length-at'<=j->j<q->
  Qx (ch:Int) q (at':Int) (ZE (λk=>decide (k<at')) (xR ch m) m)=some (xR ch m,0)
 |j,at',q+1,ha,hle,hj,hq=>by
  have hlen:=ZY ch m;have hl:Ac (ZE (λk=>decide (k<at')) (xR ch m) m)=(m.length:Int):=by rw[Ac,HW,hlen]
  rw[Qx,YO,hl];by_cases h:at'<m.length
  ·have hb:=qU ha hm h;obtain⟨j,rfl⟩:∃k,j=k+1:=⟨j-1,F0⟩;have e1:Ah (Ae (at':Int) (ch:Int)-(at':Int)) 1=((ch-1:Nat):Int):=by rw[Ag,Bi];omega
   have e2:Ae (at':Int) (ch:Int)-(at':Int)=(ch:Int):=by rw[Ag];omega
   have e4:Ae (at':Int) (ch:Int)=((at'+ch:Nat):Int):=by rw[Ag];omega
   have hi:=Aw1 ch m (Qx (ch:Int) q) at' h1 h6 ha hb hl2 (ch-1) Aq F0 C0;have hrest:=Aca h1 h6 hm hl2 j (at'+ch) q (by rw[XK,ha]) hb F0 F0;have hstart:aF (Qx (ch:Int) q) (ch:Int) (at':Int) (ZE (λk=>decide (k<at'\/ (at'+(ch-1)<=k/\k<at'+ch))) (xR ch m) m)=some (xR ch m,0):=by
    have e6:Ah ((ch-1:Nat):Int) 1=((ch-1:Nat):Int)-1:=Bi;rw[aF,YH,YU,e1,e6];exact J2 hi hrest
   rw[A4 F9,show cE (m.length:Int) (at':Int) (Ae (at':Int) (ch:Int))=some () by rw[e4,cE,lY];omega,Aa,e1,e2];have hlast:=rE (m:=m) ha (show ch-1<ch by omega) F0;rw[show ch-1-(ch-1)=0 by omega,ze]at hlast;by_cases hc:1<ch
   ·have e5:Ah ((ch-1:Nat):Int) 1=((ch-2:Nat):Int):=by rw[Bi];omega
    rw[A4 hc]at hlast;rw[A4 J!,lY F0,Aa,e5,lY F0,Aa,show(at':Int)+((ch-1:Nat):Int)=((at'+(ch-1):Nat):Int) by omega,show(at':Int)+((ch-2:Nat):Int)=((at'+(ch-2):Nat):Int) by omega,
     Yr F0,Aa,Yr F0,Aa,Aa,A! A7,A! A7,VY,<-hlast,aO F0,Aa]
    rw[<-hstart];congr 1;apply Sd;intro k _;rw[H'];simp;omega
   ·have hc1:ch=1:=F0
    rw[A! J!,<-hstart];congr 1;rw[A! hc]at hlast;apply cY;intro k hk;by_cases hk2:k=at'
    ·subst hk2;rw[A! A7,A4 F7];rw[show k+(ch-1)=k by omega]at hlast;exact hlast.symm
    ·by_cases hk3:k<at'
     ·rw[A4 F7,A4 F7]
     ·rw[A! F7,A! F7]
  ·rw[A! F9,kM (λk hk=>by simp;omega)];rfl
theorem Aoe(h1:1<=ch)(h6:ch<=6)(hm:m.length %ch=0)(hl2:m.length<=4000):pX (ch:Int) m=some (xR ch m,0):=by
 have hlen:=ZY ch m;have h:=Aca ch m h1 h6 hm hl2 m.length 0 Aq A7 F0 F0 C0;rw[pX,jH,M_ ch m h1 h6 hm hl2,Aa,A! C6,Df,Bu F7,Aa,Aa,OJ,At0];rw[eK hlen.symm (λk _=>by simp)]at h;exact h
end
def uU(f:Nat->Int32)(ch:Nat):LX:=(List.range ch).map λi=>ze f ch (ch-1-i)
theorem WT(f:Nat->Int32)(ch:Nat):(uU f ch).length=ch:=by simp[uU]
theorem rV(f:Nat->Int32){ch i:Nat}(h:i<ch):(uU f ch).getD i 0=ze f ch (ch-1-i):=by
 rw[Hj (by rw[WT];exact h)];simp[uU]
theorem Alg(a b:Int32):Cl (Ah (Ad a:Int) (Ad b:Int))=some (a-b):=by
 have:=Xl a;have:=Xl b;rw[Em,Em,Bi,xT,mS,Q6,Q6]
theorem Ag6(a b:Int32):Cl (Ae (Ad a:Int) (Cb (Ad b:Int) (2:Int)))=some (a+Cb b (2:Int32)):=by
 have:=Xl a;have hb:=Xl b;have hd: -2147483648<=b.toInt.tdiv 2/\b.toInt.tdiv 2<=2147483648:=by
  rw[dR,show Int.sign 2=1 from rfl];by_cases h:0<=b.toInt\/2∣b.toInt
  ·rw[A4 h];omega
  ·rw[A! h];omega
 have e:Cb b (2:Int32)=Int32.ofInt (b.toInt.tdiv 2):=rfl;rw[Em,Em,LC,Bq F0 F0,Ag,xT,mR,Q6,e]
theorem Arn(seg z:LX)(ch:Nat)(h6:ch<=6)(hs:seg.length=ch)(hz:z.length=ch):∀(i q:Nat),i+1<=ch->i<q->
  Gv seg q ((i:Int)-1) (ZE (λk=>decide (i<=k)) (uU (λi=>seg.getD i 0) ch) z)=some (uU (λi=>seg.getD i 0) ch)
 |0,q+1,hi,_=>by
  rw[Gv,Pr,A! OH,kM (λk hk=>by simp)];rfl
 |i+1,q+1,hi,hq=>by
  have hlen:=WT (λi=>seg.getD i 0) ch;have e3:Ae (i:Int) 1=((i+1:Nat):Int):=by rw[Ag];omega
  have hv:(uU (λi=>seg.getD i 0) ch).getD (i+1) 0-seg.getD i 0=(uU (λi=>seg.getD i 0) ch).getD i 0:=by
   rw[rV _ F0,rV _ F0,show ch-1-i=(ch-1-(i+1))+1 by omega,ze,show ch-2-(ch-1-(i+1))=i by omega]
  rw[Gv,Pr,show((i+1:Nat):Int)-1=(i:Int) by omega,A4 OH,e3,Yr F0,Aa,H? F0,Aa,Aa,A4 A7,Alg,Aa,Yr F0,Aa,hv,aO F0,Aa,Bi];have ih:=Arn seg z ch h6 hs hz i q F0 F0;rw[<-ih];congr 1;apply Sd;intro k _;rw[H'];simp;omega
theorem Ans{l:LX}{i:Nat}(v:Int32)(h:i<l.length):(l.set i v).getD i 0=v:=by
 rw[Hj (by rw[R?];exact h)];simp
theorem Bcz (seg:LX)(ch:Nat)(h1:1<=ch)(h6:ch<=6)(hs:seg.length=ch):Vi seg=some (uU (λi=>seg.getD i 0) ch):=by
 have hlen:=WT (λi=>seg.getD i 0) ch;have hzl:(List.replicate ch (0:Int32)).length=ch:=by simp
 have e1:Ah (Ac seg) 1=((ch-1:Nat):Int):=by rw[Ac,hs,Bi];omega
 have e2:Ah (Ac seg) 2=((ch-1:Nat):Int)-1:=by rw[Ac,hs,Bi];omega
 have hlast:=rV (λi=>seg.getD i 0) (show ch-1<ch by omega);rw[show ch-1-(ch-1)=0 by omega,ze]at hlast;have hend:∀z:LX,z.length=ch->z.getD (ch-1) 0=(uU (λi=>seg.getD i 0) ch).getD (ch-1) 0->Pd seg z=some (uU (λi=>seg.getD i 0) ch):=by
  intro z hz hzl;have h:=Arn seg z ch h6 hs hz (ch-1) Aq F0 C0;have e:ZE (λk=>decide (ch-1<=k)) (uU (λi=>seg.getD i 0) ch) z=z:=by
   apply P8 (by rw[HW,hlen,hz]);intro k k1 k2;rw[Qe];by_cases hk:ch-1<=k
   ·obtain rfl:k=ch-1:=F0
    rw[A4 A7,<-hzl,Hj k2]
   ·rw[A! (by simpa using hk),Hj k2]
  rw[e]at h;rw[Pd,AV,e2];exact h
 rw[Vi,Aia,Ac,hs,rK,Aa,Bf U?,Aa];rw[Ac,hs]at e1;rw[Ac,hs]at e2;have hz1:(List.replicate (Int.toNat (ch:Int)) (0:Int32)).length=ch:=by simp
 have hs1:=H? (l:=seg) (k:=ch-1) F0;rw[e1,hs1,Aa,H? F0,Aa,Ra _ F0,Aa];by_cases hc:1<ch
 ·rw[A4 hc]at hlast;have e3:((ch-1:Nat):Int)-1=((ch-2:Nat):Int):=F0
  have hs2:=H? (l:=seg) (k:=ch-2) F0;rw[A4 J!,Aa,e2,e3,hs2,Aa,Ag6,Aa,H? (by rw[R?];omega),Aa,Ra _ (by rw[R?];omega),Aa];refine hend _ A7 ?_;rw[hlast,Ans _ (by rw[R?];omega)]
 ·rw[A! hc]at hlast;rw[A! J!];refine hend _ A7 ?_;rw[hlast,Ans _ F0]
theorem Apc(ch:Nat)(m:LX)(h1:1<=ch)(h6:ch<=6)(hm:m.length %ch=0)(hl2:m.length<=4000):Qr (ch:Int) m=some 0:=by
 rw[Qr,A! NX,A! D4,Bf K0,Aa,A!];rw[Am,Ge,Ac,<-ZX,hm];simp
theorem Auc(ch:Nat)(m:LX)(h1:1<=ch)(h6:ch<=6)(hm:m.length %ch=0)(hl2:m.length<=4000):∀(j at' q:Nat),at' %ch=0->at'<=m.length->m.length-at'<=j->j<q->
  Nh (ch:Int) m q (at':Int) ((xR ch m).take at')=some (xR ch m,0)
 |j,at',q+1,ha,hle,hj,hq=>by
  have hlen:=ZY ch m;rw[Nh,KQ];by_cases h:at'<m.length
  ·have hb:=qU ha hm h;have e4:Ae (at':Int) (ch:Int)=((at'+ch:Nat):Int):=by rw[Ag];omega
   have hrest:=Auc ch m h1 h6 hm hl2 (j-1) (at'+ch) q (by rw[XK,ha]) hb F0 F0;have hseg:((m.take (at'+ch)).drop at').length=ch:=by simp;omega
   have htl:((xR ch m).take at').length=at':=by simp[hlen];omega
   rw[A4 F2,e4,Qo,Aa,show((at'+ch:Nat):Int).toNat=at'+ch from rfl,show(at':Int).toNat=at' from rfl,Bcz _ ch h1 h6 hseg,Aa,Bu (by rw[htl,WT];omega),Aa];have e:(xR ch m).take at'++uU (λi=>((m.take (at'+ch)).drop at').getD i 0) ch=(xR ch m).take (at'+ch):=by
    apply P8 (by rw[B6,htl,WT,J1,hlen];omega);intro k k1 k2;rw[J1,hlen]at k2;rw[List.getElem_append,mH];by_cases hk:k<at'
    ·rw[dif_pos (by rw[htl];exact hk),mH]
    ·rw[dif_neg (by rw[htl];exact hk)];have hu:=rE (m:=m) ha (show k-at'<ch by omega) F0;rw[show at'+(k-at')=k by omega,Hj F0]at hu;have hx:∀n,n<=ch->ze (λi=>((m.take (at'+ch)).drop at').getD i 0) ch n=ze (λi=>m.getD (at'+i) 0) ch n:=by
      have hf:∀i,i<ch-> ((m.take (at'+ch)).drop at').getD i 0=m.getD (at'+i) 0:=by
       intro i hi;rw[Hj F0,Hj F0];simp
      intro n
      induction n with
      |zero=>
       intro _;rw[ze,ze,hf _ F0];split
       ·rw[hf _ F0]
       ·rfl
      |succ n ih=>intro hn;rw[ze,ze,ih F0,hf _ F0]
     have hy:=rV (λi=>((m.take (at'+ch)).drop at').getD i 0) (show k-at'<ch by omega);rw[Hj (by rw[WT];omega)]at hy;rw[hu,<-hx _ F0,<-hy];congr 1;rw[htl]
   rw[e];exact hrest
  ·rw[A! F2,Q0 F0];rfl
theorem Agr(ch:Nat)(m:LX)(h1:1<=ch)(h6:ch<=6)(hm:m.length %ch=0)(hl2:m.length<=4000):CE (ch:Int) m=some (xR ch m,0):=by
 have h:=Auc ch m h1 h6 hm hl2 m.length 0 Aq A7 F0 F0 C0;rw[CE,IM,Apc ch m h1 h6 hm hl2,Aa,A! C6];exact h
def pre{α:Type}(ch c:Nat)(f:α->Nat->α)(a0:α):Nat->α
 |0=>a0
 |m+1=>if m %ch=c then f (pre ch c f a0 m) m else pre ch c f a0 m
theorem t_{α:Type}(ch c:Nat)(f:α->Nat->α)(a0:α):∀m,m<=c->c<ch->pre ch c f a0 m=a0
 |0,_,_=>rfl
 |m+1,h,h2=>by rw[pre,A! (by rw[B4 F0];omega),t_ ch c f a0 m F0 h2]
theorem Awq{α:Type}(ch c i:Nat)(f:α->Nat->α)(a0:α)(hi:i %ch=c)(hc:c<ch):∀j,j<ch->pre ch c f a0 (i+1+j)=pre ch c f a0 (i+1)
 |0,_=>rfl
 |j+1,h=>by
  have hne:(i+1+j) %ch≠c:=by
   intro e;have h1:(i+(1+j)) %ch=i %ch:=by rw[hi,<-e];congr 1;omega
   have h2:(1+j) %ch=0:=by
    have h3:=k! h1;rwa [T!]at h3
   rw[B4 F0]at h2;omega
  rw[show i+1+(j+1)=(i+1+j)+1 by omega,pre,A! hne,Awq ch c i f a0 hi hc j F0]
theorem Aj0(ch c i:Nat)(f:α->Nat->α)(a0:α)(hi:i %ch=c)(hc:c<ch):pre ch c f a0 (i+ch)=f (pre ch c f a0 i) i:=by
 have h:=Awq ch c i f a0 hi hc (ch-1) F0;rw[show i+1+(ch-1)=i+ch by omega]at h;rw[h,pre,A4 hi]
abbrev CS:=Int32×LX×LX
def zo(bits:Int)(s:CS)(y:Int32):Int32:=y+gF (sB bits) s.2.1 s.2.2+gs (shB bits) s.1
def U3(bits:Int)(s:CS)(y:Int32):CS:=(zo bits s y,yL s.2.1 s.2.2 y,(y+gF (sB bits) s.2.1 s.2.2)::s.2.2.take 15)
def cst(bits:Int)(ch:Nat)(t:LX)(v:LU)(c:Nat):Nat->CS:=pre ch c (λs i=>U3 bits s (OO (v.getD i 0))) (0,t,List.replicate 16 0)
def OkC(bits:Int)(s:CS):Prop:=Q? (sB bits) s.2.1 s.2.2
theorem wo(bits:Int)(ch:Nat){t:LX}(ht:t.length=16)(v:LU)(c:Nat):∀m,OkC bits (cst bits ch t v c m)
 |0=>⟨Auz bits,ht,by simp[cst,pre]⟩
 |m+1=>by
  have ih:=wo bits ch ht v c m;rw[cst,pre];split
  ·exact Ai9 ih _ _
  ·exact ih
def sL(bits:Int)(ch:Nat)(t:LX)(v:LU):LX:=(List.range v.length).map λi=>zo bits (cst bits ch t v (i %ch) i) (OO (v.getD i 0))
theorem aN(bits:Int)(ch:Nat)(t:LX)(v:LU):(sL bits ch t v).length=v.length:=by simp[sL]
theorem uf(bits:Int)(ch:Nat)(t:LX)(v:LU){i:Nat}(h:i<v.length):(sL bits ch t v).getD i 0=zo bits (cst bits ch t v (i %ch) i) (OO (v.getD i 0)):=by
 rw[Hj (by rw[aN];exact h)];simp[sL]
abbrev CL:=Int×Int32×(Int×LX×LX×Unit)×Unit
def toC(bits:Int)(s:CS):CL:=(bits,s.1,(sB bits,s.2.1,s.2.2,()),())
def cts(bits:Int)(ch:Nat)(t:LX)(v:LU)(i:Nat):List CL:=(List.range 6).map λc=>toC bits (cst bits ch t v c i)
theorem sF{bits:Int}{ch:Nat}{t:LX}{v:LU}{i c:Nat}(h:c<6):Aj (cts bits ch t v i) (c:Int)=some (toC bits (cst bits ch t v c i)):=by
 rw[Cf (by simp[cts];exact h)];simp[cts]
theorem F_(bits:Int)(ch:Nat)(t:LX)(v:LU)(c m:Nat):cst bits ch t v c (m+1)=if m %ch=c then U3 bits (cst bits ch t v c m) (OO (v.getD m 0))else cst bits ch t v c m:=rfl
theorem qd{bits:Int}{ch:Nat}{t:LX}{v:LU}{i c:Nat}(h:c<6)(hc:i %ch=c):He (cts bits ch t v i) (c:Int) (toC bits (U3 bits (cst bits ch t v c i) (OO (v.getD i 0))))=some (cts bits ch t v (i+1)):=by
 rw[Ra _ (by simp[cts];exact h)];congr 1;apply P8 (by simp[cts]);intro k h1 h2;rw[XW];simp only[cts,T9,U0];by_cases hk:c=k
 ·subst hk;rw[A4 rfl,F_,A4 hc]
 ·rw[A! hk,F_,A! F0]
section
variable {bits:Int} {ch:Nat} {t:LX} {v:LU}
theorem Ax3(hb:Cj bits)(ht:t.length=16)(h1:1<=ch)(h6:ch<=6)(hv:v.length<=4000):∀(j i q:Nat),i+j=v.length->j<q->
  Hv v (ch:Int) bits q (i:Int) (cts bits ch t v i) ((sL bits ch t v).take i)=Ko (ch:Int) bits (sL bits ch t v)
 |0,i,q+1,hi,_=>by
  rw[Hv,Kn,A! F2,Q0 (by rw[aN];omega)]
 |j+1,i,q+1,hi,hq=>by
  have hlen:=aN bits ch t v;have hc:i %ch<6:=M0 (OP _ F0) h6;have hok:=wo bits ch ht v (i %ch) i;have hs:=qd (bits:=bits) (ch:=ch) (t:=t) (v:=v) (i:=i) hc rfl;have hx:=uf bits ch t v (i:=i) F0;have hcb:=Af4 hb hok (cst bits ch t v (i %ch) i).1 (OO (v.getD i 0));have ih:=Ax3 hb ht h1 h6 hv j (i+1) q F0 F0;rw[Mx F0,<-Hj F0,hx]at ih;rw[Hv,Kn,A4 F2,rU F0,Aa,Bf K0,Aa,OT,sF hc,Aa,Aa,Akl,Aa];refine J2 (congrArg (λo=>Option.bind o _) hcb) ?_;rw[Aa];simp only;rw[Xg,MT,A! C6,OT];refine J2 (congrArg (λo=>Option.bind o _) hs) ?_;rw[Aa,Bu F7,Aa,Ag];exact ih
theorem Ahs(hb:Cj bits)(ht:t.length=16)(h1:1<=ch)(h6:ch<=6)(hv:v.length<=4000):Rs (ch:Int) bits t v=Ko (ch:Int) bits (sL bits ch t v):=by
 have h:=Ax3 hb ht h1 h6 hv v.length 0 Aq F0 C0;have e:Aq=(Aq-7)+1+1+1+1+1+1+1:=by have:=Ao;omega
 have hs:Xk v (ch:Int) bits t 0 (List.replicate 6 ((0:Int),(0:Int32),((0:Int),(List.replicate 16 (0:Int32)),(List.replicate 16 (0:Int32)),()),()))=NG v (ch:Int) bits (cts bits ch t v 0):=by
  rw[Xk,e];obtain rfl|rfl|rfl:=hb<;>rfl
 rw[Rs,Zk,hs];exact h
theorem Acg(bk:Int->LX->Option LX)(hb:Cj bits)(ht:t.length=16)(h1:1<=ch)(h6:ch<=6)(hv:v.length<=4000)(z:LX)(c:Nat)(hc:c<ch):∀(j i q:Nat),i %ch=c->v.length-i<=j->i<=5000->j<q->
  Jw bk v (ch:Int) bits t (c:Int) q (i:Int) (ZE (λk=>decide (k %ch<c\/ (k %ch=c/\k<i))) (sL bits ch t v) z) bits (cst bits ch t v c i).1 (sB bits) (cst bits ch t v c i).2.1 (cst bits ch t v c i).2.2=
   bk ((c+1:Nat):Int) (ZE (λk=>decide (k %ch<c+1)) (sL bits ch t v) z)
 |j,i,q+1,hi,hj,hi5,hq=>by
  have hlen:=aN bits ch t v;rw[Jw,AJ];by_cases h:i<v.length
  ·have hok:=wo bits ch ht v c i;have hst:=Ahx hb hok (cst bits ch t v c i).1 (OO (v.getD i 0));have hx:=uf bits ch t v (i:=i) h;rw[hi]at hx;have ih:=Acg bk hb ht h1 h6 hv z c hc (j-1) (i+ch) q (by rw[XK];exact hi) F0 F0 F0;have L4:cst bits ch t v c (i+ch)=U3 bits (cst bits ch t v c i) (OO (v.getD i 0)):=Aj0 ch c i _ _ hi hc;rw[L4]at ih;have hset:=aO (p:=λk=>decide (k %ch<c\/ (k %ch=c/\k<i))) (a:=sL bits ch t v) (b:=z) (k:=i) F0;rw[hx]at hset;have j? :ZE (λj=>decide (j %ch<c\/ (j %ch=c/\j<i))||decide (j=i)) (sL bits ch t v) z=ZE (λk=>decide (k %ch<c\/ (k %ch=c/\k<i+ch))) (sL bits ch t v) z:=by
    apply Sd;intro k _;rw[H'];simp only[O_,C9];constructor
    ·rintro((h1|h1)|h1)
     ·exact .inl h1
     ·exact .inr ⟨h1.1,F0⟩
     ·subst h1;exact .inr ⟨hi,F0⟩
    ·rintro(h1|⟨h1,h2⟩)
     ·exact .inl (.inl h1)
     ·by_cases h3:k<i
      ·exact .inl (.inr ⟨h1,h3⟩)
      ·refine .inr ?_;have h4:(i+(k-i)) %ch=i %ch:=by rw[show i+(k-i)=k by omega,h1,hi]
       have h5:=k! h4;rw[T!,B4 F0]at h5;omega
   rw[j?]at hset;rw[A4 F2,rU h,Aa,An5,Aa];refine J2 (congrArg (λo=>Option.bind o _) hst) ?_;rw[Aa];simp only;rw[AP,AK,Yr F0,Aa];refine J2 (congrArg (λo=>Option.bind o _) hset) ?_;rw[Aa,Ai6,AD,Ag];exact ih
  ·rw[A! F2,Aib,AN,Ag];have j? :ZE (λk=>decide (k %ch<c\/ (k %ch=c/\k<i))) (sL bits ch t v) z=ZE (λk=>decide (k %ch<c+1)) (sL bits ch t v) z:=by
    apply Sd;intro k hk;rw[H'];simp only[C9];omega
   rw[j?];rfl
theorem Aec(hb:Cj bits)(ht:t.length=16)(h1:1<=ch)(h6:ch<=6)(hv:v.length<=4000)(z:LX):∀(j c q:Nat),c+j=ch->j<q->
  Fa v (ch:Int) bits t q (c:Int) (ZE (λk=>decide (k %ch<c)) (sL bits ch t v) z)=Pb (ch:Int) bits (sL bits ch t v)
 |0,c,q+1,hc,_=>by
  rw[Fa,Pc,A! F9,kM (λk hk=>by have:=OP k (show 0<ch by omega);simp;omega)]
 |j+1,c,q+1,hc,hq=>by
  have ih:=Aec hb ht h1 h6 hv z j (c+1) q F0 F0;have hin:=Acg (Fa v (ch:Int) bits t q) hb ht h1 h6 hv z c F0 v.length c Aq (B4 F0) F0 F0 C0;have h0:cst bits ch t v c c=(0,t,List.replicate 16 0):=t_ ch c _ _ c (D1 _) F0;rw[h0]at hin;have j? :ZE (λk=>decide (k %ch<c\/ (k %ch=c/\k<c))) (sL bits ch t v) z=ZE (λk=>decide (k %ch<c)) (sL bits ch t v) z:=by
   apply Sd;intro k hk;have:=Wk k ch;rw[H'];simp only[C9];omega
  rw[j?]at hin;rw[Fa,Pc,A4 F9,Avm hb,Aa];simp only;rw[AM];exact J2 hin ih
theorem Aed(hb:Cj bits)(ht:t.length=16)(h1:1<=ch)(h6:ch<=6)(hv:v.length<=4000)(hm:v.length %ch=0):Of (ch:Int) bits t v=some (xR ch (sL bits ch t v)):=by
 have hlen:=aN bits ch t v;have h:=Aec hb ht h1 h6 hv (List.replicate v.length 0) ch 0 Aq F0 C0;rw[eK (by rw[hlen];simp) (λk _=>by simp)]at h;rw[Of,BW,Ac,rK,Aa,Bf U?,Aa,AW];refine J2 h ?_;rw[Pb,AL,Agr ch _ h1 h6 (by rw[hlen];exact hm) F0,Aa]
end
def hB(bits:Int):Int:=if bits=8 then 128 else if bits=16 then 32768 else 8388608
theorem kr{bits:Int}(h:Cj bits):Qg bits=some (Int32.ofInt (-(hB bits)),Int32.ofInt (hB bits-1),0):=by
 obtain rfl|rfl|rfl:=h<;>decide
theorem WK{bits:Int}(h:Cj bits):Ht bits=some (hB bits):=by
 obtain rfl|rfl|rfl:=h<;>rfl
theorem UK(bits:Int):0<hB bits/\hB bits<=8388608:=by
 unfold hB;split; · omega
 ·split<;>omega
theorem G3{bits:Int}(h:Cj bits)(l:LX)(hl:l.length<=4000):∀(j i q:Nat),i+j=l.length->j<q->
  Oz (Int32.ofInt (-(hB bits))) (Int32.ofInt (hB bits-1)) l q (i:Int)=Au l (hB bits) q (i:Int)
 |0,i,q+1,hi,_=>by
  rw[Oz,BJ,Au,Ce,A! F2,A! F2];rfl
 |j+1,i,q+1,hi,hq=>by
  have hh:=UK bits;have ih:=G3 h l hl j (i+1) q F0 F0;have e1:(Int32.ofInt (-(hB bits))).toInt= -(hB bits):=by rw[U1,Z5 (by show -(4294967296/2:Int)<= _;omega) (by show _<(4294967296+1)/2;omega)]
  have e2:(Int32.ofInt (hB bits-1)).toInt=hB bits-1:=by rw[U1,Z5 (by show -(4294967296/2:Int)<= _;omega) (by show _<(4294967296+1)/2;omega)]
  rw[Oz,BJ,Au,Ce,A4 F2,A4 F2,H? F0,Aa,Aa,Aa,Em,lu,Bq F0 F0,Ag,pz,fW,e1,e2,Af,Dn];generalize(l.getD i 0).toInt=X;by_cases h1:X< -(hB bits)
  ·rw[A4 F7,A4 F7]
  ·rw[A! (c:=decide (X<0-hB bits)=true) F7];by_cases h2:hB bits<=X
   ·rw[A4 F7,A4 F7]
   ·rw[A! F7,A! F7];exact ih
theorem aD{bits:Int}(h:Cj bits)(l:LX)(hl:l.length<=4000):Ut bits l=Ap bits l:=by
 have hh:=UK bits;rw[Ut,QU,kr h,Aa,Ap,Cx,WK h,Aa];simp only;rw[A! C6,A! D4,A! L9,A! D4];exact G3 h l hl l.length 0 Aq F0 C0
theorem Abz{bits:Int}(h:Cj bits)(l:LX)(hl:l.length<=4000):∃e,Ap bits l=some e:=by
 have hh:=UK bits;have key:∀(j i q:Nat),i+j=l.length->j<q->∃e,Au l (hB bits) q (i:Int)=some e:=by
  intro j
  induction j with
  |zero=>
   intro i q hi hq;obtain⟨q,rfl⟩:∃k,q=k+1:=⟨q-1,F0⟩;rw[Au,Ce,A! F2];exact⟨_,rfl⟩
  |succ j ih=>
   intro i q hi hq;obtain⟨q,rfl⟩:∃k,q=k+1:=⟨q-1,F0⟩;rw[Au,Ce,A4 F2,H? F0,Aa,Aa,Ag];split
   ·exact⟨_,rfl⟩
   ·split
    ·exact⟨_,rfl⟩
    ·exact ih (i+1) q F0 F0
 obtain⟨e,he⟩:=key l.length 0 Aq F0 C0;rw[Ap,Cx,WK h,Aa,A! L9,A! D4];exact⟨e,he⟩
theorem Bcx{bits:Int}{ch:Nat}{t:LX}{v:LU}(hb:Cj bits)(ht:t.length=16)(h1:1<=ch)(h6:ch<=6)(hv:v.length<=4000)(hm:v.length %ch=0):
  ∃l e,Of (ch:Int) bits t v=some l/\Om (ch:Int) bits l=some (if e≠0 then([],e)else(l,0))/\Rs (ch:Int) bits t v=some (if e≠0 then([],e)else(l,0))/\Ap bits l=some e/\l.length=v.length:=by
 have hlen:=aN bits ch t v;have hul:=ZY ch (sL bits ch t v);obtain⟨e,he⟩:=Abz hb (xR ch (sL bits ch t v)) F0;refine⟨xR ch (sL bits ch t v),e,Aed hb ht h1 h6 hv hm,?_,?_,he,F0⟩
 ·rw[Om,he,Aa];by_cases h:e=0
  ·rw[A! (by rw[Ak];simpa using h),A! (by simpa using h)]
  ·rw[A4 (by rw[Ak];simpa using h),A4 h]
 ·rw[Ahs hb ht h1 h6 hv,Ko,MK,Aoe ch _ h1 h6 (by rw[hlen];exact hm) F0,Aa];simp only;rw[A! C6,aD hb _ F0,he,Aa];by_cases h:e=0
  ·rw[A! (by rw[Ak];simpa using h),A! (by simpa using h)]
  ·rw[A4 (by rw[Ak];simpa using h),A4 h]
def fY(s:Nat):Nat:=(s/2)^^^ (if s %2=1 then 3988292384 else 0)
theorem M1{s:Nat}(h:s<4294967296):fY s<4294967296:=by
 unfold fY;exact R6 (n:=32) F7 (by split<;>decide)
theorem Aq3(x y:Nat):(x^^^y)/2=(x/2)^^^ (y/2):=by
 have:=zq (a:=x) (b:=y) (i:=1);simpa [zu]using this
theorem Agw(x y:Nat):fY (x^^^y)=fY x^^^fY y:=by
 have h:(x^^^y) %2=(x %2+y %2) %2:=by
  have:=Nat.xor_mod_two_eq_one (a:=x) (b:=y);have h1:(x^^^y) %2<2:=OP _ F0;omega
 simp only[fY,Aq3,h];have hx:x %2=0\/x %2=1:=F0
 have hy:y %2=0\/y %2=1:=F0
 rcases hx with hx|hx<;>rcases hy with hy|hy<;>simp only[hx,hy]<;>simp
 ·rw[QS]
 ·rw[QS,W_ (y/2),QS,W_ 3988292384 (y/2)]
 ·rw[QS,W_ 3988292384,QS,Nat.xor_self];simp
def Wo:Nat->Nat->Nat
 |0,s=>s
 |k+1,s=>Wo k (fY s)
theorem Adf:∀(k x y:Nat),Wo k (x^^^y)=Wo k x^^^Wo k y
 |0,_,_=>rfl
 |k+1,x,y=>by rw[Wo,Agw,Adf k];rfl
theorem Acb:∀(k h:Nat),Wo k (2^k*h)=h
 |0,h=>by simp[Wo]
 |k+1,h=>by
  have:fY (2^(k+1)*h)=2^k*h:=by
   rw[KZ,I5 (2^k) 2,S3,fY,A! F0,Nat.mul_div_cancel_left _ F0];simp
  rw[Wo,this,Acb k]
theorem zC:∀(k:Nat) {s:Nat},s<4294967296->Wo k s<4294967296
 |0,_,h=>h
 |k+1,_,h=>zC k (M1 h)
def wC(s c:Nat):Nat:=Wo 8 (s^^^c)
theorem yY{s c:Nat}(h:s<4294967296)(hc:c<256):wC s c<4294967296:=zC 8 (R6 (n:=32) (by simpa using h) F7)
theorem Bbx{s c:Nat}(hc:c<256):wC s c=(s/256)^^^Wo 8 ((s %256)^^^c):=by
 have h:s=(2^8*(s/256))^^^ (s %256):=by
  have h1:s %256<2^8:=by simpa using OP s (by omega:256>0)
  have:=TP h1 (s/256);have h2:2^8*(s/256)|||s %256=(2^8*(s/256))^^^ (s %256):=by
   apply cW;intro i;rw[X_,Nat.testBit_xor];by_cases hi:i<8
   ·have:(2^8*(s/256)).testBit i=false:=by rw[zy];simp;omega
    rw[this];simp
   ·have:(s %256).testBit i=false:=Nat.testBit_lt_two_pow (M0 h1 (G? F0 F0));rw[this];simp
  omega
 rw[wC]
 conv=>lhs;rw[h]
 rw[QS,Adf,Acb]
def Wq(s:Nat)(l:LB):Nat:=l.foldl (λs c=>wC s c.toNat) s
def De(b:LB):UInt32:=4294967295-UInt32.ofNat (Wq 4294967295 b)
theorem Anx(s:UInt32)(c:Nat)(hc:c<256):DQ s (Ad (AX (UInt8.ofNat c) (2:UInt8)):Int)=some (UInt32.ofNat (s.toNat/2^^^ (if(s.toNat^^^c) %2=1 then 3988292384 else 0))):=by
 have h1:(Ad (AX (UInt8.ofNat c) (2:UInt8)):Int)=((c %2:Nat):Int):=by
  rw[NZ,Apu,UInt8.toNat_mod,M5];show((c %256 %2:Nat):Int)=_;omega
 have h2:geq (AX s (2:UInt32)) (1:UInt32)=decide (s.toNat %2=1):=by
  rw[ku,N',H'];simp only[Q7,C9];rw[<-dH,mJ];rfl
 have h3:Cb s (2:UInt32)=UInt32.ofNat (s.toNat/2):=by
  apply UInt32.toNat_inj.1;rw[D_,UInt32.toNat_div,L?]
  show s.toNat/2=_;have:=s.toNat_lt;omega
 have h4:Ri (Cb s (2:UInt32)) (3988292384:UInt32)=UInt32.ofNat (s.toNat/2^^^3988292384):=by
  apply UInt32.toNat_inj.1;rw[h3,VU,XQ,L?,L?];have:=s.toNat_lt;rw[B4 (a:=s.toNat/2) F0,B4]
  ·rfl
  ·exact R6 (n:=32) F0 F6
 have hx:(s.toNat^^^c) %2=(s.toNat %2+c %2) %2:=by
  have:=Nat.xor_mod_two_eq_one (a:=s.toNat) (b:=c);have h1:(s.toNat^^^c) %2<2:=OP _ F0;omega
 have hs:s.toNat %2=0\/s.toNat %2=1:=F0
 have hc2:c %2=0\/c %2=1:=F0
 rw[DQ,IB,h1,h2,hx];rcases hs with hs|hs<;>rcases hc2 with hc2|hc2<;>simp[hs,hc2,Bb,IP,JP,VU,h3]
theorem Auk:∀(j i q:Nat) (s:UInt32) (c:Nat),i+j=8->j<q->c<2^j->Jl q s (UInt8.ofNat c) (i:Int)=some (UInt32.ofNat (Wo j (s.toNat^^^c)))
 |0,i,q+1,s,c,hi,_,hc=>by
  obtain rfl:i=8:=F0
  obtain rfl:c=0:=by simpa using hc
  rw[Jl,Vk,A! P!,KW,KC,Wo];simp
 |j+1,i,q+1,s,c,hi,hq,hc=>by
  have hc8:c<256:=M0 hc (show 2^(j+1)<=2^8 from G? F0 F0);rw[Jl,Vk,A4 F9,Anx s c hc8,Aa,Ag];have e:Cb (UInt8.ofNat c) (2:UInt8)=UInt8.ofNat (c/2):=by
   apply UInt8.toNat_inj.1;rw[Apd,UInt8.toNat_div,M5,M5]
   show c %256/2=_;omega
  rw[e];have h:=Auk j (i+1) q (UInt32.ofNat (s.toNat/2^^^ (if(s.toNat^^^c) %2=1 then 3988292384 else 0))) (c/2) F0 F0 (by rw[KZ]at hc;omega);rw[show((i:Int)+1)=((i+1:Nat):Int) by omega,h,L?,Wo];congr 3;have:=s.toNat_lt;rw[B4,fY,Aq3,QS,QS,W_ (c/2)];exact R6 (n:=32) F0 (by split<;>decide)
theorem Ao9(s:UInt32)(c:UInt8):Ad3 s c=some (UInt32.ofNat (wC s.toNat c.toNat)):=by
 have h:=Auk 8 0 Aq s c.toNat F0 C0 (by simpa using c.toNat_lt);rw[UInt8.ofNat_toNat]at h;exact h
theorem Aq2(b:LB)(hb:b.length<4611686018427387904):∀(j i q:Nat) (s:UInt32),i+j=b.length->j<q->Ho b q s (i:Int)=some (UInt32.ofNat (Wq s.toNat (b.drop i)))
 |0,i,q+1,s,hi,_=>by
  rw[Ho,Qm,A! F2,show i=b.length by omega,RM];simp[EJ,CQ,Wq]
 |j+1,i,q+1,s,hi,hq=>by
  have hlt:i<b.length:=F0
  rw[Ho,Qm,A4 F2,Cf hlt,Aa,Ao9,Aa,Ag];have h:=Aq2 b hb j (i+1) q (UInt32.ofNat (wC s.toNat b[i].toNat)) F0 F0;rw[show((i:Int)+1)=((i+1:Nat):Int) by omega,h,drop_cons hlt,L?,B4 (yY s.toNat_lt b[i].toNat_lt)];rfl
theorem gO(b:LB)(hb:b.length<4611686018427387904):Rt b=some (De b):=by
 have h:=Aq2 b hb b.length 0 Aq 4294967295 F0 C0;rw[Rt,ML,CJ,DI,show((0:Int))=((0:Nat):Int)from rfl,h,Aa,zH];rfl
theorem Apv(c:UInt32):Ri (Bw c (GI.toZ (1:UInt64)).toNat) (Bd (3988292384:UInt32) (Cy c (1:UInt32)))=UInt32.ofNat (fY c.toNat):=by
 apply UInt32.toNat_inj.1;have e:(GI.toZ (1:UInt64)).toNat=1:=rfl;have h1:(Bw c 1).toNat=c.toNat/2:=by rw[IJ]
 have h2:(Bd (3988292384:UInt32) (Cy c (1:UInt32))).toNat=if c.toNat %2=1 then 3988292384 else 0:=by
  rw[Alq,C1,UInt32.toNat_mul,dG]
  show 3988292384*(c.toNat&&&1) %4294967296=_;rw[mE];have:c.toNat %2=0\/c.toNat %2=1:=F0
  rcases this with h|h<;>simp[h]
 rw[e,VU,XQ,h1,h2,L?,B4 (M1 c.toNat_lt)];rfl
theorem Awx(Li:Int->LU->Option (UInt32×Int))(s:UInt32)(b:LB)(x:Int)(t:LU):∀(j i q:Nat) (c:UInt32),i+j=8->j<q->
  Oy Li s b x t q c (i:Int)=CI Li s b x (UInt32.ofNat (Wo j c.toNat)) t
 |0,i,q+1,c,hi,_=>by
  obtain rfl:i=8:=F0
  rw[Oy,BT,A! P!,Wo,UInt32.ofNat_toNat]
 |j+1,i,q+1,c,hi,hq=>by
  rw[Oy,BT,A4 F9,Apv,Ag,show((i:Int)+1)=((i+1:Nat):Int) by omega,Awx Li s b x t j (i+1) q _ F0 F0,L?,B4 (M1 c.toNat_lt)];rfl
def tbl(n:Nat):LU:=(List.range n).map λi=>UInt32.ofNat (Wo 8 i)
theorem u!(s:UInt32)(b:LB):∀(j i q:Nat),i+j=256->j<q->Ln s b q (i:Int) (tbl i++List.replicate j 0)=QE s b (tbl 256)
 |0,i,q+1,hi,_=>by
  obtain rfl:i=256:=F0
  rw[Ln,DV,A! P!];simp
 |j+1,i,q+1,hi,hq=>by
  have hlen:(tbl i++List.replicate (j+1) 0).length=i+(j+1):=by simp[tbl]
  rw[Ln,DV,A4 F9,OM];have h:=Awx (Ln s b q) s b (i:Int) (tbl i++List.replicate (j+1) 0) 8 0 Aq (Ad (i:Int)) F0 C0;rw[show((0:Int))=((0:Nat):Int)from rfl,h,CI,Alc,Cf (by rw[hlen];omega),Aa,Ra _ (by rw[hlen];omega),Aa,Amm,Akg,Ag];have e:(Ad (i:Int):UInt32).toNat=i:=by rw[Aey,L?,B4 F0]
  rw[e,R8,YI (by simp[tbl])];have h2:=u! s b j (i+1) q F0 F0;have h3:tbl (i+1)=tbl i++[UInt32.ofNat (Wo 8 i)]:=by simp[tbl,dW]
  rw[h3]at h2;rw[show((i:Int)+1)=((i+1:Nat):Int) by omega,<-h2];simp
theorem Aok{i:Nat}(h:i<256):Aj (tbl 256) (i:Int)=some (UInt32.ofNat (Wo 8 i)):=by
 rw[Cf (by simpa [tbl]using h)];simp[tbl]
theorem Al8(s:UInt32)(c:UInt8):Aj (tbl 256) (GI.toZ (Ri (Ad s:UInt8) c))=some (UInt32.ofNat (Wo 8 ((s.toNat %256)^^^c.toNat))):=by
 have e:GI.toZ (Ri (Ad s:UInt8) c)=(((s.toNat %256)^^^c.toNat:Nat):Int):=by
  rw[Zq,ou,mA,nZ,M5]
 rw[e,Aok];exact R6 (n:=8) F7 (by simpa using c.toNat_lt)
theorem Ags(s:UInt32)(c:UInt8):Ri (Bw s (GI.toZ (8:UInt64)).toNat) (UInt32.ofNat (Wo 8 ((s.toNat %256)^^^c.toNat)))=UInt32.ofNat (wC s.toNat c.toNat):=by
 apply UInt32.toNat_inj.1;have hlt:Wo 8 ((s.toNat %256)^^^c.toNat)<4294967296:=zC 8 (R6 (n:=32) F7 (by have:=c.toNat_lt;simp;omega));have e:(GI.toZ (8:UInt64)).toNat=8:=rfl;rw[e,VU,XQ,IJ,L?,L?,B4 hlt,B4 (yY s.toNat_lt c.toNat_lt),Bbx c.toNat_lt]
theorem Aer(b:LB)(hb:b.length<4611686018427387904):∀(j i q:Nat) (s:UInt32),i+j=b.length->j<q->Pj b (tbl 256) q s (i:Int)=some (UInt32.ofNat (Wq s.toNat (b.drop i)),0)
 |0,i,q+1,s,hi,_=>by
  rw[Pj,DT,A! F2,show i=b.length by omega,RM];simp[PH,Akz,Wq]
 |j+1,i,q+1,s,hi,hq=>by
  have hlt:i<b.length:=F0
  rw[Pj,DT,A4 F2,Cf hlt,Aa,Al8,Aa,Aa,Ags,Ag];have h:=Aer b hb j (i+1) q (UInt32.ofNat (wC s.toNat b[i].toNat)) F0 F0;rw[show((i:Int)+1)=((i+1:Nat):Int) by omega,h,drop_cons hlt,L?,B4 (yY s.toNat_lt b[i].toNat_lt)];rfl
theorem Anr(s:UInt32)(b:LB)(hb:b.length<=100000):aW s b=some (UInt32.ofNat (Wq s.toNat b),0):=by
 have h:=u! s b 256 0 Aq F0 C0;have h2:=Aer b F0 b.length 0 Aq s F0 C0;rw[aW,UQ,A! D4,Aku];refine J2 h ?_;rw[QE,PL,Al0,PX,QJ];exact h2
theorem Ajr(a:UInt32):I7 a=4294967295-a:=by
 have h:=a.toNat_lt;have e:I7 a=UInt32.ofNat (BitVec.ofInt 32 4294967295^^^BitVec.ofInt 32 (a.toNat:Int)).toNat:=En _;apply UInt32.toNat_inj.1;rw[e,L?,k_ _ _ (by rw[ko];show a.toNat<=4294967295;omega)];have h1:BitVec.ofInt 32 (a.toNat:Int)=a.toBitVec:=ug a;have h2:(BitVec.ofInt 32 4294967295:BitVec 32)=BitVec.allOnes 32:=F6
 rw[h1,h2,BitVec.allOnes_xor,dQ];show(4294967296-1-a.toNat) %4294967296=4294967295-a.toNat;omega
theorem tW(b:LB)(hb:b.length<=100000):Vv b=some (De b,0):=by
 rw[Vv,Anr _ _ hb,Aa];simp only[Ak,Ajr];rfl
theorem eZ{p:Prop}(h:p:=by simp[Ak,Af,Am];omega):p:=h
theorem aP{p:Prop}(h:p:=by simp[Ak,Af];omega):p:=h
theorem oJ:∀{l m:LB},l.length=m.length->Eh l=Eh m->l=m
 |[],[],_,_=>rfl
 |x::l,y::m,h,e=>by
  simp only[Eh]at e;have hx:=x.toNat_lt;have hy:=y.toNat_lt;have h1:x=y:=UInt8.toNat_inj.1 F0;rw[h1,oJ (l:=l) (m:=m) (by simpa using h) F0]
theorem We:∀(w n:Nat),Eh (Mn n w)=n %256^w
 |0,n=>by simp[Mn,Eh,eS]
 |w+1,n=>by
  rw[Mn,Eh,We w (n/256),M5,show(256:Nat)^(w+1)=256*256^w by rw[KZ,I5],Nat.mod_mul]
def Wl(b:LB):Int:=
 if b.length<5 then 24 else if 41254<b.length then 4 else if(De (b.take (b.length-4))).toNat≠Eh (b.drop (b.length-4))then 22 else 0
theorem Azi(b:LB):CX b=some (if Wl b≠0 then([],Wl b)else(b.take (b.length-4),0)):=by
 rw[CX];by_cases h1:b.length<5
 ·have hS:Wl b=24:=by rw[Wl,A4 h1]
  rw[A4 F2,hS];rfl
 rw[A! F2];by_cases h2:41254<b.length
 ·have hS:Wl b=4:=by rw[Wl,A! h1,A4 h2]
  rw[A4 D4,hS];rfl
 have e4:Ah (Ac b) 4=((b.length-4:Nat):Int):=by rw[Ac,Bi];omega
 have hd:(b.drop (b.length-4)).length=4:=by simp;omega
 rw[A! D4,e4,Ji,Aa,show((b.length-4:Nat):Int).toNat=b.length-4 from rfl,tW _ F7,Aa];simp only;rw[A! C6,Hb,Aa,show((b.length-4:Nat):Int).toNat=b.length-4 from rfl,Ar0 _ F0 F0,Aa];have hne:Bl (mB (b.drop (b.length-4))) (Ad (De (b.take (b.length-4))):UInt64)=decide ((De (b.take (b.length-4))).toNat≠Eh (b.drop (b.length-4))):=by
  have hlt:=(De (b.take (b.length-4))).toNat_lt;rw[NM,H'];simp only[TJ,ne_eq,<-U!,C9];rw[TW F0,Ct,J',B4 F0];exact⟨λh e=>h e.symm,λh e=>h e.symm⟩
 simp only;rw[hne,Aa];by_cases h3:(De (b.take (b.length-4))).toNat≠Eh (b.drop (b.length-4))
 ·have hS:Wl b=22:=by rw[Wl,A! h1,A! h2,A4 h3]
  rw[A4 (by simp[h3]),hS];rfl
 ·have hS:Wl b=0:=by rw[Wl,A! h1,A! h2,A! h3]
  rw[A! (by rw[T6 h3];decide),hS];rfl
theorem Ag3(b:LB)(hb:b.length<=1000000):Xa b=some (b++Mn (De b).toNat 4):=by
 have h:∀k:Nat,(Ad (Bw (De b) k):UInt8)=UInt8.ofNat ((De b).toNat/2^k):=by
  intro k;rw[nZ,IJ]
 have h0:(Ad (De b):UInt8)=UInt8.ofNat (De b).toNat:=nZ _;have h1:=h 8;have h2:=h 16;have h3:=h 24;rw[Xa,gO b F0,Aa,Bu F7,Aa,Bu F7,Aa,h0,show(GI.toZ (8:UInt64)).toNat=8 from rfl,show(GI.toZ (16:UInt64)).toNat=16 from rfl,show(GI.toZ (24:UInt64)).toNat=24 from rfl,h1,h2,h3];simp only[Mn,WC,OJ]
theorem Awn(b:LB):Og b=some (Wl b):=by
 rw[Og];by_cases h1:b.length<5
 ·rw[A4 F2,Wl,A4 h1]
 rw[A! F2];by_cases h2:41254<b.length
 ·rw[A4 D4,Wl,A! h1,A4 h2]
 have e4:Ah (Ac b) 4=((b.length-4:Nat):Int):=by rw[Ac,Bi];omega
 have hd:(b.drop (b.length-4)).length=4:=by simp;omega
 rw[A! D4,e4,Ji,Aa,show((b.length-4:Nat):Int).toNat=b.length-4 from rfl,Ag3 _ F7,Aa];have hlt:=(De (b.take (b.length-4))).toNat_lt;have hiff:(b.take (b.length-4)++Mn (De (b.take (b.length-4))).toNat 4 !=b)=decide ((De (b.take (b.length-4))).toNat≠Eh (b.drop (b.length-4))):=by
  rw[H'];simp only[TJ,ne_eq,C9];constructor
  ·intro h e;apply h;have:Mn (De (b.take (b.length-4))).toNat 4=b.drop (b.length-4):=oJ (by rw[Bj,hd]) (by rw[We,B4 F0,e]);rw[this,T4]
  ·intro h e;apply h;have hx:Mn (De (b.take (b.length-4))).toNat 4=b.drop (b.length-4):=by
    have e2:b.take (b.length-4)++Mn (De (b.take (b.length-4))).toNat 4=b.take (b.length-4)++b.drop (b.length-4):=by rw[e,T4]
    exact List.append_cancel_left e2
   rw[<-hx,We,B4 F0]
 rw[hiff];by_cases h3:(De (b.take (b.length-4))).toNat≠Eh (b.drop (b.length-4))
 ·rw[A4 (by simp[h3]),Wl,A! h1,A! h2,A4 h3]
 ·rw[A! (by rw[T6 h3];decide),Wl,A! h1,A! h2,A! h3]
theorem Alv{b:LB}(h:Wl b=0):5<=b.length/\b.length<=41254:=by
 unfold Wl at h;split at h
 ·simp at h
 ·split at h
  ·simp at h
  ·omega
theorem dx{c:Nat}(h1:1<=c)(h6:c<=6):Cb (4000:Int) (c:Int)=((4000/c:Nat):Int):=by
 have:c=1\/c=2\/c=3\/c=4\/c=5\/c=6:=F0
 rcases this with rfl|rfl|rfl|rfl|rfl|rfl<;>rfl
theorem Am8(p:LB)(h:p.length<=41250):okB p (8*p.length):=⟨F0,F0,λk h1 h2=>by omega⟩
theorem Aum{bits:Int}{ch n:Nat}{t:LX}(b:LB)(hb:Cj bits)(ht:t.length=16)(h1:1<=ch)(h6:ch<=6)(n1:1<=n)(n2:n<=4000/ch):
  ∃l e,Lk (ch:Int) bits t (n:Int) b=some (l,e)/\Du (ch:Int) bits t (n:Int) b=some (l,e)/\ (e=0->Ap bits l=some 0/\l.length<=4000/\l.length=n*ch)/\ (e≠0->l=[]):=by
 have hn:n*ch<=4000:=by
  have:=ES ch n2;have h2:=T5 4000 ch;omega
 have hq4:=dx h1 h6;generalize 4000/ch=mm at*
 have hck:Fp (ch:Int) bits=some 0:=by
  have hr:∃x y,Qg bits=some (x,y,0):=⟨_,_,kr hb⟩;obtain⟨x,y,hr⟩:=hr;rw[Fp,hr,Aa];simp only;rw[A! eZ]
 have hh:=UK bits;have g!:Ec (ch:Int) bits (n:Int)=some 0:=by
  rw[Ec,Cw,A! NX,WK hb,Aa,A! L9,Aa,A! aP,Bf K0,Aa,hq4,A! J!]
 rw[Lk,Du,Rp,hck,g!,Aa,Aa,A! C6,A! F9,Bf K0,Aa,hq4,A! J!,A! C6,Azi,Awn];by_cases hs:Wl b≠0
 ·rw[A4 hs];simp only[Aa];rw[A4 (by rw[Ak];simpa using hs),A4 (by rw[Ak];simpa using hs)];exact⟨[],Wl b,rfl,rfl,λe=>absurd e hs,λ_=>rfl⟩
 have hs0:Wl b=0:=by simpa using hs
 have hlen:=Alv hs0;have e4:Ah (Ac b) 4=((b.length-4:Nat):Int):=by rw[Ac,Bi];omega
 rw[A! hs,hs0];simp only[Aa];rw[A! C6,A! C6,e4,Ji,Aa,show((b.length-4:Nat):Int).toNat=b.length-4 from rfl];have hpl:(b.take (b.length-4)).length=b.length-4:=by simp
 generalize b.take (b.length-4)=p at*
 have e8:Bd (8:Int) (Ac p)=((8*p.length:Nat):Int):=by rw[Ac,Gp];omega
 have hp:=Am8 p F0;have hv:=values_eq hp h1 h6 hn;have hr:=qM (N:=8*p.length) (p:=p) rfl F0 h1 h6 hn;have hat:=iy (ch:=ch) (p:=p) (N:=8*p.length) (n*ch) 0 [] F0;rw[uj,A! D4,Ef,Bu F7,Aa,Aa,Aa,OJ,e8];simp only;rw[A! C6,hv,hr,Aa,Aa];generalize Wj ch p (8*p.length) (n*ch) 0 []=V at*
 obtain⟨v,at',e⟩:=V;simp only at*
 by_cases he:e≠0
 ·rw[A4 he,A4 he];simp only;rw[A4 (by rw[Ak];simpa using he),Kw,Lc,A4 (by rw[Ak];simpa using he)];exact⟨[],e,rfl,rfl,λh=>absurd h he,λ_=>rfl⟩
 have he0:e=0:=by simpa using he
 have hvl:=hat.2.2 he0;simp only[Zv,J?]at hvl;rw[A! he,A! he];simp only;rw[A! C6,Bi,show((8*p.length:Nat):Int)-(at':Int)=((8*p.length-at':Nat):Int) by omega,Kw,Lc];by_cases h7:7<8*p.length-at'
 ·have hE:(if 7<8*p.length-at'\/Bm p at' (8*p.length-at')≠0 then(12:Int)else 0)=12:=A4 (.inl h7);rw[A4 O?,hE,A4 F6];exact⟨[],12,rfl,rfl,λh=>absurd h F6,λ_=>rfl⟩
 rw[A! O?,uX hp at' _ F0,A! F0,Aa];have hz:Bl (Mk p at' (8*p.length-at')) (0:UInt64)=decide (Bm p at' (8*p.length-at')≠0):=by
  rw[NM,H'];simp only[TJ,ne_eq,<-U!,C9];rw[Vn p _ _ F0];rfl
 simp only;rw[hz];by_cases hv0:Bm p at' (8*p.length-at')≠0
 ·have hE:(if 7<8*p.length-at'\/Bm p at' (8*p.length-at')≠0 then(12:Int)else 0)=12:=A4 (.inr hv0);rw[A4 (by simp[hv0]),hE,A4 F6];exact⟨[],12,rfl,rfl,λh=>absurd h F6,λ_=>rfl⟩
 have hm:v.length %ch=0:=by rw[hvl];exact SI n ch
 obtain⟨l,e,g1,g2,g3,g4,g5⟩:=Bcx (v:=v) hb ht h1 h6 F0 hm;have hE:(if 7<8*p.length-at'\/Bm p at' (8*p.length-at')≠0 then(12:Int)else 0)=0:=A! F0;rw[A! (by rw[T6 hv0];decide),hE,A! F6,g1,g3,Aa,Aa,g2];by_cases hl:e≠0
 ·rw[A4 hl];exact⟨[],e,rfl,rfl,λh=>absurd h hl,λ_=>rfl⟩
 ·rw[A! hl];have hl0:e=0:=by simpa using hl
  exact⟨l,0,rfl,rfl,λ_=>⟨by rw[g4,hl0],F0,F0⟩,λe=>absurd rfl e⟩
theorem Ai4(a b:Int32):a-(a-b)=b:=by
 apply Int32.toBitVec_inj.1;simp only[Int32.toBitVec_sub];apply XC;simp only[BitVec.toNat_sub];have:=a.toBitVec.isLt;have:=b.toBitVec.isLt;omega
theorem TK(a b:Int32):a-b+b=a:=by
 apply Int32.toBitVec_inj.1;simp only[Int32.toBitVec_sub,Int32.toBitVec_add];apply XC;simp only[BitVec.toNat_sub,BitVec.toNat_add];have:=a.toBitVec.isLt;have:=b.toBitVec.isLt;omega
def mxV(f:Nat->Int32)(ch i:Nat):Int32:=if i+1<ch then f (i+1)-f i else if 1<ch then f (ch-1)-Cb (f (ch-1)-f (ch-2)) (2:Int32)else f (ch-1)
theorem vQ{f g:Nat->Int32}{ch:Nat}(h1:1<=ch)(h:∀i,i<ch->f i=mxV g ch i):∀j,j<ch->ze f ch j=g (ch-1-j)
 |0,_=>by
  rw[ze];by_cases h2:1<ch
  ·rw[A4 h2,h (ch-1) F0,h (ch-2) F0,mxV,mxV,A! F0,A4 h2,A4 F0,show ch-2+1=ch-1 by omega,TK,Zx]
  ·rw[A! h2,h (ch-1) F0,mxV,A! F0,A! h2,Zx]
 |j+1,hj=>by
  rw[ze,vQ h1 h j F0,h (ch-2-j) F0,mxV,A4 F0,show ch-2-j+1=ch-1-j by omega,Ai4];congr 1;omega
def mx(ch:Nat)(x:LX):LX:=(List.range x.length).map λk=>mxV (λi=>x.getD (k-k %ch+i) 0) ch (k %ch)
theorem PB(ch:Nat)(x:LX):(mx ch x).length=x.length:=by simp[mx]
theorem vG{ch:Nat}{x:LX}{k:Nat}(h:k<x.length):(mx ch x).getD k 0=mxV (λi=>x.getD (k-k %ch+i) 0) ch (k %ch):=by
 rw[Hj (by rw[PB];exact h)];simp[mx]
theorem Ata{ch:Nat}{x:LX}(h1:1<=ch)(hm:x.length %ch=0):xR ch (mx ch x)=x:=by
 apply P8 (by rw[ZY,PB]);intro k hk1 hk2;have hr:=OP k (show 0<ch by omega);have hle:=Wk k ch;have ha:(k-k %ch) %ch=0:=Nat.mod_eq_zero_of_dvd (Nat.dvd_sub_mod k);have hb:=qU ha hm F0;have e:=rE (m:=mx ch x) ha hr (by rw[PB];omega);rw[show k-k %ch+k %ch=k by omega]at e;rw[<-Hj hk1,<-Hj hk2,e];rw[vQ (g:=λi=>x.getD (k-k %ch+i) 0) h1 (λi hi=>?_) (ch-1-k %ch) F0]
 ·congr 1;omega
 ·rw[vG F0];have h2:(k-k %ch+i) %ch=i:=by rw[Nat.add_mod,ha,J?,Y7,B4 hi]
  rw[h2,show k-k %ch+i-i=k-k %ch by omega]
def iM(x:Int32):UInt32:=UInt32.ofNat (if 0<=x.toInt then 2*x.toInt.toNat else 2*(-x.toInt-1).toNat+1)
theorem vM(x:Int32):OO (iM x)=x:=by
 have h:=Xl x;have e:(iM x).toNat=if 0<=x.toInt then 2*x.toInt.toNat else 2*(-x.toInt-1).toNat+1:=by
  rw[iM,L?];split<;>exact B4 F0
 rw[OO,e];by_cases h0:0<=x.toInt
 ·rw[A4 h0,A4 F0,show((2*x.toInt.toNat/2:Nat):Int)=x.toInt by omega,Q6]
 ·rw[A! h0,A! F0,show -(((2*(-x.toInt-1).toNat+1)/2:Nat):Int)-1=x.toInt by omega,Q6]
theorem Ac9{α:Type}(ch c:Nat)(f g:α->Nat->α)(a0:α):∀m:Nat,(∀i,i<m->∀a,f a i=g a i)->pre ch c f a0 m=pre ch c g a0 m
 |0,_=>rfl
 |m+1,h=>by
  rw[pre,pre,Ac9 ch c f g a0 m λi hi=>h i F0,h m F0]
theorem qZ(bits:Int)(ch:Nat)(t:LX)(v w:LU)(c i:Nat)(h:i<=v.length):cst bits ch t (v++w) c i=cst bits ch t v c i:=by
 unfold cst;apply Ac9;intro j hj a;have:(v++w).getD j 0=v.getD j 0:=by
  rw[D!,D!,O1 F0]
 rw[this]
def xC(bits:Int)(s:CS)(x:Int32):Int32:=x-gs (shB bits) s.1-gF (sB bits) s.2.1 s.2.2
theorem Acd(bits:Int)(s:CS)(x:Int32):zo bits s (xC bits s x)=x:=by
 rw[zo,xC,TK,TK]
def l? (bits:Int)(ch:Nat)(t m:LX):Nat->LU
 |0=>[]
 |i+1=>l? bits ch t m i++[iM (xC bits (cst bits ch t (l? bits ch t m i) (i %ch) i) (m.getD i 0))]
theorem kR(bits:Int)(ch:Nat)(t m:LX):∀i,(l? bits ch t m i).length=i
 |0=>rfl
 |i+1=>by rw[l?,B6,kR bits ch t m i];rfl
theorem vk(bits:Int)(ch:Nat)(t m:LX):∀(j i:Nat),∃w,l? bits ch t m (i+j)=l? bits ch t m i++w
 |0,i=>⟨[],A7⟩
 |j+1,i=>by
  obtain⟨w,hw⟩:=vk bits ch t m j i;rw[<-O6,l?,hw];exact⟨_,D2 _ _ _⟩
theorem Am7(bits:Int)(ch:Nat)(t m:LX):sL bits ch t (l? bits ch t m m.length)=m:=by
 have hl:=kR bits ch t m m.length;apply P8 (by rw[aN,hl]);intro i h1 h2;rw[<-Hj h1,<-Hj h2,uf _ _ _ _ F0];obtain⟨w,hw⟩:=vk bits ch t m (m.length-(i+1)) (i+1);rw[show i+1+(m.length-(i+1))=m.length by omega,l?,D2]at hw;have hli:=kR bits ch t m i;rw[hw,qZ _ _ _ _ _ _ _ F0];have hg:(l? bits ch t m i++([iM (xC bits (cst bits ch t (l? bits ch t m i) (i %ch) i) (m.getD i 0))]++w)).getD i 0=iM (xC bits (cst bits ch t (l? bits ch t m i) (i %ch) i) (m.getD i 0)):=by
  rw[D!,P3 F0,hli,Y6];rfl
 rw[hg,vM,Acd]
theorem S_{p:Prop}(h:p:=by rw[B6];omega):p:=h
def tb(l:List Bool)(k:Nat):Nat:=if l.getD k false=true then 1 else 0
theorem o!(b:Bool)(l:List Bool):tb (b::l) 0=if b=true then 1 else 0:=rfl
theorem qB(b:Bool)(l:List Bool)(k:Nat):tb (b::l) (k+1)=tb l k:=by simp[tb]
theorem qJ{a b:List Bool}{k:Nat}(h:k<a.length):tb (a++b) k=tb a k:=by
 rw[tb,tb,D!,D!,O1 h]
theorem jv(a b:List Bool)(k:Nat):tb (a++b) (a.length+k)=tb b k:=by
 rw[tb,tb,D!,D!,P3 F0,T!]
theorem qw{l:List Bool}{k:Nat}(h:l.length<=k):tb l k=0:=by
 rw[tb,D!,T3 h];rfl
def At(p:LB)(a:Nat)(c:List Bool):Prop:=∀i,i<c.length->Fs p (a+i)=tb c i
theorem At.left{p:LB}{a:Nat}{c d:List Bool}(h:At p a (c++d)):At p a c:=λi hi=>by
 rw[h i S_,qJ hi]
theorem At.right{p:LB}{a:Nat}{c d:List Bool}(h:At p a (c++d)):At p (a+c.length) d:=λi hi=>by
 rw[O6,h (c.length+i) S_,jv]
theorem At.cons{p:LB}{a:Nat}{b:Bool}{c:List Bool}(h:At p a (b::c)):Fs p a=(if b=true then 1 else 0)/\At p (a+1) c:=by
 have h0:=h 0 A7;rw[PN,o!]at h0;refine⟨h0,λi hi=>?_⟩;have:=h (i+1) F7;rw[qB]at this;rw[show a+1+i=a+(i+1) by omega,this]
def bM:Nat->Nat->List Bool
 |_,0=>[]
 |v,n+1=>decide (v %2=1)::bM (v/2) n
theorem Ot:∀(v n:Nat),(bM v n).length=n
 |_,0=>rfl
 |v,n+1=>by rw[bM,I!,Ot (v/2) n]
theorem GK(p:LB):∀(n a v:Nat),At p a (bM v n)->Bm p a n=v %2^n
 |0,a,v,_=>by rw[Bm,Nat.pow_zero,eS]
 |n+1,a,v,h=>by
  rw[bM]at h;obtain⟨h0,h1⟩:=h.cons;rw[Bm,h0,GK p n (a+1) (v/2) h1,KZ,I5 (2^n) 2,Nat.mod_mul];have:=Nat.mod_two_eq_zero_or_one v;rcases this with e|e<;>simp[e]
theorem zN(p:LB):∀(q m a:Nat) (c:List Bool),At p a (List.replicate q true++c)->q<=m->Fb p a m=q+Fb p (a+q) (m-q)
 |0,m,a,c,h,hm=>by simp
 |q+1,m,a,c,h,hm=>by
  rw[R8,SC]at h;obtain⟨h0,h1⟩:=h.cons;obtain⟨m,rfl⟩:∃k,m=k+1:=⟨m-1,F0⟩;rw[Fb,A4 (by rw[h0];rfl),zN p q m (a+1) c h1 F0,show a+1+q=a+(q+1) by omega,show m+1-(q+1)=m-q by omega];omega
theorem Ana{p:LB}{a m:Nat}(h:Fs p a=0):Fb p a m=0:=by
 cases m with
 |zero=>rfl
 |succ m=>rw[Fb,A! F0]
def PJ(l v:Nat):List Bool:=if 48<=v/2^l then List.replicate 48 true++bM v 32 else List.replicate (v/2^l) true++(false::bM (v %2^l) l)
theorem Ag7{l v:Nat}(hl:l<=24):1<= (PJ l v).length/\ (PJ l v).length<=80:=by
 rw[PJ];generalize v/2^l=q;split
 ·rw[B6,PA,Ot];omega
 ·rw[B6,PA,I!,Ot];omega
theorem Afa{p:LB}{N a l v:Nat}(hl:l<=24)(hv:v<2^32)(h:At p a (PJ l v))(hN:a+(PJ l v).length<=N):SG p N a l=(UInt32.ofNat v,((a+(PJ l v).length:Nat):Int),0):=by
 rw[PJ]at h hN⊢;by_cases h48:48<=v/2^l
 ·rw[A4 h48]at h hN⊢;rw[B6,PA,Ot]at hN⊢;have hm:min 48 (N-a)=48:=F0
  have ho:=zN p 48 48 a (bM v 32) h (D1 _);rw[Y6,Fb,PN]at ho;have hr:=h.right;rw[PA]at hr;have hval:=GK p 32 (a+48) v hr;rw[B4 hv]at hval;rw[SG,A! F0,hm,ho,A! F0,A4 rfl,A! F0,hval,A! F0]
 ·rw[A! h48]at h hN⊢;rw[B6,PA,I!,Ot]at hN⊢;generalize hq:v/2^l=q at*
  have hr:=h.right;rw[PA]at hr;obtain⟨h0,h1⟩:=hr.cons;have hm:q<min 48 (N-a):=F0
  have ho:=zN p q (min 48 (N-a)) a _ h F0;rw[Ana (a:=a+q) (m:=min 48 (N-a)-q) (by rw[h0];rfl),PN]at ho;have hval:=GK p l (a+q+1) (v %2^l) h1;rw[Y7]at hval;have hdm:=U7 v (2^l);rw[hq,I5]at hdm;rw[SG,A! F0,ho,A4 hm,A! F0,hval,hdm,show a+q+1+l=a+(q+(l+1)) by omega]
def Od(k l:Nat)(v:UInt32):List Bool:=if v.toNat<2^k then false::bM v.toNat k else true::PJ l (v.toNat-2^k)
theorem VQ{k l:Nat}(v:UInt32)(hk:k<=24)(hl:l<=24):1<= (Od k l v).length/\ (Od k l v).length<=81:=by
 have:=Ag7 (v:=v.toNat-2^k) hl;rw[Od];split
 ·rw[I!,Ot];omega
 ·rw[I!];omega
theorem Ahf{p:LB}{N a k l:Nat}{v:UInt32}(hk:k<=24)(hl:l<=24)(h:At p a (Od k l v))(hN:a+(Od k l v).length<=N):YF p N a k l=(v,((a+(Od k l v).length:Nat):Int),0):=by
 have Bbe:=v.toNat_lt;have hof:UInt32.ofNat v.toNat=v:=by simp
 rw[Od]at h hN⊢;by_cases hs:v.toNat<2^k
 ·rw[A4 hs]at h hN⊢;rw[I!,Ot]at hN⊢;obtain⟨h0,h1⟩:=h.cons;have hval:=GK p k (a+1) v.toNat h1;rw[B4 hs]at hval;rw[YF,A! F0,A4 (by rw[h0];rfl),A! F0,hval,hof,show a+1+k=a+(k+1) by omega]
 ·rw[A! hs]at h hN⊢;rw[I!]at hN⊢;obtain⟨h0,h1⟩:=h.cons;have hsub:=Nat.sub_le v.toNat (2^k);have hr:=Afa hl (by omega:v.toNat-2^k<2^32) h1 (by omega:a+1+_<=N);have ht:(UInt32.ofNat (v.toNat-2^k)).toNat=v.toNat-2^k:=by rw[L?];exact B4 F0
  rw[YF,A! F0,A! (by rw[h0];decide),hr];simp only;rw[A! F6,ht,A! F0,show v.toNat-2^k+2^k=v.toNat by omega,hof,show a+1+(PJ l (v.toNat-2^k)).length=a+((PJ l (v.toNat-2^k)).length+1) by omega]
def bv:List Bool->Nat
 |[]=>0
 |b::r=>(if b=true then 1 else 0)+2*bv r
theorem xE:∀l:List Bool,bv l<2^l.length
 |[]=>by decide
 |b::r=>by
  have:=xE r;rw[bv,I!,KZ];split<;>omega
theorem vR:∀(l:List Bool) (k:Nat),bv l/2^k %2=tb l k
 |[],k=>by simp[bv,tb]
 |b::r,0=>by
  rw[bv,o!,Nat.pow_zero,Nat.div_one];split<;>omega
 |b::r,k+1=>by
  have:((if b=true then 1 else 0)+2*bv r)/2=bv r:=by split<;>omega
  rw[bv,qB,KZ,I5 (2^k) 2,<-WC,this,vR r k]
def Jf(c:List Bool):LB:=(List.range ((c.length+7)/8)).map λj=>UInt8.ofNat (bv ((c.drop (8*j)).take 8))
theorem Vu(c:List Bool):(Jf c).length=(c.length+7)/8:=by simp[Jf]
theorem AE(c:List Bool)(i:Nat):Fs (Jf c) i=tb c i:=by
 rw[Fs];by_cases h:i/8<(c.length+7)/8
 ·have hg:(Jf c).getD (i/8) 0=UInt8.ofNat (bv ((c.drop (8*(i/8))).take 8)):=by
   rw[D!,KV (by rw[Vu];exact h)];simp[Jf]
  have hlt:=xE ((c.drop (8*(i/8))).take 8);have hl8:((c.drop (8*(i/8))).take 8).length<=8:=by rw[J1];omega
  have hp:=G? (show 0<2 by omega) hl8;have hn:(UInt8.ofNat (bv ((c.drop (8*(i/8))).take 8))).toNat=bv ((c.drop (8*(i/8))).take 8):=by
   rw[M5];exact B4 F0
  rw[hg,hn,vR,tb,tb];have:((c.drop (8*(i/8))).take 8).getD (i %8) false=c.getD i false:=by
   rw[D!,D!,P0,A4 F0,S5,show 8*(i/8)+i %8=i by omega]
  rw[this]
 ·have hg:(Jf c).getD (i/8) 0=0:=by
   rw[D!,T3 (by rw[Vu];omega)];rfl
  rw[hg,qw F0];simp
def Nv(ch:Nat)(V:LU):Nat->List Bool
 |0=>[]
 |i+1=>Nv ch V i++Od (now ch (V.take i)).1 (now ch (V.take i)).2.1 (V.getD i 0)
theorem gq(ch:Nat)(v:LU):(now ch v).1<=24/\ (now ch v).2.1<=24:=by
 have:=gJ ch v (v.length %ch) v.length;exact⟨this.1,this.2.1⟩
theorem Art(ch:Nat)(V:LU):∀(j i:Nat),∃w,Nv ch V (i+j)=Nv ch V i++w
 |0,i=>⟨[],A7⟩
 |j+1,i=>by
  obtain⟨w,hw⟩:=Art ch V j i;rw[<-O6,Nv,hw];exact⟨_,D2 _ _ _⟩
theorem eN(ch:Nat)(V:LU):∀i,(Nv ch V i).length<=81*i
 |0=>by simp[Nv]
 |i+1=>by
  have h:=gq ch (V.take i);have:=VQ (V.getD i 0) h.1 h.2;rw[Nv,B6];have:=eN ch V i;omega
theorem Aew(ch:Nat)(V:LU)(N:Nat)(hN:(Nv ch V V.length).length<=N):∀(j i:Nat),i+j=V.length->Wj ch (Jf (Nv ch V V.length)) N j (Nv ch V i).length (V.take i)=(V,(Nv ch V V.length).length,0)
 |0,i,h=>by
  obtain rfl:i=V.length:=F0
  rw[Wj,RN]
 |j+1,i,h=>by
  obtain⟨w,hw⟩:=Art ch V j (i+1);rw[show i+1+j=V.length by omega]at hw;have hk:=gq ch (V.take i);have hcl:=VQ (V.getD i 0) hk.1 hk.2;have hAt:At (Jf (Nv ch V V.length)) (Nv ch V i).length (Od (now ch (V.take i)).1 (now ch (V.take i)).2.1 (V.getD i 0)):=by
   intro m hm;rw[AE,hw,Nv,D2,jv,qJ hm]
  have hlen:(Nv ch V i).length+(Od (now ch (V.take i)).1 (now ch (V.take i)).2.1 (V.getD i 0)).length<= (Nv ch V V.length).length:=by
   rw[hw,Nv,B6,B6];omega
  have ih:=Aew ch V N hN j (i+1) F0;rw[Nv,B6]at ih;generalize Jf (Nv ch V V.length)=p at*
  generalize(Nv ch V i).length=a at*
  have hw2:(Od (now ch (V.take i)).1 (now ch (V.take i)).2.1 (V.getD i 0)).length<=sQ N a:=by unfold sQ;omega
  have hAt2:At (Na p a (sQ N a)) 0 (Od (now ch (V.take i)).1 (now ch (V.take i)).2.1 (V.getD i 0)):=by
   intro m hm;rw[J?,pA,A4 F0,hAt m hm]
  have hb:=Ahf hk.1 hk.2 hAt2 (by omega:0+_<=sQ N a);have hcode:Ka ch p N a (V.take i)=(V.getD i 0,((0+(Od (now ch (V.take i)).1 (now ch (V.take i)).2.1 (V.getD i 0)).length:Nat):Int),0):=hb;rw[Wj,hcode];simp only;rw[A! F6,J?,F?];have ht:V.take i++[V.getD i 0]=V.take (i+1):=by
   have hg:V.getD i 0=V[i]:=by rw[D!,KV F0];rfl
   rw[hg,Mx F0]
  rw[ht];exact ih
def P64:Nat:=4823603603198064275
def LW(s:Nat):Nat:=(2*s %18446744073709551616)^^^ (s/9223372036854775808*P64)
theorem XV{s:Nat}(h:s<18446744073709551616):LW s<18446744073709551616:=by
 have h1:s/9223372036854775808=0\/s/9223372036854775808=1:=F0
 exact R6 (n:=64) (OP _ F6) (by rcases h1 with e|e<;>rw[e]<;>decide)
theorem uF(x y:Nat):(x^^^y)/9223372036854775808=(x/9223372036854775808)^^^ (y/9223372036854775808):=by
 have:=zq (a:=x) (b:=y) (i:=63);simpa [zu]using this
theorem qT(x y:Nat):2*(x^^^y) %18446744073709551616=(2*x %18446744073709551616)^^^ (2*y %18446744073709551616):=by
 have h1:=zw (a:=x) (b:=y) (i:=1);have h2:=Nat.xor_mod_two_pow (a:=2*x) (b:=2*y) (n:=64);have e:2*(x^^^y)=(2*x)^^^ (2*y):=by simpa [Nat.shiftLeft_eq,I5]using h1
 rw[e];exact h2
theorem Aot{a b:Nat}(ha:a=0\/a=1)(hb:b=0\/b=1)(p:Nat):(a^^^b)*p=(a*p)^^^ (b*p):=by
 rcases ha with rfl|rfl<;>rcases hb with rfl|rfl<;>simp
theorem Awz(a b c d:Nat):(a^^^b)^^^ (c^^^d)=(a^^^c)^^^ (b^^^d):=by
 rw[QS,QS,<-QS b c d,W_ b c,QS c b d]
theorem Aas{x y:Nat}(hx:x<18446744073709551616)(hy:y<18446744073709551616):LW (x^^^y)=LW x^^^LW y:=by
 rw[LW,LW,LW,qT,uF,Aot F0 F0,Awz]
def Mr:Nat->Nat->Nat
 |0,s=>s
 |k+1,s=>Mr k (LW s)
theorem sY:∀(k:Nat) {s:Nat},s<18446744073709551616->Mr k s<18446744073709551616
 |0,_,h=>h
 |k+1,_,h=>sY k (XV h)
theorem E5:∀(k:Nat) {x y:Nat},x<18446744073709551616->y<18446744073709551616->Mr k (x^^^y)=Mr k x^^^Mr k y
 |0,_,_,_,_=>rfl
 |k+1,x,y,hx,hy=>by rw[Mr,Aas hx hy,E5 k (XV hx) (XV hy)];rfl
theorem Aw2:∀(k h:Nat),2^k*h<18446744073709551616->Mr k h=2^k*h
 |0,h,_=>by simp[Mr]
 |k+1,h,hl=>by
  have hpos:0<2^k:=PW F0;rw[KZ,S3]at hl;have h2:2*h<18446744073709551616:=S6 (Nat.le_mul_of_pos_left _ hpos) hl;have:LW h=2*h:=by rw[LW,B4 h2,show h/9223372036854775808=0 by omega];simp
  rw[Mr,this,Aw2 k _ hl,KZ,S3]
def iN(s c:Nat):Nat:=Mr 8 (s^^^ (c*72057594037927936))
theorem c56{c:Nat}(hc:c<256):c*72057594037927936<18446744073709551616:=F0
theorem uE{s c:Nat}(h:s<18446744073709551616)(hc:c<256):iN s c<18446744073709551616:=sY 8 (R6 (n:=64) h (c56 hc))
theorem Aog(s:Nat):s=(s/72057594037927936*72057594037927936)^^^ (s %72057594037927936):=by
 have h1:s %72057594037927936<2^56:=OP _ F6;have:=TP h1 (s/72057594037927936);have h2:2^56*(s/72057594037927936)|||s %72057594037927936=(2^56*(s/72057594037927936))^^^ (s %72057594037927936):=by
  apply cW;intro i;rw[X_,Nat.testBit_xor];by_cases hi:i<56
  ·have:(2^56*(s/72057594037927936)).testBit i=false:=by rw[zy];simp;omega
   rw[this];simp
  ·have:(s %72057594037927936).testBit i=false:=Nat.testBit_lt_two_pow (M0 h1 (G? F0 F0));rw[this];simp
 rw[I5 (s/72057594037927936)]
 show s=(2^56*(s/72057594037927936))^^^ _;rw[<-h2,<-this];have:=U7 s 72057594037927936
 show s=72057594037927936*_+_;omega
theorem Afu(a c:Nat):(a^^^c)*72057594037927936=(a*72057594037927936)^^^ (c*72057594037927936):=by
 have h1:=zw (a:=a) (b:=c) (i:=56);simpa [Nat.shiftLeft_eq]using h1
theorem Bca{s c:Nat}(h:s<18446744073709551616)(hc:c<256):iN s c=(256*s %18446744073709551616)^^^Mr 8 (((s/72057594037927936)^^^c)*72057594037927936):=by
 have hs:s/72057594037927936<2^8:=by show _<256;omega
 have hx:(s/72057594037927936)^^^c<256:=R6 (n:=8) hs (by simpa using hc);have hl:s %72057594037927936<72057594037927936:=OP _ F6;rw[iN]
 conv=>lhs;rw[Aog s]
 rw[W_ (s/72057594037927936*72057594037927936),QS,<-Afu,E5 8 F0 (c56 hx),Aw2 8 _ (by show 256*_<_;omega)];congr 1
 show 256*(s %72057594037927936)=_;omega
def B7(s:Nat)(l:LB):Nat:=l.foldl (λs c=>iN s c.toNat) s
theorem O8{n:Nat}(h:n<18446744073709551616):(UInt64.ofNat n).toNat=n:=by rw[J'];exact B4 h
theorem Arp(s:UInt64)(bit:Nat)(hb:bit=0\/bit=1):DR s (bit:Int)=some (UInt64.ofNat ((2*s.toNat %18446744073709551616)^^^ (((s.toNat/9223372036854775808)^^^bit)*P64))):=by
 have hs:=s.toNat_lt;have ht:s.toNat/9223372036854775808=0\/s.toNat/9223372036854775808=1:=F0
 have e1:(Bd s (2:UInt64)).toNat=2*s.toNat %18446744073709551616:=by
  rw[JO,UInt64.toNat_mul];show s.toNat*2 %_=_;rw[I5]
 have hlt:2*s.toNat %18446744073709551616<18446744073709551616:=OP _ F6;have ey:Ri (Bd s (2:UInt64)) (4823603603198064275:UInt64)=UInt64.ofNat ((2*s.toNat %18446744073709551616)^^^P64):=by
  apply UInt64.toNat_inj.1;rw[yU,dM,e1,O8 (R6 (n:=64) hlt F6)];rfl
 have en:Bd s (2:UInt64)=UInt64.ofNat (2*s.toNat %18446744073709551616):=by
  apply UInt64.toNat_inj.1;rw[e1,O8 hlt]
 have eg:Lj s (9223372036854775808:UInt64)=decide (s.toNat/9223372036854775808=1):=by
  rw[Am6,decide_eq_decide]
  show 9223372036854775808<=s.toNat↔_;omega
 have hp:∀b:Bool,Ue s b=some (if b=true then UInt64.ofNat ((2*s.toNat %18446744073709551616)^^^P64)else UInt64.ofNat (2*s.toNat %18446744073709551616)):=by
  intro b;rw[Ue,KE,ey,en];cases b<;>rfl
 rw[DR,JH,hp,hp,eg];rcases hb with rfl|rfl<;>rcases ht with h|h<;>rw[h]<;>simp[Bb]
theorem Avo(c:UInt8):∀(j q:Nat) (s:UInt64),j<=8->j<q->Jm c q s ((2^j/2:Nat):Int)=some (UInt64.ofNat (Mr j (s.toNat^^^ (c.toNat %2^j*2^(64-j)))))
 |0,q+1,s,_,_=>by
  rw[Jm,Vr,A! S4,ID,KK];simp[Mr,eS]
 |j+1,q+1,s,hj,hq=>by
  have hc:=c.toNat_lt;have hs:=s.toNat_lt;have hj2:2^j<=2^7:=G? F0 F0;have hpos:0<2^j:=PW F0;have e1:2^(j+1)/2=2^j:=by rw[KZ];omega
  have e2:Cb ((2^j:Nat):Int) 2=((2^j/2:Nat):Int):=by
   generalize 2^j=K at*
   rw[LC,TQ F0,Bq F0 F0];omega
  have e3:Ge (Cb (Ad c:Int) ((2^j:Nat):Int)) (2:Int)=((c.toNat/2^j %2:Nat):Int):=by
   have hX:=O' c.toNat (2^j);rw[NZ,LC,<-eB];generalize c.toNat/2^j=X at*
   rw[Bq F0 F0,Ge,Z3 F0];omega
  have hbit:c.toNat/2^j %2=0\/c.toNat/2^j %2=1:=F0
  rw[Jm,Vr,e1,A4 (by rw[Am,C9];omega),Bf (by rw[Ak,TJ];omega),Aa,e3,Arp s _ hbit,Aa,e2,Avo c j q _ F0 F0];congr 2;rw[Mr];congr 1;have hx:c.toNat %2^(j+1)*2^(64-(j+1))=(c.toNat/2^j %2)*9223372036854775808+c.toNat %2^j*2^(63-j):=by
   have h63:(9223372036854775808:Nat)=2^j*2^(63-j):=by rw[<-SL,show j+(63-j)=63 by omega]
   rw[Nat.mod_pow_succ,h63,show 64-(j+1)=63-j by omega,I8,RV,S3,Nat.mul_left_comm]
  have hr:c.toNat %2^j<2^j:=OP _ hpos;have Bbg:c.toNat %2^j*2^(63-j)<9223372036854775808:=by
   have h63:(9223372036854775808:Nat)=2^j*2^(63-j):=by rw[<-SL,show j+(63-j)=63 by omega]
   rw[h63];exact zl hr (PW F0)
  have h64:c.toNat %2^j*2^(64-j)=2*(c.toNat %2^j*2^(63-j)):=by
   rw[show 64-j=(63-j)+1 by omega,KZ,<-S3,I5]
  rw[hx,h64];generalize c.toNat %2^j*2^(63-j)=R at*
  generalize c.toNat/2^j %2=b at*
  have ht:s.toNat/9223372036854775808=0\/s.toNat/9223372036854775808=1:=F0
  have hp:((s.toNat/9223372036854775808^^^b)*P64)<18446744073709551616:=by
   rcases ht with h|h<;>rcases hbit with h2|h2<;>rw[h,h2]<;>decide
  rw[O8 (R6 (n:=64) (OP _ F6) hp),LW,qT,uF,show(b*9223372036854775808+R)/9223372036854775808=b by omega,show 2*(b*9223372036854775808+R) %18446744073709551616=2*R by omega,QS,QS,W_ (2*R)]
theorem Arx(c:UInt8)(s:UInt64):Acl s c=some (UInt64.ofNat (iN s.toNat c.toNat)):=by
 have h:=Avo c 8 Aq s (D1 _) C0;have hc:=c.toNat_lt;rw[B4 (show c.toNat<2^8 by simpa using hc)]at h;exact h
theorem Aqq(b:LB)(hb:b.length<4611686018427387904):∀(j i q:Nat) (s:UInt64),i+j=b.length->j<q->Hn b q s (i:Int)=some (UInt64.ofNat (B7 s.toNat (b.drop i)))
 |0,i,q+1,s,hi,_=>by
  rw[Hn,Qw,A! F2,show i=b.length by omega,RM];simp[DF,DH,B7]
 |j+1,i,q+1,s,hi,hq=>by
  have hlt:i<b.length:=F0
  have hc:=b[i].toNat_lt;rw[Hn,Qw,A4 F2,Cf hlt,Aa,Arx,Aa,Ag];have h:=Aqq b hb j (i+1) q (UInt64.ofNat (iN s.toNat b[i].toNat)) F0 F0;rw[show((i:Int)+1)=((i+1:Nat):Int) by omega,h,drop_cons hlt,O8 (uE s.toNat_lt (by simpa using hc))];rfl
def Xt(b:LB):UInt64:=UInt64.ofNat (B7 0 b)
theorem Ae6(b:LB)(hb:b.length<=100000):Wx 0 b=some (Xt b):=
 Aqq b F0 b.length 0 Aq 0 F0 C0
theorem Aav(c:UInt64):Ri (Db c (GI.toZ (1:UInt64)).toNat) (Bd (4823603603198064275:UInt64) (Bw c (GI.toZ (63:UInt64)).toNat))=UInt64.ofNat (LW c.toNat):=by
 have hc:=c.toNat_lt;apply UInt64.toNat_inj.1;have h1:(Db c (GI.toZ (1:UInt64)).toNat).toNat=2*c.toNat %18446744073709551616:=by
  rw[show(GI.toZ (1:UInt64)).toNat=1 from rfl,RZ,I5]
 have h2:(Bd (4823603603198064275:UInt64) (Bw c (GI.toZ (63:UInt64)).toNat)).toNat=c.toNat/9223372036854775808*P64:=by
  rw[show(GI.toZ (63:UInt64)).toNat=63 from rfl,JO,UInt64.toNat_mul,EF]
  show 4823603603198064275*(c.toNat/9223372036854775808) %18446744073709551616=_;have h1:c.toNat/9223372036854775808=0\/c.toNat/9223372036854775808=1:=F0
  rcases h1 with e|e<;>rw[e]<;>decide
 rw[yU,dM,h1,h2,O8 (XV hc)];rfl
theorem Auf(Li:Int->LQ->Option (UInt64×Int))(s:UInt64)(b:LB)(x:Int)(t:LQ):∀(j i q:Nat) (c:UInt64),i+j=8->j<q->
  Ps Li s b x t q c (i:Int)=BU Li s b x (UInt64.ofNat (Mr j c.toNat)) t
 |0,i,q+1,c,hi,_=>by
  obtain rfl:i=8:=F0
  rw[Ps,BB,A! P!,Mr,UInt64.ofNat_toNat]
 |j+1,i,q+1,c,hi,hq=>by
  rw[Ps,BB,A4 F9,Aav,Ag,show((i:Int)+1)=((i+1:Nat):Int) by omega,Auf Li s b x t j (i+1) q _ F0 F0,O8 (XV c.toNat_lt)];rfl
def TU(n:Nat):LQ:=(List.range n).map λi=>UInt64.ofNat (Mr 8 (i*72057594037927936))
theorem C7(s:UInt64)(b:LB):∀(j i q:Nat),i+j=256->j<q->Ly s b q (i:Int) (TU i++List.replicate j 0)=QN s b (TU 256)
 |0,i,q+1,hi,_=>by
  obtain rfl:i=256:=F0
  rw[Ly,CO,A! P!];simp
 |j+1,i,q+1,hi,hq=>by
  have hlen:(TU i++List.replicate (j+1) 0).length=i+(j+1):=by simp[TU]
  rw[Ly,CO,A4 F9,RQ];have h:=Auf (Ly s b q) s b (i:Int) (TU i++List.replicate (j+1) 0) 8 0 Aq (Db (Ad (i:Int):UInt64) (GI.toZ (56:UInt64)).toNat) F0 C0;rw[show((0:Int))=((0:Nat):Int)from rfl,h,BU,Akm,Cf (by rw[hlen];omega),Aa,Ra _ (by rw[hlen];omega),Aa,Aky,Akd,Ag];have e:(Db (Ad (i:Int):UInt64) (GI.toZ (56:UInt64)).toNat).toNat=i*72057594037927936:=by
   rw[RZ,Sr,O8 F0]
   show i*72057594037927936 %18446744073709551616=_;omega
  rw[e,R8,YI (by simp[TU])];have h2:=C7 s b j (i+1) q F0 F0;have h3:TU (i+1)=TU i++[UInt64.ofNat (Mr 8 (i*72057594037927936))]:=by simp[TU,dW]
  rw[h3]at h2;rw[show((i:Int)+1)=((i+1:Nat):Int) by omega,<-h2];simp
theorem Ag5{i:Nat}(h:i<256):Aj (TU 256) (i:Int)=some (UInt64.ofNat (Mr 8 (i*72057594037927936))):=by
 rw[Cf (by simpa [TU]using h)];simp[TU]
theorem Azl (s:UInt64)(c:UInt8):Aj (TU 256) (GI.toZ (Ri (Ad (Bw s (GI.toZ (56:UInt64)).toNat):UInt8) c))=some (UInt64.ofNat (Mr 8 (((s.toNat/72057594037927936)^^^c.toNat)*72057594037927936))):=by
 have hs:=s.toNat_lt;have e:GI.toZ (Ri (Ad (Bw s (GI.toZ (56:UInt64)).toNat):UInt8) c)=(((s.toNat/72057594037927936)^^^c.toNat:Nat):Int):=by
  have e2:((Ad (Bw s (GI.toZ (56:UInt64)).toNat):UInt8)).toNat=s.toNat/72057594037927936:=by
   rw[RF,M5,EF]
   show s.toNat/72057594037927936 %256=_;omega
  rw[Zq,ou,mA,e2]
 rw[e,Ag5];exact R6 (n:=8) (by show _<256;omega) (by simpa using c.toNat_lt)
theorem Bcj(s:UInt64)(c:UInt8):Ri (Db s (GI.toZ (8:UInt64)).toNat) (UInt64.ofNat (Mr 8 (((s.toNat/72057594037927936)^^^c.toNat)*72057594037927936)))=UInt64.ofNat (iN s.toNat c.toNat):=by
 have hs:=s.toNat_lt;have hc:c.toNat<256:=by simpa using c.toNat_lt
 apply UInt64.toNat_inj.1;have hlt:Mr 8 (((s.toNat/72057594037927936)^^^c.toNat)*72057594037927936)<18446744073709551616:=sY 8 (c56 (R6 (n:=8) (by show _<256;omega) (by simpa using c.toNat_lt)));have e:(GI.toZ (8:UInt64)).toNat=8:=rfl;rw[e,yU,dM,RZ,O8 hlt,O8 (uE hs hc),Bca hs hc,I5 s.toNat]
theorem Aui(b:LB)(s0:UInt64)(hb:b.length<4611686018427387904):∀(j i q:Nat) (s:UInt64),i+j=b.length->j<q->Pe b s0 (TU 256) q s (i:Int)=some (UInt64.ofNat (B7 s.toNat (b.drop i)),0)
 |0,i,q+1,s,hi,_=>by
  rw[Pe,CK,A! F2,show i=b.length by omega,RM];simp[QT,Akf,Ali,Alf,B7]
 |j+1,i,q+1,s,hi,hq=>by
  have hlt:i<b.length:=F0
  have hc:=b[i].toNat_lt;rw[Pe,CK,A4 F2,Cf hlt,Aa,Azl,Aa,Aa,Bcj,Ag];have h:=Aui b s0 hb j (i+1) q (UInt64.ofNat (iN s.toNat b[i].toNat)) F0 F0;rw[show((i:Int)+1)=((i+1:Nat):Int) by omega,h,drop_cons hlt,O8 (uE s.toNat_lt (by simpa using hc))];rfl
theorem Amd(b:LB)(hb:b.length<=100000):WN b=some (Xt b,0):=by
 have h:=C7 0 b 256 0 Aq F0 C0;have h2:=Aui b 0 F0 b.length 0 Aq 0 F0 C0;have hn:aG 0 b=some (Xt b,0):=by
  rw[aG,VA,A! D4,Al4];refine J2 h ?_;rw[QN,OQ,PF];exact h2
 rw[WN,hn,Aa]
theorem tF(p:LB)(hp:p.length<=64):DD p=some (Mn (Xt p).toNat 8,0):=by
 rw[DD,uC,A! D4,Amd p F0,Aa,Aa];simp only;have h:=JV (Xt p) 8 F0 F0 (by simpa using(Xt p).toNat_lt);rw[A! C6];exact congrArg (λo=>Option.bind o λx:LB×Int=>some (x.1,x.2)) h
theorem Ab2(p:LB)(hp:p.length<=64):Jp p=some (Mn (Xt p).toNat 8):=by
 have h:=I1 (Xt p) 8 F0;rw[Jp,Ad1,Ae6 p F0,Aa,Aa];exact congrArg (λo=>Option.bind o λl=>some l) h
def s8(n:Nat):Int32:=Int32.ofInt (if n<128 then(n:Int)else(n:Int)-256)
def TG(d:UInt64)(n:Nat):LX:=(List.range n).map λi=>s8 (d.toNat/256^i %256)
theorem WW(d:UInt64)(n:Nat):(TG d n).length=n:=by simp[TG]
theorem L8(d:UInt64)(n:Nat):TG d (n+1)=TG d n++[s8 (d.toNat/256^n %256)]:=by simp[TG,dW]
theorem bm8(z:Nat):(z:Int).bmod Int8.size=if z %256<128 then((z %256:Nat):Int)else((z %256:Nat):Int)-256:=by
 rw[show Int8.size=256 from rfl,Int.bmod_def];split<;>split<;>omega
theorem qW(d:UInt64):∀(j i q:Nat),i+j=8->j<q->HF d q (i:Int) (TG d i++List.replicate (16-i) 0)=some (TG d 8++List.replicate 8 0)
 |0,i,q+1,hi,_=>by
  obtain rfl:i=8:=F0
  rw[HF,bH,A! P!];rfl
 |j+1,i,q+1,hi,hq=>by
  have hlen:(TG d i++List.replicate (16-i) 0).length=16:=by simp[WW];omega
  have ih:=qW d j (i+1) q F0 F0;have e8:Bd (8:Int) (i:Int)=((8*i:Nat):Int):=by rw[Gp];omega
  have ev:(Ad (Ad (Bw d (GI.toZ (((8*i:Nat):Int))).toNat):Int8):Int32)=s8 (d.toNat/256^i %256):=by
   have e1:(Bw d (GI.toZ (((8*i:Nat):Int))).toNat).toNat=d.toNat/256^i:=by
    rw[show(GI.toZ (((8*i:Nat):Int))).toNat=8*i from rfl,EF,eW]
   show Int32.ofInt (Int8.ofInt ((Bw d (GI.toZ (((8*i:Nat):Int))).toNat).toNat:Int)).toInt=_;rw[e1,s8,Int8.toInt_ofInt,bm8]
  rw[HF,bH,A4 F9,e8,Bf O?,Aa,ev,Cf,Aa,Ra _ F0,Aa,Ag,show 16-i=(15-i)+1 by omega,R8,YI (WW d i)];rw[L8,show 16-(i+1)=15-i by omega,D2]at ih;exact ih
theorem vH(d:UInt64):∀(j i q:Nat) (e:UInt64),i+j=8->j<q->e.toNat=d.toNat/256^i->Jd q e (i:Int) (TG d i++List.replicate (16-i) 0)=some (TG d 8++List.replicate 8 0)
 |0,i,q+1,e,hi,_,he=>by
  obtain rfl:i=8:=F0
  rw[Jd,Za,A! P!];rfl
 |j+1,i,q+1,e,hi,hq,he=>by
  have hlen:(TG d i++List.replicate (16-i) 0).length=16:=by simp[WW];omega
  have hq2:(Cb e (256:UInt64)).toNat=d.toNat/256^(i+1):=by
   rw[rJ,XT,he,KZ,<-WC];rfl
  have ih:=vH d j (i+1) q (Cb e (256:UInt64)) F0 F0 hq2;have ev:(Ad (AX e (256:UInt64)):Int32)=Int32.ofInt ((d.toNat/256^i %256:Nat):Int):=by
   show Int32.ofInt ((AX e (256:UInt64)).toNat:Int)=_;rw[Aes,mK,he];rfl
  have hz:d.toNat/256^i %256<256:=OP _ F0;have et:(Int32.ofInt ((d.toNat/256^i %256:Nat):Int)).toInt=((d.toNat/256^i %256:Nat):Int):=by
   rw[U1,Z5 (by show -(4294967296/2:Int)<= _;omega) (by show _<(4294967296+1)/2;omega)]
  have hp8:∀x:Int32,x=s8 (d.toNat/256^i %256)->Zg (Jd q) e (i:Int) (TG d i++List.replicate (16-i) 0) x=some (TG d 8++List.replicate 8 0):=by
   intro x hx;rw[Zg,Ab8,hx,Cf,Aa,Ra _ F0,Aa,Ag,show 16-i=(15-i)+1 by omega,R8,YI (WW d i)];rw[L8,show 16-(i+1)=15-i by omega,D2]at ih;exact ih
  rw[Jd,Za,A4 F9,ev,fW,et,show(127:Int32).toInt=127 from rfl];by_cases h:d.toNat/256^i %256<128
  ·rw[A! (by simp only[C9];omega)];exact hp8 _ (by rw[s8,A4 h])
  ·rw[A4 (by simp only[C9];omega)];refine hp8 _ ?_;rw[s8,A! h,QB,mS];rfl
def Xe(p:LB):LX:=TG (Xt p) 8++List.replicate 8 0
theorem nQ(p:LB):(Xe p).length=16:=by simp[Xe,WW]
theorem Aeb(p:LB)(hp:p.length<=64):HK p=some (Xe p,0):=by
 have h:=qW (Xt p) 8 0 Aq F0 C0;have h2:jk (Xt p)=some (Xe p):=h;rw[HK,A! D4,Amd p F0,Aa];simp only;rw[A! C6,h2,Aa]
theorem K!(p:LB)(hp:p.length<=64):Jt p=some (Xe p,0):=by
 have h:=vH (Xt p) 8 0 Aq (Xt p) F0 C0 A7;have h2:Ajb (Xt p)=some (Xe p):=h;rw[Jt,A! D4,Aej,Ad0,A! D4,Ae6 p F0,Aa,Aa,Aa];simp only;rw[h2,Aa]
def u8(z:Int):UInt8:=UInt8.ofNat (z %256).toNat
theorem jg(z:Int):u8 (z %256)=u8 z:=by rw[u8,u8];congr 2;omega
def wB(bits:Int):Nat:=if bits=8 then 1 else if bits=16 then 2 else 3
theorem wG{bits:Int}(h:Cj bits):Cb bits 8=(wB bits:Int):=by obtain rfl|rfl|rfl:=h<;>rfl
theorem gM(bits:Int):1<=wB bits/\wB bits<=3:=by
 unfold wB;split; · omega
 ·split<;>omega
def GL(bits:Int)(x:Int):LB:=if bits=8 then [u8 (x+128)]else if bits=16 then [u8 x,u8 (x/256)]else [u8 x,u8 (x/256),u8 (x/65536)]
theorem Awp(bits x:Int):(GL bits x).length<=3:=by
 unfold GL;split; · simp
 ·split<;>simp
theorem Aki(x:Int32)(k:Nat)(hk:k<=32):(Ad (Bw x k):UInt8)=u8 (x.toInt.fdiv (2^k)):=by
 have h:=Xl x;have e:Bw x k=Int32.ofInt (x.toInt.fdiv (2^k)):=by
  show Int32.ofInt (x.toInt.fdiv (2^min k 32))=_;rw[QM hk]
 have hb: -2147483648<=x.toInt.fdiv (2^k)/\x.toInt.fdiv (2^k)<2147483648:=by
  have hpos:(0:Int)<2^k:=Y2 F0;rw[Q_ _ F0];constructor
  ·refine(Int.le_ediv_iff_mul_le hpos).2 ?_;have:(1:Int)<=2^k:=F0
   have h2: -2147483648*(2^k:Int)<= -2147483648*1:=Int.mul_le_mul_of_nonpos_left F0 this;omega
  ·refine Int.ediv_lt_of_lt_mul hpos ?_;have:(1:Int)<=2^k:=F0
   have h2:(2147483648:Int)*1<=2147483648*2^k:=jr this F0;omega
 show UInt8.ofNat ((Bw x k).toInt %256).toNat=_;rw[e,U1,Z5 (by show -(4294967296/2:Int)<= _;omega) (by show _<(4294967296+1)/2;omega)];rfl
section
variable (bk:Int->LB->Option (LB×Int)) (l:LX)
theorem xK{bits:Int}(h:Cj bits)(c:Int32)(x:Int)(i q:Nat)(acc:LB)(hi:i<wB bits)(ha:acc.length<=100000):
  Hy bk bits l c x (q+1) (i:Int) acc=Hy bk bits l c x q ((i+1:Nat):Int) (acc++[u8 (c.toInt.fdiv (2^(8*i)))]):=by
 have hw:=gM bits;have e8:Bd (8:Int) (i:Int)=((8*i:Nat):Int):=by rw[Gp];omega
 rw[Hy,Yo,wG h,A4 F9,e8,Bf O?,Aa,show(GI.toZ (((8*i:Nat):Int))).toNat=8*i from rfl,Aki _ _ F0,Bu F7,Aa,Ag];rfl
theorem fZ{bits:Int}(h:Cj bits)(c:Int32)(x:Int)(q:Nat)(acc:LB):Hy bk bits l c x (q+1) ((wB bits:Nat):Int) acc=bk (Ae x 1) acc:=by
 rw[Hy,Yo,wG h,A! P!,LN,Ajg]
theorem Arv{bits:Int}(h:Cj bits)(c:Int32)(x:Int)(acc:LB)(ha:acc.length<=90000)(hr: -(hB bits)<=c.toInt/\c.toInt<hB bits):
  Mz bk bits l x acc (if bits=8 then Ae c (128:Int32)else c)=bk (Ae x 1) (acc++GL bits c.toInt):=by
 have e:Aq=(Aq-4)+1+1+1+1:=by have:=Ao;omega
 have hc:=Xl c;rw[Mz,KX,MF,e];have g0:=λ(c:Int32) q acc ha=>xK bk l h c x 0 q acc (by have:=gM bits;omega) ha;obtain rfl|rfl|rfl:=h
 ·have hh:hB 8=128:=rfl;rw[hh]at hr;have e1:(Ae c (128:Int32)).toInt=c.toInt+128:=by
   show(Int32.ofInt (c.toInt+(128:Int32).toInt)).toInt=_;rw[show(128:Int32).toInt=128 from rfl,U1,Z5 (by show -(4294967296/2:Int)<= _;omega) (by show _<(4294967296+1)/2;omega)]
  have g1:=fZ bk l (bits:=8) (.inl rfl) (Ae c (128:Int32)) x (Aq-4+1+1);rw[A4 rfl,show(0:Int)=((0:Nat):Int)from rfl,g0 _ _ _ F0];refine J2 (g1 _) ?_;rw[e1,GL,A4 rfl]
  show bk _ (acc++[u8 ((c.toInt+128).fdiv 1)])=_;rw[Int.fdiv_one]
 ·have g1:=λq acc ha=>xK bk l (bits:=16) (.inr (.inl rfl)) c x 1 q acc F6 ha;have g2:=fZ bk l (bits:=16) (.inr (.inl rfl)) c x (Aq-4+1);rw[A! F6,show(0:Int)=((0:Nat):Int)from rfl,g0 _ _ _ F0,g1 _ _ F7];refine J2 (g2 _) ?_;rw[GL,A! F6,A4 rfl,D2]
  show bk _ (acc++[u8 (c.toInt.fdiv 1),u8 (c.toInt.fdiv 256)])=_;rw[Int.fdiv_one,Q_ _ F0]
 ·have g1:=λq acc ha=>xK bk l (bits:=24) (.inr (.inr rfl)) c x 1 q acc F6 ha;have g2:=λq acc ha=>xK bk l (bits:=24) (.inr (.inr rfl)) c x 2 q acc F6 ha;have g3:=fZ bk l (bits:=24) (.inr (.inr rfl)) c x (Aq-4);rw[A! F6,show(0:Int)=((0:Nat):Int)from rfl,g0 _ _ _ F0,g1 _ _ F7,g2 _ _ F7];refine J2 (g3 _) ?_;rw[GL,A! F6,A! F6,D2,D2]
  show bk _ (acc++[u8 (c.toInt.fdiv 1),u8 (c.toInt.fdiv 256),u8 (c.toInt.fdiv 65536)])=_;rw[Int.fdiv_one,Q_ _ F0,Q_ _ F0]
end
def Ey(bits:Int)(l:LX):LB:=l.flatMap λx=>GL bits x.toInt
theorem aV(bits:Int):∀l:LX,(Ey bits l).length<=3*l.length
 |[]=>by simp[Ey]
 |x::l=>by
  have h1:=aV bits l;have h2:=Awp bits x.toInt;simp only[Ey,cV,B6,I!]at*
  omega
def inR(bits:Int)(l:LX):Prop:=∀x∈l, -(hB bits)<=x.toInt/\x.toInt<hB bits
theorem pB{bits:Int}(h:Cj bits)(l:LX)(hl:l.length<=4000)(hr:inR bits l):∀(j i q:Nat),i+j=l.length->j<q->Fq bits l q (i:Int) (Ey bits (l.take i))=some (Ey bits l,0)
 |0,i,q+1,hi,_=>by
  rw[Fq,Ys,A! F2,Q0 F0];rfl
 |j+1,i,q+1,hi,hq=>by
  have hlt:i<l.length:=F0
  have ih:=pB h l hl hr j (i+1) q F0 F0;have hlen:=aV bits (l.take i);have hx:=hr l[i] (P1 _);have h1:=Arv (Fq bits l q) l h l[i] (i:Int) (Ey bits (l.take i)) (by rw[J1]at hlen;omega) hx;rw[Fq,Ys,A4 F2,Cf hlt,Aa];have e:(if(geq bits (8:Int))=true then Mz (Fq bits l q) bits l (i:Int) (Ey bits (l.take i)) (Ae l[i] (128:Int32))else Mz (Fq bits l q) bits l (i:Int) (Ey bits (l.take i)) l[i])=Mz (Fq bits l q) bits l (i:Int) (Ey bits (l.take i)) (if bits=8 then Ae l[i] (128:Int32)else l[i]):=by
   by_cases h8:bits=8
   ·rw[A4 (by rw[Bb];simpa using h8),A4 h8]
   ·rw[A! (by rw[Bb];simpa using h8),A! h8]
  rw[e,h1,Ag];rw[Mx hlt]at ih;have e2:Ey bits (l.take i++[l[i]])=Ey bits (l.take i)++GL bits l[i].toInt:=by unfold Ey;rw[mC,List.flatMap_singleton]
  rw[e2]at ih;exact ih
theorem kV{bits:Int}(h:Cj bits){l:LX}(hl:l.length<=4000)(hc:Ap bits l=some 0):inR bits l:=by
 have hh:=UK bits;have key:∀(j i q:Nat),i+j=l.length->j<q->Au l (hB bits) q (i:Int)=some 0->∀k,i<=k-> (hk:k<l.length)-> -(hB bits)<=l[k].toInt/\l[k].toInt<hB bits:=by
  intro j
  induction j with
  |zero=>intro i q hi hq _ k h1 h2;omega
  |succ j ih=>
   intro i q hi hq hs k h1 h2;obtain⟨q,rfl⟩:∃k,q=k+1:=⟨q-1,F0⟩;rw[Au,Ce,A4 F2,Cf,Aa,Aa,Em,lu,Bq F0 F0,Ag,Af,Dn]at hs;by_cases g1:l[i].toInt<0-hB bits
   ·rw[A4 (by simpa using g1)]at hs;simp at hs
   ·rw[A! (by simpa using g1)]at hs;by_cases g2:hB bits<=l[i].toInt
    ·rw[A4 (by simpa using g2)]at hs;simp at hs
    ·rw[A! (by simpa using g2)]at hs;by_cases hk:k=i
     ·subst hk;omega
     ·exact ih (i+1) q F0 F0 hs k F0 h2
 rw[Ap,Cx,WK h,Aa,A! L9,A! D4]at hc;have:=key l.length 0 Aq F0 C0 hc;intro x hx;obtain⟨k,hk,rfl⟩:=List.getElem_of_mem hx;exact this k F0 hk
theorem Aax{bits:Int}(h:Cj bits){l:LX}(hl:l.length<=4000)(hc:Ap bits l=some 0):KO bits l=some (Ey bits l,0):=by
 have h1:=pB h l hl (kV h hl hc) l.length 0 Aq F0 C0;rw[KO,QV,aD h l hl,hc,Aa,A! C6];exact h1
theorem Am1{bits:Int}(h:Cj bits)(x:Int32)(hr: -(hB bits)<=x.toInt/\x.toInt<hB bits):GF bits x=some (GL bits x.toInt):=by
 have hx:=Xl x;have gu:∀z:Int,(Ad z:UInt8)=u8 z:=λz=>rfl;have hq:∀n:Int,0<=n->n<=20000000->Cb n (256:Int)=n/256/\Cb n (65536:Int)=n/65536:=by
  intro n h1 h2;constructor<;>(rw[LC,TQ h1,Bq F0 F0])
 have hm:∀n:Int,0<=n->Ge n (256:Int)=n %256:=λn h1=>by rw[Ge,Z3 h1]
 rw[GF,MX,Em];obtain rfl|rfl|rfl:=h
 ·rw[A4 SP,Ag,gu,GL,A4 rfl]
 ·have hh:hB 16=32768:=rfl;rw[hh]at hr;have hp:∀n:Int,0<=n->n<=70000->u8 n=u8 x.toInt->u8 (n/256)=u8 (x.toInt/256)->Kr 16 n=some (GL 16 x.toInt):=by
   intro n h1 h2 h3 h4;rw[Kr,Xi,A! Wn,hm n h1,(hq n h1 F0).1,hm _ F0,gu,gu,jg,jg,h3,h4,GL,A! F6,A4 rfl]
  rw[A! Wn];by_cases hn:x.toInt<0
  ·rw[A4 (by rw[Af];simpa using hn),WK (.inr (.inl rfl)),Aa,hh,Gp,Ag];refine hp _ F0 F0 ?_ ?_
   ·rw[u8,u8];congr 2;omega
   ·rw[u8,u8];congr 2;omega
  ·rw[A! (by rw[Af];simpa using hn)];exact hp _ F0 F0 rfl rfl
 ·have hh:hB 24=8388608:=rfl;rw[hh]at hr;have hp:∀n:Int,0<=n->n<=16777215->u8 n=u8 x.toInt->u8 (n/256)=u8 (x.toInt/256)->u8 (n/65536)=u8 (x.toInt/65536)->Kr 24 n=some (GL 24 x.toInt):=by
   intro n h1 h2 h3 h4 h5;rw[Kr,Xi,A4 SP,hm n h1,(hq n h1 F0).1,(hq n h1 F0).2,hm _ F0,gu,gu,gu,jg,jg,h3,h4,h5,Bu A7,Aa,GL,A! F6,A! F6];rfl
  rw[A! Wn];by_cases hn:x.toInt<0
  ·rw[A4 (by rw[Af];simpa using hn),WK (.inr (.inr rfl)),Aa,hh,Gp,Ag];refine hp _ F0 F0 ?_ ?_ ?_
   ·rw[u8,u8];congr 2;omega
   ·rw[u8,u8];congr 2;omega
   ·rw[u8,u8];congr 2;omega
  ·rw[A! (by rw[Af];simpa using hn)];exact hp _ F0 F0 rfl rfl rfl
theorem oX{bits:Int}(h:Cj bits)(l:LX)(hl:l.length<=4000)(hr:inR bits l):∀(j i q:Nat),i+j=l.length->j<q->Ik bits l q (i:Int) (Ey bits (l.take i))=some (Ey bits l,0)
 |0,i,q+1,hi,_=>by
  rw[Ik,Tj,A! F2,Q0 F0];rfl
 |j+1,i,q+1,hi,hq=>by
  have hlt:i<l.length:=F0
  have ih:=oX h l hl hr j (i+1) q F0 F0;have hlen:=aV bits (l.take i);have hol:=Awp bits l[i].toInt;rw[J1]at hlen;have e2:Ey bits (l.take i++[l[i]])=Ey bits (l.take i)++GL bits l[i].toInt:=by unfold Ey;rw[mC,List.flatMap_singleton]
  rw[Mx hlt,e2]at ih;rw[Ik,Tj,A4 F2,Cf hlt,Aa,Am1 h _ (hr l[i] (P1 _)),Aa,Bu,Aa,Ag];exact ih
theorem Agi{bits:Int}(h:Cj bits){l:LX}(hl:l.length<=4000)(hc:Ap bits l=some 0):Qn bits l=some (Ey bits l,0):=by
 have h1:=oX h l hl (kV h hl hc) l.length 0 Aq F0 C0;rw[Qn,FT,hc,Aa,A! C6];exact h1
theorem fC{p:Prop}(h:p:=by rw[Ag]<;>omega):p:=h
def JE:LB->Nat->Int×Int
 |[],n=>((n:Int),0)
 |c::r,n=>if 128<=c.toNat then(0,12)else JE r (128*n+c.toNat)
theorem uD:∀(l:LB) (n k:Nat),n<128^k->0<= (JE l n).1/\ (JE l n).1<((128^(k+l.length):Nat):Int)
 |[],n,k,h=>by simp[JE];exact_mod_cast h
 |c::r,n,k,h=>by
  rw[JE];split
  ·have:0<128^(k+(c::r).length):=PW F0;exact⟨Int.le_refl _,by simp only;exact_mod_cast this⟩
  ·have:=uD r (128*n+c.toNat) (k+1) (by rw[KZ];omega);rw[I!,show k+(r.length+1)=k+1+r.length by omega];exact this
theorem or7(n c:Nat)(hn:n<268435456)(hc:c<128):uB (Db (n:Int) (GI.toZ (7:UInt64)).toNat) (c:Int)=((128*n+c:Nat):Int):=by
 have e:(GI.toZ (7:UInt64)).toNat=7:=rfl;have h1:Db (n:Int) 7=((2^7*n:Nat):Int):=by
  have:Db (n:Int) 7=wrap64 ((n:Int)*2^7):=rfl;rw[this,Bq F0 F0];omega
 rw[e,h1];have h2:uB ((2^7*n:Nat):Int) (c:Int)=wrap64 ((BitVec.ofInt 64 ((2^7*n:Nat):Int)|||BitVec.ofInt 64 (c:Int)).toNat:Int):=rfl;rw[h2,dC,R5,R5];have h3:(((2^7*n:Nat):Int) %((2^64:Nat):Int)).toNat=2^7*n:=F0
 have h4:((c:Int) %((2^64:Nat):Int)).toNat=c:=F0
 rw[h3,h4,<-TP (by simpa using hc),Bq F0 F0]
theorem sI(b:LB)(hb:b.length=4):∀(j i q n:Nat),i+j=4->j<q->n<128^i->Lh b q (n:Int) (i:Int)=some (JE (b.drop i) n)
 |0,i,q+1,n,hi,_,_=>by
  rw[Lh,Vy,A! F2,show b.drop i=[] by simp;omega];rfl
 |j+1,i,q+1,n,hi,hq,hn=>by
  have hlt:i<b.length:=F0
  have hn2:n<268435456:=M0 hn (show 128^i<=128^4 from G? F0 F0);rw[Lh,Vy,A4 F2,Cf hlt,Aa,drop_cons hlt,JE,v_];by_cases hc:128<=b[i].toNat
  ·rw[A4 F7,A4 hc]
  ·rw[A! F7,A! hc,NZ,or7 n _ hn2 F0,Ag];exact sI b hb j (i+1) q _ F0 F0 (by rw[KZ];omega)
theorem vX(b:LB)(hb:b.length=4):∀(j i q n:Nat),i+j=4->j<q->n<128^i->Ip b q (n:Int) (i:Int)=some (JE (b.drop i) n)
 |0,i,q+1,n,hi,_,_=>by
  rw[Ip,Tl,A! F9,show b.drop i=[] by simp;omega];rfl
 |j+1,i,q+1,n,hi,hq,hn=>by
  have hlt:i<b.length:=F0
  have hn2:n<268435456:=M0 hn (show 128^i<=128^4 from G? F0 F0);rw[Ip,Tl,A4 F9,Cf hlt,Aa,drop_cons hlt,JE,vP];have h128:(128:UInt8).toNat=128:=rfl;by_cases hc:128<=b[i].toNat
  ·rw[A4 (by simpa using hc),A4 hc]
  ·have h3:=b[i].toNat_lt;rw[A! (by simpa using hc),A! hc,Aa,NZ,Gp,Ag,Ag];have:=vX b hb j (i+1) q (128*n+b[i].toNat) F0 F0 (by rw[KZ];omega);rw[<-this];rfl
theorem Aar(b:LB)(hb:b.length=4):HQ b=some (JE b 0):=by
 have h:=sI b hb 4 0 Aq 0 F0 C0 A7;rw[HQ,HJ,A! (by rw[Ak,Ac];simp;omega),Adr];exact h
theorem Ahn(b:LB)(hb:b.length=4):Zi b=some (JE b 0):=by
 have h:=vX b hb 4 0 Aq 0 F0 C0 A7;rw[Zi,FU,A! (by rw[Ak,Ac];simp;omega),FC];exact h
theorem fL{b:LB}(hb:b.length=4):0<= (JE b 0).1/\ (JE b 0).1<268435456:=by
 have:=uD b 0 0 A7;rw[hb]at this;simpa using this
theorem ZI(s p:LB):Kg s p=some (decide (p.length<=s.length/\s.take p.length=p)):=by
 rw[Kg];by_cases h:p.length<=s.length
 ·rw[A4 (by rw[Dn,Ac,Ac];simp;omega),show Ac p=(p.length:Int)from rfl,Ji,Aa,Ha,Aa,F?];congr 1;rw[H'];simp[h]
 ·rw[A! (by rw[Dn,Ac,Ac];simp;omega)];simp[h]
def fV(b:LB)(n:Int):Int×Int:=
 if 4000<n then(0,4)else if(b.length:Int)<n then(0,24)else
 if b.getD 5 0=16/\ (b.take n.toNat).drop (n-10).toNat≠ [51,68,73]++part b 3 7 then(0,12)else(n,0)
def H0(b:LB)(r:Int):Int×Int:=fV b (r+10+(if b.getD 5 0=16 then 10 else 0))
def FD(b:LB):Int×Int:=
 if ¬(3<=b.length/\b.take 3=[73,68,51])then(0,6)else if b.length<10 then(0,24)else
 if(JE (part b 6 4) 0).2≠0\/b.getD 4 0≠0\/ ¬((b.getD 5 0=0/\2<= (b.getD 3 0).toNat/\ (b.getD 3 0).toNat<=4)\/ (b.getD 5 0=16/\b.getD 3 0=4))then(0,12)else
 H0 b (JE (part b 6 4) 0).1
theorem nB{b:LB}{i:Nat}(h:i<b.length):Aj b (i:Int)=some (b.getD i 0):=by
 rw[Cf h];simp[D!,h]
theorem Ni{b:LB}(a w:Nat)(h:a+w<=b.length:=by omega):Ca b (a:Int) ((a+w:Nat):Int)=some (part b a w):=by
 rw[Qo];rfl
theorem Aoi(b:LB)(r:Int)(h10:10<=b.length)(h0:0<=r)(h1:r<268435456):Uk b r=some (H0 b r):=by
 have g5:Aj b (5:Int)=some (b.getD 5 0):=nB (i:=5) F0;have key:∀n:Int,10<=n->n<268435500->Ud b n=some (fV b n):=by
  intro n hn hn2;rw[Ud,JR,fV];by_cases c1:4000<n
  ·rw[A4 (by rw[Am];simpa using c1),A4 c1]
  ·rw[A! (by rw[Am];simpa using c1),A! c1];by_cases c2:(b.length:Int)<n
   ·rw[A4 (by rw[Af,Ac];simpa using c2),A4 c2]
   ·have e3:Ca b (3:Int) (10:Int)=some (part b 3 7):=Ni 3 7;rw[A! (by rw[Af,Ac];simpa using c2),A! c2,g5,Aa];by_cases c3:b.getD 5 0=16
    ·rw[A4 (by rw[ZF];simpa using c3),Bi,Qo,Aa,e3,Aa,Bu (by rw[Dm];simp),Aa];by_cases c4:(b.take n.toNat).drop (n-10).toNat=[51,68,73]++part b 3 7
     ·rw[A! (by simpa using c4),A! (by intro h;exact h.2 c4)]
     ·rw[A4 (by simpa using c4),A4 ⟨c3,c4⟩]
    ·rw[A! (by rw[ZF];simpa using c3),A! (λh=>c3 h.1)]
 rw[Uk,IL,g5,Aa,H0];by_cases c3:b.getD 5 0=16
 ·rw[A4 (by rw[ZF];simpa using c3),Ag fC fC,Ag,key _ F0 F0,A4 c3,show 10+r+10=r+10+10 by omega]
 ·rw[A! (by rw[ZF];simpa using c3),Ag,key _ F0 F0,A! c3,show 10+r=r+10+0 by omega]
theorem Alh(b:LB)(hb:b.length<4611686018427387904):BY b=some (FD b):=by
 rw[BY,IU,FD];by_cases h3:3<=b.length
 ·rw[A! F2,Ji,Aa];by_cases hp:b.take 3=[73,68,51]
  ·rw[A! (by simpa using hp),A! (by simp[h3,hp]),KR,JD];by_cases h10:b.length<10
   ·rw[A4 F2,A4 h10]
   ·have e6:Ca b (6:Int) (10:Int)=some (part b 6 4):=Ni 6 4;have g3:Aj b (3:Int)=some (b.getD 3 0):=nB (i:=3) F0;have g4:Aj b (4:Int)=some (b.getD 4 0):=nB (i:=4) F0;have g5:Aj b (5:Int)=some (b.getD 5 0):=nB (i:=5) F0;obtain⟨v1,v2⟩:=fL (b:=part b 6 4) (Dm);rw[A! F2,A! h10,e6,Aa,Ahn _ (Dm),Aa];have ht:=Aoi b (JE (part b 6 4) 0).1 F0 v1 v2;generalize JE (part b 6 4) 0=v at*
    obtain⟨v,e⟩:=v;simp only at ht v1 v2⊢;simp only[Aa,g3,g4,g5,ht];generalize b.getD 3 0=x at*
    generalize b.getD 4 0=y at*
    generalize b.getD 5 0=z at*
    simp only[gB,Asi,v_,Ak];by_cases he:e=0<;>by_cases hy:y=0<;>by_cases hz:z=0<;>by_cases hz2:z=16<;>by_cases hx:x=4<;>by_cases hx2:x.toNat<2<;>by_cases hx4:4<x.toNat<;>simp_all<;>(rw[A! F0,A! F0])
  ·rw[A4 (by simpa using hp),A4 (by simp[hp])]
 ·rw[A4 F2,A4 (by simp[h3])]
theorem Abg(b:LB)(n:Int)(h10:10<=b.length)(hn:10<=n)(hn2:n<268435500):LD b (b.getD 5 0) n=some (fV b n):=by
 rw[LD,Aja];by_cases c1:4000<n
 ·rw[A4 (by rw[Am];simpa using c1),fV,A4 c1]
 ·rw[A! (by rw[Am];simpa using c1)];by_cases c2:(b.length:Int)<n
  ·rw[A4 (by rw[Af,Ac];simpa using c2),fV,A! c1,A4 c2]
  ·have e3:Ca b (3:Int) (10:Int)=some (part b 3 7):=Ni 3 7;rw[A! (by rw[Af,Ac];simpa using c2)];by_cases c3:b.getD 5 0=16
   ·have hl:((b.take n.toNat).drop (n-10).toNat).length=10:=by simp;omega
    have ht:fV b n=if(b.take n.toNat).drop (n-10).toNat≠ [51,68,73]++part b 3 7 then(0,12)else(n,0):=by rw[fV,A! c1,A! c2];simp only[c3,true_and]
    rw[A4 (by rw[ZF];simpa using c3),Bi,Qo,Aa,ht];generalize(b.take n.toNat).drop (n-10).toNat=f at*
    rw[Ji,Aa,Hb,Aa,e3,Aa,Ha,Aa];have hf:f=f.take 3++f.drop 3:=(T4 3 f).symm;by_cases c4:f=[51,68,73]++part b 3 7
    ·subst c4;simp
    ·by_cases c5:f.take 3=[51,68,73]
     ·have:f.drop 3≠part b 3 7:=λh=>c4 (by rw[hf,c5,h]);simp only[SC,OJ]at c4;simp[c4,c5,this]
     ·simp only[SC,OJ]at c4;simp[c4,c5]
   ·rw[A! (by rw[ZF];simpa using c3),fV,A! c1,A! c2,A! (λh=>c3 h.1)]
theorem Akw(b:LB)(r:Int)(h10:10<=b.length)(h0:0<=r)(h1:r<268435456):MC b r (b.getD 5 0)=some (H0 b r):=by
 rw[MC,Ajf,H0];by_cases c3:b.getD 5 0=16
 ·rw[A4 (by rw[ZF];simpa using c3),Ag fC fC,Ag,Abg b _ h10 F0 F0,A4 c3]
 ·rw[A! (by rw[ZF];simpa using c3),Ag,Abg b _ h10 F0 F0,A! c3];simp
theorem Ahi(b:LB)(hb:b.length<4611686018427387904):NJ b=some (FD b):=by
 rw[NJ,Yp,ZI,Aa];by_cases hp:3<=b.length/\b.take 3=[73,68,51]
 ·rw[A! (by simpa using hp)];by_cases h10:b.length<10
  ·rw[A4 F2,FD,A! (λh=>h hp),A4 h10]
  ·have e6:Ca b (6:Int) (10:Int)=some (part b 6 4):=Ni 6 4;have g3:Aj b (3:Int)=some (b.getD 3 0):=nB (i:=3) F0;have g4:Aj b (4:Int)=some (b.getD 4 0):=nB (i:=4) F0;have g5:Aj b (5:Int)=some (b.getD 5 0):=nB (i:=5) F0;obtain⟨v1,v2⟩:=fL (b:=part b 6 4) (Dm);have ht:=Akw b (JE (part b 6 4) 0).1 F0 v1 v2;rw[A! F2,g3,Aa,g5,Aa,LH,MA,e6,Aa,Aar _ (Dm),Aa,FD,A! (λh=>h hp),A! h10];generalize JE (part b 6 4) 0=v at*
   obtain⟨v,e⟩:=v;simp only at ht v1 v2⊢;simp only[Aa,g4,KY,Aim];generalize b.getD 3 0=x at*
   generalize b.getD 4 0=y at*
   generalize b.getD 5 0=z at*
   simp only[gB,Atc,ZF,vP,Ak];have e2:(2:UInt8).toNat=2:=rfl;have e4:(4:UInt8).toNat=4:=rfl;by_cases he:e=0<;>by_cases hy:y=0<;>by_cases hz:z=0<;>by_cases hz2:z=16<;>by_cases hx:x=4<;>by_cases hx2:2<=x.toNat<;>by_cases hx4:x.toNat<=4<;>simp_all
 ·rw[A4 (by rw[OR,T_];exact hp),FD,A4 hp]
theorem Ami{b:LB}{n:Int}(h:FD b=(n,0)):10<=n/\n<=b.length/\n<=4000:=by
 unfold FD at h;split at h; · simp at h
 split at h; · simp at h
 split at h; · simp at h
 rename_i h10 _;obtain⟨v1,v2⟩:=fL (b:=part b 6 4) (Dm);unfold H0 at h;generalize hm:(JE (part b 6 4) 0).1+10+(if b.getD 5 0=16 then 10 else 0)=m at h;unfold fV at h;split at h; · simp at h
 split at h; · simp at h
 split at h; · simp at h
 simp only[O7,Wp]at h;subst h;refine⟨?_,F0,F0⟩;rw[<-hm];split<;>omega
theorem YA{p:Prop}(h:p:=by rw[Af,Ac];simp):p:=h
theorem P?{p:Prop}(h:p:=by rw[Dm];omega):p:=h
theorem a_{p:Prop}(h:p:=by rw[Bj];omega):p:=h
theorem SR{p:Prop}(h:p:=by simp[Bj]):p:=h
def tO:LB:=[65,80,69,84,65,71,69,88]
def Fc(n m fl:Nat):LB:=tO++Mn 2000 4++Mn (n+32) 4++Mn m 4++Mn fl 4++List.replicate 8 0
theorem Ye(n m fl:Nat):(Fc n m fl).length=32:=by simp[Fc,tO,Bj]
theorem TV{n:Nat}(h:n<18446744073709551616):(UInt64.ofNat n).toNat=n:=by rw[J',B4 h]
theorem kT(n m:Int)(fl:UInt64)(c:UInt64)(i q:Nat)(acc:LB)(hi:i<6)(hc:Aj ([(2000:UInt64),(Ad (Ae n (32:Int)):UInt64),(Ad m:UInt64),fl,(0:UInt64),(0:UInt64)]:LQ) (i:Int)=some c)(h:c.toNat<4294967296)(ha:acc.length<=1000000):
  Zr n m fl (q+1) (i:Int) acc=Zr n m fl q ((i+1:Nat):Int) (acc++Mn c.toNat 4):=by
 have hb:=JV c 4 F0 F0 (by simpa using h);rw[Zr,ZM,A4 F2,hc,Aa,Aa,show((4:Int))=((4:Nat):Int)from rfl,hb,Aa];simp only;rw[Bu a_,Aa,Ag];rfl
theorem VZ(n m:Nat)(fl:UInt64)(hn:n<=3000)(hm:m<=1000)(hf:fl.toNat<4294967296):TH (n:Int) (m:Int) fl=some (Fc n m fl.toNat):=by
 have e1:(Ad (Ae (n:Int) (32:Int)):UInt64).toNat=n+32:=by rw[Ag,show(n:Int)+32=((n+32:Nat):Int) by omega,Sr,TV F0]
 have e2:(Ad (m:Int):UInt64).toNat=m:=by rw[Sr,TV F0]
 have hF:Aq=(Aq-7)+1+1+1+1+1+1+1:=by have:=Ao;omega
 rw[TH,oI,Awl,hF];rw[show((0:Int))=((0:Nat):Int)from rfl,kT n m fl 2000 0 _ _ F0 rfl F6 A7,kT n m fl _ 1 _ _ F0 rfl (by rw[e1];omega) SR,kT n m fl _ 2 _ _ F0 rfl (by rw[e2];omega) SR,
  kT n m fl fl 3 _ _ F0 rfl hf SR,kT n m fl 0 4 _ _ F0 rfl F6 SR,kT n m fl 0 5 _ _ F0 rfl F6 SR,e1,e2]
 rw[Zr,ZM,A! YA,nS,J8,Fc];have z:Mn (0:UInt64).toNat 4++Mn (0:UInt64).toNat 4=List.replicate 8 0:=F6
 have z2:Mn (2000:UInt64).toNat 4=Mn 2000 4:=rfl;rw[D2 _ (Mn (0:UInt64).toNat 4),z,z2];rfl
theorem sJ(n m:Nat)(fl:UInt64)(hn:n<=3000)(hm:m<=1000)(hf:fl.toNat<4294967296):Pn (n:Int) (m:Int) fl=some (Fc n m fl.toNat):=by
 have e1:(Ad (Ae (n:Int) (32:Int)):UInt64).toNat=n+32:=by rw[Ag,show(n:Int)+32=((n+32:Nat):Int) by omega,Sr,TV F0]
 have e2:(Ad (m:Int):UInt64).toNat=m:=by rw[Sr,TV F0]
 have w:∀c:UInt64,Dz c 4=some (Mn c.toNat 4):=λc=>I1 c 4 F0;have z2:Mn (2000:UInt64).toNat 4=Mn 2000 4:=rfl;rw[Pn];simp only[w,e1,e2,Aa];rw[Bu SR,Aa,Bu SR,Aa,Bu SR,Aa,Bu SR,Aa,rK,Aa,Bu SR,Aa,z2];rfl
theorem NY{b:LB}{a w k:Nat}(h:a+w<=k):part (b.take k) a w=part b a w:=by rw[part,part,Z_,QM h]
def ER(b:LB):Bool:=decide (Eh (part b 12 4)<32\/3032<Eh (part b 12 4)\/1000<Eh (part b 16 4))
theorem wJ(b:LB)(h:20<=b.length):(((Ci (mB (part b 12 4)) (32:UInt64))||(Dq (mB (part b 12 4)) (3032:UInt64)))||(Dq (mB (part b 16 4)) (1000:UInt64)))=ER b:=by
 rw[xU,TD,TD,TW P?,TW P?,ER];show((decide (Eh (part b 12 4)<32)||decide (3032<Eh (part b 12 4)))||decide (1000<Eh (part b 16 4)))=_;simp[Bool.or_assoc]
theorem tQ(b:LB)(h:20<=b.length)(hb:ER b=false):Ah (Ad (mB (part b 12 4)):Int) (32:Int)=((Eh (part b 12 4)-32:Nat):Int)/\ (Ad (mB (part b 16 4)):Int)=((Eh (part b 16 4):Nat):Int)/\Eh (part b 12 4)-32<=3000/\Eh (part b 16 4)<=1000:=by
 simp only[ER,T_]at hb;refine⟨?_,HY P?,F0,F0⟩;rw[HY P?,Bi];omega
theorem ZS(b:LB)(fl:UInt64)(h:20<=b.length)(hl:b.length<4611686018427387904)(hf:fl.toNat<4294967296):
  OA b fl=some (if ER b=true then(0,0,false)else(((Eh (part b 12 4)-32:Nat):Int),((Eh (part b 16 4):Nat):Int),b==Fc (Eh (part b 12 4)-32) (Eh (part b 16 4)) fl.toNat)):=by
 have a1:XB b 12 4=some (mB (part b 12 4),0):=S2 b 12 4 F0 F0 F0 hl;have a2:XB b 16 4=some (mB (part b 16 4),0):=S2 b 16 4 F0 F0 F0 hl;rw[OA,a1,Aa];simp only;rw[a2,Aa];simp only;rw[wJ b h];cases hb:ER b with
 |true=>rfl
 |false=>
  obtain⟨i1,i2,i3,i4⟩:=tQ b h hb;rw[i1,i2,VZ _ _ _ i3 i4 hf];rfl
theorem Awu(b:LB)(h:20<=b.length)(hl:b.length<4611686018427387904):
  Tu b=some (if ER b=true then(0,0,false)else(((Eh (part b 12 4)-32:Nat):Int),((Eh (part b 16 4):Nat):Int),true)):=by
 have a1:Ca b 12 16=some (part b 12 4):=Ni 12 4;have a2:Ca b 16 20=some (part b 16 4):=Ni 16 4;rw[Tu,a1,Aa,c! _ P?,Aa,a2,Aa,c! _ P?,Aa,wJ b h];cases hb:ER b with
 |true=>rfl
 |false=>
  obtain⟨i1,i2,i3,i4⟩:=tQ b h hb;rw[i1,i2];rfl
def Rk(b:LB):Int×Int:=
 if ¬(8<=b.length/\b.take 8=tO)then(0,6)else if b.length<32 then(0,24)else
 if ER b=true\/b.take 32≠Fc (Eh (part b 12 4)-32) (Eh (part b 16 4)) 2684354560 then(0,12)else
 if b.length<Eh (part b 12 4)+32 then(0,24)else
 if(b.take (Eh (part b 12 4)+32)).drop (Eh (part b 12 4))≠Fc (Eh (part b 12 4)-32) (Eh (part b 16 4)) 2147483648 then(0,12)else(((Eh (part b 12 4)+32:Nat):Int),0)
theorem Adh(b:LB):ER (b.take 32)=ER b:=by rw[ER,ER,NY F0,NY F0]
section
variable {b:LB}
theorem fa1(h:¬(8<=b.length/\b.take 8=tO)):Rk b=(0,6):=by rw[Rk,A4 h]
theorem fa2(h:8<=b.length/\b.take 8=tO)(h2:b.length<32):Rk b=(0,24):=by rw[Rk,A! (λh'=>h' h),A4 h2]
variable (h:8<=b.length/\b.take 8=tO) (h2:¬b.length<32)
include h h2
theorem fa3(h3:ER b=true):Rk b=(0,12):=by rw[Rk,A! (λh'=>h' h),A! h2,A4 (.inl h3)]
theorem fa4(h4:b.take 32≠Fc (Eh (part b 12 4)-32) (Eh (part b 16 4)) 2684354560):Rk b=(0,12):=by rw[Rk,A! (λh'=>h' h),A! h2,A4 (.inr h4)]
variable (h3:ER b=false) (h4:b.take 32=Fc (Eh (part b 12 4)-32) (Eh (part b 16 4)) 2684354560)
include h3 h4
theorem fa5(h5:b.length<Eh (part b 12 4)+32):Rk b=(0,24):=by
 rw[Rk,A! (λh'=>h' h),A! h2,A! (λh'=>h'.elim (λe=>by rw[h3]at e;cases e) λe=>e h4),A4 h5]
theorem fa6(h5:¬b.length<Eh (part b 12 4)+32)(h6:(b.take (Eh (part b 12 4)+32)).drop (Eh (part b 12 4))≠Fc (Eh (part b 12 4)-32) (Eh (part b 16 4)) 2147483648):Rk b=(0,12):=by
 rw[Rk,A! (λh'=>h' h),A! h2,A! (λh'=>h'.elim (λe=>by rw[h3]at e;cases e) λe=>e h4),A! h5,A4 h6]
theorem fa7(h5:¬b.length<Eh (part b 12 4)+32)(h6:(b.take (Eh (part b 12 4)+32)).drop (Eh (part b 12 4))=Fc (Eh (part b 12 4)-32) (Eh (part b 16 4)) 2147483648):Rk b=(((Eh (part b 12 4)+32:Nat):Int),0):=by
 rw[Rk,A! (λh'=>h' h),A! h2,A! (λh'=>h'.elim (λe=>by rw[h3]at e;cases e) λe=>e h4),A! h5,A! (λh'=>h' h6)]
end
theorem Aal(b:LB)(hl:b.length<4611686018427387904):kE b=some (Rk b):=by
 rw[kE,ZI,Aa];by_cases hp:8<=b.length/\b.take 8=tO
 ·rw[A! (by simpa [tO]using hp)];by_cases h32:b.length<32
  ·rw[A4 F2,fa2 hp h32]
  ·have t:=ZS (b.take 32) 2684354560 F7 F7 F6;rw[Adh,NY F0,NY F0]at t;rw[A! F2,Ji,Aa,show(32:Int).toNat=32 from rfl,t,Aa];cases hb:ER b with
   |true=>rw[fa3 hp h32 hb];simp
   |false=>
    obtain⟨i1,i2,i3,i4⟩:=tQ b F0 hb;have i5:32<=Eh (part b 12 4):=by simp only[ER,T_]at hb;omega
    simp only[OI,N!,false_or];by_cases c1:b.take 32=Fc (Eh (part b 12 4)-32) (Eh (part b 16 4)) 2684354560
    ·have c1':b.take 32=Fc (Eh (part b 12 4)-32) (Eh (part b 16 4)) (2684354560:UInt64).toNat:=c1;rw[A! (by simpa using c1'),Ag];have e1:((Eh (part b 12 4)-32:Nat):Int)+64=((Eh (part b 12 4)+32:Nat):Int):=F0
     rw[e1];by_cases c2:b.length<Eh (part b 12 4)+32
     ·rw[A4 F2,fa5 hp h32 hb c1 c2]
     ·rw[A! F2,Bi,Qo,Aa,VZ _ _ _ i3 i4 F6,Aa,Ha,Aa];rw[show(((Eh (part b 12 4)+32:Nat):Int)).toNat=Eh (part b 12 4)+32 by omega,show(((Eh (part b 12 4)+32:Nat):Int)-32).toNat=Eh (part b 12 4) by omega];by_cases c3:(b.take (Eh (part b 12 4)+32)).drop (Eh (part b 12 4))=Fc (Eh (part b 12 4)-32) (Eh (part b 16 4)) 2147483648
      ·have c3':(b.take (Eh (part b 12 4)+32)).drop (Eh (part b 12 4))=Fc (Eh (part b 12 4)-32) (Eh (part b 16 4)) (2147483648:UInt64).toNat:=c3;rw[A! (by simpa using c3'),fa7 hp h32 hb c1 c2 c3]
      ·have c3':¬(b.take (Eh (part b 12 4)+32)).drop (Eh (part b 12 4))=Fc (Eh (part b 12 4)-32) (Eh (part b 16 4)) (2147483648:UInt64).toNat:=c3;rw[A4 (by simpa using c3'),fa6 hp h32 hb c1 c2 c3]
    ·have c1':¬b.take 32=Fc (Eh (part b 12 4)-32) (Eh (part b 16 4)) (2684354560:UInt64).toNat:=c1;rw[A4 (by simpa using c1'),fa4 hp h32 c1]
 ·rw[A4 (by rw[OR,T_];exact hp),fa1 hp]
theorem Aga(b:LB)(hl:b.length<4611686018427387904):Zf b=some (Rk b):=by
 rw[Zf,EY];by_cases h8:8<=b.length
 ·rw[A! F2,Ji,Aa,show(8:Int).toNat=8 from rfl];by_cases ha:b.take 8=tO
  ·have hp:=And.intro h8 ha;rw[A! (by simpa [tO]using ha),FM,FF];by_cases h32:b.length<32
   ·rw[A4 F2,fa2 hp h32]
   ·have t:=Awu (b.take 32) F7 F7;rw[Adh,NY F0,NY F0]at t;rw[A! F2,Ji,Aa,show(32:Int).toNat=32 from rfl,t,Aa];cases hb:ER b with
    |true=>rw[fa3 hp h32 hb];simp
    |false=>
     obtain⟨i1,i2,i3,i4⟩:=tQ b F0 hb;have i5:32<=Eh (part b 12 4):=by simp only[ER,T_]at hb;omega
     simp only[OI,N!,false_or,Aa,TI];rw[Tx,sJ _ _ _ i3 i4 F6,Aa,Aa];by_cases c1:b.take 32=Fc (Eh (part b 12 4)-32) (Eh (part b 16 4)) 2684354560
     ·have c1':b.take 32=Fc (Eh (part b 12 4)-32) (Eh (part b 16 4)) (2684354560:UInt64).toNat:=c1;rw[A! (by simpa using c1'),GD,FN,Ag];have e1:64+((Eh (part b 12 4)-32:Nat):Int)=((Eh (part b 12 4)+32:Nat):Int):=F0
      rw[e1];by_cases c2:b.length<Eh (part b 12 4)+32
      ·rw[A4 F2,fa5 hp h32 hb c1 c2]
      ·rw[A! F2,Bi,Qo,Aa,Jz,A4 rfl,sJ _ _ _ i3 i4 F6,Aa,Aa];rw[show(((Eh (part b 12 4)+32:Nat):Int)).toNat=Eh (part b 12 4)+32 by omega,show(((Eh (part b 12 4)+32:Nat):Int)-32).toNat=Eh (part b 12 4) by omega];by_cases c3:(b.take (Eh (part b 12 4)+32)).drop (Eh (part b 12 4))=Fc (Eh (part b 12 4)-32) (Eh (part b 16 4)) 2147483648
       ·have c3':(b.take (Eh (part b 12 4)+32)).drop (Eh (part b 12 4))=Fc (Eh (part b 12 4)-32) (Eh (part b 16 4)) (2147483648:UInt64).toNat:=c3;rw[A! (by simpa using c3'),fa7 hp h32 hb c1 c2 c3]
       ·have c3':¬(b.take (Eh (part b 12 4)+32)).drop (Eh (part b 12 4))=Fc (Eh (part b 12 4)-32) (Eh (part b 16 4)) (2147483648:UInt64).toNat:=c3;rw[A4 (by simpa using c3'),fa6 hp h32 hb c1 c2 c3]
     ·have c1':¬b.take 32=Fc (Eh (part b 12 4)-32) (Eh (part b 16 4)) (2684354560:UInt64).toNat:=c1;rw[A4 (by simpa using c1'),fa4 hp h32 c1]
  ·rw[A4 (by simpa [tO]using ha),fa1 (λh=>ha h.2)]
 ·rw[A4 F2,fa1 (λh=>h8 h.1)]
theorem Ahq{b:LB}{n:Int}(h:Rk b=(n,0)):64<=n/\n<=b.length:=by
 unfold Rk at h;split at h; · simp at h
 split at h; · simp at h
 split at h; · simp at h
 rename_i hb;split at h; · simp at h
 split at h; · simp at h
 simp only[O7,Wp]at h;have hb':¬ER b=true:=λe=>hb (.inl e);simp only[ER,C9]at hb';omega
def Cv(b:LB):Int×Int:=if(FD b).2≠6 then FD b else Rk b
theorem size_eq(b:LB)(hl:b.length<4611686018427387904):Ur b=some (Cv b):=by
 rw[Ur,Ahi b hl,Aa,Aal b hl];by_cases h:(FD b).2=6
 ·simp[Cv,h,Ak]
 ·simp[Cv,h,Ak]
theorem K2{b:LB}{n:Int}(h:Cv b=(n,0)):10<=n/\n<=b.length:=by
 unfold Cv at h;split at h
 ·have:=Ami h;omega
 ·have:=Ahq h;omega
def Cq(b:LB):Nat->Nat->LI×Int
 |0,_=>([],6)
 |j+1,p=>if(Cv (b.drop p)).2=6 then([],0)else if(Cv (b.drop p)).2≠0 then([],(Cv (b.drop p)).2)else
  if 4000<(p:Int)+(Cv (b.drop p)).1 then([],4)else
  if(Cq b j (p+(Cv (b.drop p)).1.toNat)).2=0 then((Cv (b.drop p)).1::(Cq b j (p+(Cv (b.drop p)).1.toNat)).1,0)else([],(Cq b j (p+(Cv (b.drop p)).1.toNat)).2)
theorem uP(b:LB):∀(j p:Nat),p<=b.length->p<=4000-> (Cq b j p).2=0-> (∀x∈(Cq b j p).1,10<=x)/\ (p:Int)+(Cq b j p).1.sum<=b.length/\ (p:Int)+(Cq b j p).1.sum<=4000
 |0,p,_,_,h=>by simp[Cq]at h
 |j+1,p,hp,hq,h=>by
  rw[Cq]at h⊢;split at h
  ·rename_i h6;rw[A4 h6];simp;omega
  ·rename_i h6;split at h
   ·rename_i h0;exact absurd h h0
   ·rename_i h0;rw[A! h6,A! h0];have hz:Cv (b.drop p)=((Cv (b.drop p)).1,0):=by rw[Prod.ext_iff];exact⟨rfl,Classical.not_not.1 h0⟩
    have hs:=K2 hz;rw[Q5]at hs;split at h
    ·simp at h
    ·rename_i h4;rw[A! h4];split at h
     ·rename_i h00;rw[A4 h00];obtain⟨i1,i2,i3⟩:=uP b j _ F0 F0 h00;refine⟨λx hx=>?_,?_,?_⟩
      ·rcases List.mem_cons.1 hx with rfl|hx
       ·exact hs.1
       ·exact i1 x hx
      ·simp only[OL];omega
      ·simp only[OL];omega
     ·rename_i h00;exact absurd h h00
def Ul(b:LB)(j p:Nat):Int×Int:=if(Cq b j p).2=0 then((p:Int)+(Cq b j p).1.sum,0)else(0,(Cq b j p).2)
theorem J0(b:LB)(hl:b.length<4611686018427387904):∀(j p q:Nat),p<=b.length->p<=4000->b.length-p<j->j<=q->Sk b q (p:Int)=some (Ul b j p)
 |0,p,q,_,_,h,_=>by omega
 |j+1,p,q,hp,hp4,hj,hq=>by
  obtain⟨q,rfl⟩:∃k,q=k+1:=⟨q-1,F0⟩;rw[Sk,Hb,Aa,F?,size_eq _ F7,Aa,Bb,Bb,Ak,Ul];by_cases h6:(Cv (b.drop p)).2=6
  ·rw[A4 (by simpa using h6)];have:Cq b (j+1) p=([],0):=by rw[Cq,A4 h6]
   rw[this];simp
  ·rw[A! (by simpa using h6)];by_cases h0:(Cv (b.drop p)).2=0
   ·have hz:Cv (b.drop p)=((Cv (b.drop p)).1,0):=by rw[Prod.ext_iff];exact⟨rfl,h0⟩
    have hs:=K2 hz;rw[Q5]at hs;rw[Ag,Am];by_cases h4:4000<(p:Int)+(Cv (b.drop p)).1
    ·rw[A4 (by simp[h0];omega)];have:Cq b (j+1) p=([],4):=by rw[Cq,A! h6,A! (λh=>h h0),A4 h4]
     rw[this];simp
    ·rw[A! (by simp[h0];omega),A! (by simpa using h0)];have ih:=J0 b hl j (p+(Cv (b.drop p)).1.toNat) q F0 F0 F0 F0;rw[show(p:Int)+(Cv (b.drop p)).1=((p+(Cv (b.drop p)).1.toNat:Nat):Int) by omega,ih,Ul];have:Cq b (j+1) p=if(Cq b j (p+(Cv (b.drop p)).1.toNat)).2=0 then((Cv (b.drop p)).1::(Cq b j (p+(Cv (b.drop p)).1.toNat)).1,0)else([],(Cq b j (p+(Cv (b.drop p)).1.toNat)).2):=by
      rw[Cq,A! h6,A! (λh=>h h0),A! h4]
     rw[this];by_cases hr:(Cq b j (p+(Cv (b.drop p)).1.toNat)).2=0
     ·simp only[hr,P9,OL];congr 2;omega
     ·simp only[hr,N!]
   ·rw[A! (by simp[h0]),A4 (by simpa using h0)];have:Cq b (j+1) p=([],(Cv (b.drop p)).2):=by rw[Cq,A! h6,A4 h0]
    rw[this];simp[h0]
def YR(b:LB)(j p:Nat)(xs:LI):LI×Int:=if(Cq b j p).2=0 then(xs++(Cq b j p).1,0)else([],(Cq b j p).2)
theorem Ajl(bk:Int->LI->Option (LI×Int))(b:LB)(p:Nat)(hp:p<=b.length)(xs:LI)(hx:xs.length<=4000)(hl:b.length<4611686018427387904):To (Mi bk b) b (p:Int) xs=Mi bk b (p:Int) xs (Cv (b.drop p)).1 (Cv (b.drop p)).2:=by
 have hf:=Aga (b.drop p) F7;rw[To,Hb,Aa,F?,Alh _ F7,Aa];by_cases h:(FD (b.drop p)).2=6
 ·simp[Cv,h,Bb,hf]
 ·simp[Cv,h,Bb]
theorem Ae8(b:LB)(hl:b.length<4611686018427387904):∀(j p q:Nat) (xs:LI),p<=b.length->p<=4000->b.length-p<j->j<=q->xs.length<=p->Mc b q (p:Int) xs=some (YR b j p xs)
 |0,p,q,_,_,_,h,_,_=>by omega
 |j+1,p,q,xs,hp,hp4,hj,hq,hx=>by
  obtain⟨q,rfl⟩:∃k,q=k+1:=⟨q-1,F0⟩;rw[Mc,Ajl _ b p hp xs F0 hl,Mi,FL,Bb,Ak,YR];by_cases h6:(Cv (b.drop p)).2=6
  ·rw[A4 (by simpa using h6)];have:Cq b (j+1) p=([],0):=by rw[Cq,A4 h6]
   rw[this];simp
  ·rw[A! (by simpa using h6)];by_cases h0:(Cv (b.drop p)).2=0
   ·have hz:Cv (b.drop p)=((Cv (b.drop p)).1,0):=by rw[Prod.ext_iff];exact⟨rfl,h0⟩
    have hs:=K2 hz;rw[Q5]at hs;rw[A! (by simpa using h0),Ag,Am];by_cases h4:4000<(p:Int)+(Cv (b.drop p)).1
    ·rw[A4 F7];have:Cq b (j+1) p=([],4):=by rw[Cq,A! h6,A! (λh=>h h0),A4 h4]
     rw[this];simp
    ·rw[A! F7,Bu F7,Aa];have ih:=Ae8 b hl j (p+(Cv (b.drop p)).1.toNat) q (xs++[(Cv (b.drop p)).1]) F0 F0 F0 F0 F7;rw[show(p:Int)+(Cv (b.drop p)).1=((p+(Cv (b.drop p)).1.toNat:Nat):Int) by omega,ih,YR];have:Cq b (j+1) p=if(Cq b j (p+(Cv (b.drop p)).1.toNat)).2=0 then((Cv (b.drop p)).1::(Cq b j (p+(Cv (b.drop p)).1.toNat)).1,0)else([],(Cq b j (p+(Cv (b.drop p)).1.toNat)).2):=by
      rw[Cq,A! h6,A! (λh=>h h0),A! h4]
     rw[this];by_cases hr:(Cq b j (p+(Cv (b.drop p)).1.toNat)).2=0
     ·simp only[hr,P9];simp
     ·simp only[hr,N!]
   ·rw[A4 (by simpa using h0)];have:Cq b (j+1) p=([],(Cv (b.drop p)).2):=by rw[Cq,A! h6,A4 h0]
    rw[this];simp[h0]
theorem xQ:∀{l:LI},(∀x∈l,10<=x)->0<=l.sum/\ (l.length:Int)<=l.sum
 |[],_=>by simp
 |x::l,h=>by
  have h1:=h x P4;have h2:=xQ (l:=l) λy hy=>h y (O2 _ hy);simp only[OL,I!];omega
theorem yP(r:Int)(l:LI)(hl:l.length<=4000)(hx:∀x∈l,10<=x):∀(j i q:Nat) (n:Int),i+j=l.length->j<q->0<=n->n+(l.drop i).sum<=4000->Ig r l q n (i:Int)=some (n+(l.drop i).sum,r)
 |0,i,q+1,n,hi,_,_,_=>by
  rw[Ig,Sy,A! F2,show i=l.length by omega,RM];simp[GB,EX]
 |j+1,i,q+1,n,hi,hq,hn,hs=>by
  have hlt:i<l.length:=F0
  rw[drop_cons hlt,OL]at hs⊢;have h1:=hx l[i] (P1 hlt);have h2:=xQ (l:=l.drop (i+1)) λy hy=>hx y (ZP hy);rw[Ig,Sy,A4 F2,Cf hlt,Aa,Aa,Ag,Ag];have ih:=yP r l hl hx j (i+1) q (n+l[i]) F0 F0 F0 F0;rw[show((i:Int)+1)=((i+1:Nat):Int) by omega,ih];congr 2;omega
def Be(b:LB):Int×Int:=Ul b (b.length+1) 0
theorem BD(b:LB)(hl:b.length<4611686018427387904):Vf b=some (Be b):=by
 have:=J0 b hl (b.length+1) 0 Aq F0 F0 F0 C0;exact this
theorem CR(b:LB)(hl:b.length<4611686018427387904):Ma b=some (Be b):=by
 have h:=Ae8 b hl (b.length+1) 0 Aq [] F0 F0 F0 C0 A7;have h':Aao b=some (YR b (b.length+1) 0 []):=h;rw[Ma,FJ,h',Aa,Be,Ul,YR];have ho:=uP b (b.length+1) 0 F0 F0;by_cases h0:(Cq b (b.length+1) 0).2=0
 ·obtain⟨i1,i2,i3⟩:=ho h0;have hp:=xQ i1;simp only[h0,P9,OJ];have:=yP 0 (Cq b (b.length+1) 0).1 F0 i1 (Cq b (b.length+1) 0).1.length 0 Aq 0 F0 C0 F0 (by simpa using i3);simpa [Tc]using this
 ·simp only[h0,N!];have:=yP (Cq b (b.length+1) 0).2 [] A7 A7 0 0 Aq 0 A7 C0 F0 A7;simpa [Tc]using this
theorem VW{b:LB}(h:(Be b).2=0):0<= (Be b).1/\ (Be b).1<=b.length/\ (Be b).1<=4000:=by
 unfold Be Ul at h⊢;split at h
 ·rename_i h0;rw[A4 h0];obtain⟨i1,i2,i3⟩:=uP b (b.length+1) 0 F0 F0 h0;have hp:=xQ i1;exact⟨by simp;omega,i2,i3⟩
 ·rename_i h0;exact absurd h h0
theorem YB{p:Prop}(h:p:=by rw[Af,Ac,Ac];simp;omega):p:=h
def Ay(r:Nat):Nat:=max 1 (256*r/245)
theorem Qb(r:Nat):1<=Ay r:=Nat.le_max_left _ _
theorem E7{r:Nat}(h:r<=1048576):Ay r<=1100000:=by unfold Ay;omega
theorem J4{r:Nat}(h:r<=1048576):pT (1:Int) (Cb (Bd (256:Int) (r:Int)) (245:Int))=(Ay r:Int):=by
 rw[Gp,LC,TQ F0,Bq F0 F0,tq,Ay];omega
def Ax(g n:Nat):LI:=List.replicate ((n-1)/g) (g:Int)++[((n-(n-1)/g*g:Nat):Int)]
theorem AG(g n:Nat):(Ax g n).length=(n-1)/g+1:=by simp[Ax]
theorem Aqy{g n:Nat}(h:n<=g)(h1:1<=n):Ax g n=[(n:Int)]:=by
 rw[Ax,R9 F0];simp
theorem Avr{g n:Nat}(hg:1<=g)(h:g<n):Ax g n=(g:Int)::Ax g (n-g):=by
 have e:(n-1)/g=(n-g-1)/g+1:=by rw[<-Nat.add_div_right _ F0];congr 1;omega
 rw[Ax,Ax,e,R8,SC];congr 4;have:=T5 (n-g-1) g;rw[I8,Y4];omega
theorem Arh{g n:Nat}(hg:1<=g)(h1:1<=n):(n+g-1)/g=(n-1)/g+1:=by
 rw[<-Nat.add_div_right _ F0];congr 1;omega
theorem Ab1{r:Nat}(h1:1<=r)(h:r<=1048576):Qj (r:Int)=some ((Ay r:Int),0):=by
 rw[Qj,A! NX,J4 h]
theorem Ake{r:Nat}(h:r<=1048576):Ty (r:Int)=some (Ay r:Int):=by rw[Ty,J4 h]
theorem ZG{r n:Nat}(h1:1<=r)(h:r<=1048576)(n1:1<=n)(n2:n<=4000):Hh (r:Int) (n:Int)=some (if 1000<(n-1)/Ay r+1 then(0,4)else((((n-1)/Ay r+1:Nat):Int),0)):=by
 have hp:=Qb r;have hl:=E7 h;have e:Cb (Ah (Ae (n:Int) (Ay r:Int)) (1:Int)) (Ay r:Int)=(((n-1)/Ay r+1:Nat):Int):=by
  have:(n+Ay r-1)/Ay r<=n+Ay r-1:=O' _ _;rw[Ag,Bi,LC,TQ F0,show(n:Int)+(Ay r:Int)-1=((n+Ay r-1:Nat):Int) by omega,<-lZ,Arh hp n1];rw[Arh hp n1]at this;generalize(n-1)/Ay r=k at*
  exact Bq F0 F0
 rw[Hh,Ab1 h1 h,Aa];simp only;rw[A! C6,A! NX,Bf K0,Aa,e];by_cases hk:1000<(n-1)/Ay r+1
 ·rw[A4 J!,A4 hk]
 ·rw[A! J!,A! hk]
theorem J9{r:Nat}(h:r<=1048576):∀(j n q:Nat) (acc:LI),n<=4000->n<=j->j<q->acc.length+n<=10000->Ep (r:Int) q (n:Int) acc=some (acc++(if n=0 then []else Ax (Ay r) n))
 |0,n,q+1,acc,hn,hj,hq,ha=>by
  obtain rfl:n=0:=F0
  rw[Ep,Il,A! S4];simp[Mj,Mf]
 |j+1,n,q+1,acc,hn,hj,hq,ha=>by
  have hp:=Qb r;have hl:=E7 h;by_cases h0:n=0
  ·subst h0;rw[Ep,Il,A! S4];simp[Mj,Mf]
  ·rw[Ep,Il,A4 J!,Ake h,Aa,Bu F7,Aa,Aa,Bi,GG];by_cases hs:n<=Ay r
   ·rw[show min (n:Int) (Ay r:Int)=(n:Int) by omega,A! h0,Aqy hs F0];have hz:∃k,q=k+1:=⟨q-1,F0⟩;obtain⟨q,rfl⟩:=hz;rw[Ep,Il,A! J!];simp[Mj,Mf]
   ·rw[show min (n:Int) (Ay r:Int)=(Ay r:Int) by omega,show(n:Int)-(Ay r:Int)=((n-Ay r:Nat):Int) by omega,J9 h j (n-Ay r) q _ F0 F0 F0 F7,A! F0,A! h0,Avr hp (show Ay r<n by omega)];simp
theorem gY{r n:Nat}(h:r<=1048576)(n1:1<=n)(n2:n<=4000):Dk (r:Int) (n:Int)=some (Ax (Ay r) n):=by
 have:=J9 h n n Aq [] n2 (D1 _) C0 F7;rw[Dk,FI,EU,this,A! F0];rfl
theorem mul_one(m:Nat)(h:m<=100000):IA (1:UInt64) (UInt64.ofNat m)=some (0,UInt64.ofNat m):=by
 have y1:(UInt64.ofNat m).toNat=m:=TV F0;have s1:Bw (1:UInt64) (GI.toZ (32:UInt64)).toNat=0:=F6
 have s2:Bw (UInt64.ofNat m) (GI.toZ (32:UInt64)).toNat=0:=by
  apply UInt64.toNat_inj.1;rw[EF,y1];exact R9 (S6 h F6)
 have s0:Bw (0:UInt64) (GI.toZ (32:UInt64)).toNat=0:=F6
 have a1:Cy (1:UInt64) (4294967295:UInt64)=1:=F6
 have a0:Cy (0:UInt64) (4294967295:UInt64)=0:=F6
 have a2:Cy (UInt64.ofNat m) (4294967295:UInt64)=UInt64.ofNat m:=by
  apply UInt64.toNat_inj.1;rw[H8,dJ,y1]
  show m&&& (2^32-1)=m;rw[W?,B4 F0]
 have m1:∀x:UInt64,Bd 1 x=x:=λx=>by rw[JO,UInt64.one_mul]
 have m0:∀x:UInt64,Bd 0 x=0:=λx=>by rw[JO,UInt64.zero_mul]
 have p0:∀x:UInt64,Ae 0 x=x:=λx=>by rw[JT,UInt64.zero_add]
 have p1:∀x:UInt64,Ae x 0=x:=λx=>by rw[JT,UInt64.add_zero]
 rw[IA,LR];simp only[s1,s2,a1,a2,m1,m0,p0,p1,s0,a0,Aa]
theorem Aud(v:Int)(m:Nat)(hm:m<=100000):∀(j n q:Nat),1<=n->n<=m->m-n<=j->j<q->El q (n:Int) (List.replicate n v++List.replicate (m-n) 0)=some (List.replicate m v)
 |j,n,q+1,hn,hnm,hj,hq=>by
  have hlen:Ac (List.replicate n v++List.replicate (m-n) 0)=(m:Int):=by simp[Ac];omega
  rw[El,Gj,hlen];by_cases h:n<m
  ·obtain⟨j,rfl⟩:∃k,j=k+1:=⟨j-1,F0⟩;rw[A4 F9];have v1:cE (m:Int) (n:Int) (m:Int)=some ():=by rw[cE,Bf];simp;omega
   have v2:cE (m:Int) (0:Int) (n:Int)=some ():=by rw[cE,Bf];simp;omega
   have e1:UR (List.replicate n v++List.replicate (m-n) 0) (0:Int) ((n:Int)-0)=List.replicate n v:=by
    simp[UR]
   rw[v1,Aa,v2,Aa,e1];have e2:QZ ((m:Int)-(n:Int)) (List.replicate n v).length=((min n (m-n):Nat):Int):=by
    rw[QZ,PA];split<;>omega
   have e3:Uf (List.replicate n v++List.replicate (m-n) 0) (n:Int) ((m:Int)-(n:Int)) (List.replicate n v)=List.replicate (n+min n (m-n)) v++List.replicate (m-(n+min n (m-n))) 0:=by
    have t1:((m:Int)-(n:Int)).toNat=m-n:=F0
    have t2:(List.replicate n v++List.replicate (m-n) (0:Int)).take n=List.replicate n v:=by simp
    rw[Uf,t1,F?,t2,List.take_replicate,PA,<-D2,List.replicate_append_replicate,lV,PA,Nat.min_comm (m-n) n];simp only[List.drop_replicate];rw[show n-(n+min n (m-n))=0 by omega,List.replicate_zero,OJ,show m-n-(n+min n (m-n)-n)=m-(n+min n (m-n)) by omega]
   rw[e2,e3,Ag,show(n:Int)+((min n (m-n):Nat):Int)=((n+min n (m-n):Nat):Int) by omega];exact Aud v m hm j (n+min n (m-n)) q F0 F0 F0 F0
  ·rw[A! F9];obtain rfl:n=m:=F0
   simp[Ia,Mm]
theorem Aht(v:Int)(m:Nat)(hm:m<=100000):Mh [v] (m:Int)=some (List.replicate m v):=by
 have y1:(UInt64.ofNat m).toNat=m:=TV F0;have c1:(Ad (Ac [v]):UInt64)=1:=by rfl
 have c2:(Ad (m:Int):UInt64)=UInt64.ofNat m:=Sr m;have c3:(Ad (UInt64.ofNat m):Int)=(m:Int):=by rw[uS F0,y1]
 rw[Mh,Nw,A! P!,Agk,Ns,c1,c2,mul_one m hm,Aa];simp only;rw[A! (by rw[TD,TD,y1];simp;show m<=9223372036854775807;omega),Agd,Ny,c3,rK,Aa,Bf U?,Aa,Agh,F?];by_cases h0:m=0
 ·subst h0;have hF:Aq=(Aq-1)+1:=by have:=Ao;omega
  rw[hF,El,Gj];simp[Ac,M9,QZ,Af,Ia,Mm]
 ·have:=Aud v m hm m 1 Aq F0 F0 F0 C0;have e1:QZ (Ac (List.replicate m (0:Int))) [v].length=((1:Nat):Int):=by simp[QZ,Ac];omega
  have e2:M9 (List.replicate m (0:Int)) [v]=List.replicate 1 v++List.replicate (m-1) 0:=by
   obtain⟨k,rfl⟩:∃k,m=k+1:=⟨m-1,F0⟩;simp[M9]
  rw[e1,e2,this]
theorem Ahd(l m:LI)(h:l.length+m.length<=1000000):Md [l,m]=some (l++m):=by
 have hF:Aq=(Aq-3)+1+1+1:=by have:=Ao;omega
 rw[Md,Nu,Afy];have g0:Aj [l,m] (0:Int)=some l:=rfl;have g1:Aj [l,m] (1:Int)=some m:=rfl;have l2:Ac [l,m]=2:=rfl;have h3:Mu [l,m] []=some (l++m):=by
  rw[Mu,Mo,Ms,hF,Ea,Fw,l2,A4 F6,g0,Aa,Bu F7,Aa,OJ,show Ae (0:Int) 1=1 by decide,
   Ea,Fw,l2,A4 F6,g1,Aa,Bu,Aa,show Ae (1:Int) 1=2 by decide,Ea,Fw,l2,A! F6]
  rfl
 rw[hF,Ek,Gh,l2,A4 F6,g0,Aa,Ag Q9 Q9,A! YA,show Ae (0:Int) 1=1 by decide,
  Ek,Gh,l2,A4 F6,g1,Aa,Ag Q9 Q9,A! YB,show Ae (1:Int) 1=2 by decide,
  Ek,Gh,l2,A! F6,Ae0,Mv,A! YB,Ae2,Mq]
 have z:Ah (0:Int) 0=0:=F6
 have n0:(0:Int)+Ac l+Ac m=((l.length+m.length:Nat):Int):=by simp[Ac]
 rw[z,n0,Bi,Int.sub_zero];by_cases hp:0<l.length+m.length
 ·rw[A4 J!,show cE (0:Int) 0 0=some ()from rfl,Aa,rK,Aa,Bu F7,Aa];rw[show cE (Ac ([]++List.replicate ((l.length+m.length:Nat):Int).toNat (0:Int))) 0 0=some () by rw[cE,Bf];simp[Ac];omega,Aa];simp only[UR,Int.sub_self,Int.toNat_zero,R!];exact h3
 ·rw[A! J!];exact h3
theorem M? {r n:Nat}(h1:1<=r)(h:r<=1048576)(n1:1<=n)(n2:n<=4000)(hk:(n-1)/Ay r+1<=1000):Uo (r:Int) (n:Int)=some (Ax (Ay r) n,0):=by
 have hp:=Qb r;have hl:=E7 h;have hd:=T5 (n-1) (Ay r);rw[Uo,ZG h1 h n1 n2,A! F0,Aa];simp only;rw[A! C6,Ab1 h1 h,Aa];simp only;rw[Ax];generalize(n-1)/Ay r=k at*
 have e1:Ah ((k+1:Nat):Int) 1=(k:Int):=by rw[Bi];omega
 have e2:(k:Int)*(Ay r:Int)=((k*Ay r:Nat):Int):=by simp
 rw[e1,Aht _ _ F0,Aa,Gp (by rw[e2];omega) (by rw[e2];omega),e2,Bi,QL,Ahd _ _ F7,Aa,Aa,show(n:Int)-((k*Ay r:Nat):Int)=((n-k*Ay r:Nat):Int) by omega]
def Ga(f c w r n:Nat):Bool:=decide ((f=1\/f=2)/\ (1<=c/\c<=6)/\ (w=8\/w=16\/w=24)/\ (1<=r/\r<=1048576)/\1<=n)
def EP(c r n:Nat):Bool:=decide (n<=4000/c/\ (n-1)/Ay r+1<=1000)
theorem eO(f c w r n:Nat):Xs (f:Int) (c:Int) (w:Int) (r:Int) (n:Int)=some (Ga f c w r n):=by
 have e2:HA (f:Int) (c:Int) (w:Int) (r:Int) (n:Int)=some (decide ((f=1\/f=2)/\ (1<=c/\c<=6)/\ (1<=r/\r<=1048576)/\1<=n)):=by
  rw[HA,Adx];congr 1;rw[H'];simp only[Bb,Am,K1,B9,O_,Q7,C9];omega
 have g:∀k:Nat,geq (w:Int) (k:Int)=decide (w=k):=λk=>by rw[Bb,H'];simp;omega
 have g8:geq (w:Int) (8:Int)=decide (w=8):=g 8;have g16:geq (w:Int) (16:Int)=decide (w=16):=g 16;have g24:geq (w:Int) (24:Int)=decide (w=24):=g 24;rw[Xs,Adv,e2,g8,g16,g24,Ga];by_cases h8:w=8
 ·subst h8;simp
 ·by_cases h16:w=16
  ·subst h16;simp
  ·by_cases h24:w=24
   ·subst h24;simp
   ·simp[h8,h16,h24]
theorem Abo(f c w r n:Nat):Xj (f:Int) (c:Int) (w:Int) (r:Int) (n:Int)=some (Ga f c w r n):=by
 rw[Xj,Ga];simp only[Bb,Dn,K1,B9,O_,Q7,C9,WS];split
 ·rename_i h;congr 1;rw[H'];simp only[B9,O_,Q7,C9];omega
 ·rename_i h;congr 1;symm;rw[T_];omega
theorem wR{c:Nat}(h:1<=c):Cb (4000:Int) (c:Int)=((4000/c:Nat):Int):=by
 have:4000/c<=4000:=O' _ _;rw[LC,TQ F0,show(4000:Int)=((4000:Nat):Int)from rfl,<-lZ];generalize 4000/c=k at*
 exact Bq F0 F0
theorem tP{f c w r n:Nat}(h:Ga f c w r n=true):KI (f:Int) (c:Int) (w:Int) (r:Int) (n:Int)=some (EP c r n):=by
 simp only[Ga,C9]at h;have hd:4000/c<=4000:=O' _ _;rw[KI,Bf K0,Aa,wR F0,EP];generalize 4000/c=m at*
 by_cases h1:n<=m
 ·rw[A! J!,ZG F0 F0 F0 F0,Aa];generalize(n-1)/Ay r+1=k;by_cases h2:1000<k
  ·rw[A4 h2];simp[Bb,K1];omega
  ·rw[A! h2];simp[Bb,K1,h1];omega
 ·rw[A4 J!];simp[h1]
theorem Amb{f c w r n:Nat}(h:Ga f c w r n=true):EB (f:Int) (c:Int) (w:Int) (r:Int) (n:Int)=some (!EP c r n):=by
 simp only[Ga,C9]at h;have hd:4000/c<=4000:=O' _ _;rw[EB,Bf K0,Aa,wR F0,EP];generalize 4000/c=m at*
 by_cases h1:n<=m
 ·rw[A! J!,gY F0 F0 F0,Aa,Ac,AG];generalize(n-1)/Ay r+1=k;congr 1;rw[Am,H'];simp only[C9,OR,T_];omega
 ·rw[A4 J!];simp[h1]
def Nk:LB:=[84,84,65,49]
def f0(b:LB):Nat:=Eh (part b 4 2)
def f1(b:LB):Nat:=Eh (part b 6 2)
def f2(b:LB):Nat:=Eh (part b 8 2)
def f3(b:LB):Nat:=Eh (part b 10 4)
def f4(b:LB):Nat:=Eh (part b 14 4)
abbrev H6:=Int×Int×Int×Int×Int×Int
def Jg(b:LB):H6:=
 if b.take (min 4 b.length)≠Nk.take (min 4 b.length)then(0,0,0,0,0,12)else if b.length<22 then(0,0,0,0,0,24)else
 if(De (b.take 18)).toNat≠Eh (part b 18 4)then(0,0,0,0,0,22)else
 if Ga (f0 b) (f1 b) (f2 b) (f3 b) (f4 b)=false then(0,0,0,0,0,12)else
 if EP (f1 b) (f3 b) (f4 b)=false then(0,0,0,0,0,4)else((f0 b:Int),(f1 b:Int),(f2 b:Int),(f3 b:Int),(f4 b:Int),0)
section
variable {b:LB}
theorem rs1(h:b.take (min 4 b.length)≠Nk.take (min 4 b.length)):Jg b=(0,0,0,0,0,12):=by rw[Jg,A4 h]
variable (h:b.take (min 4 b.length)=Nk.take (min 4 b.length))
include h
theorem rs2(h2:b.length<22):Jg b=(0,0,0,0,0,24):=by rw[Jg,A! (λe=>e h),A4 h2]
variable (h2:¬b.length<22)
include h2
theorem rs3(h3:(De (b.take 18)).toNat≠Eh (part b 18 4)):Jg b=(0,0,0,0,0,22):=by rw[Jg,A! (λe=>e h),A! h2,A4 h3]
variable (h3:(De (b.take 18)).toNat=Eh (part b 18 4))
include h3
theorem rs4(h4:Ga (f0 b) (f1 b) (f2 b) (f3 b) (f4 b)=false):Jg b=(0,0,0,0,0,12):=by rw[Jg,A! (λe=>e h),A! h2,A! (λe=>e h3),A4 h4]
variable (h4:Ga (f0 b) (f1 b) (f2 b) (f3 b) (f4 b)=true)
include h4
theorem rs5(h5:EP (f1 b) (f3 b) (f4 b)=false):Jg b=(0,0,0,0,0,4):=by rw[Jg,A! (λe=>e h),A! h2,A! (λe=>e h3),A! (by rw[h4];simp),A4 h5]
theorem rs6(h5:EP (f1 b) (f3 b) (f4 b)=true):Jg b=((f0 b:Int),(f1 b:Int),(f2 b:Int),(f3 b:Int),(f4 b:Int),0):=by rw[Jg,A! (λe=>e h),A! h2,A! (λe=>e h3),A! (by rw[h4];simp),A! (by rw[h5];simp)]
end
theorem uo(b:LB)(h2:¬b.length<22):Bl (Ad (De (b.take 18)):UInt64) (mB (part b 18 4))=decide ((De (b.take 18)).toNat≠Eh (part b 18 4)):=by
 rw[NM,Ct,H'];simp only[TJ,ne_eq,C9];rw[<-U!,TV (by have:=(De (b.take 18)).toNat_lt;omega),TW P?]
theorem eH(b:LB)(a w:Nat)(i q:Nat)(l:LI)(hi:i<5)(hl:l.length=5)(hw:Aj ([2,2,2,4,4]:LI) (i:Int)=some (w:Int))(h1:1<=w)(h4:w<=4)(ha:a+w<=b.length)(hb:b.length<4611686018427387904):
  Lm b (q+1) (a:Int) (i:Int) l=Lm b q ((a+w:Nat):Int) ((i+1:Nat):Int) (l.set i (Eh (part b a w):Int)):=by
 rw[Lm,BO,A4 F9,hw,Aa,S2 b a w h1 F0 ha hb,Aa];simp only;rw[Cf,Aa,Ra _ F0,Aa,HY (by rw[Dm ha];omega),Ag,Ag];rfl
theorem Aj8(b:LB)(h22:¬b.length<22)(hb:b.length<4611686018427387904):PT b 4 0 (List.replicate 5 0)=BM [(f0 b:Int),(f1 b:Int),(f2 b:Int),(f3 b:Int),(f4 b:Int)]:=by
 have hF:Aq=(Aq-6)+1+1+1+1+1+1:=by have:=Ao;omega
 rw[PT,hF,show(4:Int)=((4:Nat):Int)from rfl,show(0:Int)=((0:Nat):Int)from rfl];rw[eH b 4 2 0 _ _ F0 A7 rfl F0 F0 F0 hb,eH b 6 2 1 _ _ F0 A7 rfl F0 F0 F0 hb,eH b 8 2 2 _ _ F0 A7 rfl F0 F0 F0 hb,
  eH b 10 4 3 _ _ F0 A7 rfl F0 F0 F0 hb,eH b 14 4 4 _ _ F0 A7 rfl F0 F0 F0 hb,Lm,BO,A! P!]
 rfl
theorem Aw5(b:LB):Tt [84,84,65,49] (b.take (min 4 b.length))=some (decide (b.take (min 4 b.length)=Nk.take (min 4 b.length))):=by
 have hl:(b.take (min 4 b.length)).length=min 4 b.length:=by rw[J1];omega
 rw[Tt,Iy,A4 (by rw[Dn,Ac,Ac,hl];simp;omega),Ac,hl,Ji F0 F7,Aa,Aa,F?];congr 1;rw[H'];rw[C9,Q7];exact eq_comm
theorem yI(b:LB):Gf (4:Int) (Ac b)=((min 4 b.length:Nat):Int):=by rw[GG,Ac];omega
theorem kI(b:LB)(hb:b.length<4611686018427387904):JA b=some (Jg b):=by
 rw[JA,RB,yI,Ji,Aa,F?,Aw5,Aa];by_cases h:b.take (min 4 b.length)=Nk.take (min 4 b.length)
 ·rw[A! (by simpa using h)];by_cases h2:b.length<22
  ·rw[A4 F2,rs2 h h2]
  ·have a1:XB b 18 4=some (mB (part b 18 4),0):=S2 b 18 4 F0 F0 F0 hb;rw[A! F2,a1,Aa];simp only;rw[Ji,Aa,show(18:Int).toNat=18 from rfl,tW _ F7,Aa];simp only;rw[uo b h2];by_cases h3:(De (b.take 18)).toNat=Eh (part b 18 4)
   ·rw[A! (by simpa using h3),Aj8 b h2 hb,BM,Amv];rw[show Aj [(f0 b:Int),(f1 b:Int),(f2 b:Int),(f3 b:Int),(f4 b:Int)] 0=some (f0 b:Int)from rfl,show Aj [(f0 b:Int),(f1 b:Int),(f2 b:Int),(f3 b:Int),(f4 b:Int)] 1=some (f1 b:Int)from rfl,show Aj [(f0 b:Int),(f1 b:Int),(f2 b:Int),(f3 b:Int),(f4 b:Int)] 2=some (f2 b:Int)from rfl,
     show Aj [(f0 b:Int),(f1 b:Int),(f2 b:Int),(f3 b:Int),(f4 b:Int)] 3=some (f3 b:Int)from rfl,show Aj [(f0 b:Int),(f1 b:Int),(f2 b:Int),(f3 b:Int),(f4 b:Int)] 4=some (f4 b:Int)from rfl]
    simp only[Aa,eO];cases h4:Ga (f0 b) (f1 b) (f2 b) (f3 b) (f4 b)with
    |false=>rw[rs4 h h2 h3 h4];rfl
    |true=>
     rw[tP h4,A! A7,Aa];cases h5:EP (f1 b) (f3 b) (f4 b)with
     |false=>rw[rs5 h h2 h3 h4 h5];rfl
     |true=>rw[rs6 h h2 h3 h4 h5];rfl
   ·rw[A4 (by simpa using h3),rs3 h h2 h3]
 ·rw[A4 (by simpa using h),rs1 h]
theorem eT(b:LB)(hb:b.length<4611686018427387904):Nl b=some (Jg b):=by
 rw[Nl,IX,yI,Ji,Aa,F?,Ji F0 F7,Aa,F?];by_cases h:b.take (min 4 b.length)=Nk.take (min 4 b.length)
 ·rw[A! (by rw[h];simp[Nk]),KB,JC];by_cases h2:b.length<22
  ·rw[A4 F2,rs2 h h2]
  ·have a1:Ca b 18 22=some (part b 18 4):=Ni 18 4;have c1:Ca b 4 6=some (part b 4 2):=Ni 4 2;have c2:Ca b 6 8=some (part b 6 2):=Ni 6 2;have c3:Ca b 8 10=some (part b 8 2):=Ni 8 2;have c4:Ca b 10 14=some (part b 10 4):=Ni 10 4;have c5:Ca b 14 18=some (part b 14 4):=Ni 14 4;have hs:Bl (mB (part b 18 4)) (Ad (De (b.take 18)):UInt64)=decide ((De (b.take 18)).toNat≠Eh (part b 18 4)):=by
    rw[<-uo b h2,NM,NM,H'];simp only[TJ,ne_eq];exact not_congr eq_comm
   have lp:∀a w,a+w<=b.length->Dc (part b a w)=some (mB (part b a w)):=λa w h=>c! _ (by rw[Dm h];omega);rw[A! F2,a1,Aa,Ji,Aa,show(18:Int).toNat=18 from rfl,lp _ _ F0,Aa,gO _ F7,Aa,hs];by_cases h3:(De (b.take 18)).toNat=Eh (part b 18 4)
   ·rw[A! (by simpa using h3),KF,JL,c1,Aa,c2,Aa,c3,Aa,c4,Aa,c5,Aa,lp _ _ F0,Aa,lp _ _ F0,Aa,lp _ _ F0,Aa,lp _ _ F0,Aa,lp _ _ F0,Aa,
     JX,JK,HY P?,HY P?,HY P?,HY P?,HY P?]
    rw[show Eh (part b 4 2)=f0 b from rfl,show Eh (part b 6 2)=f1 b from rfl,show Eh (part b 8 2)=f2 b from rfl,show Eh (part b 10 4)=f3 b from rfl,show Eh (part b 14 4)=f4 b from rfl,Abo,Aa];cases h4:Ga (f0 b) (f1 b) (f2 b) (f3 b) (f4 b)with
    |false=>rw[rs4 h h2 h3 h4];rfl
    |true=>
     rw[Amb h4,A! A7,Aa];cases h5:EP (f1 b) (f3 b) (f4 b)with
     |false=>rw[rs5 h h2 h3 h4 h5];rfl
     |true=>rw[rs6 h h2 h3 h4 h5];rfl
   ·rw[A4 (by simpa using h3),rs3 h h2 h3]
 ·rw[A4 (by simpa [Nk]using h),rs1 h]
theorem rF{b:LB}(h:(Jg b).2.2.2.2.2=0):Jg b=((f0 b:Int),(f1 b:Int),(f2 b:Int),(f3 b:Int),(f4 b:Int),0)/\22<=b.length/\Ga (f0 b) (f1 b) (f2 b) (f3 b) (f4 b)=true/\EP (f1 b) (f3 b) (f4 b)=true:=by
 unfold Jg at h⊢;split at h; · simp at h
 rename_i c1;rw[A! c1];split at h; · simp at h
 rename_i c2;rw[A! c2];split at h; · simp at h
 rename_i c3;rw[A! c3];split at h; · simp at h
 rename_i c4;rw[A! c4];split at h; · simp at h
 rename_i c5;rw[A! c5];exact⟨rfl,F0,by simpa using c4,by simpa using c5⟩
theorem gI{f c w r n:Nat}(h:Ga f c w r n=true)(h2:EP c r n=true):Xx (f:Int) (c:Int) (w:Int) (r:Int) (n:Int)=some (Ax (Ay r) n,0):=by
 have hc:Qh (f:Int) (c:Int) (w:Int) (r:Int) (n:Int)=some 0:=by
  rw[Qh,eO,Aa,h,A! A7,tP h,Aa,h2];rfl
 have hd:4000/c<=4000:=O' _ _;simp only[Ga,C9]at h;simp only[EP,C9]at h2;rw[Xx,hc,Aa,A! C6,M? F0 F0 F0 F0 h2.2];rfl
def okL:LI->Int->Bool
 |[],_=>true
 |x::l,left=>decide (5<=x/\x<=left)&&okL l (left-x)
theorem Ub:∀l:LI,(∀x∈l,5<=x)->0<=l.sum
 |[],_=>by simp
 |x::l,h=>by
  have h1:=h x P4;have h2:=Ub l λy hy=>h y (O2 _ hy);rw[OL];omega
theorem kG:∀(l:LI) (left:Int),0<=left-> (okL l left=true↔(∀x∈l,5<=x)/\l.sum<=left)
 |[],left,h=>by simp[okL];exact h
 |x::l,left,h=>by
  rw[okL,B9,C9,OL];by_cases hx:5<=x/\x<=left
  ·rw[kG l (left-x) F0];constructor
   ·rintro⟨_,h1,h2⟩;exact⟨λy hy=>(List.mem_cons.1 hy).elim (λe=>e▸hx.1) (h1 y),F0⟩
   ·rintro⟨h1,h2⟩;exact⟨hx,λy hy=>h1 y (O2 _ hy),F0⟩
  ·constructor
   ·rintro⟨h1,_⟩;exact absurd h1 hx
   ·rintro⟨h1,h2⟩;have h3:=h1 x P4;have:0<=l.sum:=Ub l λy hy=>h1 y (O2 _ hy);omega
theorem L7(l:LI)(hl:l.length<=1000):∀(j i q:Nat) (left:Int),i+j=l.length->j<q->0<=left->left<=100000->Pk l q left (i:Int)=some (if okL (l.drop i) left=true then 0 else 8)
 |0,i,q+1,left,hi,_,_,_=>by
  rw[Pk,EH,A! F2,show i=l.length by omega,RM];rfl
 |j+1,i,q+1,left,hi,hq,h0,h1=>by
  have hlt:i<l.length:=F0
  rw[Pk,EH,A4 F2,Cf hlt,Aa,drop_cons hlt];by_cases h:5<=l[i]/\l[i]<=left
  ·rw[A! NX,Bi,Ag];have ih:=L7 l hl j (i+1) q (left-l[i]) F0 F0 F0 F0;rw[show((i:Int)+1)=((i+1:Nat):Int) by omega,ih];simp[okL,h]
  ·rw[A4 NX];have:okL (l[i]::l.drop (i+1)) left=false:=by rw[okL,T6 h];rfl
   rw[this];rfl
def JY(l:LI):Bool:=decide (1<=l.length/\l.length<=1000)&&okL l 100000
theorem Bek(l:LI)(hl:l.length<=1000):Qf l=some (if JY l=true then 0 else 8):=by
 rw[Qf,DO,JY];by_cases h:1<=l.length
 ·rw[A! (by rw[Bb,Am,Ac];simp;constructor;(intro e;subst e;simp at h);omega),Alr];have:=L7 l hl l.length 0 Aq 100000 F0 C0 F0 F0;rw[Y']at this;rw[eC (show 1<=l.length/\l.length<=1000 from⟨h,hl⟩),R'];exact this
 ·have:l=[]:=by
   cases l with
   |nil=>rfl
   |cons _ _=>simp at h
  subst this;rfl
theorem Adm(l:LI)(hl:l.length<=1000):∀(j i q:Nat) (s:Int),i+j=l.length->j<q->0<=s->s<=100000*(i:Int)->Ir l q s (i:Int)=some (if(∀x∈l.drop i,5<=x/\x<=100000)/\s+(l.drop i).sum<=100000 then 0 else 8)
 |0,i,q+1,s,hi,_,_,_=>by
  rw[Ir,Tm,A! F2,show i=l.length by omega,RM,DM,DZ];by_cases h:s<=100000
  ·rw[A! J!,A4 F7]
  ·rw[A4 J!,A! F7]
 |j+1,i,q+1,s,hi,hq,h0,h1=>by
  have hlt:i<l.length:=F0
  rw[Ir,Tm,A4 F2,Cf hlt,Aa,drop_cons hlt];by_cases h5:l[i]<5
  ·rw[A4 (by rw[Af];simpa using h5),A! (λh=>by have:=(h.1 l[i] P4).1;omega)]
  ·rw[A! (by rw[Af];simpa using h5),Aa];by_cases h6:100000<l[i]
   ·rw[A4 (by rw[Am];simpa using h6),A! (λh=>by have:=(h.1 l[i] P4).2;omega)]
   ·rw[A! (by rw[Am];simpa using h6),FO,FK,Cf hlt,Aa,Ag,Ag];have ih:=Adm l hl j (i+1) q (s+l[i]) F0 F0 F0 F0;rw[show((i:Int)+1)=((i+1:Nat):Int) by omega,ih];have e:((∀x∈l.drop (i+1),5<=x/\x<=100000)/\s+l[i]+(l.drop (i+1)).sum<=100000)↔((∀x∈l[i]::l.drop (i+1),5<=x/\x<=100000)/\s+(l[i]::l.drop (i+1)).sum<=100000):=by
     rw[OL,List.forall_mem_cons,S7];constructor
     ·rintro⟨a,b⟩;exact⟨⟨F0,a⟩,b⟩
     ·rintro⟨⟨_,a⟩,b⟩;exact⟨a,b⟩
    simp only[e]
theorem ig:∀{l:LI},(∀x∈l,5<=x)->∀x∈l,x<=l.sum
 |[],_,x,hx=>by simp at hx
 |y::l,h,x,hx=>by
  have h1:=h y P4;have h2:=Ub l λz hz=>h z (O2 _ hz);rw[OL];rcases List.mem_cons.1 hx with rfl|hx
  ·omega
  ·have:=ig (l:=l) (λz hz=>h z (O2 _ hz)) x hx;omega
theorem Ayg (l:LI)(hl:l.length<=1000):It l=some (if JY l=true then 0 else 8):=by
 rw[It,Ta,JY];by_cases h:1<=l.length
 ·have:=Adm l hl l.length 0 Aq 0 F0 C0 F0 F0;rw[A! (by rw[Af,Am,Ac];simp;omega),FV];refine J2 this ?_;rw[Y',eC (show 1<=l.length/\l.length<=1000 from⟨h,hl⟩),R'];have e:((∀x∈l,5<=x/\x<=100000)/\0+l.sum<=100000)↔okL l 100000=true:=by
   rw[kG l 100000 F0,Int.zero_add];constructor
   ·rintro⟨a,b⟩;exact⟨λx hx=>(a x hx).1,b⟩
   ·rintro⟨a,b⟩;exact⟨λx hx=>⟨a x hx,Int.le_trans (ig a x hx) b⟩,b⟩
  simp only[e]
 ·have:l=[]:=by
   cases l with
   |nil=>rfl
   |cons _ _=>simp at h
  subst this;rfl
theorem Ak5(l:LI):Qf l=some (if JY l=true then 0 else 8):=by
 by_cases hl:l.length<=1000
 ·exact Bek l hl
 ·rw[Qf,DO,A4 D4,JY,T6 F0];rfl
theorem Az9(l:LI):It l=some (if JY l=true then 0 else 8):=by
 by_cases hl:l.length<=1000
 ·exact Ayg l hl
 ·rw[It,Ta,A4 D4,JY,T6 F0];rfl
theorem Abl(l:LI)(hl:l.length<=1000)(hx:∀x∈l,0<=x/\x<4294967296):Qf l=some (if JY l=true then 0 else 8):=Ak5 l
theorem Afz(l:LI)(hl:l.length<=1000)(hx:∀x∈l,0<=x/\x<4294967296):It l=some (if JY l=true then 0 else 8):=Az9 l
def SD(b:LB)(n:Nat):LI:=(List.range n).map λi=>(Eh (part b (4*i) 4):Int)
theorem CZ(b:LB)(n:Nat):(SD b n).length=n:=by simp[SD]
theorem Ace(b:LB)(n:Nat):SD b (n+1)=SD b n++[(Eh (part b (4*n) 4):Int)]:=by simp[SD,dW]
theorem oU(b:LB)(n:Nat)(h:4*n<=b.length):∀x∈SD b n,0<=x/\x<4294967296:=by
 intro x hx;simp only[SD,List.mem_map,XZ]at hx;obtain⟨i,hi,rfl⟩:=hx;have:=pq (l:=part b (4*i) 4) P?;omega
def Jv(b:LB)(n:Nat):LI×Int:=
 if ¬(1<=n/\n<=1000)then([],2)else if b.length<4*n+4 then([],24)else if(De (b.take (4*n))).toNat≠Eh (part b (4*n) 4)then([],22)else
 if JY (SD b n)=true then(SD b n,0)else([],12)
theorem q_{b:LB}{n:Nat}(h:1<=n/\n<=1000)(h2:¬b.length<4*n+4):Bl (Ad (De (b.take (4*n))):UInt64) (mB (part b (4*n) 4))=decide ((De (b.take (4*n))).toNat≠Eh (part b (4*n) 4)):=by
 rw[NM,Ct,H'];simp only[TJ,ne_eq,C9];rw[<-U!,TV (by have:=(De (b.take (4*n))).toNat_lt;omega),TW P?]
section
variable {b:LB} {n:Nat}
theorem ss1(h:¬(1<=n/\n<=1000)):Jv b n=([],2):=by rw[Jv,A4 h]
variable (h:1<=n/\n<=1000)
include h
theorem ss2(h2:b.length<4*n+4):Jv b n=([],24):=by rw[Jv,A! (λe=>e h),A4 h2]
variable (h2:¬b.length<4*n+4)
include h2
theorem ss3(h3:(De (b.take (4*n))).toNat≠Eh (part b (4*n) 4)):Jv b n=([],22):=by rw[Jv,A! (λe=>e h),A! h2,A4 h3]
theorem ss4(h3:(De (b.take (4*n))).toNat=Eh (part b (4*n) 4)):Jv b n=if JY (SD b n)=true then(SD b n,0)else([],12):=by rw[Jv,A! (λe=>e h),A! h2,A! (λe=>e h3)]
end
theorem Adc(b:LB)(l8:LI)(n:Nat)(hn:n<=1000)(h8:l8.length=n)(hb:4*n+4<=b.length)(hb2:b.length<4611686018427387904):∀(j i q:Nat),i+j=n->j<q->Se b l8 q (i:Int) (SD b i++List.replicate j 0)=HM (SD b n)
 |0,i,q+1,hi,_=>by
  obtain rfl:i=n:=F0
  rw[Se,HP,A! F2];simp
 |j+1,i,q+1,hi,hq=>by
  have hlen:(SD b i++List.replicate (j+1) 0).length=i+(j+1):=by simp[CZ]
  have ha:=S2 b (4*i) 4 F0 F0 F0 hb2;rw[Se,HP,A4 F2,Gp,show(4:Int)*(i:Int)=((4*i:Nat):Int) by omega,show(4:Int)=((4:Nat):Int)from rfl,ha,Aa];simp only;rw[Cf (by rw[hlen];omega),Aa,Ra _ (by rw[hlen];omega),Aa,HY P?,Ag,R8,YI (CZ _ _)];have ih:=Adc b l8 n hn h8 hb hb2 j (i+1) q F0 F0;rw[Ace]at ih;rw[show((i:Int)+1)=((i+1:Nat):Int) by omega,<-ih];simp
theorem uZ(b:LB)(n:Nat)(hb:b.length<=100100):GZ b (n:Int)=some (Jv b n):=by
 rw[GZ,VH];by_cases h:1<=n/\n<=1000
 ·rw[A! NX,Gp,Ag];by_cases h2:b.length<4*n+4
  ·rw[A4 F2,ss2 h h2]
  ·have ha:XB b (4*(n:Int)) 4=some (mB (part b (4*n) 4),0):=by
    rw[show(4:Int)*(n:Int)=((4*n:Nat):Int) by omega];exact S2 b (4*n) 4 F0 F0 F0 F0
   rw[A! F2,ha,Aa];simp only;rw[Ji,Aa,show(4*(n:Int)).toNat=4*n by omega,tW _ F7,Aa];simp only;rw[q_ h h2];by_cases h3:(De (b.take (4*n))).toNat=Eh (part b (4*n) 4)
   ·have hlp:=Adc b (List.replicate n 0) n F0 A7 F0 F0 n 0 Aq F0 C0;rw[A! (by simpa using h3),rK,Aa,Bf U?,Aa,Aq6,F?];refine J2 (hlp) ?_;rw[HM,Aqz,Abl _ (by rw[CZ];omega) (oU b n F0),Aa,ss4 h h2 h3];cases JY (SD b n)<;>rfl
   ·rw[A4 (by simpa using h3),ss3 h h2 h3]
 ·rw[A4 NX,ss1 h]
theorem Aqo(b:LB)(n:Nat)(hn:n<=1000)(hb:4*n+4<=b.length)(hb2:b.length<4611686018427387904):∀(j i q:Nat),i+j=n->j<q->Jk b (n:Int) q (i:Int) (SD b i)=Uw (SD b n)
 |0,i,q+1,hi,_=>by
  obtain rfl:i=n:=F0
  rw[Jk,Uq,A! P!]
 |j+1,i,q+1,hi,hq=>by
  have hc:Ca b ((4:Int)*(i:Int)) ((4:Int)*(i:Int)+4)=some (part b (4*i) 4):=by
   rw[show(4:Int)*(i:Int)=((4*i:Nat):Int) by omega];exact Ni (4*i) 4
  rw[Jk,Uq,A4 F9,Gp,Ag,hc,Aa,c! _ P?,Aa,Bu (by rw[CZ];simp;omega),Aa,
   HY P?,Ag,<-Ace]
  exact Aqo b n hn hb hb2 j (i+1) q F0 F0
theorem M6(b:LB)(n:Nat)(hb:b.length<=100100):Np b (n:Int)=some (Jv b n):=by
 rw[Np,IG];by_cases h:1<=n/\n<=1000
 ·rw[A! NX,Gp,Ag];by_cases h2:b.length<4*n+4
  ·rw[A4 F2,ss2 h h2]
  ·have hc:Ca b ((4:Int)*(n:Int)) ((4:Int)*(n:Int)+4)=some (part b (4*n) 4):=by
    rw[show(4:Int)*(n:Int)=((4*n:Nat):Int) by omega];exact Ni (4*n) 4
   have hs:Bl (mB (part b (4*n) 4)) (Ad (De (b.take (4*n))):UInt64)=decide ((De (b.take (4*n))).toNat≠Eh (part b (4*n) 4)):=by
    rw[<-q_ h h2,NM,NM,H'];simp only[TJ,ne_eq];exact not_congr eq_comm
   rw[A! F2,hc,Aa,Ji,Aa,show(4*(n:Int)).toNat=4*n by omega,c! _ P?,Aa,gO _ F7,Aa,hs];by_cases h3:(De (b.take (4*n))).toNat=Eh (part b (4*n) 4)
   ·have hlp:=Aqo b n F0 F0 F0 n 0 Aq F0 C0;rw[A! (by simpa using h3),JB,IF,KH];refine J2 hlp ?_;rw[Uw,JS,Afz _ (by rw[CZ];omega) (oU b n F0),Aa,ss4 h h2 h3];cases JY (SD b n)<;>rfl
   ·rw[A4 (by simpa using h3),ss3 h h2 h3]
 ·rw[A4 NX,ss1 h]
theorem zS{b:LB}{n:Nat}(h:(Jv b n).2=0):Jv b n=(SD b n,0)/\1<=n/\n<=1000/\4*n+4<=b.length/\ (∀x∈SD b n,5<=x)/\ (SD b n).sum<=100000:=by
 unfold Jv at h⊢;split at h; · simp at h
 rename_i c1;rw[A! c1];split at h; · simp at h
 rename_i c2;rw[A! c2];split at h; · simp at h
 rename_i c3;rw[A! c3];split at h
 ·rename_i c4;rw[A4 c4];have c4':=c4;rw[JY,B9,kG _ _ F0]at c4';exact⟨rfl,F0,F0,F0,c4'.2.1,c4'.2.2⟩
 ·simp at h
theorem fD{p:Prop}(h:p:=by rw[Ac];omega):p:=h
def Kz(b:LB):LB:=b.drop (Be b).1.toNat
abbrev Op8:=Int×Int×Int×Int×Int×Int×LI×Int
def dL(e:Int):Op8:=(0,0,0,0,0,0,[],e)
theorem vW(A K:Nat)(h:A<=200000)(hk:K<=1000):Ae (Ae (A:Int) (Bd 4 (K:Int))) 4=((A+4*K+4:Nat):Int):=by
 rw[Gp,Ag (a:=(A:Int)) F0 F0,Ag];omega
theorem tT{f c w r n:Nat}(h1:Ga f c w r n=true)(h2:EP c r n=true)(b:LB)(hb:b.length<=100100)(A:Nat)(hA:A<=b.length):
  Po b (f:Int) (c:Int) (w:Int) (r:Int) (n:Int) (A:Int)=
   some (if(Jv (b.drop A) (Ax (Ay r) n).length).2≠0 then dL (Jv (b.drop A) (Ax (Ay r) n).length).2 else((f:Int),(c:Int),(w:Int),(r:Int),(n:Int),((A+4*(Ax (Ay r) n).length+4:Nat):Int),(Jv (b.drop A) (Ax (Ay r) n).length).1,0)):=by
 rw[Po,Al3,gI h1 h2,Aa];simp only;rw[A! C6,Hb,Aa,Ac,show(A:Int).toNat=A from rfl,uZ _ _ F7,Aa];by_cases h:(Jv (b.drop A) (Ax (Ay r) n).length).2≠0
 ·rw[A4 h,A4 (by rw[Ak];simpa using h)];rfl
 ·have h0:(Jv (b.drop A) (Ax (Ay r) n).length).2=0:=by simpa using h
  obtain⟨g1,g2,g3,g4,g5,g6⟩:=zS h0;have gl:(Jv (b.drop A) (Ax (Ay r) n).length).1.length=(Ax (Ay r) n).length:=by rw[g1];exact CZ _ _
  rw[A! h,A! (by rw[Ak];simpa using h),Ac,gl,vW _ _ F0 F0]
theorem Ai5{f c w r n:Nat}(h1:Ga f c w r n=true)(h2:EP c r n=true)(b:LB)(hb:b.length<=100100)(A:Nat)(hA:A<=b.length):
  Kv b (f:Int) (c:Int) (w:Int) (r:Int) (n:Int) (A:Int)=
   some (if(Jv (b.drop A) (Ax (Ay r) n).length).2≠0 then dL (Jv (b.drop A) (Ax (Ay r) n).length).2 else((f:Int),(c:Int),(w:Int),(r:Int),(n:Int),((A+4*(Ax (Ay r) n).length+4:Nat):Int),(Jv (b.drop A) (Ax (Ay r) n).length).1,0)):=by
 have hs:(1<=r/\r<=1048576)/\1<=n/\1<=c:=by
  simp only[Ga,C9]at h1;omega
 have hf:n<=4000:=by
  simp only[EP,C9]at h2;have:=O' 4000 c;omega
 rw[Kv,BR,Hb,Aa,gY hs.1.2 hs.2.1 hf,Aa,Ac,show(A:Int).toNat=A from rfl,M6 _ _ F7,Aa];simp only;rw[BQ,CD];by_cases h:(Jv (b.drop A) (Ax (Ay r) n).length).2≠0
 ·rw[A4 h,A4 (by rw[Ak];simpa using h)];rfl
 ·have h0:(Jv (b.drop A) (Ax (Ay r) n).length).2=0:=by simpa using h
  obtain⟨g1,g2,g3,g4,g5,g6⟩:=zS h0;have gl:(Jv (b.drop A) (Ax (Ay r) n).length).1.length=(Ax (Ay r) n).length:=by rw[g1];exact CZ _ _
  rw[A! h,A! (by rw[Ak];simpa using h),Ac,gl,vW _ _ F0 F0]
structure Opn (b p:LB) (f c w r n A:Nat) (l:LI):Prop where
 prog:Ds b p=some ((f:Int),(c:Int),(w:Int),(r:Int),(n:Int),(A:Int),l,0)
 ref:Dw b p=some ((f:Int),(c:Int),(w:Int),(r:Int),(n:Int),(A:Int),l,0)
 pass:p.length<=64
 file:b.length<=100000
 shape:Ga f c w r n=true
 fit:EP c r n=true
 len:l.length=(Ax (Ay r) n).length
 some1:1<=l.length/\l.length<=1000
 five:∀x∈l,5<=x
 sum:l.sum<=100000
 at':A<=b.length
 tag:(Be b).2=0
 head:Jg (Kz b)=((f:Int),(c:Int),(w:Int),(r:Int),(n:Int),0)
 tab:Jv (b.drop ((Be b).1.toNat+22+(if f=2 then 8 else 0))) l.length=(l,0)
 pos:A=(Be b).1.toNat+22+(if f=2 then 8 else 0)+4*l.length+4
theorem xZ(b p:LB)(hb:b.length<=100100)(hp:p.length<=64):
  (∃e:Int,e≠0/\Ds b p=some (dL e)/\Dw b p=some (dL e))\/ (∃f c w r n A l,Opn b p f c w r n A l):=by
 by_cases h1:100000<b.length
 ·refine .inl ⟨4,F0,?_,?_⟩
  ·rw[Ds,Un,A! D4,A4 D4];rfl
  ·rw[Dw,Qk,A4 D4];rfl
 have hP:Ds b p=Ds b p:=rfl;have hR:Dw b p=Dw b p:=rfl
 conv at hP=>rhs;rw[Ds,Un,A! D4,A! D4,BD b F0,Aa]
 conv at hR=>rhs;rw[Dw,Qk,A! D4,CR b F0,Aa]
 by_cases h2:(Be b).2=0
 ·obtain⟨p0,p1,p2⟩:=VW h2;have hc:=Hb (l:=b) p0 p1;simp only[h2]at hP hR;rw[A! C6,hc,Aa,show b.drop (Be b).1.toNat=Kz b from rfl,kI _ (by simp[Kz];omega),Aa]at hP;rw[A! C6,hc,Aa,show b.drop (Be b).1.toNat=Kz b from rfl,eT _ (by simp[Kz];omega),Aa]at hR;by_cases h3:(Jg (Kz b)).2.2.2.2.2=0
  ·obtain⟨g1,g2,g3,g4⟩:=rF h3;have hlen:(Kz b).length=b.length-(Be b).1.toNat:=by simp[Kz]
   generalize hF:(Be b).1.toNat=F at*
   have hF':(Be b).1=(F:Int):=F0
   rw[g1,hF']at hP hR;simp only at hP hR;generalize f0 (Kz b)=f at*
   generalize f1 (Kz b)=c at*
   generalize f2 (Kz b)=w at*
   generalize f3 (Kz b)=r at*
   generalize f4 (Kz b)=n at*
   have t22:Ae (F:Int) 22=((F+22:Nat):Int):=by rw[Ag];omega
   have t30:Ae ((F+22:Nat):Int) 8=((F+30:Nat):Int):=by rw[Ag];omega
   have Ax8:f=1\/f=2:=by simp only[Ga,C9]at g3;omega
   rw[A! C6,t22,t30]at hP hR;have hend:∀A:Nat,A<=b.length->A=F+22+(if f=2 then 8 else 0)->Ds b p=Po b (f:Int) (c:Int) (w:Int) (r:Int) (n:Int) (A:Int)->Dw b p=Kv b (f:Int) (c:Int) (w:Int) (r:Int) (n:Int) (A:Int)->
     (∃e:Int,e≠0/\Ds b p=some (dL e)/\Dw b p=some (dL e))\/ (∃f c w r n A l,Opn b p f c w r n A l):=by
    intro A hA hA2 e1 e2;rw[tT g3 g4 b hb A hA]at e1;rw[Ai5 g3 g4 b hb A hA]at e2;by_cases h:(Jv (b.drop A) (Ax (Ay r) n).length).2≠0
    ·rw[A4 h]at e1 e2;exact .inl ⟨_,h,e1,e2⟩
    ·have h0:(Jv (b.drop A) (Ax (Ay r) n).length).2=0:=by simpa using h
     obtain⟨k1,k2,k3,k4,k5,k6⟩:=zS h0;have gl:(Jv (b.drop A) (Ax (Ay r) n).length).1.length=(Ax (Ay r) n).length:=by rw[k1];exact CZ _ _
     rw[A! h]at e1 e2;rw[Q5]at k4;refine .inr ⟨f,c,w,r,n,_,_,⟨e1,e2,hp,F0,g3,g4,gl,F0,by rw[k1];exact k5,by rw[k1];exact k6,F0,h2,g1,by rw[gl,hF,<-hA2];exact Prod.ext rfl h0,by rw[gl,hF,<-hA2]⟩⟩
   by_cases YE:((p==([]:LB)) !=(geq (f:Int) (1:Int)))=true
   ·rw[A4 YE]at hP hR;exact .inl ⟨26,F0,hP,hR⟩
   ·rw[A! YE]at hP hR;have hpf:(p=[]↔f=1):=by
     rw[Bb]at YE;have h5:(p==([]:LB))=((f:Int)==1):=by simpa using YE
     have h6:(p==([]:LB))=true↔((f:Int)==1)=true:=by rw[h5]
     rw[Q7,Q7]at h6;rw[h6];omega
    by_cases h5:f=2
    ·have cM:p≠ []:=λe=>by have:=hpf.1 e;omega
     have h64:(p !=([]:LB))=true:=by simpa using cM
     rw[A4 h64]at hP;rw[A4 (by rw[Bb,h5];rfl),Bi fD fD]at hR;by_cases h6:b.length<F+30
     ·rw[A4 F2]at hP hR;exact .inl ⟨24,F0,hP,hR⟩
     ·have hseg:((b.take (F+30)).drop (F+22)).length=8:=by simp;omega
      rw[A! F2,Qo,Aa]at hP hR;rw[Wg,tF p hp,Aa]at hP;rw[Ab2 p hp,Aa]at hR;simp only at hP;rw[A! (by rw[Ak,Ak,Ac,Ac,Bj,show((F+30:Nat):Int).toNat=F+30 from rfl,show((F+22:Nat):Int).toNat=F+22 from rfl,hseg];simp),Ha,Aa,Aa]at hP;simp only at hP;rw[A! C6]at hP;generalize(b.take ((F+30:Nat):Int).toNat).drop ((F+22:Nat):Int).toNat=seg at*
      by_cases h7:seg=Mn (Xt p).toNat 8
      ·rw[A! (by simp[h7])]at hP;rw[A! (by simp[h7])]at hR;exact hend (F+30) F0 (by rw[A4 h5]) hP hR
      ·rw[A4 (by simpa using h7)]at hP;rw[A4 (by simpa using h7)]at hR;exact .inl ⟨26,F0,hP,hR⟩
    ·have hpe:p=[]:=hpf.2 F0;rw[A! (by rw[hpe];simp)]at hP;rw[A! L9]at hR;exact hend (F+22) F0 (by rw[A! h5]) hP hR
  ·generalize Jg (Kz b)=v at*
   obtain⟨v1,v2,v3,v4,v5,v6⟩:=v;simp only at h3 hP hR;rw[A4 (by rw[Ak];simpa using h3)]at hP hR;exact .inl ⟨v6,h3,hP,hR⟩
 ·generalize Be b=v at*
  obtain⟨v,e⟩:=v;simp only at h2 hP hR;rw[A4 (by rw[Ak];simpa using h2)]at hP hR;exact .inl ⟨e,h2,hP,hR⟩
theorem Ahk(l:LI)(i:Nat):(l.take i).sum+(l.drop i).sum=l.sum:=by
 conv=>rhs;rw[<-T4 i l,mT]
theorem Kf{l:LI}(h5:∀x∈l,5<=x)(i:Nat):0<= (l.take i).sum/\ (l.take i).sum<=l.sum:=by
 have h1:=Ub (l.take i) λx hx=>h5 x (lR hx);have h2:=Ub (l.drop i) λx hx=>h5 x (ZP hx);have:=Ahk l i;omega
theorem Yb{l:LI}{i:Nat}(h:i<l.length):(l.take (i+1)).sum=(l.take i).sum+l[i]:=by
 rw[Mx h,mT];simp
section
variable {l:LI} (hl:l.length<=1000) (h5:∀x∈l,5<=x) (hs:l.sum<=100000)
include hl h5 hs
theorem G8(f c w r n A:Int)(hA:0<=A)(hA2:A<=200000)(k:Nat)(hk:k<=l.length):∀(j i q:Nat),i+j=k->j<q->Io (k:Int) f c w r n A l q (A+(l.take i).sum) (i:Int)=some (A+(l.take k).sum)
 |0,i,q+1,hi,_=>by
  rw[Io,Te,A! F9,show i=k by omega];rfl
 |j+1,i,q+1,hi,hq=>by
  have hlt:i<l.length:=F0
  have ih:=G8 f c w r n A hA hA2 k hk j (i+1) q F0 F0;have b1:=Kf h5 i;have b2:=Kf h5 (i+1);have e:=Yb hlt;rw[e,<-S7]at ih;rw[Io,Te,A4 F9,Cf hlt,Aa,Ag,Ag];exact ih
theorem Afo(f c w r n A:Int)(hA:0<=A)(hA2:A<=200000)(k:Nat)(hk:k<=l.length):Aa5 f c w r n A l (k:Int)=some (A+(l.take k).sum):=by
 have h:=G8 hl h5 hs f c w r n A hA hA2 k hk k 0 Aq F0 C0;rw[R!,a!,Int.add_zero]at h;exact h
end
theorem Aaa{g n:Nat}(hg:1<=g)(hn:1<=n){x:Int}(h:x∈Ax g n):∃m:Nat,x=m/\1<=m/\m<=n:=by
 have hmul:=T5 (n-1) g;rw[Ax,mQ]at h;rcases h with h|h
 ·rw[List.mem_replicate]at h;have h1:1<= (n-1)/g:=Nat.pos_of_ne_zero h.1;have:=ES g h1;exact⟨g,h.2,hg,F0⟩
 ·rw[mD]at h;exact⟨_,h,F0,F0⟩
theorem WA{f c w r n:Nat}(h:Ga f c w r n=true):(1<=c/\c<=6)/\Cj (w:Int)/\ (1<=r/\r<=1048576)/\1<=n/\ (f=1\/f=2):=by
 simp only[Ga,C9]at h;refine⟨h.2.1,?_,h.2.2.2.1,h.2.2.2.2,h.1⟩;rcases h.2.2.1 with rfl|rfl|rfl
 ·exact .inl rfl
 ·exact .inr (.inl rfl)
 ·exact .inr (.inr rfl)
theorem YD{p:Prop}(h:p:=by rw[J1];omega):p:=h
theorem u_(n m:Nat):Fc n m 0≠Fc n m 2147483648:=by
 intro h;simp[Fc,Mn,tO]at h
def Bv(b:LB):LB:=b.drop (b.length-32)
theorem Adz{b:LB}(h:32<=b.length):(Bv b).length=32:=by rw[Bv,Q5];omega
def EO(t:LB):Nat:=Eh (part t 12 4)-32
def xD(t:LB):Nat:=Eh (part t 16 4)
def Rr(b:LB):Int×Int:=
 if ¬(32<=b.length/\ (Bv b).take 8=tO)then(0,6)else if ER (Bv b)=true then(0,12)else
 if Bv b=Fc (EO (Bv b)) (xD (Bv b)) 0 then(if b.length<EO (Bv b)+32 then(0,24)else(((EO (Bv b)+32:Nat):Int),0))else
 if Bv b≠Fc (EO (Bv b)) (xD (Bv b)) 2147483648 then(0,12)else
 if b.length<EO (Bv b)+64 then(0,24)else
 if(b.take (b.length-(EO (Bv b)+64)+32)).drop (b.length-(EO (Bv b)+64))≠Fc (EO (Bv b)) (xD (Bv b)) 2684354560 then(0,12)else(((EO (Bv b)+64:Nat):Int),0)
section
variable {b:LB}
theorem ba1(h:¬(32<=b.length/\ (Bv b).take 8=tO)):Rr b=(0,6):=by rw[Rr,A4 h]
variable (h:32<=b.length/\ (Bv b).take 8=tO)
include h
theorem ba2(h2:ER (Bv b)=true):Rr b=(0,12):=by rw[Rr,A! (λh'=>h' h),A4 h2]
variable (h2:ER (Bv b)=false)
include h2
theorem ba3(h3:Bv b=Fc (EO (Bv b)) (xD (Bv b)) 0):Rr b=if b.length<EO (Bv b)+32 then(0,24)else(((EO (Bv b)+32:Nat):Int),0):=by
 rw[Rr,A! (λh'=>h' h),A! (by rw[h2];simp),A4 h3]
variable (h3:Bv b≠Fc (EO (Bv b)) (xD (Bv b)) 0)
include h3
theorem ba4(h4:Bv b≠Fc (EO (Bv b)) (xD (Bv b)) 2147483648):Rr b=(0,12):=by
 rw[Rr,A! (λh'=>h' h),A! (by rw[h2];simp),A! h3,A4 h4]
variable (h4:Bv b=Fc (EO (Bv b)) (xD (Bv b)) 2147483648)
include h4
theorem ba5(h5:b.length<EO (Bv b)+64):Rr b=(0,24):=by
 rw[Rr,A! (λh'=>h' h),A! (by rw[h2];simp),A! h3,A! (λe=>e h4),A4 h5]
theorem ba6(h5:¬b.length<EO (Bv b)+64):Rr b=if(b.take (b.length-(EO (Bv b)+64)+32)).drop (b.length-(EO (Bv b)+64))≠Fc (EO (Bv b)) (xD (Bv b)) 2684354560 then(0,12)else(((EO (Bv b)+64:Nat):Int),0):=by
 rw[Rr,A! (λh'=>h' h),A! (by rw[h2];simp),A! h3,A! (λe=>e h4),A! h5]
end
theorem Ad6{b:LB}{n:Int}(h:Rr b=(n,0)):32<=n/\n<=b.length:=by
 unfold Rr at h;split at h; · simp at h
 rename_i h32;split at h; · simp at h
 split at h
 ·split at h; · simp at h
  simp only[O7,Wp]at h;omega
 split at h; · simp at h
 split at h; · simp at h
 split at h; · simp at h
 simp only[O7,Wp]at h;omega
theorem Af8{b:LB}(h:(Rr b).2≠0):(Rr b).1=0:=by
 revert h
 unfold Rr;split; · simp
 split; · simp
 split
 ·split<;>simp
 split; · simp
 split; · simp
 split<;>simp
theorem vL{b:LB}(h:32<=b.length)(hl:b.length<4611686018427387904):Ah (Ac b) 32=((b.length-32:Nat):Int)/\Ca b ((b.length-32:Nat):Int) (Ac b)=some (Bv b):=by
 refine⟨by rw[Ac,Bi];omega,?_⟩;rw[Hb];rfl
theorem Ah2(b:LB)(hl:b.length<4611686018427387904):pR b=some (Rr b):=by
 rw[pR,Auw];by_cases h32:32<=b.length
 ·obtain⟨e1,e2⟩:=vL h32 hl;have hl3:=Adz h32;rw[A! (by rw[e1,Af];simp),e1,e2,Aa,ZI,Aa];by_cases hp:(Bv b).take 8=tO
  ·have h:=And.intro h32 hp;rw[A! (by simpa [tO,hl3]using hp),Atv,Ava,e1,e2,Aa,ZS _ 0 F0 F0 F6,Aa];cases hb:ER (Bv b)with
   |true=>
    rw[ba2 h hb];simp only[P9,OI,N!];rw[Aa,ZS _ 2147483648 F0 F0 F6,Aa,hb];rfl
   |false=>
    obtain⟨i1,i2,i3,i4⟩:=tQ (Bv b) F0 hb;have eI:Eh (part (Bv b) 12 4)-32=EO (Bv b):=rfl;have eM:Eh (part (Bv b) 16 4)=xD (Bv b):=rfl;simp only[OI,N!];rw[eI]at i3;rw[eM]at i4;rw[eI,eM];by_cases c1:Bv b=Fc (EO (Bv b)) (xD (Bv b)) 0
    ·have c1':Bv b=Fc (EO (Bv b)) (xD (Bv b)) (0:UInt64).toNat:=c1;rw[A4 (by simpa using c1'),ba3 h hb c1];by_cases c2:b.length<EO (Bv b)+32
     ·rw[A4 F9,A4 c2]
     ·rw[A! F9,A! c2,Ag];rfl
    ·have c1':¬Bv b=Fc (EO (Bv b)) (xD (Bv b)) (0:UInt64).toNat:=c1;rw[A! (by simpa using c1'),Aa,ZS _ 2147483648 F0 F0 F6,Aa,hb];simp only[OI,N!];rw[eI,eM];by_cases c2:Bv b=Fc (EO (Bv b)) (xD (Bv b)) 2147483648
     ·have c2':Bv b=Fc (EO (Bv b)) (xD (Bv b)) (2147483648:UInt64).toNat:=c2;rw[A! (by simpa using c2'),Ag];by_cases c3:b.length<EO (Bv b)+64
      ·rw[A4 F2,ba5 h hb c1 c2 c3]
      ·rw[A! F2,Ac,Bi,Ag,Qo,Aa,VZ _ _ _ i3 i4 F6,Aa,Ha,Aa,ba6 h hb c1 c2 c3];rw[show((b.length:Int)-(((EO (Bv b):Nat):Int)+64)).toNat=b.length-(EO (Bv b)+64) by omega,show((b.length:Int)-(((EO (Bv b):Nat):Int)+64)+32).toNat=b.length-(EO (Bv b)+64)+32 by omega];have e7:(2684354560:UInt64).toNat=2684354560:=rfl;rw[e7];by_cases c4:(b.take (b.length-(EO (Bv b)+64)+32)).drop (b.length-(EO (Bv b)+64))=Fc (EO (Bv b)) (xD (Bv b)) 2684354560
       ·rw[A! (by simpa using c4),A! (λe=>e c4)];rfl
       ·rw[A4 (by simpa using c4),A4 c4]
     ·have c2':¬Bv b=Fc (EO (Bv b)) (xD (Bv b)) (2147483648:UInt64).toNat:=c2;rw[A4 (by simpa using c2'),ba4 h hb c1 c2]
  ·rw[A4 (by rw[OR,T_];intro h;exact hp h.2),ba1 (λh=>hp h.2)]
 ·rw[A4 (by rw[Ac,Bi,Af];simp;omega),ba1 (λh=>h32 h.1)]
theorem Ape{b:LB}(h:32<=b.length):(b.take (b.length-32+8)).drop (b.length-32)=(Bv b).take 8:=by
 rw[Bv,List.take_drop]
theorem Al7(b:LB)(hl:b.length<4611686018427387904):CB b=some (Rr b):=by
 rw[CB,IC];by_cases h32:32<=b.length
 ·obtain⟨e1,e2⟩:=vL h32 hl;have hl3:=Adz h32;rw[A! F2,e1,Ag,Qo,Aa,show((b.length-32:Nat):Int).toNat=b.length-32 from rfl,show(((b.length-32:Nat):Int)+8).toNat=b.length-32+8 by omega,Ape h32];by_cases hp:(Bv b).take 8=tO
  ·have h:=And.intro h32 hp;rw[A! (by simpa [tO]using hp),KG,KD,e1,e2,Aa,Awu _ F0 F0,Aa];cases hb:ER (Bv b)with
   |true=>rw[ba2 h hb];rfl
   |false=>
    obtain⟨i1,i2,i3,i4⟩:=tQ (Bv b) F0 hb;have eI:Eh (part (Bv b) 12 4)-32=EO (Bv b):=rfl;have eM:Eh (part (Bv b) 16 4)=xD (Bv b):=rfl;simp only[OI,N!,TI];rw[eI]at i3;rw[eM]at i4;rw[eI,eM,Jz,A4 rfl,sJ _ _ _ i3 i4 F6,Aa,Aa];have e7:(2147483648:UInt64).toNat=2147483648:=rfl;have e8:(2684354560:UInt64).toNat=2684354560:=rfl;rw[e7];by_cases c2:Bv b=Fc (EO (Bv b)) (xD (Bv b)) 2147483648
    ·have c1:Bv b≠Fc (EO (Bv b)) (xD (Bv b)) 0:=λe=>u_ (EO (Bv b)) (xD (Bv b)) (e.symm.trans c2);rw[A! (by simpa using c2),Ux,Uj,A4 (by simpa using c2),Vl,Vp,Ag (a:=32) F0 F0,Ag];by_cases c3:b.length<EO (Bv b)+64
     ·rw[A4 F2,ba5 h hb c1 c2 c3]
     ·rw[A! F2,A4 (by simpa using c2),Ac,Bi,Ag,Qo,Aa,Tx,sJ _ _ _ i3 i4 F6,Aa,Aa,ba6 h hb c1 c2 c3,e8];rw[show((b.length:Int)-(32+((EO (Bv b):Nat):Int)+32)).toNat=b.length-(EO (Bv b)+64) by omega,show((b.length:Int)-(32+((EO (Bv b):Nat):Int)+32)+32).toNat=b.length-(EO (Bv b)+64)+32 by omega];by_cases c4:(b.take (b.length-(EO (Bv b)+64)+32)).drop (b.length-(EO (Bv b)+64))=Fc (EO (Bv b)) (xD (Bv b)) 2684354560
      ·rw[A! (by simpa using c4),A! (λe=>e c4),show(32+((EO (Bv b):Nat):Int)+32)=((EO (Bv b)+64:Nat):Int) by omega]
      ·rw[A4 (by simpa using c4),A4 c4]
    ·rw[A4 (by simpa using c2),Jz,A! A7,sJ _ _ _ i3 i4 F6,Aa,Aa];have e9:(0:UInt64).toNat=0:=rfl;rw[e9];by_cases c1:Bv b=Fc (EO (Bv b)) (xD (Bv b)) 0
     ·rw[A! (by simpa using c1),Ux,Uj,A! (by simpa using c2),Vl,Vp,Ag,ba3 h hb c1,A! (c:=(Bv b==Fc (EO (Bv b)) (xD (Bv b)) 2147483648)=true) (by simpa using c2)];by_cases c3:b.length<EO (Bv b)+32
      ·rw[A4 F2,A4 c3]
      ·rw[A! F2,A! c3,show(32+((EO (Bv b):Nat):Int))=((EO (Bv b)+32:Nat):Int) by omega]
     ·rw[A4 (by simpa using c1),ba4 h hb c1 c2]
  ·rw[A4 (by simpa [tO]using hp),ba1 (λh=>hp h.2)]
 ·rw[A4 F2,ba1 (λh=>h32 h.1)]
def K3:Nat->LB->Nat->Int×Int
 |0,_,_=>(0,38)
 |j+1,b,a=>if b=[]then((a:Int),0)else if(Rr b).2≠0 then(0,38)else K3 j (b.take (b.length-(Rr b).1.toNat)) (a+1)
theorem O!:∀(j q a:Nat) (b:LB),b.length<j->j<=q->b.length<=4000->a+b.length<=4000->Rq q (a:Int) b=some (K3 j b a)
 |0,_,_,_,h,_,_,_=>by omega
 |j+1,q+1,a,b,h,hq,h4,ha=>by
  rw[Rq,LZ,K3];by_cases hb:b=[]
  ·subst hb;rw[A! F6,A4 rfl];rfl
  ·have hpos:0<b.length:=List.length_pos_iff.2 hb;rw[A4 D4,A! hb,Ah2 b F0,Aa];have hbad:=Af8 (b:=b);have hok:=λn=>Ad6 (b:=b) (n:=n);generalize Rr b=v at*
   obtain⟨n,e⟩:=v;simp only at hbad⊢;rw[GY,Aem];by_cases he:e≠0
   ·rw[A4 he,hbad he,A4 F6]
   ·obtain⟨k1,k2⟩:=hok n (by rw[show e=0 by simpa using he]);rw[A! he,A! L9,Ac,Bi,Ji,Aa,Aeo,Aep,Ag];rw[show((b.length:Int)-n).toNat=b.length-n.toNat by omega];have ih:=O! j q (a+1) (b.take (b.length-n.toNat)) YD F0 YD YD;rw[<-ih];rfl
theorem qC:∀(j q a:Nat) (b:LB),b.length<j->j<=q->b.length<=4000->a+b.length<=4000->Le q b (a:Int)=some (K3 j b a)
 |0,_,_,_,h,_,_,_=>by omega
 |j+1,q+1,a,b,h,hq,h4,ha=>by
  rw[Le,EM,K3];by_cases hb:b=[]
  ·subst hb;rw[A! F6,A4 rfl];rfl
  ·have hpos:0<b.length:=List.length_pos_iff.2 hb;rw[A4 D4,A! hb,Al7 b F0,Aa];have hok:=λn=>Ad6 (b:=b) (n:=n);generalize Rr b=v at*
   obtain⟨n,e⟩:=v;simp only;by_cases he:e≠0
   ·rw[A4 he,A4 (by rw[Ak];simpa using he)]
   ·obtain⟨k1,k2⟩:=hok n (by rw[show e=0 by simpa using he]);rw[A! he,A! (by rw[Ak];simpa using he),Ac,Bi,Ji,Aa,Ag];rw[show((b.length:Int)-n).toNat=b.length-n.toNat by omega];have ih:=qC j q (a+1) (b.take (b.length-n.toNat)) YD F0 YD YD;rw[<-ih];rfl
def Rg(b:LB):Int×Int:=if 4000<b.length then(0,38)else K3 (b.length+1) b 0
theorem Bal(b:LB)(hl:b.length<4611686018427387904):NN b=some (Rg b):=by
 rw[NN,LV,Rg];by_cases h:4000<b.length
 ·rw[A4 D4,A4 h]
 ·rw[A! D4,A! h];exact O! _ Aq 0 b F0 C0 F0 F0
theorem Abu(b:LB)(hl:b.length<4611686018427387904):Wz b=some (Rg b):=by
 rw[Wz,BK,Rg];by_cases h:4000<b.length
 ·rw[A4 D4,A4 h]
 ·rw[A! D4,A! h];exact qC _ Aq 0 b F0 C0 F0 F0
theorem uM{a b:Nat}(h:a<9223372036854775808:=by omega):Cb (a:Int) (b:Int)=((a/b:Nat):Int):=by
 have:a/b<=a:=O' _ _;rw[LC,TQ F0,<-lZ];generalize a/b=k at*
 exact Bq F0 F0
theorem sU{bits:Int}(h:Cj bits)(x:Int):(GL bits x).length=wB bits:=by
 obtain rfl|rfl|rfl:=h<;>rfl
theorem eJ{bits:Int}(h:Cj bits):∀l:LX,(Ey bits l).length=l.length*wB bits
 |[]=>by simp[Ey]
 |x::l=>by
  have h1:=eJ h l;have h2:=sU h x.toInt;simp only[Ey,cV,B6,I!,RW]at*
  omega
def r!(b:LB)(A:Nat)(l:LI)(k:Nat):LB:=(b.take ((A:Int)+(l.take (k+1)).sum).toNat).drop ((A:Int)+(l.take k).sum).toNat
structure Gts (b p:LB) (f c w r n A:Nat) (l:LI) (k m:Nat) (x:LX) (s:LB) (e:Int):Prop where
 mom:Aj (Ax (Ay r) n) (k:Int)=some (m:Int)
 pos:1<=m/\m*c<=4000
 got:Pp b p (f:Int) (c:Int) (w:Int) (r:Int) (n:Int) (A:Int) l (k:Int)=some (s,e)
 none':e≠0->s=[]/\x=[]
 some':e=0->s=Ey (w:Int) x/\x.length=m*c/\Ap (w:Int) x=some 0/\KO (w:Int) x=some (s,0)/\ (A:Int)+(l.take (k+1)).sum<=b.length
 way:((b.length:Int)<(A:Int)+(l.take (k+1)).sum/\e=24)\/ ((A:Int)+(l.take (k+1)).sum<=b.length/\Lk (c:Int) (w:Int) (Xe p) (m:Int) (r! b A l k)=some (x,e)/\Du (c:Int) (w:Int) (Xe p) (m:Int) (r! b A l k)=some (x,e))
theorem sR{b p:LB}{f c w r n A:Nat}{l:LI}(o:Opn b p f c w r n A l)(k:Nat)(hk:k<l.length):∃m x s e,Gts b p f c w r n A l k m x s e:=by
 obtain⟨hc,hw,hr,hn,_⟩:=WA o.shape;have hfit:n<=4000/c:=by have:=o.fit;simp only[EP,C9]at this;exact this.1
 have hn4:n<=4000:=by have:=O' 4000 c;omega
 have hA:=o.at';have Z9:=o.file;have hlen:=o.len;have b1:=Kf o.five k;have b2:=Kf o.five (k+1);have e:=Yb hk;have h5:=o.five l[k] (P1 _);have hsum:=o.sum;have hs1:=o.some1;have hkf:k<(Ax (Ay r) n).length:=F0
 obtain⟨m,hm,m1,m2⟩:=Aaa (Qb r) hn (P1 hkf);have cN:Aj (Ax (Ay r) n) (k:Int)=some (m:Int):=by rw[Cf hkf,hm]
 have hpos:1<=m/\m*c<=4000:=by
  refine⟨m1,?_⟩;have:=ES c (U4 m2 hfit);have:=T5 4000 c;omega
 have hR:Pp b p (f:Int) (c:Int) (w:Int) (r:Int) (n:Int) (A:Int) l (k:Int)=Pp b p (f:Int) (c:Int) (w:Int) (r:Int) (n:Int) (A:Int) l (k:Int):=rfl
 conv at hR=>rhs;rw[Pp,MS,Afo hs1.2 o.five o.sum _ _ _ _ _ (A:Int) F0 F0 k F0,Aa,Cf hk,Aa,Bi fD fD]
 by_cases hto:(b.length:Int)<(A:Int)+(l.take (k+1)).sum
 ·rw[A4 (by rw[Af,Ac,C9];omega)]at hR;exact⟨m,[],[],24,cN,hpos,hR,λ_=>⟨rfl,rfl⟩,λh=>by simp at h, .inl ⟨hto,rfl⟩⟩
 ·rw[A! (by rw[Af,Ac,C9];omega),K! p o.pass,gY hr.2 hn hn4]at hR;simp only[Aa]at hR;rw[Ag (a:=(A:Int)+(l.take k).sum) (b:=l[k]) F0 F0,S7,<-e,cN]at hR;simp only[Aa]at hR;rw[Qo,Aa]at hR;obtain⟨x,er,g1,g2,g3,g4⟩:=Aum (ch:=c) (n:=m) (t:=Xe p) (r! b A l k) hw (nQ p) hc.1 hc.2 m1 F0;rw[show(b.take ((A:Int)+(l.take (k+1)).sum).toNat).drop ((A:Int)+(l.take k).sum).toNat=r! b A l k from rfl,g2,Aa]at hR;simp only at hR;rw[MU,MZ]at hR;by_cases her:er=0
  ·obtain⟨g5,g6,g7⟩:=g3 her;rw[A! (by rw[Ak];simpa using her),Agi hw g6 g5,Aa]at hR;subst her;exact⟨m,x,_,0,cN,hpos,hR,λh=>absurd rfl h,λ_=>⟨rfl,g7,g5,Aax hw g6 g5,F0⟩, .inr ⟨F0,g1,g2⟩⟩
  ·rw[A4 (by rw[Ak];simpa using her)]at hR;exact⟨m,x,_,er,cN,hpos,hR,λh=>⟨rfl,g4 h⟩,λh=>absurd h her, .inr ⟨F0,g1,g2⟩⟩
theorem Gts.lens{b p:LB}{f c w r n A:Nat}{l:LI}{k m:Nat}{x:LX}{s:LB}{e:Int}(hw:Cj (w:Int))(g:Gts b p f c w r n A l k m x s e):s.length<=12000/\x.length<=4000/\ (e=0->s.length=m*c*wB (w:Int)):=by
 by_cases he:e=0
 ·obtain⟨h1,h2,_⟩:=g.some' he;have h3:=aV (w:Int) x;have h4:=eJ hw x;have h5:=g.pos;rw[<-h1]at h3 h4;refine⟨F0,F0,λ_=>by rw[h4,h2]⟩
 ·obtain⟨h1,h2⟩:=g.none' he;exact⟨by simp[h1],by simp[h2],λh=>absurd h he⟩
def H7(G:Nat->LB×Int)(be:Int):Nat->Nat->LB->LB×Int
 |0,_,acc=>if be≠0 then([],38)else(acc,0)
 |j+1,k,acc=>if(G k).2≠0 then([],(G k).2)else H7 G be j (k+1) (acc++(G k).1)
def lG(b p:LB)(f c w r n A:Nat)(l:LI)(k:Nat):LB×Int:=(Pp b p (f:Int) (c:Int) (w:Int) (r:Int) (n:Int) (A:Int) l (k:Int)).getD ([],0)
theorem Gts.eq{b p:LB}{f c w r n A:Nat}{l:LI}{k m:Nat}{x:LX}{s:LB}{e:Int}(g:Gts b p f c w r n A l k m x s e):lG b p f c w r n A l k=(s,e):=by rw[lG,g.got];rfl
def P7(b:LB)(A:Nat)(l:LI):Int:=(Rg (b.drop ((A:Int)+l.sum).toNat)).2
def lH(b:LB)(k:Nat):Nat:=(b.getD k 0).toNat
def sx(n:Nat)(b:LB)(a:Nat):Int:=
 if n=1 then(lH b a:Int)-128 else
 if n=2 then(if lH b a+256*lH b (a+1)<32768 then(lH b a+256*lH b (a+1):Nat)else((lH b a+256*lH b (a+1):Nat):Int)-65536)else
 (if lH b a+256*lH b (a+1)+65536*lH b (a+2)<8388608 then(lH b a+256*lH b (a+1)+65536*lH b (a+2):Nat)else((lH b a+256*lH b (a+1)+65536*lH b (a+2):Nat):Int)-16777216)
def sxs(n m:Nat)(b:LB):LX:=(List.range m).map λx=>Int32.ofInt (sx n b (x*n))
theorem Ao1(n m:Nat)(b:LB):(sxs n m b).length=m:=by simp[sxs]
theorem sx2(b:LB)(a:Nat):sx 2 b a=if lH b a+256*lH b (a+1)<32768 then((lH b a+256*lH b (a+1):Nat):Int)else((lH b a+256*lH b (a+1):Nat):Int)-65536:=rfl
theorem sx3(b:LB)(a:Nat):sx 3 b a=if lH b a+256*lH b (a+1)+65536*lH b (a+2)<8388608 then((lH b a+256*lH b (a+1)+65536*lH b (a+2):Nat):Int)else((lH b a+256*lH b (a+1)+65536*lH b (a+2):Nat):Int)-16777216:=rfl
variable (b:LB)
end Go.Pl
namespace Go.Pl
open Go Go.Lv
end Go.Pl
namespace Go.Pl
open Go Go.Lv
variable{bits e:Int}
def smF(w:Nat)(y:LB×Int):LX:=if y.2≠0 then []else sxs (wB (w:Int)) (y.1.length/wB (w:Int)) y.1
theorem tY(z:Int):(u8 z).toNat=(z %256).toNat:=by
 have:(z %256).toNat<256:=F0
 rw[u8,M5,B4 F0]
theorem Aw7{bits:Int}(h:Cj bits):∀(l:LX) (i j:Nat),i<l.length->j<wB bits-> (Ey bits l).getD (i*wB bits+j) 0=(GL bits (l.getD i 0).toInt).getD j 0
 |[],i,j,hi,_=>by simp at hi
 |x::l,0,j,_,hj=>by
  have h1:=sU h x.toInt;have e:Ey bits (x::l)=GL bits x.toInt++Ey bits l:=by simp[Ey]
  rw[e,dT,J?,D!,D!,O1 F0];rfl
 |x::l,i+1,j,hi,hj=>by
  have h1:=sU h x.toInt;have e:Ey bits (x::l)=GL bits x.toInt++Ey bits l:=by simp[Ey]
  have ih:=Aw7 h l i j (by simpa using hi) hj;have e2:(i+1)*wB bits+j=(GL bits x.toInt).length+(i*wB bits+j):=by rw[I8,Y4,h1];omega
  rw[e,e2,D!,P3 F0,T!,<-D!,ih];rfl
theorem Aqg(h:Cj bits)(l:LX)(hr:inR bits l)(i:Nat)(hi:i<l.length):Int32.ofInt (sx (wB bits) (Ey bits l) (i*wB bits))=l.getD i 0:=by
 have hm:l.getD i 0∈l:=by rw[D!,KV hi];exact P1 hi
 have hv:=hr _ hm;have g:∀j,j<wB bits->lH (Ey bits l) (i*wB bits+j)=((GL bits (l.getD i 0).toInt).getD j 0).toNat:=λj hj=>by rw[lH,Aw7 h l i j hi hj]
 generalize l.getD i 0=x at*
 have key:sx (wB bits) (Ey bits l) (i*wB bits)=x.toInt:=by
  generalize hA:i*wB bits=a at*
  obtain rfl|rfl|rfl:=h
  ·have g0:=g 0 F6;have e1:(GL 8 x.toInt).getD 0 0=u8 (x.toInt+128):=rfl;rw[PN,e1,tY]at g0;simp only[hB]at hv;simp at hv;have e2:wB 8=1:=rfl;rw[e2,sx,A4 rfl,g0];omega
  ·have g0:=g 0 F6;have g1:=g 1 F6;have e0:(GL 16 x.toInt).getD 0 0=u8 x.toInt:=rfl;have e1:(GL 16 x.toInt).getD 1 0=u8 (x.toInt/256):=rfl;rw[PN,e0,tY]at g0;rw[e1,tY]at g1;simp only[hB]at hv;simp at hv;have e2:wB 16=2:=rfl;rw[e2,sx2,g0,g1];split<;>omega
  ·have g0:=g 0 F6;have g1:=g 1 F6;have g2:=g 2 F6;have e0:(GL 24 x.toInt).getD 0 0=u8 x.toInt:=rfl;have e1:(GL 24 x.toInt).getD 1 0=u8 (x.toInt/256):=rfl;have e3:(GL 24 x.toInt).getD 2 0=u8 (x.toInt/65536):=rfl;rw[PN,e0,tY]at g0;rw[e1,tY]at g1;rw[e3,tY]at g2;simp only[hB]at hv;simp at hv;have e2:wB 24=3:=rfl;rw[e2,sx3,g0,g1,g2];split<;>omega
 rw[key];simp
theorem Als(h:Cj bits)(l:LX)(hr:inR bits l):sxs (wB bits) l.length (Ey bits l)=l:=by
 refine P8 (Ao1 _ _ _) λi h1 h2=>?_;have:=Aqg h l hr i h2;simp only[sxs,T9,U0];rw[this,D!,KV h2];rfl
theorem Gts.sL{b p:LB}{f c w r n A:Nat}{l:LI}{k m:Nat}{x:LX}{s:LB}(hw:Cj (w:Int))(g:Gts b p f c w r n A l k m x s e):smF w (s,e)=x:=by
 have hwb:=gM (w:Int);by_cases he:e=0
 ·obtain⟨h1,h2,h3,_⟩:=g.some' he;have h4:=g.pos;have h5:=eJ hw x;rw[smF,A! (by simpa using he)];simp only;rw[h1,h5,mF _ F0];exact Als hw x (kV hw F0 h3)
 ·rw[smF,A4 he,(g.none' he).2]
theorem fA{p:Prop}(h:p:=by rw[Af,C9];omega):p:=h
theorem aM{p:Prop}(h:p:=by simp[Kz];omega):p:=h
theorem YG{p:Prop}(h:p:=by rw[Q5];omega):p:=h
abbrev C5:=Int×Int×Int×LX×Int
def D'(e:Int):C5:=(0,0,0,[],e)
theorem L_{seg p:LB}(hs:seg.length=8)(hp:p.length<=64):Wg seg p=some (seg==Mn (Xt p).toNat 8,0):=by
 rw[Wg,tF p hp,Aa];simp only;rw[A! (by rw[Ak,Ak,Ac,Ac,Bj,hs];simp),Ha,Aa]
theorem Anc(b p:LB)(m c w h o q n g y ab:Int)(k v:LI)(he:e≠0):Pg b p m c w h o q n g k e y ab v=some (D' e):=by
 rw[Pg,Pq,A4 (by rw[Ak];simpa using he)];rfl
theorem xP(b p:LB)(m c w h o q n g y ab:Int)(k:LI)(he:e≠0):Ph b p m c w h o q n g y ab k e=some (D' e):=by
 rw[Ph,DC,A4 (by rw[Ak];simpa using he)];rfl
theorem w?(b p:LB)(m c w h o q n g y ab:Int)(k:LI):Ph b p m c w h o q n g y ab k 0=DE b p m c w h o q n g y ab k:=by
 rw[Ph,DC,A! C6]
def nC(X:Nat->LX)(E:Nat->Int)(be:Int):Nat->Nat->LX->LX×Int
 |0,_,acc=>if be≠0 then([],38)else(acc,0)
 |j+1,k,acc=>if E k≠0 then([],E k)else nC X E be j (k+1) (acc++X k)
def bS(c w r:Nat)(y:LX×Int):C5:=if y.2≠0 then D' y.2 else((c:Int),(w:Int),(r:Int),y.1,0)
def bV(b p:LB)(f c w r n A:Nat)(l:LI):C5:=
 bS c w r (nC (λk=>smF w (lG b p f c w r n A l k)) (λk=>(lG b p f c w r n A l k).2) (P7 b A l) l.length 0 [])
section
variable {b p:LB} {f c w r n A:Nat} {l:LI} (o:Opn b p f c w r n A l)
include o
theorem kN(a1 a2 a3 a4:Int):∀(j k q:Nat) (acc:LX),k+j=l.length->j<q-> (k=l.length-> (A:Int)+l.sum<=b.length)->acc.length<=4000*k->
  Pf b l (f:Int) (c:Int) (w:Int) (r:Int) (n:Int) a1 a2 a3 (A:Int) a4 (Xe p) (Ax (Ay r) n) q ((A:Int)+(l.take k).sum) (k:Int) acc=
   some (bS c w r (nC (λk=>smF w (lG b p f c w r n A l k)) (λk=>(lG b p f c w r n A l k).2) (P7 b A l) j k acc))
 |0,k,q+1,acc,hk,_,hfit,_=>by
  have hA:=o.at';have Z9:=o.file;have hs1:=o.some1;have hsum:=o.sum;have b1:=Kf o.five l.length;have hf:=hfit F0;obtain rfl:k=l.length:=F0
  rw[RN]at b1⊢;rw[Pf,DL,A! YA,QC,Akb,Hb,Aa,Bal _ YG,Aa,nC,P7];generalize Rg (b.drop ((A:Int)+l.sum).toNat)=v;obtain⟨v1,v2⟩:=v;simp only;by_cases hv:v2≠0
  ·rw[A4 hv,A4 (by rw[Ak];simpa using hv),bS,A4 A7];rfl
  ·rw[A! hv,A! (by rw[Ak];simpa using hv),bS,A! A7]
 |j+1,k,q+1,acc,hk,hq,hfit,hacc=>by
  have hA:=o.at';have Z9:=o.file;have hs1:=o.some1;have hsum:=o.sum;have b1:=Kf o.five k;have b2:=Kf o.five (k+1);have hkl:k<l.length:=F0
  have e2:=Yb hkl;have h5:=o.five l[k] (P1 _);obtain⟨m,x,s,e,g⟩:=sR o k hkl;obtain⟨hc,hw,hr,hn,_⟩:=WA o.shape;have hl:=g.lens hw;rw[Pf,DL,A4 F2,Cf hkl,Aa,Aa,Ag (a:=(A:Int)+(l.take k).sum) F0 F0,S7,<-e2,Ac,nC,g.eq];simp only;rcases g.way with⟨h1,h2⟩|⟨h1,h2,_⟩
  ·rw[A4 fA,A4 (by rw[h2];simp),h2,bS,A4 A7];rfl
  ·rw[A! fA,g.mom];simp only[Aa];rw[Qo,Aa,show(b.take ((A:Int)+(l.take (k+1)).sum).toNat).drop ((A:Int)+(l.take k).sum).toNat=r! b A l k from rfl,h2,Aa];simp only;rw[PY,Al1];by_cases he:e≠0
   ·rw[A4 (by rw[Ak];simpa using he),A4 he,bS,A4 he];rfl
   ·have he0:e=0:=by simpa using he
    have k? :=(g.some' he0).2.2.2.2;rw[A! (by rw[Ak];simpa using he),A! he,g.sL hw,Bu,Aa,Ag (a:=(A:Int)+(l.take k).sum) F0 F0,S7,<-e2,Ag];exact kN a1 a2 a3 a4 j (k+1) q (acc++x) F0 F0 (λh=>by rw[h,RN]at k?;exact k?) S_
theorem Aqu:∀(j k q:Nat) (acc:LX),k+j=l.length->j<q-> (k=l.length-> (A:Int)+l.sum<=b.length)->acc.length<=4000*k->
  Jo b (f:Int) (c:Int) (w:Int) (r:Int) (n:Int) l (Ax (Ay r) n) (Xe p) q ((A:Int)+(l.take k).sum) (k:Int) acc=
   some (bS c w r (nC (λk=>smF w (lG b p f c w r n A l k)) (λk=>(lG b p f c w r n A l k).2) (P7 b A l) j k acc))
 |0,k,q+1,acc,hk,_,hfit,_=>by
  have hA:=o.at';have Z9:=o.file;have hs1:=o.some1;have hsum:=o.sum;have b1:=Kf o.five l.length;have hf:=hfit F0;obtain rfl:k=l.length:=F0
  rw[RN]at b1⊢;rw[Jo,Vo,A! YA,FY,EZ,Hb,Aa,Abu _ YG,Aa,nC,P7];generalize Rg (b.drop ((A:Int)+l.sum).toNat)=v;obtain⟨v1,v2⟩:=v;simp only;by_cases hv:v2≠0
  ·rw[A4 hv,A4 (by rw[Ak];simpa using hv),bS,A4 A7];rfl
  ·rw[A! hv,A! (by rw[Ak];simpa using hv),bS,A! A7]
 |j+1,k,q+1,acc,hk,hq,hfit,hacc=>by
  have hA:=o.at';have Z9:=o.file;have hs1:=o.some1;have hsum:=o.sum;have b1:=Kf o.five k;have b2:=Kf o.five (k+1);have hkl:k<l.length:=F0
  have e2:=Yb hkl;have h5:=o.five l[k] (P1 _);obtain⟨m,x,s,e,g⟩:=sR o k hkl;obtain⟨hc,hw,hr,hn,_⟩:=WA o.shape;have hl:=g.lens hw;rw[Jo,Vo,A4 F2,Cf hkl,Aa,Aa,Ac,Bi,nC,g.eq];simp only;rcases g.way with⟨h1,h2⟩|⟨h1,_,h2⟩
  ·rw[A4 fA,A4 (by rw[h2];simp),h2,bS,A4 A7];rfl
  ·rw[A! fA,g.mom];simp only[Aa];rw[Ag (a:=(A:Int)+(l.take k).sum) F0 F0,S7,<-e2,Qo,Aa,show(b.take ((A:Int)+(l.take (k+1)).sum).toNat).drop ((A:Int)+(l.take k).sum).toNat=r! b A l k from rfl,h2,Aa];simp only;rw[FZ,FB];by_cases he:e≠0
   ·rw[A4 (by rw[Ak];simpa using he),A4 he,bS,A4 he];rfl
   ·have he0:e=0:=by simpa using he
    have k? :=(g.some' he0).2.2.2.2;rw[A! (by rw[Ak];simpa using he),A! he,g.sL hw,Bu,Aa,Cf hkl,Aa,Aa,Ag (a:=(A:Int)+(l.take k).sum) F0 F0,S7,<-e2,Ag];exact Aqu j (k+1) q (acc++x) F0 F0 (λh=>by rw[h,RN]at k?;exact k?) S_
end
theorem Abn(l:LI)(b p:LB)(m c w h o q n g:Int)(k:LI)(hl:l.length<=1000)(h5:∀x∈l,5<=x)(A:Int)(hA:0<=A)(hb:A+l.sum<=1000000):∀(j i z:Nat),i+j=l.length->j<z->Ou l b p m c w h o q n g k z (i:Int) (A+(l.take i).sum)=PO b p l m c w h o q n g (A+l.sum) k
 |0,i,z+1,hi,_=>by
  rw[Ou,CM,A! F2,show i=l.length by omega,RN]
 |j+1,i,z+1,hi,hz=>by
  have hlt:i<l.length:=F0
  have b1:=Kf h5 i;have b2:=Kf h5 (i+1);have e:=Yb hlt;have ih:=Abn l b p m c w h o q n g k hl h5 A hA hb j (i+1) z F0 F0;rw[e,<-S7]at ih;rw[Ou,CM,A4 F2,Cf hlt,Aa,Aa,Ag,Ag];exact ih
theorem Bdi (b p:LB)(hb:b.length<=100100)(hp:p.length<=64):
  (∃e:Int,e≠0/\Ds b p=some (dL e)/\Hl b p=some (D' e)/\Hm b p=some (D' e))\/
  (∃f c w r n T:Nat,∃q d:Int,T<=b.length/\b.length<=100000/\Ga f c w r n=true/\EP c r n=true/\
   Ds b p=Po b (f:Int) (c:Int) (w:Int) (r:Int) (n:Int) (T:Int)/\
   Hl b p=DE b p (f:Int) (c:Int) (w:Int) (r:Int) (n:Int) q d (T:Int) 0 0 (Ax (Ay r) n)/\
   Hm b p=(Lr b (T:Int) (f:Int) (c:Int) (w:Int) (r:Int) (n:Int)).bind λ(h,ae)=>if Bl ae 0=true then some (D' ae)else(Dk (r:Int) (n:Int)).bind λp2=>(Jt p).bind λ(u,ap)=>IV b (f:Int) (c:Int) (w:Int) (r:Int) (n:Int) h p2 u (Ae (T:Int) (Ae (Bd 4 (Ac h)) 4)) 0 []):=by
 have hO:Ds b p=Ds b p:=rfl;have hV:Hl b p=Hl b p:=rfl;have hR:Hm b p=Hm b p:=rfl
 conv at hO=>rhs;rw[Ds,Un,A! D4]
 conv at hV=>rhs;rw[Hl,UH,A! D4,Qc]
 conv at hR=>rhs;rw[Hm,IW,A! D4,Dj]
 by_cases h1:100000<b.length
 ·rw[A4 D4]at hO hV hR;refine .inl ⟨4,F0,hO,?_,?_⟩
  ·rw[hV,Aa];rfl
  ·rw[hR,Aa];rfl
 rw[A! D4]at hO hV hR;rw[BD b F0,Aa]at hO hV;rw[CR b F0,Aa]at hR;by_cases h2:(Be b).2=0
 ·obtain⟨p0,p1,p2⟩:=VW h2;have hc:=Hb (l:=b) p0 p1;simp only[h2]at hO hV hR;rw[A! C6,hc,Aa,show b.drop (Be b).1.toNat=Kz b from rfl]at hO hV hR;rw[kI _ aM,Aa]at hO hV;rw[eT _ aM,Aa]at hR;by_cases h3:(Jg (Kz b)).2.2.2.2.2=0
  ·obtain⟨g1,g2,g3,g4⟩:=rF h3;have hlen:(Kz b).length=b.length-(Be b).1.toNat:=by simp[Kz]
   generalize hF:(Be b).1.toNat=F at*
   have hF':(Be b).1=(F:Int):=F0
   rw[g1,hF']at hO hV hR;simp only at hO hV hR;generalize f0 (Kz b)=f at*
   generalize f1 (Kz b)=c at*
   generalize f2 (Kz b)=w at*
   generalize f3 (Kz b)=r at*
   generalize f4 (Kz b)=n at*
   have t22:Ae (F:Int) 22=((F+22:Nat):Int):=by rw[Ag];omega
   have t30:Ae ((F+22:Nat):Int) 8=((F+30:Nat):Int):=by rw[Ag];omega
   have Ax8:f=1\/f=2:=by simp only[Ga,C9]at g3;omega
   rw[A! C6,t22,t30]at hO;rw[A! C6,gI g3 g4,Aa,t22,t30]at hV;rw[Aa]at hR;simp only at hV hR;rw[A! C6,t22,MV,t30]at hR;by_cases YE:((p==([]:LB)) !=(geq (f:Int) (1:Int)))=true
   ·rw[A4 YE]at hO hR;refine .inl ⟨26,F0,hO,?_,?_⟩
    ·rw[hV];by_cases h5:f=2
     ·rw[A4 (by rw[Bb,h5];rfl),Aa];simp only;rw[A! C6,A4 YE,xP _ _ _ _ _ _ _ _ _ _ _ _ _ F0]
     ·rw[A! L9,Aa];simp only;rw[A! C6,A4 YE,xP _ _ _ _ _ _ _ _ _ _ _ _ _ F0]
    ·rw[hR,Aa];rfl
   ·rw[A! YE]at hO hR;have hpf:(p=[]↔f=1):=by
     rw[Bb]at YE;have h5:(p==([]:LB))=((f:Int)==1):=by simpa using YE
     have h6:(p==([]:LB))=true↔((f:Int)==1)=true:=by rw[h5]
     rw[Q7,Q7]at h6;rw[h6];omega
    by_cases h5:f=2
    ·have cM:p≠ []:=λe=>by have:=hpf.1 e;omega
     rw[A4 (by rw[Bb,h5];rfl),Aa]at hV;simp only at hV;rw[A! C6,A! YE,A! L9]at hV;rw[A4 (by simpa using cM)]at hO;rw[A! (by simpa using cM)]at hR;by_cases h6:b.length<F+30
     ·rw[A4 F2]at hO hV hR;refine .inl ⟨24,F0,hO,?_,?_⟩
      ·rw[hV,xP _ _ _ _ _ _ _ _ _ _ _ _ _ F0]
      ·rw[hR,Aa];rfl
     ·have hseg:((b.take (F+30)).drop (F+22)).length=8:=by simp;omega
      rw[A! F2,Qo,Aa,show((F+30:Nat):Int).toNat=F+30 from rfl,show((F+22:Nat):Int).toNat=F+22 from rfl]at hO hV hR;rw[L_ hseg hp,Aa]at hO hV;rw[Ab2 p hp,Aa]at hR;simp only at hO hV;rw[A! C6]at hO;generalize(b.take (F+30)).drop (F+22)=seg at*
      by_cases h7:seg=Mn (Xt p).toNat 8
      ·rw[A! (by simp[h7])]at hO hV;rw[A! (by simp[h7]),Aa]at hR;simp only at hR;rw[A! C6]at hR;rw[w?]at hV;exact .inr ⟨f,c,w,r,n,F+30,(F:Int),((F+22:Nat):Int),F0,F0,g3,g4,hO,hV,hR⟩
      ·rw[A4 (by simpa using h7)]at hO hV;rw[A4 (by simpa using h7)]at hR;refine .inl ⟨26,F0,hO,?_,?_⟩
       ·rw[hV,xP _ _ _ _ _ _ _ _ _ _ _ _ _ F0]
       ·rw[hR,Aa];rfl
    ·have hpe:p=[]:=hpf.2 F0;rw[A! L9,Aa]at hV;simp only at hV;rw[A! C6,A! YE,A4 L9,w?]at hV;rw[A! (by rw[hpe];simp)]at hO;rw[A4 (by rw[hpe];rfl),Aa]at hR;simp only at hR;rw[A! C6]at hR;exact .inr ⟨f,c,w,r,n,F+22,(F:Int),((F+22:Nat):Int),F0,F0,g3,g4,hO,hV,hR⟩
  ·generalize Jg (Kz b)=v at*
   obtain⟨v1,v2,v3,v4,v5,v6⟩:=v;simp only at h3 hO hV hR;rw[A4 (by rw[Ak];simpa using h3)]at hO hV;refine .inl ⟨v6,h3,hO,?_,?_⟩
   ·rw[hV,Aa];simp only;rw[A4 (by rw[Ak];simpa using h3)];rfl
   ·rw[hR,Aa];simp only;rw[A4 (by rw[Ak];simpa using h3)];rfl
 ·generalize Be b=v at*
  obtain⟨v,e⟩:=v;simp only at h2 hO hV hR;rw[A4 (by rw[Ak];simpa using h2)]at hO hV hR;refine .inl ⟨e,h2,hO,?_,?_⟩
  ·rw[hV,Aa];simp only;rw[A4 (by rw[Ak];simpa using h2)];rfl
  ·rw[hR,Aa];simp only;rw[A4 (by rw[Ak];simpa using h2)];rfl
theorem Anl(b p:LB)(hb:b.length<=100100)(hp:p.length<=64):
  (∃e:Int,e≠0/\Ds b p=some (dL e)/\Dw b p=some (dL e)/\Hl b p=some (D' e)/\Hm b p=some (D' e))\/
  (∃f c w r n A l,Opn b p f c w r n A l/\Hl b p=some (bV b p f c w r n A l)/\Hm b p=some (bV b p f c w r n A l)):=by
 have yC:∀{e e2:Int},dL e=dL e2->e=e2:=λh=>by simpa [dL]using h
 rcases Bdi b p hb hp with⟨e,he,h1,h2,h3⟩|⟨f,c,w,r,n,T,q,d,hT,Z9,g3,g4,hO,hV,hR⟩
 ·rcases xZ b p hb hp with⟨e',he',k1,k2⟩|⟨f,c,w,r,n,A,l,o⟩
  ·rw[h1]at k1;have:=yC (O9 k1);subst this;exact .inl ⟨e,he,h1,k2,h2,h3⟩
  ·have:=o.prog;rw[h1]at this;have:=O9 this;simp only[dL,O7]at this;exact absurd this.2.2.2.2.2.2.2 he
 ·obtain⟨hc,hw,hr,hn,_⟩:=WA g3;have hfit:n<=4000/c:=by simp only[EP,C9]at g4;exact g4.1
  have hn4:n<=4000:=by have:=O' 4000 c;omega
  rw[tT g3 g4 b hb T hT]at hO;have hcut:=Hb (l:=b) (a:=(T:Int)) F0 F0;rw[F?]at hcut;have hdl:(b.drop T).length<=100100:=by simp;omega
  rw[DE,QP,A! F2,hcut,Aa,Ac,uZ _ _ hdl,Aa]at hV;rw[Lr,hcut,Aa,gY hr.2 hn hn4,Aa,Ac,M6 _ _ hdl,Aa,Aa]at hR;by_cases h:(Jv (b.drop T) (Ax (Ay r) n).length).2≠0
  ·rw[A4 h]at hO;generalize Jv (b.drop T) (Ax (Ay r) n).length=v at*
   obtain⟨v1,v2⟩:=v;simp only at h hO hV hR;rcases xZ b p hb hp with⟨e',he',k1,k2⟩|⟨f,c,w,r,n,A,l,o⟩
   ·rw[hO]at k1;have:=yC (O9 k1);subst this;refine .inl ⟨_,h,hO,k2,?_,?_⟩
    ·rw[hV,OE,BN,A4 (by rw[Ak];simpa using h),Anc _ _ _ _ _ _ _ _ _ _ _ _ _ _ h]
    ·rw[hR,A4 (by rw[Ak];simpa using h)]
   ·have:=o.prog;rw[hO]at this;have:=O9 this;simp only[dL,O7]at this;exact absurd this.2.2.2.2.2.2.2 h
  ·have h0:(Jv (b.drop T) (Ax (Ay r) n).length).2=0:=by simpa using h
   rw[A! h]at hO;generalize hsv:Jv (b.drop T) (Ax (Ay r) n).length=v at*
   obtain⟨v1,v2⟩:=v;simp only at h0 hO hV hR;subst h0;rcases xZ b p hb hp with⟨e',he',k1,k2⟩|⟨f',c',w',r',n',A,l,o⟩
   ·rw[hO]at k1;have:=O9 k1;simp only[dL,O7]at this;exact absurd this.2.2.2.2.2.2.2.symm he'
   ·have hp2:=o.prog;rw[hO]at hp2;have hp3:=O9 hp2;simp only[O7]at hp3;obtain⟨i1,i2,i3,i4,i5,i6,i7,_⟩:=hp3;obtain rfl:f=f':=F0
    obtain rfl:c=c':=F0
    obtain rfl:w=w':=F0
    obtain rfl:r=r':=F0
    obtain rfl:n=n':=F0
    subst i7;have hlen:=o.len;have hs1:=o.some1;have hsum:=o.sum;have hA:=o.at';have hAT:(A:Int)=(T:Int)+4*(v1.length:Int)+4:=F0
    have a1:Bd 4 (v1.length:Int)=4*(v1.length:Int):=Gp;have eV:Ae (Ae (T:Int) (Bd 4 (Ac v1))) 4=(A:Int):=by
     rw[Ac,a1,Ag (a:=(T:Int)) F0 F0,Ag];omega
    have eR:Ae (T:Int) (Ae (Bd 4 (Ac v1)) 4)=(A:Int):=by
     rw[Ac,a1,Ag (a:=4*(v1.length:Int)) F0 F0,Ag];omega
    have hlv:=kN o q d (T:Int) ((A:Int)+v1.sum) v1.length 0 Aq [] F0 C0 F0 A7;have hlr:=Aqu o v1.length 0 Aq [] F0 C0 F0 A7;rw[R!,a!,Int.add_zero]at hlv hlr;refine .inr ⟨f,c,w,r,n,A,v1,o,?_,?_⟩
    ·have hs:=Abn v1 b p (f:Int) (c:Int) (w:Int) (r:Int) (n:Int) q d (T:Int) (Ax (Ay r) n) hs1.2 o.five (A:Int) F0 F0 v1.length 0 Aq F0 C0;rw[R!,a!,Int.add_zero]at hs;rw[hV,OE,BN,A! C6,Ak6,eV];refine J2 hs ?_;rw[PO,OY,eV,Pg,Pq,A! C6,Aeb p o.pass,Aa];exact hlv
    ·rw[hR,A! C6,Aa,K! p o.pass,Aa,eR];exact hlr
def UF(b:LB):LI:=Ax (Ay (f3 (Kz b))) (f4 (Kz b))
def SH(b:LB):Nat:=(Be b).1.toNat+22+(if f0 (Kz b)=2 then 8 else 0)
theorem start_eq(b:LB)(hb:b.length<=100100):
  (∃e:Int,e≠0/\ (∃r1 r2 r3 r4 r5,Qc b=some (r1,r2,r3,r4,r5,0,0,0,0,0,[],e))/\ (∃q0 q1 q2 q3 q4 q5,Dj b=some (q0,q1,q2,q3,q4,q5,e)))\/
  (b.length<=100000/\ (Be b).2=0/\ (Jg (Kz b)).2.2.2.2.2=0/\
   Qc b=some ((f0 (Kz b):Int),(f1 (Kz b):Int),(f2 (Kz b):Int),(f3 (Kz b):Int),(f4 (Kz b):Int),(Be b).1,(Be b).1+22,(SH b:Int),0,0,UF b,0)/\
   Dj b=some ((Be b).1,(f0 (Kz b):Int),(f1 (Kz b):Int),(f2 (Kz b):Int),(f3 (Kz b):Int),(f4 (Kz b):Int),0)):=by
 by_cases h1:100000<b.length
 ·refine .inl ⟨4,F0,⟨0,0,0,0,0,?_⟩,⟨0,0,0,0,0,0,?_⟩⟩
  ·rw[Qc,A4 D4]
  ·rw[Dj,A4 D4]
 ·rw[Qc,A! D4,Dj,A! D4,BD b F0,CR b F0,Aa,Aa];by_cases h2:(Be b).2=0
  ·obtain⟨p0,p1,p2⟩:=VW h2;have hc:=Hb (l:=b) p0 p1;simp only[h2];rw[A! C6,A! C6,hc,Aa,Aa,show b.drop (Be b).1.toNat=Kz b from rfl,kI _ aM,eT _ aM,Aa,Aa];by_cases h3:(Jg (Kz b)).2.2.2.2.2=0
   ·obtain⟨g1,g2,g3,g4⟩:=rF h3;refine .inr ⟨F0,trivial,h3,?_,?_⟩
    ·rw[g1];simp only;rw[A! C6,gI g3 g4,Aa];simp only;have t22:Ae (Be b).1 22=(Be b).1+22:=Ag;have t30:Ae ((Be b).1+22) 8=(Be b).1+22+8:=Ag;rw[Bb,t22,t30];by_cases h5:f0 (Kz b)=2
     ·rw[A4 (by rw[h5];rfl)];rw[show(Be b).1+22+8=(SH b:Int) by rw[SH,A4 h5];omega];rfl
     ·rw[A! F7];rw[show(SH b:Int)=(Be b).1+22 by rw[SH,A! h5];omega];rfl
    ·rw[g1]
   ·generalize Jg (Kz b)=v at*
    obtain⟨v1,v2,v3,v4,v5,v6⟩:=v;simp only at h3⊢;exact .inl ⟨v6,h3,⟨v1,v2,v3,v4,v5,by rw[A4 (by rw[Ak];simpa using h3)]⟩,⟨(Be b).1,v1,v2,v3,v4,v5,rfl⟩⟩
  ·generalize Be b=v at*
   obtain⟨v,e⟩:=v;simp only at h2⊢;refine .inl ⟨e,h2,⟨0,0,0,0,0,?_⟩,⟨0,0,0,0,0,0,?_⟩⟩
   ·rw[A4 (by rw[Ak];simpa using h2)]
   ·rw[A4 (by rw[Ak];simpa using h2)]
theorem G1(l:LI)(b:LB)(r2 r3 r4 r5 r6 r7 r8 r9:Int)(l12:LI)(hl:l.length<=1000)(h5:∀x∈l,5<=x):∀(j i q:Nat) (s:Int),i+j=l.length->j<q->0<=s->s+(l.drop i).sum<=1000000->
  Ox l b r2 r3 r4 r5 r6 r7 r8 r9 l12 q (i:Int) s=Yt b l r2 r3 r4 r5 r6 r7 r8 r9 (s+(l.drop i).sum) l12
 |0,i,q+1,s,hi,_,_,_=>by
  rw[Ox,BE,A! F2,show i=l.length by omega,RM];simp
 |j+1,i,q+1,s,hi,hq,h0,hs=>by
  have hlt:i<l.length:=F0
  have hx:=h5 l[i] (P1 hlt);have h2:=Ub (l.drop (i+1)) λy hy=>h5 y (ZP hy);rw[drop_cons hlt,OL]at hs⊢;rw[Ox,BE,A4 F2,Cf hlt,Aa,Aa,Ag,Ag];have ih:=G1 l b r2 r3 r4 r5 r6 r7 r8 r9 l12 hl h5 j (i+1) q (s+l[i]) F0 F0 F0 F0;rw[show((i:Int)+1)=((i+1:Nat):Int) by omega,ih,S7]
theorem Amo(b:LB)(r2 x1:Int)(l:LI)(hl:l.length<=1000)(h5:∀x∈l,5<=x):∀(j i q:Nat) (s:Int),i+j=l.length->j<q->0<=s->s+(l.drop i).sum<=1000000->
  Iq b r2 x1 l q (i:Int) s=Tp b r2 x1 l (s+(l.drop i).sum)
 |0,i,q+1,s,hi,_,_,_=>by
  rw[Iq,Tr,A! F2,show i=l.length by omega,RM];simp
 |j+1,i,q+1,s,hi,hq,h0,hs=>by
  have hlt:i<l.length:=F0
  have hx:=h5 l[i] (P1 hlt);have h2:=Ub (l.drop (i+1)) λy hy=>h5 y (ZP hy);rw[drop_cons hlt,OL]at hs⊢;rw[Iq,Tr,A4 F2,Cf hlt,Aa,Aa,Ag,Ag];have ih:=Amo b r2 x1 l hl h5 j (i+1) q (s+l[i]) F0 F0 F0 F0;rw[show((i:Int)+1)=((i+1:Nat):Int) by omega,ih,S7]
theorem Aai{b p:LB}{f c w r n A:Nat}{l:LI}(o:Opn b p f c w r n A l)(hfit:(A:Int)+l.sum<=b.length):
  KU b=some ((Be b).1,(Be b).1+22,(A:Int)-4*(l.length:Int)-4,(A:Int),(A:Int)+l.sum,0)/\Aa6 b=some ((Be b).1,(Be b).1+22,(A:Int)-4*(l.length:Int)-4,(A:Int),(A:Int)+l.sum,0):=by
 have Z9:=o.file;have hhead:=o.head;have hpos:=o.pos;have hlen:=o.len;have hs1:=o.some1;have hsum:=o.sum;have hA:=o.at';obtain⟨p0,p1,p2⟩:=VW o.tag;have h3:(Jg (Kz b)).2.2.2.2.2=0:=by rw[hhead]
 obtain⟨c1,c2,c3,c4⟩:=rF h3;rw[c1]at hhead;simp only[O7]at hhead;obtain⟨i1,i2,i3,i4,i5,_⟩:=hhead;have e1:f0 (Kz b)=f:=F0
 have e2:f1 (Kz b)=c:=F0
 have e3:f2 (Kz b)=w:=F0
 have e4:f3 (Kz b)=r:=F0
 have e5:f4 (Kz b)=n:=F0
 have htab:=o.tab;have hT:(Be b).1.toNat+22+(if f=2 then 8 else 0)=SH b:=by rw[SH,e1]
 rw[hT]at htab;have hTA:(SH b:Int)=(A:Int)-4*(l.length:Int)-4:=F0
 have hfr:UF b=Ax (Ay r) n:=by rw[UF,e4,e5]
 have hk:(UF b).length=l.length:=by rw[hfr,hlen]
 obtain⟨hc,hw,hr,hn,_⟩:=WA o.shape;have Azg:n<=4000/c:=by have:=o.fit;simp only[EP,C9]at this;exact this.1
 have hn4:n<=4000:=by have:=O' 4000 c;omega
 have cJ:Dk (f3 (Kz b):Int) (f4 (Kz b):Int)=some (UF b):=by rw[hfr,e4,e5];exact gY hr.2 hn hn4
 rw[KU,PD,Aa6,FX];rcases start_eq b F0 with⟨e,he,_,⟨q0,q1,q2,q3,q4,q5,h2⟩⟩|⟨_,_,_,h1,h2⟩
 ·exfalso;have hr2:=Dj b;have:Dj b=some ((Be b).1,(f0 (Kz b):Int),(f1 (Kz b):Int),(f2 (Kz b):Int),(f3 (Kz b):Int),(f4 (Kz b):Int),0):=by
   have hcut:=Hb (l:=b) p0 p1;have htag:=o.tag;rw[Dj,A! D4,CR b F0,Aa];generalize hv:Be b=v at*
   obtain⟨v1,v2⟩:=v;simp only at htag hcut⊢;rw[A! (by rw[Ak];simpa using htag),hcut,Aa,show b.drop v1.toNat=Kz b by rw[Kz,hv],eT _ aM,c1,Aa]
  rw[h2]at this;have:=O9 this;simp only[O7]at this;exact he this.2.2.2.2.2.2
 ·rw[h1,h2,Aa,Aa];have z:Bl (0:Int) 0=false:=F6
  simp only[z,OI,N!];have e22:Ae (Be b).1 22=(Be b).1+22:=Ag;have e30:Ae ((Be b).1+22) 8=(Be b).1+22+8:=Ag;have hr:(if geq (f0 (Kz b):Int) 2=true then Ii b (f0 (Kz b)) (f1 (Kz b)) (f2 (Kz b)) (f3 (Kz b)) (f4 (Kz b)) (Be b).1 (Ae (Ae (Be b).1 22) 8)else Ii b (f0 (Kz b)) (f1 (Kz b)) (f2 (Kz b)) (f3 (Kz b)) (f4 (Kz b)) (Be b).1 (Ae (Be b).1 22))=
    Ii b (f0 (Kz b)) (f1 (Kz b)) (f2 (Kz b)) (f3 (Kz b)) (f4 (Kz b)) (Be b).1 (SH b:Int):=by
   rw[e22,e30,Bb];by_cases h5:f0 (Kz b)=2
   ·rw[A4 (by rw[h5];rfl),show(Be b).1+22+8=(SH b:Int) by rw[SH,A4 h5];omega]
   ·rw[A! F7,show(Be b).1+22=(SH b:Int) by rw[SH,A! h5];omega]
  have hc:=Hb (l:=b) (a:=(SH b:Int)) F0 F0;rw[F?]at hc;have hdl:(b.drop (SH b)).length<=100100:=by simp;omega
  have hsp:=uZ (b.drop (SH b)) (UF b).length hdl;have hsr:=M6 (b.drop (SH b)) (UF b).length hdl;rw[hk,htab]at hsp hsr;have eA:Ae (Ae (SH b:Int) (Bd 4 (Ac l))) 4=(A:Int):=by
   have a1:Bd 4 (Ac l)=4*(l.length:Int):=Gp Q9 Q9;have a2:Ae (SH b:Int) (4*(l.length:Int))=(SH b:Int)+4*(l.length:Int):=Ag;rw[a1,a2,Ag];omega
  rw[hr,Ii,GA,A! F2,A! F2,Lr,hc,cJ,Aa,Aa,Aa,show Ac (UF b)=((UF b).length:Int)from rfl,hk,hsp,hsr,Aa,Aa,Aa];simp only;rw[Ane,RJ];simp only[z,OI,N!];rw[eA,Aln,GC];have q1:=G1 l b (f0 (Kz b)) (f1 (Kz b)) (f2 (Kz b)) (f3 (Kz b)) (f4 (Kz b)) (Be b).1 ((Be b).1+22) (SH b) (UF b) F0 o.five l.length 0 Aq (A:Int) F0 C0 F0 (by rw[Y'];omega);have q2:=Amo b (Be b).1 (SH b) l F0 o.five l.length 0 Aq (A:Int) F0 C0 F0 (by rw[Y'];omega);rw[Y']at q1 q2;rw[show(0:Int)=((0:Nat):Int)from rfl,q1,q2,Yt,Aiu,My,Aiw,z,A! A7,Aj9,Ajk,Tp,EV,eA,e22];rw[A! (by rw[Af,Ac];simpa using hfit),hTA];exact⟨rfl,rfl⟩
theorem vU{ch:Nat}(hb:Cj bits)(h1:1<=ch)(h6:ch<=6):Fp (ch:Int) bits=some 0:=by
 have hr:∃x y,Qg bits=some (x,y,0):=⟨_,_,kr hb⟩;obtain⟨x,y,hr⟩:=hr;rw[Fp,hr,Aa];simp only;rw[A! eZ]
abbrev P6':=Int×Int×Int×LX×LI×Int
def Ya(e:Int):P6':=(0,0,0,[],[],e)
theorem oY(g:Nat):∀K:Nat,(List.replicate K (g:Int)).sum=((K*g:Nat):Int)
 |0=>by simp
 |K+1=>by
  rw[R8,OL,oY g K,RW];omega
theorem Bc9{g n:Nat}(hn:1<=n):(Ax g n).sum=(n:Int):=by
 have h:=T5 (n-1) g;rw[Ax,mT,oY];simp only[OL,a!];omega
def gS(c w:Nat)(fr:LI)(k:Nat):Int:=(((fr.take k).sum.toNat*(c*wB (w:Int)):Nat):Int)
theorem Aa0(C W:Nat)(fr:LI):gS C W fr 0=0:=by rw[gS,R!,a!];simp
theorem Aeh(h:Cj bits){l:LX}(hl:l.length<=4000)(hr:inR bits l):Ap bits l=some 0:=by
 have hh:=UK bits;have key:∀(j i q:Nat),i+j=l.length->j<q->Au l (hB bits) q (i:Int)=some 0:=by
  intro j
  induction j with
  |zero=>
   intro i q hi hq;obtain⟨q,rfl⟩:∃k,q=k+1:=⟨q-1,F0⟩;rw[Au,Ce,A! F2];rfl
  |succ j ih=>
   intro i q hi hq;obtain⟨q,rfl⟩:∃k,q=k+1:=⟨q-1,F0⟩;have hx:=hr l[i] (P1 F0);rw[Au,Ce,A4 F2,Cf,Aa,Aa,Em,lu,Bq F0 F0,Ag,Af,Dn,A! F7,A! F7];exact ih (i+1) q F0 F0
 rw[Ap,Cx,WK h,Aa,A! L9,A! D4];exact key l.length 0 Aq F0 C0
def ny{α:Type}(G:Nat->List α):Nat->Nat->List α
 |0,_=>[]
 |j+1,k=>G k++ny G j (k+1)
theorem Acn(w:Nat)(G:Nat->LB×Int)(be:Int):∀(j k:Nat) (acc:LB) (jl:LX),(H7 G be j k acc).2=(nC (λk=>smF w (G k)) (λk=>(G k).2) be j k jl).2
 |0,k,acc,jl=>by
  rw[H7,nC];split<;>rfl
 |j+1,k,acc,jl=>by
  rw[H7,nC];split
  ·rfl
  ·exact Acn w G be j (k+1) _ _
theorem Auu(X:Nat->LX)(E:Nat->Int)(be:Int):∀(j k:Nat) (acc:LX),(nC X E be j k acc).2=0->be=0/\ (∀i,k<=i->i<k+j->E i=0)/\ (nC X E be j k acc).1=acc++ny X j k
 |0,k,acc,h=>by
  rw[nC]at h⊢;by_cases hb:be≠0
  ·rw[A4 hb]at h;cases h
  ·rw[A! hb];exact⟨by simpa using hb,λi h1 h2=>by omega,by simp[ny]⟩
 |j+1,k,acc,h=>by
  rw[nC]at h⊢;by_cases hb:E k≠0
  ·rw[A4 hb]at h;exact absurd h hb
  ·rw[A! hb]at h⊢;obtain⟨h1,h2,h3⟩:=Auu X E be j (k+1) _ h;refine⟨h1,λi i1 i2=>?_,?_⟩
   ·by_cases hi:i=k
    ·subst hi;simpa using hb
    ·exact h2 i F0 F0
   ·rw[h3,ny,D2]
theorem Acp(G:Nat->LB×Int):∀(j k:Nat) (acc:LB),(∀i,k<=i->i<k+j-> (G i).2=0)->H7 G 0 j k acc=(acc++ny (λi=>(G i).1) j k,0)
 |0,k,acc,h=>by
  rw[H7,A! A7,ny];simp
 |j+1,k,acc,h=>by
  rw[H7,A! (by rw[h k F0 F0];simp),Acp G j (k+1) _ λi h1 h2=>h i F0 F0,ny,D2]
def Js(bits:Int)(ch:Nat)(t x:LX):LU:=l? bits ch t (mx ch x) x.length
def QO(bits:Int)(ch:Nat)(t x:LX):LB:=Jf (Nv ch (Js bits ch t x) x.length)
def Nb(bits:Int)(ch:Nat)(t x:LX):LB:=QO bits ch t x++Mn (De (QO bits ch t x)).toNat 4
theorem Abc(bits:Int)(ch:Nat)(t x:LX)(h0:1<=x.length)(h4:x.length<=4000):1<= (QO bits ch t x).length/\ (QO bits ch t x).length<=40501:=by
 have h:=eN ch (Js bits ch t x) x.length;obtain⟨k,hk⟩:∃k,x.length=k+1:=⟨x.length-1,F0⟩;have h1:1<= (Nv ch (Js bits ch t x) x.length).length:=by
  rw[hk,Nv,B6];have hn:=gq ch ((Js bits ch t x).take k);have:=VQ ((Js bits ch t x).getD k 0) hn.1 hn.2;omega
 rw[QO,Vu];omega
theorem D8(bits:Int)(ch:Nat)(t x:LX)(h0:1<=x.length)(h4:x.length<=4000):5<= (Nb bits ch t x).length/\ (Nb bits ch t x).length<=40505:=by
 have:=Abc bits ch t x h0 h4;rw[Nb,B6,Bj];omega
theorem Afr(bits:Int)(ch:Nat)(t x:LX)(h0:1<=x.length)(h4:x.length<=4000):Wl (Nb bits ch t x)=0/\ (Nb bits ch t x).take ((Nb bits ch t x).length-4)=QO bits ch t x:=by
 have h:=D8 bits ch t x h0 h4;have hl:(Nb bits ch t x).length-4=(QO bits ch t x).length:=by rw[Nb,B6,Bj];omega
 have h1:(Nb bits ch t x).take ((Nb bits ch t x).length-4)=QO bits ch t x:=by rw[hl,Nb,Y!]
 have h2:(Nb bits ch t x).drop ((Nb bits ch t x).length-4)=Mn (De (QO bits ch t x)).toNat 4:=by rw[hl,Nb,QR]
 have hlt:=(De (QO bits ch t x)).toNat_lt;refine⟨?_,h1⟩;rw[Wl,A! F0,A! F0,h1,h2,We,B4 F0,A! A7]
theorem Abb{ch n:Nat}{t x:LX}(hb:Cj bits)(ht:t.length=16)(h1:1<=ch)(h6:ch<=6)(n1:1<=n)(n2:n<=4000/ch)(hx:x.length=n*ch)(hr:inR bits x):
  Lk (ch:Int) bits t (n:Int) (Nb bits ch t x)=some (x,0)/\Du (ch:Int) bits t (n:Int) (Nb bits ch t x)=some (x,0):=by
 have hn:n*ch<=4000:=by
  have:=ES ch n2;have h2:=T5 4000 ch;omega
 have hq4:=dx h1 h6;have hx1:1<=x.length:=by rw[hx];exact Y3 n1 h1
 have key:Du (ch:Int) bits t (n:Int) (Nb bits ch t x)=some (x,0):=by
  generalize 4000/ch=mm at*
  have hh:=UK bits;have g!:Ec (ch:Int) bits (n:Int)=some 0:=by
   rw[Ec,Cw,A! NX,WK hb,Aa,A! L9,Aa,A! aP,Bf K0,Aa,hq4,A! J!]
  have hlen:=D8 bits ch t x hx1 F0;obtain⟨hs,htk⟩:=Afr bits ch t x hx1 F0;have hpl:=Abc bits ch t x hx1 F0;have e4:Ah (Ac (Nb bits ch t x)) 4=(((Nb bits ch t x).length-4:Nat):Int):=by rw[Ac,Bi];omega
  have hVl:(Js bits ch t x).length=x.length:=kR _ _ _ _ _;have hEl:=Vu (Nv ch (Js bits ch t x) x.length);have hvb:=Aew ch (Js bits ch t x) (8*(QO bits ch t x).length) (by rw[hVl,QO,hEl];omega) (n*ch) 0 F0;rw[hVl]at hvb;have hread:=qM (N:=8*(QO bits ch t x).length) (p:=QO bits ch t x) rfl F0 h1 h6 hn;have hvb':Wj ch (QO bits ch t x) (8*(QO bits ch t x).length) (n*ch) 0 []=(Js bits ch t x,(Nv ch (Js bits ch t x) x.length).length,0):=hvb;have hz:Bm (QO bits ch t x) (Nv ch (Js bits ch t x) x.length).length (8*(QO bits ch t x).length-(Nv ch (Js bits ch t x) x.length).length)=0:=by
   apply tJ;intro k _;rw[QO,AE,qw F0]
  have Bbj:¬7<8*(QO bits ch t x).length-(Nv ch (Js bits ch t x) x.length).length:=by rw[QO,hEl];omega
  rw[hvb']at hread;simp only at hread;rw[A! F6,A! (by rw[hz];simp;omega)]at hread;have hm:(Js bits ch t x).length %ch=0:=by rw[hVl,hx];exact SI n ch
  have zZ:=Aed (v:=Js bits ch t x) hb ht h1 h6 F0 hm;have hsm:sL bits ch t (Js bits ch t x)=mx ch x:=by
   have:=Am7 bits ch t (mx ch x);rw[PB]at this;exact this
  rw[hsm,Ata h1 (by rw[hx];exact SI n ch)]at zZ;rw[Du,Rp,g!,Aa,A! C6,Awn,Aa,hs,A! F6,e4,Ji,Aa,F?,htk,hread,Aa];simp only;rw[Kw,Lc,A! F6,zZ,Aa,Om,Aeh hb F0 hr,Aa,A! F6];rfl
 obtain⟨l,e,d1,d2,_,_⟩:=Aum (Nb bits ch t x) hb ht h1 h6 n1 n2;rw[key]at d2;cases d2;exact⟨d1,key⟩
theorem Amu(p:LB)(b0:UInt64)(a0:Int):∀(j m q:Nat),m+j<=300000->j<=64->j<q->
  Nc b0 a0 q (Mk p m j) (j:Int) (m:Int) (Na p 0 m)=some (Na p 0 (m+j),((m+j:Nat):Int),0)
 |0,m,q+1,_,_,_=>by
  rw[Nc,NR,A! S4,YS,Ard];rfl
 |j+1,m,q+1,hm,hj,hq=>by
  have hroom:Nc b0 a0 (q+1) (Mk p m (j+1)) ((j+1:Nat):Int) (m:Int) (Na p 0 m)=NP (Nc b0 a0 q) b0 a0 (Mk p m (j+1)) ((j+1:Nat):Int) (m:Int) (room p 0 m):=by
   rw[Nc,NR,A4 S4,wH m F0,room];by_cases h0:m %8=0
   ·rw[A4 (by rw[Bb,h0];rfl),Bu e_,Aa,A4 h0]
   ·rw[A! L9,A! h0]
  have hl:Ah (Ac (room p 0 m)) 1=((m/8:Nat):Int):=by
   rw[Ac,Lq,Bi];omega
  have e2:Gf ((j+1:Nat):Int) (Ah (8:Int) ((m %8:Nat):Int))=((min (j+1) (8-m %8):Nat):Int):=by
   rw[GG,Bi];omega
  rw[hroom,NP,Asz,wH m F0,e2,hl];generalize hT:min (j+1) (8-m %8)=T;have hT1:1<=T:=F0
  have hT8:m %8+T<=8:=F0
  have hg:Aj (room p 0 m) ((m/8:Nat):Int)=some (UInt8.ofNat (Bm p (0+8*(m/8)) (m %8))):=by
   rw[Cf Y9,kB]
  have z1:(GI.toZ ((m %8:Nat):Int)).toNat=m %8:=rfl;have z2:(GI.toZ ((T:Nat):Int)).toNat=T:=rfl;have hlt:=sK p (0+8*(m/8)) (m %8+T) F0;have hadd:=JG p (m %8) T (0+8*(m/8));rw[show 0+8*(m/8)+m %8=m by omega]at hadd;have hbyte:(Ad (Cy (Mk p m (j+1)) (Ah (Db (1:UInt64) T) (1:UInt64))):UInt8)=UInt8.ofNat (Bm p m T):=by
   rw[RF,zG _ F0,D? p m (j+1) T F0 hj]
  have hnew:uB (UInt8.ofNat (Bm p (0+8*(m/8)) (m %8))) (Db (UInt8.ofNat (Bm p m T)) (m %8))=UInt8.ofNat (Bm p (0+8*(m/8)) (m %8+T)):=by
   rw[or8 (Mg _ _ _) aX F0,hadd,I5 (2^(m %8))]
  rw[hg,z1,z2,hbyte];simp only[Aa];rw[Bf OH,Aa,Bf O?,Aa,hnew,Ra _ Y9,Aa,rR p 0 m T hT1 hT8,Atn,Asy,wH m F0,e2,hT,Bf OH,Aa,z2,Atu p m (j+1) T F0 hj,Bi,Ag];have ih:=Amu p b0 a0 (j+1-T) (m+T) q F0 F0 F0;rw[show m+T+(j+1-T)=m+(j+1) by omega]at ih;rw[<-ih,show((j+1:Nat):Int)-((T:Nat):Int)=((j+1-T:Nat):Int) by omega,show(m:Int)+((T:Nat):Int)=((m+T:Nat):Int) by omega]
theorem put_eq(p:LB)(m j:Nat)(hm:m+j<=300000)(hj:j<=63):QX (Na p 0 m) (m:Int) (Mk p m j) (j:Int)=some (Na p 0 (m+j),((m+j:Nat):Int),0):=by
 have hz:Bl (Bw (Mk p m j) (GI.toZ (j:Int)).toNat) 0=false:=by
  have:Bw (Mk p m j) j=0:=by
   apply UInt64.toNat_inj.1;rw[EF,Vn p m j F0,R9 (Mg p j m)];rfl
  rw[show(GI.toZ (j:Int)).toNat=j from rfl,this];rfl
 have hl:=Hi p 0 m;have htw:WM (Na p 0 m) (m:Int)=some (Na p 0 m,(m:Int)):=by
  rw[WM,Ef,Bu F7,Aa,Aa];rfl
 rw[QX,eY,Wa (pM p 0 m F0),Aa,A! F6,A! NX,A4 F9,Bf OH,Aa,hz,A! F6,Ag,A! J!,htw,Aa];exact Amu p _ _ j m Aq hm F0 C0
theorem At.cat{p:LB}{a:Nat}{c d:List Bool}(h:At p a (c++d)):At p a c/\At p (a+c.length) d:=⟨h.left,h.right⟩
theorem Avt(p:LB):∀(q a:Nat),At p a (List.replicate q true)->Bm p a q+1=2^q
 |0,a,_=>by rw[Bm]
 |q+1,a,h=>by
  rw[R8]at h;obtain⟨h0,h1⟩:=h.cons;have:=Avt p q (a+1) h1;rw[Bm,h0,KZ,A4 rfl];omega
theorem sT{x:UInt64}{p:LB}{m n:Nat}(hn:n<=63)(h:x.toNat=Bm p m n):x=Mk p m n:=by
 apply UInt64.toNat_inj.1;rw[h,Vn p m n F0]
theorem TE{n:Nat}(h:n<2^64):(UInt64.ofNat n).toNat=n:=by rw[J'];exact B4 h
theorem Abv{p:LB}{m q:Nat}(hq:q<=48)(hm:m+48<=300000)(h:At p m (List.replicate q true++(if q=48 then []else [false]))):
  TO (Na p 0 m) (m:Int) (q:Int)=some (Na p 0 (m+min (q+1) 48),((m+min (q+1) 48:Nat):Int),0):=by
 have h1:=h.left;have hv:=Avt p q m h1;have Bbl:2^q<=2^48:=G? F0 hq;have hval:Bm p m (min (q+1) 48)+1=2^q:=by
  by_cases h48:q=48
  ·subst h48;exact hv
  ·rw[A! h48]at h;have h2:=h.right;rw[PA]at h2;have h0:=h2.cons.1;rw[show min (q+1) 48=q+1 by omega,jX,h0];simpa using hv
 have hx:(Ah (Db (1:UInt64) q) (1:UInt64)).toNat=Bm p m (min (q+1) 48):=by
  have e1:(Db (1:UInt64) q).toNat=2^q:=by rw[RZ];show 1*2^q %_=_;rw[Y4];exact B4 F0
  have hpos:0<2^q:=PW F0;rw[rT,kX _ _ (by rw[kY,e1];exact hpos),e1]
  show 2^q-1=_;omega
 rw[TO,Wa (pM p 0 m F0),Aa,A! F6,aK,A! NX,Aa];simp only;have e2:Gf (Ae (q:Int) 1) 48=((min (q+1) 48:Nat):Int):=by rw[GG,Ag];omega
 rw[A! F6,Bf OH,Aa,e2,show(GI.toZ (q:Int)).toNat=q from rfl,sT F0 hx,put_eq p m _ F0 F0,Aa]
theorem Aju{p:LB}{m l:Nat}{v:UInt32}(hl:l<=24)(hm:m+81<=300000)(h:At p m (PJ l v.toNat)):
  ZO (Na p 0 m) (m:Int) v (l:Int)=some (Na p 0 (m+(PJ l v.toNat).length),((m+(PJ l v.toNat).length:Nat):Int),0):=by
 have hvl:=v.toNat_lt;have hz:(GI.toZ (l:Int)).toNat=l:=rfl;have hlp:2^l<=2^24:=G? F0 hl;have hpos:0<2^l:=PW F0;have Ax9:Wi v (l:Int)=some (decide (48<=v.toNat/2^l)):=by
  rw[Wi,Bf OH,Aa,hz,nH,IJ];rfl
 rw[ZO,Ao4,Wa (pM p 0 m F0),Aa,A! F6,A! NX,Bf OH,Aa,Aa,Ax9,Aa];rw[PJ]at h⊢;by_cases h48:48<=v.toNat/2^l
 ·rw[A4 h48]at h⊢;obtain⟨h1,h2⟩:=h.cat;rw[PA]at h2;have hval:=GK p 32 (m+48) v.toNat h2;rw[B4 F0]at hval;have hu:=Abv (p:=p) (m:=m) (q:=48) (D1 _) F0 (by rw[A4 rfl,OU];exact h1);rw[A4 (by simpa using h48),UX,VG,show(48:Int)=((48:Nat):Int)from rfl,hu,Aa];simp only;rw[A! F6,Ct,sT (x:=UInt64.ofNat v.toNat) (p:=p) (m:=m+48) (n:=32) F0 (by rw[TE F0,hval]),show(32:Int)=((32:Nat):Int)from rfl,show m+min (48+1) 48=m+48 by omega,put_eq p (m+48) 32 F0 F0,Aa,B6,PA,Ot,O6]
 ·rw[A! h48]at h⊢;generalize hq:v.toNat/2^l=q at*
  obtain⟨h1,h2⟩:=h.cat;rw[PA]at h2;obtain⟨h3,h4⟩:=h2.cons;have hval:=GK p l (m+q+1) (v.toNat %2^l) h4;rw[Y7]at hval;have hqa:At p m (List.replicate q true++[false]):=by
   have:List.replicate q true++(false::bM (v.toNat %2^l) l)=(List.replicate q true++[false])++bM (v.toNat %2^l) l:=by simp
   rw[this]at h;exact h.left
  have hu:=Abv (p:=p) (m:=m) (q:=q) F0 F0 (by rw[A! F0];exact hqa);have hgq:(Ad (Bw v l):Int)=(q:Int):=by rw[Avw,IJ,hq]
  have hrest:(Ad (Cy v (Ah (Db (1:UInt32) l) 1)):UInt64)=Mk p (m+q+1) l:=by
   apply sT F0;have e1:(Db (1:UInt32) l).toNat=2^l:=by rw[dX];show 1*2^l %_=_;rw[Y4];exact B4 F0
   have e2:(Ah (Db (1:UInt32) l) (1:UInt32)).toNat=2^l-1:=by
    rw[zH,k_ _ _ (by rw[ko,e1];exact hpos),e1];rfl
   have e3:(Cy v (Ah (Db (1:UInt32) l) 1)).toNat=v.toNat %2^l:=by
    rw[C1,dG,e2,W?]
   rw[Ct,TE (by rw[e3];have:=OP v.toNat hpos;omega),e3,hval]
  rw[A! (by simpa using h48),UX,VG,hz,hgq,hu,Aa];simp only;rw[A! F6,hrest,show m+min (q+1) 48=m+q+1 by omega,put_eq p (m+q+1) l F0 F0,Aa,B6,PA,I!,Ot,show m+q+1+l=m+(q+(l+1)) by omega]
theorem Alx{k l:Nat}{s t:UInt64}(h:okD k l s t)(v:UInt32):ZD [] 0 (k:Int) (l:Int) s t v=
  some (Jf (Od k l v),((Od k l v).length:Int),((kS k (Uc s (xM v)):Nat):Int),((lK l t k v:Nat):Int),Uc s (xM v),lT t k v,0):=by
 obtain⟨h1,h2,h3,h4⟩:=h;have hvl:=v.toNat_lt;have hAt:At (Jf (Od k l v)) 0 (Od k l v):=λi hi=>by rw[J?,AE]
 have hlen:=VQ v h1 h2;have hfull:Na (Jf (Od k l v)) 0 (Od k l v).length=Jf (Od k l v):=by
  apply Ax7 (by rw[Hi,Vu]);intro i hi;rw[pA,J?,AE];by_cases hlt:i<(Od k l v).length
  ·rw[A4 hlt]
  ·rw[A! hlt,qw F0]
 generalize hP:Jf (Od k l v)=P at*
 have h0:Na P 0 0=[]:=rfl;have z_:∀(x:Int) (y:UInt64) (aj ai:Int),Xw v (k:Int) s ai P x y=some (P,ai,((kS k (Uc s (xM v)):Nat):Int),x,Uc s (xM v),y,0):=by
  intro x y aj ai;rw[Xw,UG,Ct,VP,bR k h1];rw[Aqv,US,RS,EK,Ct,VP];rfl
 have hp7:∀ai:Int,UW v (k:Int) (l:Int) s t 0 ai P=some (P,ai,((kS k (Uc s (xM v)):Nat):Int),((lK l t k v:Nat):Int),Uc s (xM v),lT t k v,0):=by
  intro ai;rw[UW,UC,A! F6,B3 k l s t h1,Aa];by_cases hv:v.toNat<2^k
  ·rw[A4 hv];simp only;rw[A! U?,z_ _ _ 0,lK,A4 hv,lT,A4 hv]
  ·rw[A! hv];simp only;rw[A4 SP,Ct,VP,bR l h2 _ (λx=>Xw v (k:Int) s ai P x (Uc t (UInt64.ofNat (cC k v).toNat))),z_ _ _ 0,lK,A! hv,lT,A! hv];rfl
 rw[ZD,VI,show Hr [] 0=some 0 from rfl,Aa,A! F6,uV ⟨h1,h2,h3,h4⟩,Aa,A! F6,Aoy,VC,B3 k l s t h1,Aa];have hput:=put_eq P 0 1 F0 F0;rw[h0,J?,show((0:Nat):Int)=0 from rfl,show((1:Nat):Int)=1 from rfl]at hput;by_cases hv:v.toNat<2^k
 ·have hc:Od k l v=false::bM v.toNat k:=by rw[Od,A4 hv]
  rw[hc]at hAt hfull;obtain⟨b0,b1⟩:=hAt.cons;have hval:=GK P k 1 v.toNat b1;rw[B4 hv]at hval;have hz:(Ad (0:Int):UInt64)=Mk P 0 1:=sT F0 (by rw[qF,b0];rfl);rw[A4 hv];simp only;rw[hz,hput,Aa];simp only;rw[A4 F6,Ct,sT (x:=UInt64.ofNat v.toNat) (p:=P) (m:=1) (n:=k) F0 (by rw[TE F0,hval]),show(1:Int)=((1:Nat):Int)from rfl,put_eq P 1 k F0 F0,Aa];simp only;rw[I!,Ot,RV k 1]at hfull;rw[hfull,hp7,hc,I!,Ot,RV k 1]
 ·have hc:Od k l v=true::PJ l (v.toNat-2^k):=by rw[Od,A! hv]
  rw[hc]at hAt hfull;obtain⟨b0,b1⟩:=hAt.cons;have hsub:=Nat.sub_le v.toNat (2^k);have hlv:(cC k v).toNat=v.toNat-2^k:=by rw[cC,SZ F0]
  have hz:(Ad (1:Int):UInt64)=Mk P 0 1:=sT F0 (by rw[qF,b0];rfl);have hr:=Aju (p:=P) (m:=1) (l:=l) (v:=cC k v) h2 F0 (by rw[hlv];exact b1);rw[hlv,show((1:Nat):Int)=1 from rfl]at hr;rw[A! hv];simp only;rw[hz,hput,Aa];simp only;rw[A! F6,A4 F6,hr,Aa];simp only;rw[I!,RV _ 1]at hfull;rw[hfull,hp7,hc,I!,RV _ 1]
section
variable (ch:Nat) (x:LX)
theorem SW{at' i:Nat}(ha:at' %ch=0)(hi:i<ch)(h:at'+i<x.length):(mx ch x).getD (at'+i) 0=mxV (λi=>x.getD (at'+i) 0) ch i:=by
 have hb:(at'+i) %ch=i:=by rw[Nat.add_mod,ha,J?,Y7,B4 hi]
 rw[vG h,hb,show at'+i-i=at' by omega]
theorem Arz(bk:Int->LX->Option (LX×Int))(at':Nat)(h1:1<=ch)(h6:ch<=6)(hm:at' %ch=0)(hl:at'+ch<=x.length)(hl2:x.length<=4000):∀(j i q:Nat),i+j=ch-1->j<q->
  AR bk (ch:Int) (at':Int) q (i:Int) (ZE (λk=>decide (k<at'+i)) (mx ch x) x)=bk ((at'+ch:Nat):Int) (ZE (λk=>decide (k<at'+ch)) (mx ch x) x)
 |j,i,0,_,h=>absurd h (SK _)
 |0,i,q+1,hi,_=>by
  have hlen:=PB ch x;have e1:Ah (Ae (at':Int) (ch:Int)-(at':Int)) 1=((ch-1:Nat):Int):=by rw[Ag,Bi];omega
  have e2:Ae (at':Int) (ch:Int)-(at':Int)=(ch:Int):=by rw[Ag];omega
  have e4:Ae (at':Int) (ch:Int)=((at'+ch:Nat):Int):=by rw[Ag];omega
  rw[AR,SM,e1,A! F9,eF,Avq,e1,e2];obtain rfl:i=ch-1:=F0
  by_cases h2:1<ch
  ·have e3:Ah ((ch-1:Nat):Int) 1=((ch-2:Nat):Int):=by rw[Bi];omega
   have hv:Ah (x.getD (at'+(ch-1)) 0) (Cb ((mx ch x).getD (at'+(ch-2)) 0) 2)=(mx ch x).getD (at'+(ch-1)) 0:=by
    rw[SW ch x hm F0 F0,SW ch x hm F0 F0,mxV,mxV,A4 F0,A! F0,A4 h2,QB,show ch-2+1=ch-1 by omega]
   rw[A4 J!,lY F0,Aa,e3,lY F0,Aa,
    show(at':Int)+((ch-1:Nat):Int)=((at'+(ch-1):Nat):Int) by omega,show(at':Int)+((ch-2:Nat):Int)=((at'+(ch-2):Nat):Int) by omega,
    Yr F0,Aa,Yr F0,Aa,Aa,A! A7,A4 F7,hv,aO F0,Aa,iF,eU,e4]
   congr 1;apply Sd;intro k _;rw[H'];simp;omega
  ·obtain rfl:ch=1:=F0
   have hlast:x.getD at' 0=(mx 1 x).getD at' 0:=by
    have:=SW 1 x (i:=0) hm F0 F0;rw[PN]at this;rw[this,mxV,A! F0,A! F0];rfl
   rw[A! S4,iF,eU,e4];congr 1;apply P8 (by rw[HW,HW]);intro k g1 g2;rw[Qe,Qe];by_cases hk:k<at'
   ·rw[A4 F7,A4 F7]
   ·by_cases hk2:k=at'
    ·subst hk2;rw[A! A7,A4 A7];exact hlast
    ·rw[A! F7,A! F7]
 |j+1,i,q+1,hi,hq=>by
  have hlen:=PB ch x;have e1:Ah (Ae (at':Int) (ch:Int)-(at':Int)) 1=((ch-1:Nat):Int):=by rw[Ag,Bi];omega
  have e2:Ae (at':Int) (ch:Int)-(at':Int)=(ch:Int):=by rw[Ag];omega
  have e3:Ae (i:Int) 1=((i+1:Nat):Int):=by rw[Ag];omega
  have hv:Ah (x.getD (at'+(i+1)) 0) (x.getD (at'+i) 0)=(mx ch x).getD (at'+i) 0:=by
   rw[SW ch x hm F0 F0,mxV,A4 F0,QB]
  rw[AR,SM,e1,A4 F9,e2,e3,lY F0,Aa,lY F0,Aa,
   show(at':Int)+((i+1:Nat):Int)=((at'+(i+1):Nat):Int) by omega,show(at':Int)+(i:Int)=((at'+i:Nat):Int) by omega,
   Yr F0,Aa,Yr F0,Aa,Aa,A! A7,A! A7,hv,aO F0,Aa]
  have ih:=Arz bk at' h1 h6 hm hl hl2 j (i+1) q F0 F0;rw[<-ih];congr 1;apply Sd;intro k _;rw[H'];simp;omega
theorem Au0(h1:1<=ch)(h6:ch<=6)(hm:x.length %ch=0)(hl2:x.length<=4000):∀(j at' q:Nat),at' %ch=0->at'<=x.length->x.length-at'<=j->j<q->
  AU (ch:Int) q (at':Int) (ZE (λk=>decide (k<at')) (mx ch x) x)=some (mx ch x,0)
 |j,at',0,_,_,_,h=>absurd h (SK _)
 |j,at',q+1,ha,hle,hj,hq=>by
  have hlen:=PB ch x;have hl:Ac (ZE (λk=>decide (k<at')) (mx ch x) x)=(x.length:Int):=by rw[Ac,HW,hlen]
  rw[AU,eP,hl];by_cases h:at'<x.length
  ·have hb:=qU ha hm h;obtain⟨j,rfl⟩:∃k,j=k+1:=⟨j-1,F0⟩;have e4:Ae (at':Int) (ch:Int)=((at'+ch:Nat):Int):=by rw[Ag];omega
   have hi:=Arz ch x (AU (ch:Int) q) at' h1 h6 ha hb hl2 (ch-1) 0 Aq F0 C0;have hrest:=Au0 h1 h6 hm hl2 j (at'+ch) q (by rw[XK,ha]) hb F0 F0;rw[PN]at hi;rw[A4 F9,show cE (x.length:Int) (at':Int) (Ae (at':Int) (ch:Int))=some () by rw[e4,cE,lY];omega,Aa];exact J2 hi hrest
  ·rw[A! F9,kM (λk hk=>by simp;omega)];rfl
theorem Aho(h1:1<=ch)(h6:ch<=6)(hm:x.length %ch=0)(hl2:x.length<=4000):yA (ch:Int) x=some (mx ch x,0):=by
 have hlen:=PB ch x;have h:=Au0 ch x h1 h6 hm hl2 x.length 0 Aq A7 F0 F0 C0;rw[yA,nT,M_ ch x h1 h6 hm hl2,Aa,A! C6,Df,Bu F7,Aa,Aa,OJ,Au6];rw[eK hlen.symm (λk _=>by simp)]at h;exact h
end
theorem Akc(a:Int32):jY a=some (iM a):=by
 have h:=Xl a;have hc:(Ad a:UInt32)=UInt32.ofNat (a.toInt %4294967296).toNat:=rfl;have hs:(Bw a (GI.toZ (31:UInt64)).toNat)=if 0<=a.toInt then(0:Int32)else -1:=by
  have e:Bw a 31=Int32.ofInt (a.toInt.fdiv (2^31)):=rfl;rw[show(GI.toZ (31:UInt64)).toNat=31 from rfl,e];by_cases h0:0<=a.toInt
  ·rw[A4 h0,show a.toInt.fdiv (2^31)=0 by rw[Q_ _ F6];omega];rfl
  ·rw[A! h0,show a.toInt.fdiv (2^31)= -1 by rw[Q_ _ F6];omega];rfl
 rw[jY,hs,hc,iM];congr 1;have hsh:(Db (UInt32.ofNat (a.toInt %4294967296).toNat) (GI.toZ (1:UInt64)).toNat).toNat=2*(a.toInt %4294967296).toNat %4294967296:=by
  rw[show(GI.toZ (1:UInt64)).toNat=1 from rfl,dX,L?,B4 (show(a.toInt %4294967296).toNat<2^32 by omega)];omega
 by_cases h0:0<=a.toInt
 ·rw[A4 h0,A4 h0,show(Ad (0:Int32):UInt32)=0 from rfl];apply UInt32.toNat_inj.1;rw[show∀z:UInt32,Ri z (0:UInt32)=z^^^0 from λz=>by rw[VU],XQ,hsh,L?,B4 (show 2*a.toInt.toNat<2^32 by omega)]
  show _^^^0=_;rw[Nat.xor_zero];omega
 ·rw[A! h0,A! h0,show(Ad (-1:Int32):UInt32)=4294967295 from rfl];apply UInt32.toNat_inj.1;rw[show∀z:UInt32,Ri z (4294967295:UInt32)=z^^^4294967295 from λz=>by rw[VU],XQ,hsh,L?,B4 (show 2*(-a.toInt-1).toNat+1<2^32 by omega)]
  show _^^^4294967295=_;have key:∀n:Nat,n<4294967296->n^^^4294967295=4294967295-n:=by
   intro n hn;have:=dQ (x:=BitVec.ofNat 32 n);rw[<-BitVec.xor_allOnes,dF,BitVec.toNat_ofNat,B4 F0]at this;simpa using this
  rw[key _ F0];omega
theorem Ajj(h:Cj bits){t p:LX}(hF:Q? (sB bits) t p)(last x:Int32):
  Sa bits last (sB bits) t p x=some (xC bits (last,t,p) x,bits,x,sB bits,yL t p (xC bits (last,t,p) x),(x-gs (shB bits) last)::p.take 15,0):=by
 rw[Sa,M4 h,Aa,A! C6,v? h,Aa];simp only;rw[QB,TX,M! hF,Aa];simp only;rw[A! C6,QB,OS,Awo hF,Aa];simp only;rw[oM (s:=sB bits) (t:=yL t p _) (p:=p) ⟨hF.1,DU _ _ _,hF.2.2⟩,Aa,Aa];rfl
end Go.Pl
