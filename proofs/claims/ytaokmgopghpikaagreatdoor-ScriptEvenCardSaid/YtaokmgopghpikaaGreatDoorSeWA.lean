/- A part of a proof (see the text that ends in Proof). No conditions. -/
import Derived.Test.YtaokmgopghpikaaGreatDoorSePA
import Derived.KernelRfl
set_option linter.unusedVariables false
set_option linter.unusedSimpArgs false
namespace Go.Lv
variable{a b:Int}{l:List UInt8}{n:Nat}{α:Type}
theorem Ag(h: -9223372036854775808<=a+b:=by omega)(h':a+b<=9223372036854775807:=by omega):Ae a b=a+b:=by rw[Aq0,Db h h']
theorem Cc(h: -9223372036854775808<=a-b:=by omega)(h':a-b<=9223372036854775807:=by omega):Am a b=a-b:=by rw[Arb,Db h h']
theorem Fg(h: -9223372036854775808<=a*b:=by omega)(h':a*b<=9223372036854775807:=by omega):Br a b=a*b:=by rw[tX,Db h h']
theorem TD(c:UInt8):(Ad c:Int)=(c.toNat:Int):=by rw[Ajj,Db]<;>have:=c.toNat_lt<;>omega
theorem C7(c:UInt32):(Ad c:Int)=(c.toNat:Int):=by rw[Afy,Db]<;>have:=c.toNat_lt<;>omega
theorem qS(c:UInt8):(Ad c:UInt64)=UInt64.ofNat c.toNat:=by simp only[Ad,EG,It]
theorem Dr(c:UInt32):(Ad c:UInt64)=UInt64.ofNat c.toNat:=by simp only[Ad,Zh,It]
theorem VO(c:UInt64):(Ad c:UInt8)=UInt8.ofNat c.toNat:=by simp only[Ad,Ko,Oc]
theorem rB(c:UInt32):(Ad c:UInt8)=UInt8.ofNat c.toNat:=by simp only[Ad,Zh,Oc]
theorem Vn(n:Nat):(Ad (n:Int):UInt64)=UInt64.ofNat n:=by simp only[Ad];exact It n
theorem Apd(n:Nat):(Ad (n:Int):UInt32)=UInt32.ofNat n:=by simp only[Ad];exact Fk n
theorem Ai2(n:Nat):(Ad (n:Int):UInt8)=UInt8.ofNat n:=by simp only[Ad];exact Oc n
theorem xM{c:UInt64}(h:c.toNat<9223372036854775808):(Ad c:Int)=(c.toNat:Int):=by rw[Afu,Db]<;>omega
theorem pV:V9=17179869184:=F3
theorem Aq:36893488147419103231<As:=F3
theorem Cj{l:List α}(h:n<l.length:=by omega):Aj l (n:Int)=some l[n]:=by simp[Aj,h]
theorem Uh{l:List α}(x:α)(h:n<l.length):Mm l (n:Int) x=some (l.set n x):=by simp[Mm,h]
theorem PY{l:List α}(h:0<=a:=by omega)(h1:a<=b:=by omega)(h2:b<=l.length:=by omega):Bp l a b=some ((l.take b.toNat).drop a.toNat):=by rw[Bp,CD ⟨h,h1,h2⟩]
theorem Di{l:List α}(h:0<=a:=by omega)(h1:a<=l.length:=by omega):Bp l a (Ac l)=some (l.drop a.toNat):=by
 unfold Ac;rw[PY h h1 (Int.le_refl _),O1,US]
theorem Dg{l:List α}(h:0<=b:=by omega)(h1:b<=l.length:=by omega):Bp l 0 b=some (l.take b.toNat):=by rw[PY (Int.le_refl _) h h1];rfl
theorem Bi{l m:List α}(h:l.length+m.length<=17179869184:=by omega):Da l m=some (l++m):=by rw[Da,pV,CD h]
theorem pW{n:Int}{z:α}(h:0<=n:=by omega)(h':n<=17179869184:=by omega):mkI n z=some (List.replicate n.toNat z):=by rw[mkI,pV,CD ⟨h,h'⟩]
theorem Bq{b:Bool}(h:b=true):Ke b=some ():=by rw[h];rfl
theorem Aa{β:Type}(a:α)(f:α->Option β):Option.bind (some a) f=f a:=rfl
theorem drop_cons{l:List α}(h:n<l.length):l.drop n=l[n]::l.drop (n+1):=zW h
theorem Ns{l:List α}(h:n<l.length):l.take (n+1)=l.take n++[l[n]]:=by rw[List.take_add_one,RR h];rfl
def Ff:List UInt8->Nat
 |[]=>0
 |x::r=>x.toNat+256*Ff r
theorem ze:∀l:List UInt8,Ff l<256^l.length
 |[]=>by simp[Ff]
 |x::r=>by
  have h:=ze r;have:=x.toNat_lt;simp only[Ff,R8,RF];omega
theorem I9:∀l m:List UInt8,Ff (l++m)=Ff l+256^l.length*Ff m
 |[],m=>by simp[Ff]
 |x::r,m=>by
  simp only[Ff,VC,I9 r m,R8,RF,eu];rw[Q2 (256^r.length) 256,RT];omega
def pJ(l:List UInt8):UInt64:=UInt64.ofNat (Ff l)
theorem Ami(h:l.length<=8):Ff l<18446744073709551616:=by
 have h1:=ze l;have h2:256^l.length<=256^8:=PZ F0 h;exact RN h1 (by simpa using h2)
theorem sI(h:l.length<=4):Ff l<4294967296:=by
 have h1:=ze l;have h2:256^l.length<=256^4:=PZ F0 h;exact RN h1 (by simpa using h2)
theorem YZ(h:l.length<=8):(pJ l).toNat=Ff l:=by
 rw[pJ,Q8,DM (Ami h)]
theorem ND(h:l.length<=4):(Ad (pJ l):Int)=(Ff l:Int):=by
 have:=sI h;rw[xM]<;>rw[YZ F0];omega
def Xj(n:Nat):Nat->List UInt8
 |0=>[]
 |w+1=>UInt8.ofNat n::Xj (n/256) w
theorem El:∀(w n:Nat),(Xj n w).length=w
 |0,_=>rfl
 |w+1,n=>by simp[Xj,El w]
theorem Au6:∀(w n:Nat),Xj n (w+1)=Xj n w++[UInt8.ofNat (n/256^w)]
 |0,n=>by simp[Xj]
 |w+1,n=>by
  rw[Xj,Au6 w (n/256),Xj];simp[YP,RF,Q2]
def Hk(p:List UInt8)(i:Nat):Nat:=(p.getD (i/8) 0).toNat/2^(i %8) %2
theorem BY(p:List UInt8)(i:Nat):Hk p i<2:=RW _ F0
def Cg(p:List UInt8):Nat->Nat->Nat
 |_,0=>0
 |a,n+1=>Hk p a+2*Cg p (a+1) n
theorem Pe(p:List UInt8):∀(n a:Nat),Cg p a n<2^n
 |0,_=>by simp[Cg]
 |n+1,a=>by
  have:=Pe p n (a+1);have:=BY p a;rw[Cg,RF];omega
theorem OB(p:List UInt8):∀(m n a:Nat),Cg p a (m+n)=Cg p a m+2^m*Cg p (a+m) n
 |0,n,a=>by simp[Cg]
 |m+1,n,a=>by
  rw[show m+1+n=(m+n)+1 by omega,Cg,Cg,OB p m n (a+1),show a+1+m=a+(m+1) by omega,RF,eu,Q2 (2^m) 2,RT];omega
theorem tI(p:List UInt8)(a:Nat):Cg p a 1=Hk p a:=by simp[Cg]
theorem mW(p:List UInt8)(a n:Nat):Cg p a (n+1)=Cg p a n+2^n*Hk p (a+n):=by rw[OB p n 1 a,tI]
theorem cF(p:List UInt8)(a:Nat):∀t:Nat,a %8+t<=8->Cg p a t=(p.getD (a/8) 0).toNat/2^(a %8) %2^t
 |0,_=>by simp[Cg,iY]
 |t+1,h=>by
  have h1:(a+t)/8=a/8:=F0
  have h2:(a+t) %8=a %8+t:=F0
  rw[mW,cF p a t F0,Hk,h1,h2,Nat.mod_pow_succ,WV,YP]
theorem Ae2{p:List UInt8}:∀(n a:Nat),(∀k,k<n->Hk p (a+k)=0)->Cg p a n=0
 |0,_,_=>rfl
 |n+1,a,h=>by
  have h0:=h 0 F0;rw[Cg,Ae2 n (a+1) λk hk=>by have:=h (k+1) F0;rwa [show a+1+k=a+(k+1) by omega]];rw[U_]at h0;omega
def okB(p:List UInt8)(n:Nat):Prop:=n<=330000/\p.length=(n+7)/8/\∀k,n<=k->k<8*p.length->Hk p k=0
def Qu(p:List UInt8)(a n:Nat):List UInt8:=(List.range ((n+7)/8)).map λj=>UInt8.ofNat (Cg p (a+8*j) (min 8 (n-8*j)))
theorem Jd(p:List UInt8)(a n:Nat):(Qu p a n).length=(n+7)/8:=by simp[Qu]
theorem Asq(p:List UInt8):∀(n a k:Nat),k<n->Cg p a n/2^k %2=Hk p (a+k)
 |n+1,a,0,_=>by have:=BY p a;rw[Cg];simp;omega
 |n+1,a,k+1,h=>by
  have hb:=BY p a;have e:(Hk p a+2*Cg p (a+1) n)/2=Cg p (a+1) n:=F0
  rw[Cg,RF,Q2 (2^k) 2,<-YP,e,Asq p n (a+1) k F0,show a+1+k=a+(k+1) by omega]
theorem Afz(p:List UInt8)(n a k:Nat)(h:n<=k):Cg p a n/2^k %2=0:=by
 have:=Pe p n a;rw[VJ (RN this (PZ F0 h))]
theorem D9(p:List UInt8)(a n k:Nat):Hk (Qu p a n) k=if k<n then Hk p (a+k)else 0:=by
 rw[Hk];by_cases hj:k/8<(n+7)/8
 ·have e:(Qu p a n).getD (k/8) 0=UInt8.ofNat (Cg p (a+8*(k/8)) (min 8 (n-8*(k/8)))):=by
   rw[J3,RR (by rw[Jd];exact hj)];simp[Qu]
  have hlt:Cg p (a+8*(k/8)) (min 8 (n-8*(k/8)))<256:=by
   have:=Pe p (min 8 (n-8*(k/8))) (a+8*(k/8));have h2:2^(min 8 (n-8*(k/8)))<=2^8:=PZ F0 F0;omega
  have hu:(UInt8.ofNat (Cg p (a+8*(k/8)) (min 8 (n-8*(k/8))))).toNat=Cg p (a+8*(k/8)) (min 8 (n-8*(k/8))):=by
   rw[RO];exact DM hlt
  rw[e,hu];by_cases hk:k<n
  ·rw[CD hk,Asq p _ _ _ F0,show a+8*(k/8)+k %8=a+k by omega]
  ·rw[B! hk,Afz p _ _ _ F0]
 ·have e:(Qu p a n).getD (k/8) 0=0:=by
   rw[J3,Xq (by rw[Jd];omega)];rfl
  rw[e,B! F0];simp
theorem sR(p:List UInt8)(a n:Nat)(h:n<=330000):okB (Qu p a n) n:=⟨h,Jd p a n,λk hk _=>by rw[D9,B! F0]⟩
theorem Q_{p q:List UInt8}(hl:p.length=q.length)(h:∀k,k<8*p.length->Hk p k=Hk q k):p=q:=by
 apply UW hl;intro i h1 h2;have hp:Cg p (8*i) 8=Cg q (8*i) 8:=by
  have key:∀(n a:Nat),a+n<=8*p.length->Cg p a n=Cg q a n:=by
   intro n
   induction n with
   |zero=>intros;rfl
   |succ n ih=>intro a ha;rw[Cg,Cg,h a F0,ih (a+1) F0]
  exact key 8 (8*i) F0
 rw[cF p _ 8 F0,cF q _ 8 F0]at hp;have e1:8*i/8=i:=F0
 have e2:8*i %8=0:=F0
 rw[e1,e2]at hp;have a1:p.getD i 0=p[i]:=by simp[J3,h1]
 have a2:q.getD i 0=q[i]:=by simp[J3,h2]
 rw[a1,a2]at hp;apply UInt8.toNat_inj.1;have:=p[i].toNat_lt;have:=q[i].toNat_lt;simp at hp;omega
end Go.Lv
namespace Go.Pl
open Go Go.Lv
variable{x w:Int32}{α:Type}{s:UInt64}
theorem F2{p:Prop}(h:p:=by rw[Af,Ac];simp;omega):p:=h
theorem F9{p:Prop}(h:p:=by rw[Af];simp;omega):p:=h
theorem RX{p:Prop}(h:p:=by rw[Dq];simp;omega):p:=h
theorem SC{p:Prop}(h:p:=by rw[Ax];simp;omega):p:=h
theorem SY{p:Prop}(h:p:=by simp[Af,Au];omega):p:=h
theorem V!{p:Prop}(h:p:=by unfold Ac;omega):p:=h
theorem F8{p:Prop}(h:p:=by have:=Aq;omega):p:=h
theorem RY{p:Prop}(h:p:=by rw[Dq];simp):p:=h
theorem Y8{p:Prop}(h:p:=by rw[Ax];simp):p:=h
theorem WG{p:Prop}(h:p:=by rw[Ax];rfl):p:=h
theorem uL(b:LB)(hb:b.length<4611686018427387904):∀(j q:Nat),j<=b.length->j<q->On b q (pJ (b.drop j)) ((j:Int)-1)=some (pJ b)
 |0,q+1,_,_=>by
  rw[On,EF,B! RY];simp[Aco,Abx]
 |j+1,q+1,hj,hq=>by
  rw[On,EF,CD RY,show((j+1:Nat):Int)-1=(j:Int) by omega,Cj,Aa,Cc];have h:Ae (Br (256:UInt64) (pJ (b.drop (j+1)))) (Ad b[j]:UInt64)=pJ (b.drop j):=by
   rw[OR,OL,qS,drop_cons (n:=j) F0,pJ,pJ,Ff,oZ,iI];exact UInt64.add_comm _ _
  rw[h];exact uL b hb j q F0 F0
theorem r!(b:LB)(hb:b.length<4611686018427387904):Ed b=some (pJ b):=by
 have h:=uL b hb b.length As (N! _) F8;rw[Ed,Ac7,Ac8];have e:Am (Ac b) 1=(b.length:Int)-1:=Cc V! V!;rw[e,<-h,VM];rfl
theorem vR{n c:UInt64}{i:Nat}(hn:n.toNat<2^i)(hc:c.toNat*2^i<18446744073709551616):rA n (Dl c i)=UInt64.ofNat (n.toNat+c.toNat*2^i):=by
 rw[Ao6];apply UInt64.toNat_inj.1;rw[UInt64.toNat_or,WJ,DM hc,Q2,Nat.or_comm,<-X2 hn,Q8,DM,VQ,Q2];have h:=X2 hn c.toNat;have h2:2^i*c.toNat+n.toNat<2^64:=by
  rw[h];exact Nat.or_lt_two_pow (by rw[Q2];simpa using hc) n.toNat_lt
 rw[VQ];first|exact h2|(rw[Q2];exact h2)
theorem Apo(b:LB)(hb:b.length<=8):∀(j i q:Nat),i+j=b.length->j<q->EM b q (pJ (b.take i)) (i:Int)=some (pJ b,0)
 |0,i,q+1,hi,_=>by
  rw[EM,XZ,B! F2,show i=b.length by omega,US];rfl
 |j+1,i,q+1,hi,hq=>by
  have hlt:i<b.length:=F0
  rw[EM,XZ,CD F2,Cj hlt,Aa,Fg,Bq RX,Aa,Ag];have h:rA (pJ (b.take i)) (Dl (Ad b[i]:UInt64) (GI.toZ ((8:Int)*(i:Int))).toNat)=pJ (b.take (i+1)):=by
   have e:(GI.toZ ((8:Int)*(i:Int))).toNat=8*i:=by show((8:Int)*(i:Int)).toNat=_;omega
   have e2:(2:Nat)^(8*i)=256^i:=by rw[iZ]
   have h1:=ze (b.take i);rw[JW,SF F0]at h1;have h3:=b[i].toNat_lt;have hle:(256:Nat)^(i+1)<=256^8:=PZ F0 F0;rw[RF]at hle;have h4:(Ad b[i]:UInt64).toNat=b[i].toNat:=by rw[qS,Q8];omega
   have h5:b[i].toNat*256^i<18446744073709551616:=by
    have:b[i].toNat*256^i<256*256^i:=ny (by simpa using h3) (TU F0);simp at hle;omega
   rw[e,vR (by rw[YZ F7,e2];exact h1) (by rw[h4,e2];exact h5),YZ F7,h4,e2,Ns hlt];rw[pJ,I9];simp only[Ff,JW,SF (Nat.le_of_lt hlt),Nat.mul_zero,U_];rw[Q2]
  rw[h];exact Apo b hb j (i+1) q F0 F0
theorem D? (b:LB)(h1:1<=b.length)(h2:b.length<=8):kG b=some (pJ b,0):=by
 have h:=Apo b h2 b.length 0 As F0 F8;rw[kG,mL,B! (by simp[Af,Au,Ac];omega),Aw7];exact h
def part(b:LB)(at' w:Nat):LB:=(b.take (at'+w)).drop at'
theorem Em{b:LB}{a w:Nat}(h:a+w<=b.length:=by omega):(part b a w).length=w:=by simp[part];omega
theorem X9(b:LB)(a w:Nat)(h1:1<=w)(h2:w<=8)(h3:a+w<=b.length)(hb:b.length<4611686018427387904):cA b (a:Int) (w:Int)=some (pJ (part b a w),0):=by
 rw[cA,B! SY,B! (by rw[Au,Cc V! V!,Ac];simp;omega),Ag,PY,Aa];rw[show((a:Int)+(w:Int)).toNat=a+w by omega,show(a:Int).toNat=a by omega];rw[D? _ (by rw[show((b.take (a+w)).drop a).length=_ from Em h3];exact h1) (by rw[show((b.take (a+w)).drop a).length=_ from Em h3];exact h2),Aa];rfl
theorem Aux(w:Nat)(hw:w<=1000):∀(j i q:Nat) (n:UInt64) (acc:LB),i+j=w->j<q->acc.length+j<=1000000->Iq (w:Int) q n (i:Int) acc=some (acc++Xj n.toNat j)
 |0,i,q+1,n,acc,hi,_,_=>by
  rw[Iq,Te,B! F9];simp[EK,EX,Xj]
 |j+1,i,q+1,n,acc,hi,hq,ha=>by
  rw[Iq,Te,CD F9];have e:(Ad (FP n (256:UInt64)):UInt8)=UInt8.ofNat n.toNat:=by
   rw[VO,Aj6];apply UInt8.toNat_inj.1;rw[RO,RO,oW]
   show n.toNat %256 %256=_;omega
  have e2:(Ci n (256:UInt64)).toNat=n.toNat/256:=by rw[uJ,aP];rfl
  rw[Bi F7,Aa,Ag,e];have h:=Aux w hw j (i+1) q (Ci n 256) (acc++[UInt8.ofNat n.toNat]) F0 F0 F7;rw[e2]at h;rw[show((i:Int)+1)=((i+1:Nat):Int) by omega,h,Xj];simp
theorem N7(n:UInt64)(w:Nat)(hw:w<=1000):Ew n (w:Int)=some (Xj n.toNat w):=by
 rw[Ew,FD,EW];have h:=Aux w hw w 0 As n [] F0 F8 F7;simpa using h
theorem mP{l m:List α}{x y:α}{i:Nat}(h:l.length=i):(l++x::m).set i y=l++y::m:=by subst h;simp
theorem Ad2(n:UInt64)(l4:LB)(w:Nat)(hl:l4.length=w)(hw:w<=8):∀(j i q:Nat),i+j=w->j<q->FH n l4 q (i:Int) (Xj n.toNat i++List.replicate j 0)=some (Xj n.toNat w,0)
 |0,i,q+1,hi,_=>by
  rw[FH,XT,B! F2];obtain rfl:i=w:=F0
  simp[jM,Aw2]
 |j+1,i,q+1,hi,hq=>by
  have hlen:(Xj n.toNat i++List.replicate (j+1) 0).length=i+(j+1):=by simp[El]
  rw[FH,XT,CD F2,Fg,Bq RX,Aa,Cj (by rw[hlen];omega),Aa,Uh _ (by rw[hlen];omega),Aa,Ag];have e:(Ad (Cq n (GI.toZ ((8:Int)*(i:Int))).toNat):UInt8)=UInt8.ofNat (n.toNat/256^i):=by
   have e:(GI.toZ ((8:Int)*(i:Int))).toNat=8*i:=by show((8:Int)*(i:Int)).toNat=_;omega
   rw[e,VO,JJ,iZ]
  rw[e,VB,mP (El _ _)];have h:=Ad2 n l4 w hl hw j (i+1) q F0 F0;rw[Au6]at h;simpa using h
theorem Ape(n:UInt64)(w:Nat)(h1:1<=w)(h2:w<=8)(h:n.toNat<256^w):C3 n (w:Int)=some true:=by
 rw[C3];by_cases h8:w=8
 ·subst h8;rw[CD WG]
 ·rw[B! SC,Fg,Bq RX,Aa];have e:(GI.toZ ((8:Int)*(w:Int))).toNat=8*w:=by show((8:Int)*(w:Int)).toNat=_;omega
  rw[e,B0];have:Cq n (8*w)=0:=by
   apply UInt64.toNat_inj.1;rw[JJ,iZ];exact VJ h
  rw[this];rfl
theorem VN(n:UInt64)(w:Nat)(h1:1<=w)(h2:w<=8)(h:n.toNat<256^w):BN n (w:Int)=some (Xj n.toNat w,0):=by
 rw[BN,lB,B! SY,Ape n w h1 h2 h,Aa,B! CH,pW,Aa,Bq Y8,Aa,Aw4];have h:=Ad2 n (List.replicate (w:Int).toNat 0) w CH h2 w 0 As F0 F8;simpa [Xj]using h
theorem R7{p:Prop}(h:p:=by rw[Au];simp;omega):p:=h
theorem M_{p:Prop}(h:p:=by rw[Ao];simp):p:=h
theorem yW(n:Nat)(h:n<4611686018427387904):Ev (n:Int) (7:Int)=((n %8:Nat):Int):=by
 have e:Ev (n:Int) (7:Int)=wrap64 ((BitVec.ofInt 64 (n:Int)&&&BitVec.ofInt 64 7).toNat:Int):=rfl;rw[e,iC,W7,W7];have h1:((n:Int) %((2^64:Nat):Int)).toNat=n:=F0
 have h2:((7:Int) %((2^64:Nat):Int)).toNat=2^3-1:=F3
 rw[h1,h2,dC,Db F0 F0]
theorem yN(n:Nat):xw (n:Int) (GI.toZ (3:UInt64)).toNat=((n/8:Nat):Int):=by
 have e:xw (n:Int) (GI.toZ (3:UInt64)).toNat=(n:Int).fdiv 8:=rfl;rw[e,U? _ F0];omega
theorem Aud{t:Nat}(h:t<=8):Am (Dl (1:UInt8) t) (1:UInt8)=UInt8.ofNat (2^t-1):=by
 have:t=0\/t=1\/t=2\/t=3\/t=4\/t=5\/t=6\/t=7\/t=8:=F0
 rcases this with rfl|rfl|rfl|rfl|rfl|rfl|rfl|rfl|rfl<;>decide
theorem bitsOf(c:UInt8)(off t:Nat)(h:t<=8):(Ev (Cq c off) (Am (Dl (1:UInt8) t) (1:UInt8))).toNat=c.toNat/2^off %2^t:=by
 have hp:2^t<=2^8:=PZ F0 h;rw[Aud h,pS,om,zk,RO,DM (by have:=TU (n:=t) (show 0<2 by omega);omega),dC]
theorem N9{p:LB}{k:Nat}(h:k<p.length):Aj p (k:Int)=some (p.getD k 0):=by
 rw[Cj h];simp[J3,h]
def Pn(p:LB)(a n:Nat):UInt64:=UInt64.ofNat (Cg p a n)
theorem Yq(p:LB)(a n:Nat)(h:n<=64):(Pn p a n).toNat=Cg p a n:=by
 have h1:=Pe p n a;have h2:2^n<=2^64:=PZ F0 h;rw[Pn,Q8,DM F0]
theorem K!(p:LB)(N:Int)(a n:Nat)(hn:n<=64)(ha:a+n<=8*p.length)(hp:p.length<=1000000):∀(j h q:Nat),h+j=n->j<q->OH (a:Int) (n:Int) p N q (Pn p a h) (h:Int)=some (Pn p a n)
 |j,h,q+1,hj,hq=>by
  rw[OH,lF];by_cases hlt:h<n
  ·have e1:Ae (a:Int) (h:Int)=((a+h:Nat):Int):=by rw[Ag];omega
   have e2:Ee (Am (n:Int) (h:Int)) (Am (8:Int) (((a+h) %8:Nat):Int))=((min (n-h) (8-(a+h) %8):Nat):Int):=by
    rw[AK,Cc,Cc];omega
   have hm:(a+h)/8<p.length:=F0
   rw[CD F9,e1,yN,N9 hm,Aa,yW _ F0,Bq RX,Aa,e2,Bq RY,Aa,Bq RY,Aa];generalize hT:min (n-h) (8-(a+h) %8)=T;have hT8:T<=8:=F0
   have hT1:1<=T:=F0
   have hb:(a+h) %8+T<=8:=F0
   have hv:=cF p (a+h) T hb;have z1:(GI.toZ (((a+h) %8:Nat):Int)).toNat=(a+h) %8:=rfl;have z2:(GI.toZ ((T:Nat):Int)).toNat=T:=rfl;have z3:(GI.toZ ((h:Nat):Int)).toNat=h:=rfl;rw[z1,z2,z3];have hx:(Ad (Ev (Cq (p.getD ((a+h)/8) 0) ((a+h) %8)) (Am (Dl (1:UInt8) T) (1:UInt8))):UInt64).toNat=Cg p (a+h) T:=by
    rw[qS,Q8,bitsOf _ _ _ hT8,<-hv];have:=Pe p T (a+h);have h2:2^T<=2^8:=PZ F0 hT8;omega
   have hlt2:=Pe p (h+T) a;rw[OB]at hlt2;have h64:2^(h+T)<=2^64:=PZ F0 F0;have hor:rA (Pn p a h) (Dl (Ad (Ev (Cq (p.getD ((a+h)/8) 0) ((a+h) %8)) (Am (Dl (1:UInt8) T) (1:UInt8))):UInt64) h)=Pn p a (h+T):=by
    rw[vR (by rw[Yq p a h F0];exact Pe p h a) (by rw[hx,Q2];omega),hx,Yq p a h F0,Pn,OB,Q2 (2^h)]
   rw[hor,Ag,show(h:Int)+((T:Nat):Int)=((h+T:Nat):Int) by omega];exact K! p N a n hn ha hp (j-T) (h+T) q F0 F0
  ·rw[B! F9,show h=n by omega];rfl
theorem get_eq(p:LB)(N:Int)(a n:Nat)(hn:n<=64)(ha:a+n<=8*p.length)(hp:p.length<=1000000):uI p N (a:Int) (n:Int)=some (Pn p a n):=by
 have:=K! p N a n hn ha hp n 0 As F0 F8;exact this
theorem Zi{p:LB}{n:Nat}(h:okB p n):Ju p (n:Int)=some 0:=by
 obtain⟨h1,h2,h3⟩:=h;have e7:Ae (n:Int) 7=((n+7:Nat):Int):=by rw[Ag];omega
 rw[Ju,e7,yN,B! (by simp[Af,Au,Ao,Ac,h2];omega),yW _ F0];by_cases hz:n %8=0
 ·rw[B! R7]
 ·have el:Am (Ac p) 1=((p.length-1:Nat):Int):=by rw[Ac,Cc];omega
  rw[CD R7,el,N9 F0,Aa,Bq RX,Aa];have z:(GI.toZ ((n %8:Nat):Int)).toNat=n %8:=rfl;have hs:Cq (p.getD (p.length-1) 0) (n %8)=0:=by
   apply UInt8.toNat_inj.1;rw[zk];have hv:=cF p n (8-n %8) F0;have h0:Cg p n (8-n %8)=0:=Ae2 _ _ λk hk=>h3 _ F0 F0;rw[h0,show n/8=p.length-1 by omega]at hv;have hlt:(p.getD (p.length-1) 0).toNat/2^(n %8)<2^(8-n %8):=by
    have:=(p.getD (p.length-1) 0).toNat_lt;rw[Nat.div_lt_iff_lt_mul (TU F0),<-WV,show 8-n %8+n %8=8 by omega];simpa using this
   rw[DM hlt]at hv;exact hv.symm
  rw[z,hs,B! (by rw[jq];simp)]
theorem xQ{p:LB}{N:Nat}(h:okB p N)(a n:Nat)(hn:n<=64):IF p (N:Int) (a:Int) (n:Int)=some (if N<a+n then(0,24)else(Pn p a n,0)):=by
 obtain⟨h1,h2,h3⟩:=h;rw[IF,Zi ⟨h1,h2,h3⟩,Aa,B! M_,B! SY,Cc];by_cases hl:N<a+n
 ·rw[CD R7,CD hl]
 ·rw[B! R7,get_eq p N a n hn F0 F0,Aa,B! hl]
theorem iX{p:Prop}(h:p:=by rw[Jd];simp;omega):p:=h
theorem fN{p:Prop}(h:p:=by rw[Q2];omega):p:=h
theorem Au7(c:Nat)(h:c<4611686018427387904):Ci (c:Int) (2:Int)=((c/2:Nat):Int):=by
 rw[QC,XL F0,Db F0 F0];omega
theorem yO(c:Nat)(h:c<4611686018427387904):Ci (c:Int) (8:Int)=((c/8:Nat):Int):=by
 rw[QC,XL F0,Db F0 F0];omega
theorem cI(c:Nat):Hl (c:Int) (8:Int)=((c %8:Nat):Int):=by rw[Hl,dA F0];omega
theorem Avh(c:Nat):Hl (c:Int) (2:Int)=((c %2:Nat):Int):=by rw[Hl,dA F0];omega
theorem rN(i c:Nat)(hc:c<256):∀(j k q:Nat),k+j=i %8->j<q->Ox (i:Int) q ((c/2^k:Nat):Int) (k:Int)=some (((c/2^(i %8) %2:Nat):Int))
 |0,k,q+1,hk,_=>by
  rw[Ox,DS,cI,B! F9,Ad5,Acs,Avh,show k=i %8 by omega]
 |j+1,k,q+1,hk,hq=>by
  have hle:c/2^k<=c:=RS _ _;rw[Ox,DS,cI,CD F9,Au7 _ F0,Ag,YP,<-RF];exact rN i c hc j (k+1) q F0 F0
theorem vQ(p:LB)(N:Int)(i:Nat)(h:i/8<p.length)(hi:i<4611686018427387904):Mj p N (i:Int)=some ((Hk p i:Nat):Int):=by
 have hc:=(p.getD (i/8) 0).toNat_lt;have:=rN i (p.getD (i/8) 0).toNat (by simpa using hc) (i %8) 0 As F0 F8;rw[Mj,Acv,yO _ hi,N9 h,Aa,TD,Acu];simpa [Hk]using this
theorem L7(p:LB)(N:Int)(a n:Nat)(ha:a+n<=8*p.length)(hp:p.length<=1000000):∀(j q:Nat),j<=n->j<q->Ks (a:Int) p N q (Pn p (a+j) (n-j)) ((j:Int)-1)=some (Pn p a n)
 |0,q+1,_,_=>by
  rw[Ks,Vz,B! RY];rfl
 |j+1,q+1,hj,hq=>by
  have hb:=BY p (a+j);rw[Ks,Vz,show((j+1:Nat):Int)-1=(j:Int) by omega,CD RY,Ag (a:=(a:Int)) F0 F0,show(a:Int)+(j:Int)=((a+j:Nat):Int) by omega,vQ p N (a+j) F0 F0,Aa,Cc];have e:Ae (Br (2:UInt64) (Pn p (a+(j+1)) (n-(j+1)))) (Ad ((Hk p (a+j):Nat):Int):UInt64)=Pn p (a+j) (n-j):=by
   rw[OR,OL,Vn,Pn,Pn,show n-j=(n-(j+1))+1 by omega,Cg,show a+j+1=a+(j+1) by omega,oZ,iI];exact UInt64.add_comm _ _
  rw[e];exact L7 p N a n ha hp j q F0 F0
theorem qD(p:LB)(N:Int)(a n:Nat)(ha:a+n<=8*p.length)(hp:p.length<=1000000):Uk p N (a:Int) (n:Int)=some (Pn p a n):=by
 have:=L7 p N a n ha hp n As (N! _) F8;have hz:Pn p (a+n) (n-n)=0:=by rw[Nat.sub_self];rfl
 rw[hz]at this;rw[Uk,KM,KD,Cc];exact this
theorem tH(bit:Int)(N:Nat)(l:LB):∀(j k q:Nat),k+j=N %8->j<q->Mx bit (N:Int) l q ((2^k:Nat):Int) (k:Int)=AM bit ((2^(N %8):Nat):Int) (N:Int) l
 |0,k,q+1,hk,_=>by
  rw[Mx,BM,cI,B! F9,show k=N %8 by omega]
 |j+1,k,q+1,hk,hq=>by
  have hp:2^k<=2^8:=PZ F0 F0;have e:Br ((2^k:Nat):Int) 2=((2^(k+1):Nat):Int):=by
   rw[RF];generalize 2^k=K at*
   rw[Fg];omega
  rw[Mx,BM,cI,CD F9,e,Ag];exact tH bit N l j (k+1) q F0 F0
theorem O4(p:LB)(a n j:Nat)(h:j<(n+7)/8):(Qu p a n)[j]'(by rw[Jd];exact h)=UInt8.ofNat (Cg p (a+8*j) (min 8 (n-8*j))):=by simp[Qu]
theorem vD(p:LB)(a t:Nat)(h:t<=8):Cg p a t<256:=by
 have h1:=Pe p t a;have h2:2^t<=2^8:=PZ F0 h;omega
def room(p:LB)(a n:Nat):LB:=if n %8=0 then Qu p a n++[0]else Qu p a n
theorem Of(p:LB)(a n:Nat):(room p a n).length=n/8+1:=by
 rw[room];split<;>simp[Jd]<;>omega
theorem Aik (p:LB)(a n j:Nat)(h:j<n/8+1):(room p a n)[j]'(by rw[Of];exact h)=UInt8.ofNat (Cg p (a+8*j) (min 8 (n-8*j))):=by
 have h0:(room p a n)[j]? =some (UInt8.ofNat (Cg p (a+8*j) (min 8 (n-8*j)))):=by
  rw[room];split
  ·by_cases hj:j<(n+7)/8
   ·rw[RM (by rw[Jd];exact hj),RR (by rw[Jd];exact hj),O4 p a n j hj]
   ·rw[TJ (by rw[Jd];omega),Jd,show j-(n+7)/8=0 by omega,show n-8*j=0 by omega];rfl
  ·rw[RR (by rw[Jd];omega),O4 p a n j F0]
 rw[RR (by rw[Of];exact h)]at h0;exact YX h0
theorem uP(p:LB)(a n T:Nat)(h1:1<=T)(h:n %8+T<=8):(room p a n).set (n/8) (UInt8.ofNat (Cg p (a+8*(n/8)) (n %8+T)))=Qu p a (n+T):=by
 apply UW (by rw[W9,Of,Jd];omega);intro j g1 g2;rw[W9,Of]at g1;rw[aQ,O4 p a (n+T) j (by rw[Jd]at g2;exact g2)];split
 ·rename_i e;subst e;rw[show min 8 (n+T-8*(n/8))=n %8+T by omega]
 ·rw[Aik p a n j g1,show min 8 (n-8*j)=8 by omega,show min 8 (n+T-8*j)=8 by omega]
theorem nF(p:LB)(a n:Nat):(room p a n)[n/8]'(by rw[Of];omega)=UInt8.ofNat (Cg p (a+8*(n/8)) (n %8)):=by
 rw[Aik p a n _ F0,show min 8 (n-8*(n/8))=n %8 by omega]
theorem Ah2(p:LB)(a n:Nat)(hn:n<=400000):Zd (Qu p a n) (n:Int) ((Hk p (a+n):Nat):Int)=some (Qu p a (n+1),((n+1:Nat):Int)):=by
 have hb:=BY p (a+n);have hp:2^(n %8)<=2^7:=PZ F0 F0;have hroom:Zd (Qu p a n) (n:Int) ((Hk p (a+n):Nat):Int)=AR ((Hk p (a+n):Nat):Int) (n:Int) (room p a n):=by
  rw[Zd,Aar,cI,room];by_cases h0:n %8=0
  ·rw[CD (by rw[Ax,h0];rfl),Bi iX,Aa,CD h0]
  ·rw[B! SC,B! h0]
 have hl:=tH ((Hk p (a+n):Nat):Int) n (room p a n) (n %8) 0 As F0 F8;rw[hroom,AR,Ab3,Aao];refine R? hl ?_;have hg:Aj (room p a n) ((n/8:Nat):Int)=some (UInt8.ofNat (Cg p (a+8*(n/8)) (n %8))):=by
  rw[Cj (by rw[Of];omega),nF]
 have hlt:=vD p (a+8*(n/8)) (n %8+1) F0;have hsn:=mW p (a+8*(n/8)) (n %8);rw[show a+8*(n/8)+n %8=a+n by omega]at hsn;have hm:Br ((Hk p (a+n):Nat):Int) ((2^(n %8):Nat):Int)=((2^(n %8)*Hk p (a+n):Nat):Int):=by
  have hle:2^(n %8)*Hk p (a+n)<=2^7*1:=S! hp F0;rw[tX,<-TX,Db F0 fN,Q2]
 have hx:Ae (UInt8.ofNat (Cg p (a+8*(n/8)) (n %8))) (Ad (((2^(n %8)*Hk p (a+n):Nat):Int)):UInt8)=UInt8.ofNat (Cg p (a+8*(n/8)) (n %8+1)):=by
  rw[Ao1,Ai2,hsn,UInt8.ofNat_add]
 rw[AM,Aap,yO _ F0,hg,Aa,Aa,Aa,hm,hx,Uh _ (by rw[Of];omega),Aa,uP p a n 1 F0 F0,Ag];rfl
theorem Atr(p:LB)(N:Int)(a n:Nat)(ha:a+n<=8*p.length)(hp:p.length<=1000000)(hn:n<=300000):∀(j m q:Nat),m+j=n->j<q->Is ((a+n:Nat):Int) p N q ((a+m:Nat):Int) (m:Int) (Qu p a m)=some (Qu p a n,(n:Int))
 |0,m,q+1,hm,_=>by
  rw[Is,Td,B! F9,show m=n by omega];rfl
 |j+1,m,q+1,hm,hq=>by
  rw[Is,Td,CD F9,vQ p N (a+m) F0 F0,Aa,Ah2 p a m F0,Aa];simp only;rw[Ag];exact Atr p N a n ha hp hn j (m+1) q F0 F0
theorem Ax0(p:LB)(N:Int)(a n:Nat)(ha:a+n<=8*p.length)(hp:p.length<=1000000)(hn:n<=300000):OK p N (a:Int) ((a+n:Nat):Int)=some (Qu p a n,(n:Int)):=by
 have:=Atr p N a n ha hp hn n 0 As F0 F8;exact this
theorem cD{p:Prop}(h:p:=by rw[Of];omega):p:=h
theorem X!{p:Prop}(h:p:=by rw[Au];simp):p:=h
theorem Aql{t:Nat}(h:t<=8):Am (Dl (1:UInt64) t) (1:UInt64)=UInt64.ofNat (2^t-1):=by
 have:t=0\/t=1\/t=2\/t=3\/t=4\/t=5\/t=6\/t=7\/t=8:=F0
 rcases this with rfl|rfl|rfl|rfl|rfl|rfl|rfl|rfl|rfl<;>decide
theorem yS(v:UInt64){t:Nat}(h:t<=8):(Ev v (Am (Dl (1:UInt64) t) (1:UInt64))).toNat=v.toNat %2^t:=by
 have hp:2^t<=2^8:=PZ F0 h;rw[Aql h,N5,iG,Q8,DM (by have:=TU (n:=t) (show 0<2 by omega);omega),dC]
theorem or8{v w i:Nat}(hv:v<2^i)(hw:w*2^i<256)(hi:i<8):rA (UInt8.ofNat v) (Dl (UInt8.ofNat w) i)=UInt8.ofNat (v+w*2^i):=by
 have hp:2^i<=2^8:=PZ F0 F0;have hpos:0<2^i:=TU F0;have hw2:w<256:=WR (aL w hpos) hw;rw[Aqu];apply UInt8.toNat_inj.1;have e1:(UInt8.ofNat v).toNat=v:=by rw[RO,DM F0]
 have e2:(UInt8.ofNat w).toNat=w:=by rw[RO,DM F0]
 rw[UInt8.toNat_or,Anv,e1,e2,DM hw,Q2 w,Nat.or_comm,<-X2 hv,RO,VQ v];rw[Q2]at hw;have hb:2^i*w+v<256:=by
  rw[X2 hv];exact Nat.or_lt_two_pow (n:=8) hw F0
 rw[DM hb]
theorem M!(p:LB)(a n T:Nat)(h:T<=n)(hn:n<=64):Cq (Pn p a n) T=Pn p (a+T) (n-T):=by
 apply UInt64.toNat_inj.1;rw[JJ,Yq p a n hn,Yq p (a+T) (n-T) F0];have:=Pe p T a
 conv=>lhs;rw[show n=T+(n-T) by omega,OB,Nat.add_mul_div_left _ _ (TU F0),VJ this,T9]
theorem Aaa (p:LB)(a n T:Nat)(h:T<=n)(hn:n<=64):(Pn p a n).toNat %2^T=Cg p a T:=by
 have:=Pe p T a;rw[Yq p a n hn]
 conv=>lhs;rw[show n=T+(n-T) by omega,OB,Nat.add_mul_mod_self_left,DM this]
theorem M6(bk:Int->Int->LB->Option (LB×Int×Int))(to':Int)(p:LB)(N fr:Int)(r6:UInt64)(a:Nat):∀(j m q:Nat),m+j<=300000->j<=64->j<q->
  Qj bk to' p N fr r6 q (Pn p (a+m) j) (j:Int) (m:Int) (Qu p a m)=SG bk to' p N fr ((m+j:Nat):Int) (Qu p a (m+j))
 |0,m,q+1,_,_,_=>by
  rw[Qj,SM,B! X!];rfl
 |j+1,m,q+1,hm,hj,hq=>by
  have hroom:Qj bk to' p N fr r6 (q+1) (Pn p (a+m) (j+1)) ((j+1:Nat):Int) (m:Int) (Qu p a m)=SQ (Qj bk to' p N fr r6 q) to' fr p N r6 (Pn p (a+m) (j+1)) ((j+1:Nat):Int) (m:Int) (room p a m):=by
   rw[Qj,SM,CD X!,yW m F0,room];by_cases h0:m %8=0
   ·rw[CD (by rw[Ax,h0];rfl),Bi iX,Aa,CD h0]
   ·rw[B! SC,B! h0]
  have hl:Am (Ac (room p a m)) 1=((m/8:Nat):Int):=by
   rw[Ac,Of,Cc];omega
  have e2:Ee ((j+1:Nat):Int) (Am (8:Int) ((m %8:Nat):Int))=((min (j+1) (8-m %8):Nat):Int):=by
   rw[AK,Cc];omega
  rw[hroom,SQ,Au5,yW m F0,e2,hl];generalize hT:min (j+1) (8-m %8)=T;have hT1:1<=T:=F0
  have hT8:m %8+T<=8:=F0
  have hg:Aj (room p a m) ((m/8:Nat):Int)=some (UInt8.ofNat (Cg p (a+8*(m/8)) (m %8))):=by
   rw[Cj cD,nF]
  have z1:(GI.toZ ((m %8:Nat):Int)).toNat=m %8:=rfl;have z2:(GI.toZ ((T:Nat):Int)).toNat=T:=rfl;have hlt:=vD p (a+8*(m/8)) (m %8+T) F0;have hadd:=OB p (m %8) T (a+8*(m/8));rw[show a+8*(m/8)+m %8=a+m by omega]at hadd;have hbyte:(Ad (Ev (Pn p (a+m) (j+1)) (Am (Dl (1:UInt64) T) (1:UInt64))):UInt8)=UInt8.ofNat (Cg p (a+m) T):=by
   rw[VO,yS _ F0,Aaa p (a+m) (j+1) T F0 hj]
  have hnew:rA (UInt8.ofNat (Cg p (a+8*(m/8)) (m %8))) (Dl (UInt8.ofNat (Cg p (a+m) T)) (m %8))=UInt8.ofNat (Cg p (a+8*(m/8)) (m %8+T)):=by
   rw[or8 (Pe _ _ _) fN F0,hadd,Q2 (2^(m %8))]
  rw[hg,z1,z2,hbyte];simp only[Aa];rw[Bq RY,Aa,Bq RX,Aa,hnew,Uh _ cD,Aa,uP p a m T hT1 hT8,Atd,Asu,yW m F0,e2,hT,Bq RY,Aa,z2,M! p (a+m) (j+1) T F0 hj,Cc,Ag];have ih:=M6 bk to' p N fr r6 a (j+1-T) (m+T) q F0 F0 F0;rw[show m+T+(j+1-T)=m+(j+1) by omega]at ih;rw[<-ih,show a+m+T=a+(m+T) by omega,show((j+1:Nat):Int)-((T:Nat):Int)=((j+1-T:Nat):Int) by omega,show(m:Int)+((T:Nat):Int)=((m+T:Nat):Int) by omega]
theorem F!(p:LB)(N:Int)(a n:Nat)(ha:a+n<=8*p.length)(hp:p.length<=1000000)(hn:n<=300000):∀(j m f q:Nat),(f=m\/n<=f/\m=n)->m+j=n->f<=n+64->j<q->Yy ((a+n:Nat):Int) p N q ((a+f:Nat):Int) (m:Int) (Qu p a m)=some (Qu p a n,(n:Int),0)
 |j,m,f,q+1,hf,hm,hf2,hq=>by
  rw[Yy,eZ];by_cases hlt:f<n
  ·obtain rfl:f=m:=F0
   have e1:Ee (64:Int) (Am ((a+n:Nat):Int) ((a+f:Nat):Int))=((min 64 (n-f):Nat):Int):=by
    rw[AK,Cc];omega
   rw[CD F9,e1,get_eq p N (a+f) _ F0 F0 hp,Aa,fC];have h1:=M6 (Yy ((a+n:Nat):Int) p N q) ((a+n:Nat):Int) p N ((a+f:Nat):Int) (Pn p (a+f) (min 64 (n-f))) a (min 64 (n-f)) f As F0 F0 F8;refine R? h1 ?_;rw[SG,Ass,Ag,show((a+f:Nat):Int)+64=((a+(f+64):Nat):Int) by omega];exact F! p N a n ha hp hn (j-min 64 (n-f)) (f+min 64 (n-f)) (f+64) q F0 F0 F0 F0
  ·rw[B! F9,dP,Atq,show m=n by omega]
theorem Aqz{p:LB}{N:Nat}(h:okB p N)(a n:Nat)(ha:a+n<=N)(hn:n<=300000):lD p (N:Int) (a:Int) ((a+n:Nat):Int)=some (Qu p a n,(n:Int),0):=by
 obtain⟨h1,h2,h3⟩:=h;have:=F! p N a n F0 F0 hn n 0 0 As F0 F0 F0 F8;rw[lD,lI,Zi ⟨h1,h2,h3⟩,Aa,B! M_,B! SY,Asb];exact this
theorem Z1{p:Prop}(h:p:=by simp[Af];omega):p:=h
theorem S0{p:Prop}(h:p:=by rw[Af];simp):p:=h
def Ht(p:LB):Nat->Nat->Nat
 |_,0=>0
 |a,m+1=>if Hk p a=1 then 1+Ht p (a+1) m else 0
theorem XR(p:LB):∀(m a:Nat),Ht p a m<=m
 |0,_=>N! _
 |m+1,a=>by rw[Ht];split<;>have:=XR p m (a+1)<;>omega
theorem Ac4(p:LB):∀(m a:Nat),∃s,Cg p a m+1=2^(Ht p a m+1)*s+2^Ht p a m/\ (Ht p a m=m->s=0)
 |0,a=>⟨0,by simp[Cg,Ht],λ_=>rfl⟩
 |m+1,a=>by
  have hb:=BY p a;obtain⟨s,h1,h2⟩:=Ac4 p m (a+1);by_cases h:Hk p a=1
  ·refine⟨s,?_,λe=>h2 ?_⟩
   ·rw[Ht,CD h,Cg,h,show 1+Ht p (a+1) m+1=(Ht p (a+1) m+1)+1 by omega,show 1+Ht p (a+1) m=Ht p (a+1) m+1 by omega,RF,RF (n:=2) (m:=Ht p (a+1) m)];rw[RF]at h1;generalize Cg p (a+1) m=V at*
    generalize 2^Ht p (a+1) m=W at*
    have e1:W*2*2*s=2*(W*2*s):=by rw[g_ (W*2) 2 s,Q2]
    omega
   ·rw[Ht,CD h]at e;omega
  ·refine⟨Cg p (a+1) m,?_,λe=>?_⟩
   ·rw[Ht,B! h,Cg];simp;omega
   ·rw[Ht,B! h]at e;omega
theorem Aoy{n t s:Nat}(h:2^(t+1)*s+2^t<=2^n)(ht:t<n)(x:Nat)(hx:x=2^n-(2^(t+1)*s+2^t)):x&&& (2^(t+1)*s+2^t)=2^t:=by
 have hpos:0<2^t:=TU F0;have hlt:2^t<2^(t+1):=by rw[RF];omega
 have e:x=2^n-((2^(t+1)*s+(2^t-1))+1):=by rw[hx];congr 1;omega
 apply oF;intro i;rw[Nat.testBit_and,e,Nat.testBit_two_pow_sub_succ F0,zU _ F0,zU _ hlt];by_cases hi:i<t+1
 ·rw[CD hi,CD hi,Nat.testBit_two_pow_sub_one,Nat.testBit_two_pow];by_cases hit:t=i
  ·subst hit;simp;exact ht
  ·have:¬i=t:=λe=>hit e.symm;simp[hit]
 ·rw[B! hi,B! hi,Nat.testBit_two_pow];have:¬t=i:=F0
  simp[this]
theorem Ak3(a:UInt64):(O2 a).toNat=18446744073709551615-a.toNat:=by
 have h:=a.toNat_lt;have e:O2 a=UInt64.ofNat (BitVec.ofInt 64 18446744073709551615^^^BitVec.ofInt 64 (a.toNat:Int)).toNat:=It _;have h1:BitVec.ofInt 64 (a.toNat:Int)=a.toBitVec:=yg a;have h2:(BitVec.ofInt 64 18446744073709551615:BitVec 64)=BitVec.allOnes 64:=F3
 rw[e,Q8,h1,h2,BitVec.allOnes_xor,iJ];show(18446744073709551616-1-a.toNat) %18446744073709551616=18446744073709551615-a.toNat;omega
theorem Ajw(a:UInt64):(sO a).toNat=(18446744073709551616-a.toNat) %18446744073709551616:=by
 have h:=a.toNat_lt;have e:sO a=UInt64.ofNat ((0-(a.toNat:Int)) %18446744073709551616).toNat:=ug _;rw[e,Q8];show((0-(a.toNat:Int)) %18446744073709551616).toNat %18446744073709551616=_;omega
def At2:LB:=[0,1,56,2,57,49,28,3,61,58,42,50,38,29,17,4,62,47,59,36,45,43,51,22,53,39,33,30,24,18,12,5,63,55,48,27,60,41,37,16,46,35,44,21,52,32,23,11,54,26,40,15,34,20,31,10,25,14,19,9,13,8,7,6]
theorem Afa:∀t:Fin 64,Aj At2 (GI.toZ (Cq (Br (UInt64.ofNat (2^t.val)) (285870213051353865:UInt64)) (GI.toZ (58:UInt64)).toNat))=some (UInt8.ofNat t.val):=by decide +kernel
theorem Atk(x:UInt64)(t s:Nat)(ht:t<64)(h:x.toNat+(2^(t+1)*s+2^t)=18446744073709551616):Hi x=some (t:Int):=by
 have hpos:0<2^t:=TU F0;have hx:x.toNat=2^64-(2^(t+1)*s+2^t):=by show x.toNat=18446744073709551616-_;omega
 have hle:2^t<=2^63:=PZ F0 F0;have hne:x≠0:=by
  intro e;rw[e]at h;have h':2^t*(2*s+1)=2^64:=by
   rw[eu,Nat.mul_one,<-RT,<-RF]
   show _=18446744073709551616;simpa using h
  have h2:2^64=2^t*2^(64-t):=by rw[<-WV];congr 1;omega
  rw[h2]at h';have h3:=Nat.eq_of_mul_eq_mul_left hpos h';rw[show 64-t=(63-t)+1 by omega,RF]at h3;omega
 have hx0:x.toNat≠0:=λe=>hne (UInt64.toNat_inj.1 e);have hl:Ev x (sO x)=UInt64.ofNat (2^t):=by
  apply UInt64.toNat_inj.1;rw[N5,iG,Ajw,show(18446744073709551616-x.toNat) %18446744073709551616=2^(t+1)*s+2^t by omega,Aoy (n:=64) (by show _<=18446744073709551616;omega) ht _ hx,Q8,DM];exact WR hle F3
 have hb:=Afa ⟨t,ht⟩;rw[Hi,B! (by rw[B0];simpa using hne),hl];refine R? (congrArg (λo=>Option.bind o λc=>some (Ad c:Int)) hb) ?_;rw[Aa,TD,RO,DM (by show t<256;omega)]
theorem Ao8(p:LB)(a m:Nat)(hm:m<=48):Hi (O2 (Pn p a m))=some ((Ht p a m:Nat):Int):=by
 obtain⟨s,h1,h2⟩:=Ac4 p m a;have hle:=XR p m a;have hlt:=Pe p m a;have h48:2^m<=2^48:=PZ F0 hm;have hn:(O2 (Pn p a m)).toNat=18446744073709551615-Cg p a m:=by rw[Ak3,Yq p a m F0]
 have h3:(281474976710656:Nat)=2^48:=rfl;refine Atk _ (Ht p a m) s F0 ?_;rw[hn];omega
def c_(p:LB)(N a:Nat):Int×Int×Int:=
 if Ht p a (min 48 (N-a))<min 48 (N-a)then((Ht p a (min 48 (N-a)):Nat),((a+Ht p a (min 48 (N-a))+1:Nat):Int),0)else
 if Ht p a (min 48 (N-a))=48 then(48,((a+48:Nat):Int),0)else(0,0,24)
theorem Akr{p:LB}{N:Nat}(h:okB p N)(a:Nat)(ha:a<N):MH p (N:Int) (a:Int)=some (c_ p N a):=by
 have hN:=h.1;have e1:Ee (48:Int) (Am (N:Int) (a:Int))=((min 48 (N-a):Nat):Int):=by rw[AK,Cc];omega
 have hle:=XR p (min 48 (N-a)) a;rw[MH,CE,Zi h,Aa,B! M_,B! S0,B! RX,e1,xQ h a _ F0,B! F0,Aa];simp only;rw[ZL,Arx,B! M_,Ao8 p a _ F0,Aa,Arz,Arh,e1,c_];by_cases h1:Ht p a (min 48 (N-a))<min 48 (N-a)
 ·rw[CD F9,CD h1,Ag (a:=(a:Int)) F0 F0,show Ae (0:Int) 1=1 by decide,Ag];congr 3;omega
 ·rw[B! F9,B! h1,Aru,Aqo];by_cases h2:Ht p a (min 48 (N-a))=48
  ·rw[CD (by rw[Ax,h2];rfl),CD h2,h2,Ag (a:=(a:Int)) F0 F0,Ag];congr 3;omega
  ·rw[B! SC,B! h2];rfl
theorem Ama(p:LB):∀(m a:Nat),Ht p a m<m->Hk p (a+Ht p a m)≠1
 |0,_,h=>by simp[Ht]at h
 |m+1,a,h=>by
  by_cases hb:Hk p a=1
  ·rw[Ht,CD hb]at h⊢;have:=Ama p m (a+1) F0;rwa [show a+(1+Ht p (a+1) m)=a+1+Ht p (a+1) m by omega]
  ·rw[Ht,B! hb];exact hb
theorem Aff(p:LB):∀(m a k:Nat),k<Ht p a m->Hk p (a+k)=1
 |0,a,k,h=>by simp[Ht]at h
 |m+1,a,k,h=>by
  by_cases hb:Hk p a=1
  ·rw[Ht,CD hb]at h;cases k with
   |zero=>exact hb
   |succ k=>
    have:=Aff p m (a+1) k F0;rwa [show a+(k+1)=a+1+k by omega]
  ·rw[Ht,B! hb]at h;omega
def unR(p:LB)(N a:Nat):Int×Int:=if(c_ p N a).2.2=0 then((c_ p N a).1,(c_ p N a).2.1)else(-1,0)
theorem P7{p:LB}{N:Nat}(h:okB p N)(a:Nat)(ha:a<N):∀(j k q:Nat),k+j=Ht p a (min 48 (N-a))->j<q->Mo (a:Int) p (N:Int) q (k:Int)=some (unR p N a)
 |0,k,q+1,hk,_=>by
  obtain⟨hN,hl,hz⟩:=h;have hle:=XR p (min 48 (N-a)) a;have hk':k=Ht p a (min 48 (N-a)):=F0
  have e1:Ae (a:Int) (k:Int)=((a+k:Nat):Int):=by rw[Ag];omega
  have hend:BL (a:Int) (k:Int) p (N:Int)=some (unR p N a):=by
   rw[BL,Ab6,e1];by_cases h48:k=48
   ·have hu:c_ p N a=(48,((a+48:Nat):Int),0):=by rw[c_,<-hk',B! F0,CD h48]
    rw[CD (by rw[Ax,h48];rfl),unR,hu,h48];rfl
   ·rw[B! SC];by_cases hN2:N<=a+k
    ·have hu:c_ p N a=(0,0,24):=by rw[c_,<-hk',B! F0,B! h48]
     rw[CD RX,unR,hu];rfl
    ·have hu:c_ p N a=(((k:Nat):Int),((a+k+1:Nat):Int),0):=by rw[c_,<-hk',CD F0]
     rw[B! RX,unR,hu,Ag];rfl
  rw[Mo,BF,e1];by_cases hc:a+k<N/\k<48
  ·have hb:=BY p (a+k);have hs:=Ama p (min 48 (N-a)) a F0;rw[<-hk']at hs;rw[CD Z1,vQ p _ (a+k) F0 F0,Aa,B! SC,hend]
  ·rw[B! Z1,hend]
 |j+1,k,q+1,hk,hq=>by
  obtain⟨hN,hl,hz⟩:=h;have hle:=XR p (min 48 (N-a)) a;have hb:=Aff p (min 48 (N-a)) a k F0;have e1:Ae (a:Int) (k:Int)=((a+k:Nat):Int):=by rw[Ag];omega
  rw[Mo,BF,e1,CD Z1,vQ p _ (a+k) F0 F0,Aa,hb,CD F3,Ag];exact P7 ⟨hN,hl,hz⟩ a ha j (k+1) q F0 F0
theorem Aiy{p:LB}{N:Nat}(h:okB p N)(a:Nat)(ha:a<N):Ahd p (N:Int) (a:Int)=some (unR p N a):=by
 have hle:=XR p (min 48 (N-a)) a;have:=P7 h a ha (Ht p a (min 48 (N-a))) 0 As F0 F8;exact this
theorem u_{p:LB}{N a:Nat}(h:Ht p a (min 48 (N-a))<min 48 (N-a)):c_ p N a=(((Ht p a (min 48 (N-a)):Nat):Int),((a+Ht p a (min 48 (N-a))+1:Nat):Int),0):=by rw[c_,CD h]
theorem wG{p:LB}{N a:Nat}(h:¬Ht p a (min 48 (N-a))<min 48 (N-a))(h2:Ht p a (min 48 (N-a))=48):c_ p N a=(48,((a+48:Nat):Int),0):=by rw[c_,B! h,CD h2]
theorem uD{p:LB}{N a:Nat}(h:¬Ht p a (min 48 (N-a))<min 48 (N-a))(h2:¬Ht p a (min 48 (N-a))=48):c_ p N a=(0,0,24):=by rw[c_,B! h,B! h2]
theorem Afn{p:LB}{N:Nat}(h:okB p N)(a:Nat)(ha:N<=a):MH p (N:Int) (a:Int)=some (0,0,24):=by
 rw[MH,CE,Zi h,Aa,B! M_,B! S0,CD RX]
def XA(p:LB)(N a k:Nat):UInt32×Int×Int:=
 if N<=a then(0,0,24)else
 if Ht p a (min 48 (N-a))<min 48 (N-a)then
  (if N<a+Ht p a (min 48 (N-a))+1+k then(0,0,24)else(UInt32.ofNat (Ht p a (min 48 (N-a))*2^k+Cg p (a+Ht p a (min 48 (N-a))+1) k),((a+Ht p a (min 48 (N-a))+1+k:Nat):Int),0))
 else if Ht p a (min 48 (N-a))=48 then
  (if N<a+48+32 then(0,0,24)else if Cg p (a+48) 32/2^k<48 then(0,0,12)else(UInt32.ofNat (Cg p (a+48) 32),((a+48+32:Nat):Int),0))
 else(0,0,24)
theorem tC{p:LB}{a n:Nat}(h:n<=32):(Ad (Pn p a n):UInt32)=UInt32.ofNat (Cg p a n):=by
 have e:(Ad (Pn p a n):UInt32)=UInt32.ofNat (Pn p a n).toNat:=by simp only[Ad,Ko,Fk]
 rw[e,Yq p a n F0]
theorem XS{n:Nat}(h:n<4294967296):(UInt32.ofNat n).toNat=n:=by rw[RH];exact DM h
theorem Abc(p:LB)(a:Nat){n:Nat}(h:n<=32):Cg p a n<4294967296:=by
 have h1:=Pe p n a;have h2:2^n<=2^32:=PZ F0 h;omega
theorem Arw{q v k:Nat}(hq:q<48)(hv:v<2^k)(hk:k<=24):rA (Dl (Ad (q:Int):UInt32) k) (UInt32.ofNat v)=UInt32.ofNat (q*2^k+v):=by
 have hp:2^k<=2^24:=PZ F0 hk;have h1:q*2^k<=47*2^24:=S! F0 hp;rw[Anu];apply UInt32.toNat_inj.1;rw[UInt32.toNat_or,jD,Apd,XS F0,XS (n:=v) F0,DM F0,Q2 q,<-X2 hv,XS fN]
theorem Anq{p:LB}{N:Nat}(h:okB p N)(a k:Nat)(hk:k<=24):nO p (N:Int) (a:Int) (k:Int)=some (XA p N a k):=by
 have hN:=h.1;rw[nO,At7,Zi h,Aa,B! M_,B! SY];by_cases ha:N<=a
 ·rw[Afn h a ha,Aa,XA,CD ha];rfl
 have hle:=XR p (min 48 (N-a)) a;rw[Akr h a F0,Aa];by_cases h1:Ht p a (min 48 (N-a))<min 48 (N-a)
 ·have hS:XA p N a k=if N<a+Ht p a (min 48 (N-a))+1+k then(0,0,24)else(UInt32.ofNat (Ht p a (min 48 (N-a))*2^k+Cg p (a+Ht p a (min 48 (N-a))+1) k),((a+Ht p a (min 48 (N-a))+1+k:Nat):Int),0):=by rw[XA,B! ha,CD h1]
  rw[u_ h1,hS];generalize Ht p a (min 48 (N-a))=q at*
  simp only;rw[B! M_,B! SC,fH,eO,xQ h _ k F0,Aa];by_cases h2:N<a+q+1+k
  ·rw[CD h2,CD h2];rfl
  ·rw[B! h2,B! h2];simp only;have z:(GI.toZ (k:Int)).toNat=k:=rfl;rw[B! M_,CD F9,Bq RY,Aa,z,tC F0,Arw F0 (Pe _ _ _) hk,Ag];rfl
 ·by_cases h2:Ht p a (min 48 (N-a))=48
  ·have hS:XA p N a k=if N<a+48+32 then(0,0,24)else if Cg p (a+48) 32/2^k<48 then(0,0,12)else(UInt32.ofNat (Cg p (a+48) 32),((a+48+32:Nat):Int),0):=by rw[XA,B! ha,B! h1,CD h2]
   have hg:=xQ h (a+48) 32 F0;rw[wG h1 h2,hS];simp only;rw[B! M_,CD WG,fH,eO];refine R? (congrArg (λo=>Option.bind o _) hg) ?_;rw[Aa];by_cases h3:N<a+48+32
   ·rw[CD h3,CD h3];rfl
   ·rw[B! h3,B! h3];simp only;have z:(GI.toZ (k:Int)).toNat=k:=rfl;have hv:=Abc p (a+48) (n:=32) F0;rw[B! M_,B! S0,Zt,Bq RY,Aa,Aa,z,tC F0,pI];have e:(decide ((48:UInt32).toNat<= (Cq (UInt32.ofNat (Cg p (a+48) 32)) k).toNat))=decide (¬Cg p (a+48) 32/2^k<48):=by
     rw[NO,XS hv];simp
    rw[e];by_cases h4:Cg p (a+48) 32/2^k<48
    ·rw[CD (by simp[h4]),CD h4]
    ·rw[B! F7,B! h4,Ag];rfl
  ·rw[uD h1 h2,XA,B! ha,B! h1,B! h2];rfl
theorem M3(k:Nat)(hk:k<=63):∀(j i q:Nat),i+j=k->j<q->Kq (k:Int) q (UInt64.ofNat (2^i)) (i:Int)=some (UInt64.ofNat (2^k))
 |0,i,q+1,hi,_=>by
  rw[Kq,Wd,B! F9,show i=k by omega];rfl
 |j+1,i,q+1,hi,hq=>by
  have e:Br (UInt64.ofNat (2^i)) (2:UInt64)=UInt64.ofNat (2^(i+1)):=by
   rw[OL,RF,iI];rfl
  rw[Kq,Wd,CD F9,Ag,e];exact M3 k hk j (i+1) q F0 F0
theorem ON(k:Nat)(hk:k<=63):Gv (k:Int)=some (UInt64.ofNat (2^k)):=
 M3 k hk k 0 As F0 F8
theorem XK{k:Nat}(hk:k<=63):(UInt64.ofNat (2^k)).toNat=2^k:=by
 have hp:2^k<=2^63:=PZ F0 hk;rw[Q8,DM F0]
theorem Am8(v:UInt32)(k:Nat)(hk:k<=24):GB v (k:Int)=some ((min 48 (v.toNat/2^k):Nat):Int):=by
 have hpos:0<2^k:=TU F0;have hv:=v.toNat_lt;rw[GB,ON k F0,Aa,Bq (by rw[SK];simp only[V?,ne_eq,<-Y1,XK (show k<=63 by omega)];simp),Aa];have e:(Ci (Ad v:UInt64) (UInt64.ofNat (2^k))).toNat=v.toNat/2^k:=by
  rw[uJ,aP,Dr,XK F0,Q8,DM F0]
 have hle:v.toNat/2^k<=v.toNat:=RS _ _;have e2:Ee (48:UInt64) (Ci (Ad v:UInt64) (UInt64.ofNat (2^k)))=UInt64.ofNat (min 48 (v.toNat/2^k)):=by
  apply UInt64.toNat_inj.1;rw[Q8,DM F0];show(if _ then _ else _:UInt64).toNat=_;rw[show(GI.toZ (Ci (Ad v:UInt64) (UInt64.ofNat (2^k))))=((v.toNat/2^k:Nat):Int) by rw[Ko,e],show GI.toZ (48:UInt64)=48 from rfl];split
  ·rw[e];omega
  ·show 48=_;omega
 rw[e2,xM (by rw[Q8,DM]<;>omega),Q8,DM F0]
theorem Aiu{p:LB}{N:Nat}(h:okB p N)(a k:Nat)(hk:k<=24):MF p (N:Int) (a:Int) (k:Int)=some (XA p N a k):=by
 obtain⟨hN,hl,hz⟩:=h;have h:okB p N:=⟨hN,hl,hz⟩;rw[MF,Aam];by_cases ha:N<=a
 ·rw[CD RX,XA,CD ha]
 have hle:=XR p (min 48 (N-a)) a;rw[B! RX,Aiy h a F0,Aa,unR];by_cases h1:Ht p a (min 48 (N-a))<min 48 (N-a)
 ·have hS:XA p N a k=if N<a+Ht p a (min 48 (N-a))+1+k then(0,0,24)else(UInt32.ofNat (Ht p a (min 48 (N-a))*2^k+Cg p (a+Ht p a (min 48 (N-a))+1) k),((a+Ht p a (min 48 (N-a))+1+k:Nat):Int),0):=by rw[XA,B! ha,CD h1]
  rw[u_ h1,hS];generalize Ht p a (min 48 (N-a))=q at*
  rw[CD rfl];simp only;rw[B! SC,BI,AV,Cc];by_cases h2:N<a+q+1+k
  ·rw[CD Z1,CD h2]
  ·have hp:2^k<=2^24:=PZ F0 hk;have hm:q*2^k<=47*2^24:=S! F0 hp;have hv:=Pe p k (a+q+1);have e:(Ad (Ae (Br (Ad (q:Int):UInt64) (UInt64.ofNat (2^k))) (Pn p (a+q+1) k)):UInt32)=UInt32.ofNat (q*2^k+Cg p (a+q+1) k):=by
    have e1:Ae (Br (Ad (q:Int):UInt64) (UInt64.ofNat (2^k))) (Pn p (a+q+1) k)=UInt64.ofNat (q*2^k+Cg p (a+q+1) k):=by
     rw[OR,OL,Vn,Pn,oZ,iI]
    rw[e1];have e2:∀x:UInt64,(Ad x:UInt32)=UInt32.ofNat x.toNat:=λx=>by simp only[Ad,Ko,Fk]
    rw[e2,Q8,DM F0]
   rw[B! Z1,B! h2,qD p _ _ k F0 F0,Aa,CD F9,ON k F0,Aa,e,Ag];rfl
 ·by_cases h2:Ht p a (min 48 (N-a))=48
  ·have hS:XA p N a k=if N<a+48+32 then(0,0,24)else if Cg p (a+48) 32/2^k<48 then(0,0,12)else(UInt32.ofNat (Cg p (a+48) 32),((a+48+32:Nat):Int),0):=by rw[XA,B! ha,B! h1,CD h2]
   rw[wG h1 h2,hS,CD rfl];simp only;rw[CD WG,BI,AV,Cc];by_cases h3:N<a+48+32
   ·rw[CD Z1,CD h3]
   ·have hg:=qD p (N:Int) (a+48) 32 F0 F0;have hv:=Abc p (a+48) (n:=32) F0;rw[B! Z1,B! h3];refine R? (congrArg (λo=>Option.bind o _) hg) ?_;rw[Aa,B! S0,tC F0,Am8 _ k hk,Aa,XS hv];by_cases h4:Cg p (a+48) 32/2^k<48
    ·rw[CD F9,CD h4]
    ·rw[B! F9,B! h4,Ag];rfl
  ·rw[uD h1 h2,XA,B! ha,B! h1,B! h2];have e:(if((0:Int),(0:Int),(24:Int)).2.2=0 then(((0:Int),(0:Int),(24:Int)).1,((0:Int),(0:Int),(24:Int)).2.1)else((-1:Int),(0:Int)))=(-1,0):=F3
   rw[e];rfl
theorem Aqr{p:LB}{N a k:Nat}{v:UInt32}{n:Int}(h:XA p N a k=(v,n,0)):(a:Int)<n/\n<=N:=by
 unfold XA at h;split at h
 ·simp at h
 split at h
 ·split at h
  ·simp at h
  ·simp only[G_]at h;omega
 ·split at h
  ·split at h
   ·simp at h
   ·split at h
    ·simp at h
    ·simp only[G_]at h;omega
  ·simp at h
def okD(k l:Nat)(s t:UInt64):Prop:=k<=24/\l<=24/\s.toNat<=68719476735/\t.toNat<=68719476735
theorem Abq(a b:UInt64)(h:a.toNat<=b.toNat):Ee a b=a:=by
 show(if _ then _ else _)=_;rw[Ko,Ko,B! F0]
theorem Asl(a:UInt64):geq a a=true:=by rw[B0];simp
theorem tT{k l:Nat}{t:UInt64}(h:okD k l s t):VP (k:Int) (l:Int) s t=some 0:=by
 obtain⟨h1,h2,h3,h4⟩:=h;have e1:Ee (tA (k:Int) 0) 24=(k:Int):=by rw[AK,jy];omega
 have e2:Ee (tA (l:Int) 0) 24=(l:Int):=by rw[AK,jy];omega
 have e3:Ee s (68719476735:UInt64)=s:=Abq _ _ (by simpa using h3);have e4:Ee t (68719476735:UInt64)=t:=Abq _ _ (by simpa using h4);have e5:∀a:Int,geq a a=true:=λa=>by rw[Ax];simp
 rw[VP,MZ,aA,MS,ZG,Aqj,e1,e2,e3,e4,e5,e5,Asl,Asl];rfl
def Xi(s n:UInt64):UInt64:=s+n-s/16
def kS(k:Nat)(s:UInt64):Nat:=if 0<k/\s.toNat<2^(k+4)then k-1 else if k<24/\2^(k+5)<s.toNat then k+1 else k
theorem yG{k:Nat}(h:k<=24)(s:UInt64):kS k s<=24:=by
 unfold kS;by_cases h1:0<k/\s.toNat<2^(k+4)
 ·rw[CD h1];omega
 ·rw[B! h1];split<;>omega
theorem pG{k:Nat}(h:¬(0<k/\s.toNat<2^(k+4))):(if k<24/\2^(k+5)<s.toNat then((k+1:Nat):Int)else(k:Int))=((kS k s:Nat):Int):=by
 rw[kS,B! h];split<;>rfl
theorem qB{n:UInt64}(h:s.toNat<=68719476735)(hn:n.toNat<=4294967295):(Xi s n).toNat<=68719476735:=by
 have h1:=s.toNat_lt;have e:(s+n).toNat=s.toNat+n.toNat:=by rw[UInt64.toNat_add];omega
 have e2:(s/16).toNat=s.toNat/16:=by rw[aP];rfl
 rw[Xi,n! _ _ (by rw[n?,e,e2];omega),e,e2];omega
theorem aN(s n:UInt64):Ae s (Am n (Cq s (GI.toZ (4:UInt64)).toNat))=Xi s n:=by
 have e:Cq s (GI.toZ (4:UInt64)).toNat=s/16:=by
  apply UInt64.toNat_inj.1;rw[JJ,aP];rfl
 rw[e,OR,uR,Xi,UInt64.sub_eq_add_neg,UInt64.sub_eq_add_neg,UInt64.add_assoc]
theorem r?(s n:UInt64):Am (Ae s n) (Ci s (16:UInt64))=Xi s n:=by rw[OR,uR,uJ,Xi]
theorem As7{k:Nat}(h:k<=24):(Dl (16:UInt64) k).toNat=2^(k+4):=by
 have hp:2^k<=2^24:=PZ F0 h;rw[WJ,WV]
 show 16*2^k %_=2^k*16;rw[DM F0,Q2]
theorem Ar4{k:Nat}(h:k<=24):(Dl (32:UInt64) k).toNat=2^(k+5):=by
 have hp:2^k<=2^24:=PZ F0 h;rw[WJ,WV]
 show 32*2^k %_=2^k*32;rw[DM F0,Q2]
theorem xV{k:Nat}(h:0<k)(h2:s.toNat<2^(k+4)):kS k s=k-1:=by rw[kS,CD ⟨h,h2⟩]
theorem xE{k:Nat}(h:¬(0<k/\s.toNat<2^(k+4)))(h2:k<24)(h3:2^(k+5)<s.toNat):kS k s=k+1:=by rw[kS,B! h,CD ⟨h2,h3⟩]
theorem f_{k:Nat}(h:¬(0<k/\s.toNat<2^(k+4)))(h2:¬(k<24/\2^(k+5)<s.toNat)):kS k s=k:=by rw[kS,B! h,B! h2]
theorem gI(k:Nat)(hk:k<=24)(s:UInt64)(f:Int->Option α):
  (if(Ef (k:Int) (0:Int))=true then(
   Option.bind (Ke (Lo (k:Int) (0:Int))) λ_=>
   if(Cw s (Dl (16:UInt64) (GI.toZ (k:Int)).toNat))=true then f (Am (k:Int) (1:Int))
   else(if(Cw (k:Int) (24:Int))=true then(
    Option.bind (Ke (Lo (k:Int) (0:Int))) λ_=>
    if(Ef s (Dl (32:UInt64) (GI.toZ (k:Int)).toNat))=true then f (Ae (k:Int) (1:Int))else f (k:Int))
    else f (k:Int)))
  else(if(Cw (k:Int) (24:Int))=true then(
    Option.bind (Ke (Lo (k:Int) (0:Int))) λ_=>
    if(Ef s (Dl (32:UInt64) (GI.toZ (k:Int)).toNat))=true then f (Ae (k:Int) (1:Int))else f (k:Int))
    else f (k:Int)))=f ((kS k s:Nat):Int):=by
 have z:(GI.toZ (k:Int)).toNat=k:=rfl;rw[z,Bq RY];simp only[Aa];rw[B8,XW,As7 hk,Ar4 hk];by_cases h0:0<k
 ·rw[CD R7];by_cases h1:s.toNat<2^(k+4)
  ·rw[CD (by simp[h1]),xV h0 h1,Cc];congr 1;omega
  ·rw[B! F7];by_cases h2:k<24
   ·rw[CD F9];by_cases h3:2^(k+5)<s.toNat
    ·rw[CD (by simp[h3]),xE (λh=>h1 h.2) h2 h3,Ag];rfl
    ·rw[B! F7,f_ (λh=>h1 h.2) (λh=>h3 h.2)]
   ·rw[B! F9,f_ (λh=>h1 h.2) (λh=>h2 h.1)]
 ·rw[B! R7];by_cases h2:k<24
  ·rw[CD F9];by_cases h3:2^(k+5)<s.toNat
   ·rw[CD (by simp[h3]),xE (λh=>h0 h.1) h2 h3,Ag];rfl
   ·rw[B! F7,f_ (λh=>h0 h.1) (λh=>h3 h.2)]
  ·rw[B! F9,f_ (λh=>h0 h.1) (λh=>h2 h.1)]
theorem s_(k:Nat)(hk:k<=24)(s n:UInt64):Wq (k:Int) s n=some (((kS k (Xi s n):Nat):Int),Xi s n):=by
 have g1:Ae (k:Int) 4=((k+4:Nat):Int):=by rw[Ag];omega
 have g2:Ae (k:Int) 5=((k+5:Nat):Int):=by rw[Ag];omega
 have hp:Xm (k:Int) s n=some (if k<24/\2^(k+5)<(Xi s n).toNat then((k+1:Nat):Int)else(k:Int),Xi s n):=by
  rw[Xm,PJ,g2,ON _ F0,Aa,r?,XW,XK F0];by_cases h2:k<24
  ·rw[CD F9];by_cases h3:2^(k+5)<(Xi s n).toNat
   ·rw[CD (by simp[h3]),CD ⟨h2,h3⟩,Ag];rfl
   ·rw[B! F7,B! (λh=>h3 h.2)]
  ·rw[B! F9,B! (λh=>h2 h.1)]
 rw[Wq,OA,g1,ON _ F0,Aa,r?,B8,XK F0,hp];by_cases h0:0<k
 ·rw[CD R7];by_cases h1:(Xi s n).toNat<2^(k+4)
  ·rw[CD (by simp[h1]),xV h0 h1,Cc];congr 2;omega
  ·rw[B! F7,pG (λh=>h1 h.2)]
 ·rw[B! R7,pG (λh=>h0 h.1)]
def A7(v:UInt32):UInt64:=UInt64.ofNat v.toNat
theorem u!(v:UInt32):(A7 v).toNat<=4294967295:=by have:=v.toNat_lt;rw[A7,Q8,DM F0];omega
def gJ(k:Nat)(v:UInt32):UInt32:=UInt32.ofNat (v.toNat-2^k)
def lK(l:Nat)(t:UInt64)(k:Nat)(v:UInt32):Nat:=if v.toNat<2^k then l else kS l (Xi t (A7 (gJ k v)))
def lT(t:UInt64)(k:Nat)(v:UInt32):UInt64:=if v.toNat<2^k then t else Xi t (A7 (gJ k v))
theorem Ah7{k l:Nat}{t:UInt64}(h:okD k l s t)(v:UInt32):okD (kS k (Xi s (A7 v))) (lK l t k v) (Xi s (A7 v)) (lT t k v):=by
 obtain⟨h1,h2,h3,h4⟩:=h;refine⟨yG h1 _,?_,qB h3 (u! v),?_⟩
 ·unfold lK;split; · exact h2
  exact yG h2 _
 ·unfold lT;split; · exact h4
  exact qB h4 (u! _)
theorem Aq8(k l:Nat)(s t:UInt64)(hk:k<=24)(v:UInt32):LY (k:Int) (l:Int) s t v=some (decide (v.toNat<2^k)):=by
 have:=v.toNat_lt;rw[LY,ON k F0,Aa,B8,XK F0,Dr,Q8,DM F0]
theorem left_eq(k l:Nat)(s t:UInt64)(hk:k<=24)(v:UInt32)(h:¬v.toNat<2^k):HR (k:Int) (l:Int) s t v=some (gJ k v):=by
 have:=v.toNat_lt;have e2:∀x:UInt64,(Ad x:UInt32)=UInt32.ofNat x.toNat:=λx=>by simp only[Ad,Ko,Fk]
 have e3:(UInt64.ofNat v.toNat).toNat=v.toNat:=by rw[Q8,DM F0]
 rw[HR,ON k F0,Aa,e2,uR,Dr,n! _ _ (by rw[n?,XK F0,e3];omega),XK F0,e3,gJ]
theorem Ag3{k l:Nat}{t:UInt64}(h:okD k l s t)(v:UInt32):AI (k:Int) (l:Int) s t v=some (((kS k (Xi s (A7 v)):Nat):Int),((lK l t k v:Nat):Int),Xi s (A7 v),lT t k v):=by
 obtain⟨h1,h2,h3,h4⟩:=h;have hp:∀(r1:Int) (r2:UInt64),Tw v (k:Int) (l:Int) s t r1 r2=some (((kS k (Xi s (A7 v)):Nat):Int),r1,Xi s (A7 v),r2):=by
  intro r1 r2;rw[Tw,IJ,Dr,s_ k h1,Aa];rfl
 rw[AI,GH,Aq8 k l s t h1,Aa];by_cases hv:v.toNat<2^k
 ·rw[B! (by simp[hv]),hp,lK,CD hv,lT,CD hv]
 ·rw[CD F7,left_eq k l s t h1 v hv,Aa,Dr,s_ l h2,Aa];simp only;rw[hp,lK,B! hv,lT,B! hv];rfl
theorem J1(k l:Nat)(s t:UInt64)(hk:k<=24)(v:UInt32):MK (k:Int) (l:Int) s t v=some (if v.toNat<2^k then(0,v)else(1,gJ k v)):=by
 have hp:2^k<=2^24:=PZ F0 hk;have hpos:0<2^k:=TU F0;have hl:=v.toNat_lt;have z:(GI.toZ (k:Int)).toNat=k:=rfl;have e1:geq (Cq v k) (0:UInt32)=decide (v.toNat<2^k):=by
  rw[sj,O3];simp only[RG,<-iF,NO,E3]
  show _/_=0↔_;rw[Nat.div_eq_zero_iff];omega
 have e2:¬v.toNat<2^k->Am v (Dl (1:UInt32) k)=gJ k v:=by
  intro h;have e3:(Dl (1:UInt32) k).toNat=2^k:=by rw[jD];show 1*2^k %_=_;rw[DM F0,SA]
  apply UInt32.toNat_inj.1;rw[H2,n_ _ _ (by rw[nk,e3];omega),e3,gJ,XS F0]
 rw[MK,Bq RY,Aa,Aa,z,e1];by_cases h:v.toNat<2^k
 ·rw[CD (by simp[h]),CD h]
 ·rw[B! F7,B! h,e2 h]
abbrev Rd:=UInt32×Int×Int×Int×UInt64×UInt64×Int
theorem E8{k l:Nat}{t:UInt64}(h:okD k l s t)(v:UInt32)(r:Int):dU (k:Int) (l:Int) s t v r=some (v,r,((kS k (Xi s (A7 v)):Nat):Int),((lK l t k v:Nat):Int),Xi s (A7 v),lT t k v,0):=by
 obtain⟨h1,h2,h3,h4⟩:=h;have hp:∀(x:Int) (y:UInt64),JE v r (k:Int) s x y=some (v,r,((kS k (Xi s (A7 v)):Nat):Int),x,Xi s (A7 v),y,0):=by
  intro x y;rw[JE,Atz,Dr,aN,gI k h1];rw[Ash,Atn,Ar8,Aq1,Dr,aN];rfl
 rw[dU,dQ,J1 k l s t h1,Aa];by_cases hv:v.toNat<2^k
 ·rw[CD hv];simp only;rw[B! Y8,hp,lK,CD hv,lT,CD hv]
 ·rw[B! hv];simp only;rw[CD WG,Dr,aN,gI l h2 _ (λx=>JE v r (k:Int) s x (Xi t (UInt64.ofNat (gJ k v).toNat))),hp,lK,B! hv,lT,B! hv];rfl
def dT(p:LB)(N a k l:Nat):UInt32×Int×Int:=
 if N<=a then(0,0,24)else
 if Hk p a=0 then(if N<a+1+k then(0,0,24)else(UInt32.ofNat (Cg p (a+1) k),((a+1+k:Nat):Int),0))else
 if(XA p N (a+1) l).2.2≠0 then(0,0,(XA p N (a+1) l).2.2)else
 if 4294967295<(XA p N (a+1) l).1.toNat+2^k then(0,0,12)else(UInt32.ofNat ((XA p N (a+1) l).1.toNat+2^k),(XA p N (a+1) l).2.1,0)
theorem Ark{p:LB}{N a k l:Nat}(h:(dT p N a k l).2.2=0):(a:Int)<(dT p N a k l).2.1/\ (dT p N a k l).2.1<=N:=by
 revert h
 unfold dT;split
 ·simp
 split
 ·split
  ·simp
  ·simp only;omega
 ·split
  ·intro h;contradiction
  ·rename_i h1;split
   ·simp
   ·intro _;have:=Aqr (p:=p) (N:=N) (a:=a+1) (k:=l) (v:=(XA p N (a+1) l).1) (n:=(XA p N (a+1) l).2.1) (by
     have e:(XA p N (a+1) l).2.2=0:=by simpa using h1
     rw[<-e])
    simp only;omega
theorem Ano{p:LB}{N:Nat}(h:okB p N)(a:Nat){k l:Nat}{t:UInt64}(hd:okD k l s t):MA p (N:Int) (a:Int) (k:Int) (l:Int) s t=
  some (if(dT p N a k l).2.2≠0 then(0,0,0,0,0,0,(dT p N a k l).2.2)else((dT p N a k l).1,(dT p N a k l).2.1,((kS k (Xi s (A7 (dT p N a k l).1)):Nat):Int),((lK l t k (dT p N a k l).1:Nat):Int),Xi s (A7 (dT p N a k l).1),lT t k (dT p N a k l).1,0)):=by
 obtain⟨h1,h2,h3,h4⟩:=hd;have hd:okD k l s t:=⟨h1,h2,h3,h4⟩;have hN:=h.1;have hg:=xQ h a 1 F0;have hb:=BY p a;rw[MA,fR,Zi h,Aa,B! M_,tT hd,Aa,B! M_,Au1,dX];refine R? (congrArg (λo=>Option.bind o _) hg) ?_;rw[Aa];by_cases ha:N<=a
 ·have hS:dT p N a k l=(0,0,24):=by rw[dT,CD ha]
  rw[CD F0,hS];rfl
 rw[B! F0];simp only;have e0:geq (Pn p a 1) (0:UInt64)=decide (Hk p a=0):=by
  rw[B0,O3];simp only[RG,<-Y1,E3,Yq p a 1 F0,tI];rfl
 have e1:Ae (a:Int) 1=((a+1:Nat):Int):=by rw[Ag];omega
 rw[B! M_,e0,e1];by_cases hz:Hk p a=0
 ·rw[CD (by simp[hz]),xQ h (a+1) k F0,Aa];by_cases h5:N<a+1+k
  ·have hS:dT p N a k l=(0,0,24):=by rw[dT,B! ha,CD hz,CD h5]
   rw[CD h5,hS];rfl
  ·have hS:dT p N a k l=(UInt32.ofNat (Cg p (a+1) k),((a+1+k:Nat):Int),0):=by rw[dT,B! ha,CD hz,B! h5]
   rw[B! h5,hS];simp only;rw[B! M_,E8 hd,tC F0,Ag];rfl
 ·rw[B! (by simp[hz]),Anq h (a+1) l h2,Aa];have hp:2^k<=2^24:=PZ F0 h1;by_cases h5:(XA p N (a+1) l).2.2≠0
  ·have hS:dT p N a k l=(0,0,(XA p N (a+1) l).2.2):=by rw[dT,B! ha,B! hz,CD h5]
   rw[hS];generalize XA p N (a+1) l=R at*
   obtain⟨v,n,e⟩:=R;simp only at*
   rw[CD (by rw[Ao];simpa using h5),CD h5]
  ·have hv:=(XA p N (a+1) l).1.toNat_lt;have z:(GI.toZ (k:Int)).toNat=k:=rfl;have e3:(Dl (1:UInt32) k).toNat=2^k:=by rw[jD];show 1*2^k %_=_;rw[DM F0,SA]
   by_cases h6:4294967295<(XA p N (a+1) l).1.toNat+2^k
   ·have hS:dT p N a k l=(0,0,12):=by rw[dT,B! ha,B! hz,B! h5,CD h6]
    rw[hS];generalize XA p N (a+1) l=R at*
    obtain⟨v,n,e⟩:=R;simp only at*
    rw[B! (by rw[Ao];simpa using h5),Bq RY,Aa,z,CD (by rw[qE,C6,o_,e3];simp;omega),CD F3]
   ·have hS:dT p N a k l=(UInt32.ofNat ((XA p N (a+1) l).1.toNat+2^k),(XA p N (a+1) l).2.1,0):=by rw[dT,B! ha,B! hz,B! h5,B! h6]
    rw[hS];generalize XA p N (a+1) l=R at*
    obtain⟨v,n,e⟩:=R;simp only at*
    have e4:Ae v (Dl (1:UInt32) k)=UInt32.ofNat (v.toNat+2^k):=by
     apply UInt32.toNat_inj.1;rw[C6,o_,e3,XS F0,DM F0]
    rw[B! (by rw[Ao];simpa using h5),Bq RY,Aa,z,B! (by rw[qE,C6,o_,e3];simp;omega),e4,E8 hd];rfl
theorem Ak7{p:LB}{N:Nat}(h:okB p N)(a:Nat)(k l:Nat)(s t:UInt64)(h1:k<=24)(h2:l<=24):MB p (N:Int) (a:Int) (k:Int) (l:Int) s t=some (dT p N a k l):=by
 have hN:=h.1;have hl:=h.2.1;have hb:=BY p a;rw[MB];by_cases ha:N<=a
 ·rw[CD RX,dT,CD ha]
 rw[B! RX,vQ p _ a F0 F0,Aa,Cc (a:=(N:Int)) (b:=(a:Int)) F0 F0,Cc];have e1:Ae (a:Int) 1=((a+1:Nat):Int):=by rw[Ag];omega
 rw[e1];by_cases hz:Hk p a=0
 ·rw[CD (by rw[Ax];simp[hz])];by_cases h5:N<a+1+k
  ·rw[CD F9,dT,B! ha,CD hz,CD h5]
  ·rw[B! F9,qD p _ (a+1) k F0 F0,Aa,dT,B! ha,CD hz,B! h5,tC F0,Ag];rfl
 ·rw[B! SC,Aiu h (a+1) l h2,Aa];have hp:2^k<=2^24:=PZ F0 h1;have hv:=(XA p N (a+1) l).1.toNat_lt;have e2:∀x:UInt64,(Ad x:UInt32)=UInt32.ofNat x.toNat:=λx=>by simp only[Ad,Ko,Fk]
  by_cases h5:(XA p N (a+1) l).2.2≠0
  ·have hS:dT p N a k l=(0,0,(XA p N (a+1) l).2.2):=by rw[dT,B! ha,B! hz,CD h5]
   rw[hS];generalize XA p N (a+1) l=R at*
   obtain⟨v,n,e⟩:=R;simp only at*
   rw[CD (by rw[Ao];simpa using h5)]
  ·have hsum:∀v:UInt32,(Ae (Ad v:UInt64) (UInt64.ofNat (2^k))).toNat=v.toNat+2^k:=by
    intro v;have:=v.toNat_lt;have:=TU (n:=k) (show 0<2 by omega);rw[OR,UInt64.toNat_add,Dr,XK F0,Q8];omega
   by_cases h6:4294967295<(XA p N (a+1) l).1.toNat+2^k
   ·have hS:dT p N a k l=(0,0,12):=by rw[dT,B! ha,B! hz,B! h5,CD h6]
    rw[hS];generalize XA p N (a+1) l=R at*
    obtain⟨v,n,e⟩:=R;simp only at*
    rw[B! (by rw[Ao];simpa using h5),ON k F0,Aa,CD (by rw[XW,hsum];simpa using h6)]
   ·have hS:dT p N a k l=(UInt32.ofNat ((XA p N (a+1) l).1.toNat+2^k),(XA p N (a+1) l).2.1,0):=by rw[dT,B! ha,B! hz,B! h5,B! h6]
    rw[hS];generalize XA p N (a+1) l=R at*
    obtain⟨v,n,e⟩:=R;simp only at*
    rw[B! (by rw[Ao];simpa using h5),ON k F0,Aa,B! (by rw[XW,hsum];simpa using h6),e2,hsum]
theorem RL{p:Prop}(h:p:=by rw[Ao];simp;omega):p:=h
theorem U7{p:Prop}(h:p:=by rw[<-TX];omega):p:=h
abbrev DuN:=Nat×Nat×UInt64×UInt64
def okN(d:DuN):Prop:=okD d.1 d.2.1 d.2.2.1 d.2.2.2
def nxt(d:DuN)(v:UInt32):DuN:=(kS d.1 (Xi d.2.2.1 (A7 v)),lK d.2.1 d.2.2.2 d.1 v,Xi d.2.2.1 (A7 v),lT d.2.2.2 d.1 v)
def zi:DuN:=(10,10,16384,16384)
theorem Ajh:okN zi:=⟨F3,F3,F3,F3⟩
theorem Aro{d:DuN}(h:okN d)(v:UInt32):okN (nxt d v):=Ah7 h v
abbrev DuL:=Int×Int×UInt64×UInt64×Unit
def toI(d:DuN):DuL:=((d.1:Int),(d.2.1:Int),d.2.2.1,d.2.2.2,())
def iP(ch:Nat)(v:LU)(c:Nat):Nat->DuN
 |0=>zi
 |m+1=>if m %ch=c then nxt (iP ch v c m) (v.getD m 0)else iP ch v c m
theorem kZ(ch:Nat)(v:LU)(c:Nat):∀m,okN (iP ch v c m)
 |0=>Ajh
 |m+1=>by rw[iP];split;exact Aro (kZ ch v c m) _;exact kZ ch v c m
theorem tF(ch:Nat)(v w:LU)(c:Nat):∀m,m<=v.length->iP ch (v++w) c m=iP ch v c m
 |0,_=>rfl
 |m+1,h=>by
  have e:(v++w).getD m 0=v.getD m 0:=by simp[J3,RM (show m<v.length by omega)]
  rw[iP,iP,tF ch v w c m F0,e]
theorem qx(ch:Nat)(v:LU)(c:Nat):∀m,m<=c->c<ch->iP ch v c m=zi
 |0,_,_=>rfl
 |m+1,h,h2=>by rw[iP,B! (by rw[DM F0];omega),qx ch v c m F0 h2]
theorem A? (ch:Nat)(v:LU)(c i:Nat)(hi:i %ch=c)(hc:c<ch):∀j,j<ch->iP ch v c (i+1+j)=iP ch v c (i+1)
 |0,_=>rfl
 |j+1,h=>by
  have hne:(i+1+j) %ch≠c:=by
   intro e;have h1:(i+(1+j)) %ch=i %ch:=by rw[hi,<-e];congr 1;omega
   have h2:(1+j) %ch=0:=by
    have h3:=mo h1;rwa [aK]at h3
   rw[DM F0]at h2;omega
  rw[show i+1+(j+1)=(i+1+j)+1 by omega,iP,B! hne,A? ch v c i hi hc j F0]
theorem Aj1(ch:Nat)(v:LU)(c i:Nat)(hi:i %ch=c)(hc:c<ch):iP ch v c (i+ch)=nxt (iP ch v c i) (v.getD i 0):=by
 have h:=A? ch v c i hi hc (ch-1) F0;rw[show i+1+(ch-1)=i+ch by omega]at h;rw[h,iP,CD hi]
theorem uS{l:LU}{k:Nat}(h:k<l.length):Aj l (k:Int)=some (l.getD k 0):=by
 rw[Cj h];simp[J3,h]
theorem PX(a b:Nat):Hl (a:Int) (b:Int)=((a %b:Nat):Int):=by rw[Hl,dA F0];omega
theorem Awe(ch:Nat)(v:LU)(hch:1<=ch)(m_:ch<=6)(hv:v.length<=4000):∀(j i q:Nat),i %ch=v.length %ch->i<=v.length->v.length-i<=j->j<q->
  Nd (ch:Int) v q (i:Int) ((iP ch v (v.length %ch) i).1:Int) ((iP ch v (v.length %ch) i).2.1:Int) (iP ch v (v.length %ch) i).2.2.1 (iP ch v (v.length %ch) i).2.2.2=
   some (((iP ch v (v.length %ch) v.length).1:Int),((iP ch v (v.length %ch) v.length).2.1:Int),(iP ch v (v.length %ch) v.length).2.2.1,(iP ch v (v.length %ch) v.length).2.2.2)
 |j,i,q+1,hi,hl,hj,hq=>by
  have hc:v.length %ch<ch:=RW _ F0;rw[Nd,IH];by_cases h:i<v.length
  ·have h1:=Ag3 (kZ ch v (v.length %ch) i) (v.getD i 0);rw[CD F2,uS h,Aa,h1,Aa];have hle:i+ch<=v.length:=by
    have h2:=Y2 i ch;have h3:=Y2 v.length ch;rw[hi]at h2;have h4:ch*(i/ch)<ch*(v.length/ch):=F0
    have h5:=Nat.lt_of_mul_lt_mul_left h4;have h6:ch*(i/ch+1)<=ch*(v.length/ch):=X8 _ h5;rw[eu]at h6;omega
   have ih:=Awe ch v hch m_ hv (j-ch) (i+ch) q (by rw[bK];exact hi) hle F0 F0;rw[Aj1 ch v _ i hi hc]at ih;simp only;rw[Ag];exact ih
  ·rw[B! F2,show i=v.length by omega];rfl
theorem Af6(ch:Nat)(v:LU)(hch:1<=ch)(m_:ch<=6)(hv:v.length<=4000):Rk (ch:Int) v=some (((iP ch v (v.length %ch) v.length).1:Int),((iP ch v (v.length %ch) v.length).2.1:Int),(iP ch v (v.length %ch) v.length).2.2.1,(iP ch v (v.length %ch) v.length).2.2.2):=by
 have hc:v.length %ch<ch:=RW _ F0;have hle:v.length %ch<=v.length:=VV _ _;have h:=Awe ch v hch m_ hv v.length (v.length %ch) As (by rw[i_]) hle F0 F8;rw[qx ch v _ _ (N! _) hc]at h;rw[Rk,HD,Oe,Aa];simp only;rw[Bq RL,Aa,Ac,PX];exact h
def now(ch:Nat)(v:LU):DuN:=iP ch v (v.length %ch) v.length
def win(N a:Nat):Nat:=min 81 (N-a)
def Nb(ch:Nat)(p:LB)(N a:Nat)(out:LU):UInt32×Int×Int:=dT (Qu p a (win N a)) (win N a) 0 (now ch out).1 (now ch out).2.1
def Zu(ch:Nat)(p:LB)(N:Nat):Nat->Nat->LU->LU×Nat×Int
 |0,a,out=>(out,a,0)
 |j+1,a,out=>if(Nb ch p N a out).2.2≠0 then(out,a,(Nb ch p N a out).2.2)else Zu ch p N j (a+(Nb ch p N a out).2.1.toNat) (out++[(Nb ch p N a out).1])
theorem nH{ch:Nat}{p:LB}{N a:Nat}{out:LU}(h:(Nb ch p N a out).2.2=0):0<(Nb ch p N a out).2.1/\ (Nb ch p N a out).2.1<=win N a:=by
 have:=Ark h;exact⟨this.1,this.2⟩
theorem Aph{ch:Nat}{p:LB}{N a:Nat}{out:LU}(h:(Nb ch p N a out).2.2=0):((a:Int)+(Nb ch p N a out).2.1)=((a+(Nb ch p N a out).2.1.toNat:Nat):Int):=by
 have:=nH h;omega
def sts(ch:Nat)(v:LU):List DuL:=(List.range 6).map λc=>toI (iP ch v c v.length)
theorem uo{ch:Nat}{v:LU}{c:Nat}(h:c<6):Aj (sts ch v) (c:Int)=some (toI (iP ch v c v.length)):=by
 rw[Cj (by simp[sts];exact h)];simp[sts]
theorem tG{ch:Nat}{v:LU}{c:Nat}(x:UInt32)(h:c<6)(hc:c=v.length %ch):Mm (sts ch v) (c:Int) (toI (nxt (iP ch v c v.length) x))=some (sts ch (v++[x])):=by
 rw[Uh _ (by simp[sts];exact h)];congr 1;apply UW (by simp[sts]);intro i h1 h2;rw[aQ];simp only[sts,aU,b?];have e:(v++[x]).getD v.length 0=x:=by simp
 rw[D!,WM,iP,e,tF ch v [x] i v.length (N! _)];by_cases hi:c=i
 ·subst hi;rw[CD rfl,CD hc.symm]
 ·rw[B! hi,B! F0]
theorem Ao7{ch:Nat}{v:LU}{c:Nat}(hc:c=v.length %ch):iP ch v c v.length=now ch v:=by rw[now,hc]
section
variable {p:LB} {N ch n:Nat}
theorem F_(hp:okB p N)(h1:1<=ch)(h6:ch<=6)(hn:n*ch<=4000):∀(j a q:Nat) (out:LU),out.length+j=n*ch->j<q->a<=N->
  Nx (ch:Int) (n:Int) p (N:Int) q (a:Int) (out.length:Int) (sts ch out) out=
   some (if(Zu ch p N j a out).2.2≠0 then([],0,(Zu ch p N j a out).2.2)else((Zu ch p N j a out).1,((Zu ch p N j a out).2.1:Int),0))
 |j,a,q+1,out,hj,hq,ha=>by
  have hN:=hp.1;have hnn:n<=n*ch:=aL n F0;have em:Br (n:Int) (ch:Int)=((n*ch:Nat):Int):=by rw[Fg U7 U7,TX]
  rw[Nx,Ur,em];cases j with
  |zero=>
   rw[B! F9];rfl
  |succ j=>
   have hc:out.length %ch<6:=RN (RW _ F0) h6;have ew:Ee (Ae (a:Int) 81) (N:Int)=((a+win N a:Nat):Int):=by rw[AK,Ag];unfold win;omega
   have hw:a+win N a<=N:=by unfold win;omega
   have hw2:win N a<=81:=by unfold win;omega
   have hd:=Ano (sR p a (win N a) F0) 0 (kZ ch out (out.length %ch) out.length);have l!:dT (Qu p a (win N a)) (win N a) 0 (iP ch out (out.length %ch) out.length).1 (iP ch out (out.length %ch) out.length).2.1=Nb ch p N a out:=rfl;rw[CD F9,ew,Aqz hp a _ hw F0,Aa];simp only;rw[B! M_,Bq RL,Aa,PX,uo hc,Aa,Aa];refine R? (congrArg (λo=>Option.bind o _) hd) ?_;rw[Aa,l!,Zu];by_cases he:(Nb ch p N a out).2.2≠0
   ·rw[CD he,CD he];simp only;rw[Ty,DL,CD (by rw[Ao];simpa using he),CD he]
   ·have he0:(Nb ch p N a out).2.2=0:=by simpa using he
    have hok:=nH he0;have hset:=tG (ch:=ch) (v:=out) (Nb ch p N a out).1 hc rfl;rw[B! he,B! he];simp only;rw[Ty,DL,B! M_,Bq RL,Aa,PX,uo hc,Aa];refine R? (congrArg (λo=>Option.bind o _) hset) ?_;rw[Aa,Ac0,Acq,Bi F7,Aa,Ag,Ag,Aph he0];have ih:=F_ hp h1 h6 hn j (a+(Nb ch p N a out).2.1.toNat) q (out++[(Nb ch p N a out).1]) F7 F0 F0;rw[D!,WM]at ih;exact ih
theorem sE{p:LB}(hN:N=8*p.length)(hN2:N<=330000)(h1:1<=ch)(h6:ch<=6)(hn:n*ch<=4000):∀(j a q:Nat) (out:LU),out.length+j=n*ch->j<q->a<=N->
  Fu (ch:Int) (n:Int) p q (a:Int) (out.length:Int) out=
   if(Zu ch p N j a out).2.2≠0 then some ((Zu ch p N j a out).1,(Zu ch p N j a out).2.2)else Wg ((Zu ch p N j a out).2.1:Int) p (Zu ch p N j a out).1
 |j,a,q+1,out,hj,hq,ha=>by
  have hnn:n<=n*ch:=aL n F0;have em:Br (n:Int) (ch:Int)=((n*ch:Nat):Int):=by rw[Fg U7 U7,TX]
  have e8:Br (8:Int) (Ac p)=(N:Int):=by rw[Ac,Fg];omega
  rw[Fu,KU,em];cases j with
  |zero=>
   rw[B! F9];rfl
  |succ j=>
   have ew:Ee (Ae (a:Int) 81) (N:Int)=((a+win N a:Nat):Int):=by rw[AK,Ag];unfold win;omega
   have hw:a+win N a<=N:=by unfold win;omega
   have hw2:win N a<=81:=by unfold win;omega
   have hpre:(Option.bind Oe λ(r_4,r_5,r_6,r_7)=>
     if(Lo (out.length:Int) (ch:Int))=true then(
     Option.bind (Rk (ch:Int) out) λ(r_8,r_9,r_10,r_11)=>
     Ku (Fu (ch:Int) (n:Int) p q) (ch:Int) (n:Int) p (a:Int) (out.length:Int) out r_8 r_9 r_10 r_11)
     else Ku (Fu (ch:Int) (n:Int) p q) (ch:Int) (n:Int) p (a:Int) (out.length:Int) out r_4 r_5 r_6 r_7)=
     Ku (Fu (ch:Int) (n:Int) p q) (ch:Int) (n:Int) p (a:Int) (out.length:Int) out ((now ch out).1:Int) ((now ch out).2.1:Int) (now ch out).2.2.1 (now ch out).2.2.2:=by
    rw[Oe,Aa];by_cases hc:ch<=out.length
    ·simp only;rw[CD RX,Af6 ch out h1 h6 F0,Aa];rfl
    ·have e:now ch out=zi:=by rw[now,DM F0,qx ch out _ _ (N! _) F0]
     simp only;rw[B! RX,e];rfl
   have hd:=Ak7 (sR p a (win N a) F0) 0 (now ch out).1 (now ch out).2.1 (now ch out).2.2.1 (now ch out).2.2.2 (kZ ch out _ _).1 (kZ ch out _ _).2.1;have l!:dT (Qu p a (win N a)) (win N a) 0 (now ch out).1 (now ch out).2.1=Nb ch p N a out:=rfl;rw[CD F9,hpre,Ku,KN,e8,ew,Ax0 p (N:Int) a _ F0 F0 F0,Aa];simp only;refine R? (congrArg (λo=>Option.bind o _) hd) ?_;rw[Aa,l!,Zu];by_cases he:(Nb ch p N a out).2.2≠0
   ·rw[CD he,CD (by rw[Ao];simpa using he),CD he]
   ·have he0:(Nb ch p N a out).2.2=0:=by simpa using he
    have hok:=nH he0;have ih:=sE hN hN2 h1 h6 hn j (a+(Nb ch p N a out).2.1.toNat) q (out++[(Nb ch p N a out).1]) F7 F0 F0;have hx:=Aph he0;rw[D!,WM]at ih;rw[B! he];generalize Nb ch p N a out=R at*
    obtain⟨v,nx,e⟩:=R;simp only at*
    rw[B! (by rw[Ao];simpa using he),Bi F7,Aa,Ag,Ag,hx];exact ih
end
theorem A6{ch:Nat}{p:LB}{N:Nat}:∀(j a:Nat) (out:LU),a<=N-> (Zu ch p N j a out).2.1<=N/\ (Zu ch p N j a out).1.length<=out.length+j/\ ((Zu ch p N j a out).2.2=0-> (Zu ch p N j a out).1.length=out.length+j)
 |0,a,out,h=>⟨h,N! _,λ_=>rfl⟩
 |j+1,a,out,h=>by
  rw[Zu];split
  ·rename_i he;exact⟨h,CH,λe=>absurd e he⟩
  ·rename_i he;have hok:=nH (ch:=ch) (p:=p) (N:=N) (a:=a) (out:=out) (by simpa using he);have hw:a+win N a<=N:=by unfold win;omega
   have ih:=A6 (ch:=ch) (p:=p) (N:=N) j (a+(Nb ch p N a out).2.1.toNat) (out++[(Nb ch p N a out).1]) F0;rw[D!,WM]at ih;exact⟨ih.1,F0,λe=>by have:=ih.2.2 e;omega⟩
theorem Axs(ch n:Int)(b:LB)(N:Int):ED ch n b N 0 (List.replicate 6 ((0:Int),(0:Int),(0:UInt64),(0:UInt64),()))=Abr ch n b N (List.replicate 6 ((10:Int),(10:Int),(16384:UInt64),(16384:UInt64),())):=by
 have e:As=(As-7)+1+1+1+1+1+1+1:=by have:=Aq;omega
 rw[ED,e];rfl
theorem values_eq{p:LB}{N ch n:Nat}(hp:okB p N)(h1:1<=ch)(h6:ch<=6)(hn:n*ch<=4000):HN (ch:Int) (n:Int) p (N:Int)=
  some (if(Zu ch p N (n*ch) 0 []).2.2≠0 then([],0,(Zu ch p N (n*ch) 0 []).2.2)else((Zu ch p N (n*ch) 0 []).1,((Zu ch p N (n*ch) 0 []).2.1:Int),0)):=by
 have h:=F_ hp h1 h6 hn (n*ch) 0 As [] CH F8 F0;rw[HN,HM,Axs];exact h
theorem Aln(p:LB)(x:LU)(N:Nat)(hN:N=8*p.length)(hN2:N<=330000):∀(j a q:Nat),a+j=N->j<q->Kv p x q (a:Int)=some (x,if Cg p a j=0 then 0 else 12)
 |0,a,q+1,ha,_=>by
  have e8:Br (8:Int) (Ac p)=(N:Int):=by rw[Ac,Fg];omega
  rw[Kv,Vu,e8,B! F9,Cg,CD rfl];rfl
 |j+1,a,q+1,ha,hq=>by
  have e8:Br (8:Int) (Ac p)=(N:Int):=by rw[Ac,Fg];omega
  have hb:=BY p a;rw[Kv,Vu,e8,CD F9,vQ p _ a F0 F0,Aa,Cg];by_cases h:Hk p a=0
  ·rw[B! (by rw[Ao];simp[h]),Ag,h];have ih:=Aln p x N hN hN2 j (a+1) q F0 F0;rw[show((a:Int)+1)=((a+1:Nat):Int) by omega,ih];congr 2;by_cases hv:Cg p (a+1) j=0
   ·rw[CD hv,CD F0]
   ·rw[B! hv,B! F0]
  ·rw[CD RL,B! F0]
theorem rX{p:LB}{N ch n:Nat}(hN:N=8*p.length)(hN2:N<=330000)(h1:1<=ch)(h6:ch<=6)(hn:n*ch<=4000):GD (ch:Int) (n:Int) p=
  some (if(Zu ch p N (n*ch) 0 []).2.2≠0 then((Zu ch p N (n*ch) 0 []).1,(Zu ch p N (n*ch) 0 []).2.2)else
   ((Zu ch p N (n*ch) 0 []).1,if 7<N-(Zu ch p N (n*ch) 0 []).2.1\/Cg p (Zu ch p N (n*ch) 0 []).2.1 (N-(Zu ch p N (n*ch) 0 []).2.1)≠0 then 12 else 0)):=by
 have h:=sE hN hN2 h1 h6 hn (n*ch) 0 As [] CH F8 F0;have hat:=(A6 (ch:=ch) (p:=p) (N:=N) (n*ch) 0 [] F0).1;have e8:Br (8:Int) (Ac p)=(N:Int):=by rw[Ac,Fg];omega
 rw[GD,OU];refine R? h ?_;generalize Zu ch p N (n*ch) 0 []=V at*
 obtain⟨v,a,e⟩:=V;simp only at*
 by_cases he:e≠0
 ·rw[CD he,CD he]
 ·rw[B! he,B! he,Wg,KA,e8,Cc];by_cases h7:7<N-a
  ·rw[CD R7,CD (.inl h7)]
  ·rw[B! R7,KE,Aln p v N hN hN2 (N-a) a As F0 F8];by_cases hv:Cg p a (N-a)=0
   ·rw[CD hv,B! F0]
   ·rw[B! hv,CD (.inr hv)]
theorem D'(n:Int):(GI.ofZ n:Int32)=Int32.ofInt n:=rfl
theorem YH(a:Int32):GI.toZ a=a.toInt:=rfl
theorem aV(a b:Int32):Ae a b=a+b:=by
 rw[Ae,YH,YH,D',oN,U!,U!]
theorem UP(a b:Int32):Am a b=a-b:=by
 rw[Am,YH,YH,D',oO,U!,U!]
theorem qZ(a b:Int32):geq a b=(a==b):=by
 rw[geq,YH,YH,O3];simp[Int32.toInt_inj]
def dZ(p:Nat->Bool)(a b:LX):LX:=(List.range a.length).map λk=>if p k=true then a.getD k 0 else b.getD k 0
section
variable {p q:Nat->Bool} {a b:LX}
theorem NC:(dZ p a b).length=a.length:=by simp[dZ]
theorem Nc{k:Nat}(h:k<a.length):a.getD k 0=a[k]:=by simp[J3,h]
theorem Tm{k:Nat}(h:k<(dZ p a b).length):(dZ p a b)[k]=if p k=true then a.getD k 0 else b.getD k 0:=by simp[dZ]
theorem CV{k:Nat}(h:k<a.length):Aj (dZ p a b) (k:Int)=some (if p k=true then a.getD k 0 else b.getD k 0):=by
 rw[Cj (by rw[NC];exact h),Tm]
theorem Vg(h:∀k,k<a.length->p k=q k):dZ p a b=dZ q a b:=by
 apply YQ;intro k hk;rw[h k (List.mem_range.1 hk)]
theorem fG{k:Nat}(h:k<a.length):Mm (dZ p a b) (k:Int) (a.getD k 0)=some (dZ (λj=>p j||decide (j=k)) a b):=by
 rw[Uh _ (by rw[NC];exact h)];congr 1;apply UW (by simp[NC]);intro i h1 h2;rw[aQ,Tm,Tm];by_cases hi:k=i
 ·subst hi;simp
 ·have:¬i=k:=λe=>hi e.symm;simp[hi,this]
theorem nQ(h:∀k,k<a.length->p k=true):dZ p a b=a:=by
 apply UW (by simp[NC]);intro i h1 h2;rw[Tm,CD (h i h2),Nc h2]
theorem jL(hl:b.length=a.length)(h:∀k,k<a.length->p k=false):dZ p a b=b:=by
 apply UW (by simp[NC,hl]);intro i h1 h2;rw[Tm,h i F0];simp[J3,h2]
end
theorem XG{p:Prop}(h:p:=by rw[Ax];decide):p:=h
theorem D5(a b:Int32):Br a b=a*b:=by
 rw[Br,YH,YH,D',Int32.ofInt_mul,U!,U!]
theorem BD(a:Int32): -2147483648<=a.toInt/\a.toInt<2147483648:=⟨a.le_toInt,a.toInt_lt⟩
theorem Fj(a:Int32):(Ad a:Int)=a.toInt:=by
 have:=BD a
 show wrap64 a.toInt=_;rw[Db]<;>omega
theorem TF(n:Int):(Ad n:Int32)=Int32.ofInt n:=rfl
theorem Agp(x:Int):Int32.ofInt (x %4294967296)=Int32.ofInt x:=by
 apply Int32.toInt_inj.1;rw[WT,WT];exact Int.emod_bmod x 4294967296
theorem B7(x:Int):Dh x=some (Int32.ofInt x):=by
 have e1:(Ad x:UInt64).toNat=(x %18446744073709551616).toNat:=by
  rw[Ax8,Q8,DM F0]
 have e2:(Ad (Ad x:UInt64):UInt32).toNat=(x %4294967296).toNat:=by
  have e:(Ad (Ad x:UInt64):UInt32)=UInt32.ofNat (Ad x:UInt64).toNat:=by simp only[Ad,Ko,Fk]
  rw[e,RH,e1];show(x %18446744073709551616).toNat %4294967296=_;omega
 have e3:(Ad (Ad (Ad x:UInt64):UInt32):Int32)=Int32.ofInt ((Ad (Ad x:UInt64):UInt32).toNat:Int):=rfl;rw[Dh,e3,e2,<-Agp x];congr 2;omega
theorem sP(a b:Int32):Dh (Ae (Ad a:Int) (Ad b:Int))=some (a+b):=by
 have:=BD a;have:=BD b;rw[Fj,Fj,Ag,B7,oN,U!,U!]
theorem Akq(a b:Int32):Dh (Br (Ad a:Int) (Ad b:Int))=some (a*b):=by
 have ha:=BD a;have hb:=BD b;have h1: -9223372036854775808<=a.toInt*b.toInt/\a.toInt*b.toInt<=9223372036854775807:=by
  have h2:(a.toInt*b.toInt).natAbs<=2147483648*2147483648:=by
   rw[Int.natAbs_mul];exact S! F0 F0
  omega
 rw[Fj,Fj,Fg h1.1 h1.2,B7,Int32.ofInt_mul,U!,U!]
def i? (s:Int)(t p:LX):Prop:=(s=9\/s=10)/\t.length=16/\p.length=16
theorem wC{s:Int}{t p:LX}(h:i? s t p):MG s t p=some 0:=by
 obtain⟨rfl|rfl,_,_⟩:=h<;>rfl
theorem W? {l:LX}{k:Nat}(h:k<l.length):Aj l (k:Int)=some (l.getD k 0):=by
 rw[Cj h];simp[J3,h]
def lG(t p:LX):Nat->Int32
 |0=>0
 |i+1=>lG t p i+t.getD i 0*p.getD i 0
def half(s:Int):Int32:=if s=9 then 256 else 512
def gF(s:Int)(t p:LX):Int32:=Int32.ofInt ((half s+lG t p 16).toInt.fdiv (if s=9 then 512 else 1024))
theorem Aio{s:Int}{t p:LX}(h:i? s t p):∀(j i q:Nat),i+j=16->j<q->Vl t s p q (half s+lG t p i) (i:Int)=some (gF s t p,0)
 |0,i,q+1,hi,_=>by
  obtain rfl:i=16:=F0
  have hs:=h.1;rw[Vl,MX,B! S0,ZN,As2,Bq RX,Aa];obtain rfl|rfl:=hs<;>rfl
 |j+1,i,q+1,hi,hq=>by
  obtain⟨hs,ht,hp⟩:=h;rw[Vl,MX,CD F9,W? F0,Aa,W? F0,Aa,Aa,Ag (b:=1) F0 F0,aV,D5,Int32.add_assoc];exact Aio ⟨hs,ht,hp⟩ j (i+1) q F0 F0
theorem Adv{s:Int}{t p:LX}(h:i? s t p):UZ s t p=some (gF s t p,0):=by
 have hs:=h.1;have h1:=Aio h 16 0 As F0 F8;have e:Dl (1:Int32) (GI.toZ (Am s (1:Int))).toNat=half s+lG t p 0:=by
  obtain rfl|rfl:=hs<;>rfl
 rw[UZ,ZK,wC h,Aa,B! M_,Bq (by rw[Dq,Cc];simp;omega),Aa,Arl,e];exact h1
theorem Q5{s:Int}{t p:LX}(ht:t.length=16)(hp:p.length=16){g:Int32}(hg:lG t p 16=g):∀(j i q:Nat),i+j=16->j<q->Ms s t p q (lG t p i).toInt (i:Int)=some g
 |0,i,q+1,hi,_=>by
  obtain rfl:i=16:=F0
  rw[Ms,AG,B! S0,Aan,Abk,TF,U!,hg]
 |j+1,i,q+1,hi,hq=>by
  have ih:=Q5 (s:=s) ht hp hg j (i+1) q F0 F0;rw[lG]at ih;rw[Ms,AG,CD F9,W? F0,W? F0,Aa,Aa,Aa,Aa,Akq,Aa,<-Fj (lG t p i),sP,Aa,Fj,Ag];exact ih
theorem Ajd{s:Int}{t p:LX}(h:i? s t p):Ah5 s t p=some (lG t p 16):=
 Q5 h.2.1 h.2.2 rfl 16 0 As F0 F8
theorem Ag7(x n:Int)(hn:n=512\/n=1024\/n=16\/n=32):(if x.tmod n<0 then x.tdiv n-1 else x.tdiv n)=x.fdiv n:=by
 have hs:n.sign=1:=by obtain rfl|rfl|rfl|rfl:=hn<;>rfl
 rw[iK,Int.tmod_eq_emod,hs,U? _ F0];by_cases h:0<=x\/n∣x
 ·rw[CD h,CD h];obtain rfl|rfl|rfl|rfl:=hn<;>(rw[B! F0];omega)
 ·rw[B! h,B! h];obtain rfl|rfl|rfl|rfl:=hn<;>(rw[CD F0];omega)
theorem Aa1(x n:Int)(hn:n=512\/n=1024\/n=16\/n=32)(h: -1000000000000<=x)(h':x<=1000000000000): -1000000000000<=x.tdiv n/\x.tdiv n<=1000000000000:=by
 have hs:n.sign=1:=by obtain rfl|rfl|rfl|rfl:=hn<;>rfl
 rw[iK,hs];by_cases h:0<=x\/n∣x
 ·rw[CD h];obtain rfl|rfl|rfl|rfl:=hn<;>omega
 ·rw[B! h];obtain rfl|rfl|rfl|rfl:=hn<;>omega
theorem Atm(x n:Int)(hn:n=512\/n=1024\/n=16\/n=32)(h: -1000000000000<=x)(h':x<=1000000000000):Ci x n=x.tdiv n:=by
 have:=Aa1 x n hn h h';rw[QC,Db F0 F0]
theorem Akm(x n:Int)(hn:n=512\/n=1024\/n=16\/n=32)(h: -1000000000000<=x)(h':x<=1000000000000):
  (if(Cw (Hl x n) (0:Int))=true then some (Ad (Am (Ci x n) (1:Int)):Int32)else some (Ad (Ci x n):Int32))=some (Int32.ofInt (x.fdiv n)):=by
 have hb:=Aa1 x n hn h h';rw[Af,Hl,Atm x n hn h h',Cc,TF,TF,<-Ag7 x n hn];by_cases hx:x.tmod n<0
 ·rw[CD (by simpa using hx),CD hx]
 ·rw[B! (by simpa using hx),B! hx]
theorem Am1{s:Int}{t p:LX}(h:i? s t p):HI s t p=some (gF s t p):=by
 obtain⟨hs,ht,hp⟩:=h;have h:i? s t p:=⟨hs,ht,hp⟩;have hx:=BD (lG t p 16+half s);have key:∀n:Int,(n=512\/n=1024)-> (half s).toInt=n/2->gF s t p=Int32.ofInt ((half s+lG t p 16).toInt.fdiv n)->Yn s t p n=some (gF s t p):=by
  intro n hn hh hg;have e2:Ci n (2:Int)=(half s).toInt:=by rw[hh];obtain rfl|rfl:=hn<;>rfl
  rw[Yn,NN,Ajd h,Aa,e2,<-Fj (half s),sP,Aa,Bq RL,Aa,Aa,Fj,Akm _ n F0 F0 F0,hg,Int32.add_comm]
 rw[HI,NT];obtain rfl|rfl:=hs
 ·rw[CD WG];exact key 512 (.inl rfl) rfl rfl
 ·rw[B! XG];exact key 1024 (.inr rfl) rfl rfl
def B_(i:Nat):Int32:=if i=0 then 4 else if i<4 then 2 else 1
def sg(x:Int32):Int32:=if x.toInt<0 then -1 else if 0<x.toInt then 1 else 0
def D7(t p:LX)(w:Int32):LX:=(List.range 16).map λi=>t.getD i 0+B_ i*sg (p.getD i 0)*sg w
theorem IV(t p:LX)(w:Int32):(D7 t p w).length=16:=by simp[D7]
theorem vg(t p:LX)(w:Int32){i:Nat}(h:i<16):(D7 t p w).getD i 0=t.getD i 0+B_ i*sg (p.getD i 0)*sg w:=by
 rw[Nc (by rw[IV];exact h)];simp[D7]
theorem step_eq(i:Nat):bA (i:Int)=some (B_ i):=by
 rw[bA,B_];by_cases h:i=0
 ·rw[CD (by rw[Ax];simp[h]),CD h]
 ·rw[B! SC,B! h];by_cases h2:i<4
  ·rw[CD F9,CD h2]
  ·rw[B! F9,B! h2]
theorem Af2(i:Nat):JD (i:Int)=some (B_ i):=by
 rw[JD,B_];by_cases h:i=0
 ·rw[CD (by rw[Ax];simp[h]),CD h]
 ·rw[B! SC,B! h];by_cases h2:i<4
  ·rw[CD (by rw[KO];simp;omega),CD h2]
  ·rw[B! (by rw[KO];simp;omega),B! h2]
theorem vk(a b:Int32):Cw a b=decide (a.toInt<b.toInt):=rfl
theorem iw(a b:Int32):Ef a b=decide (b.toInt<a.toInt):=rfl
theorem sign_eq(x:Int32):Wi x=some (sg x):=by
 rw[Wi,sg,vk,iw,show(0:Int32).toInt=0 from rfl];by_cases h:x.toInt<0
 ·rw[CD (by simpa using h),CD h]
 ·rw[B! (by simpa using h),B! h];by_cases h2:0<x.toInt
  ·rw[CD (by simpa using h2),CD h2]
  ·rw[B! (by simpa using h2),B! h2]
theorem ru:sg 0=0:=rfl
theorem toInt_ne(h:x≠0):x.toInt≠0:=λe=>h (Int32.toInt_inj.1 (by rw[e];rfl))
theorem qm(h:x.toInt<0):sg x= -1:=by rw[sg,CD h]
theorem qo(h:x≠0)(h2:¬x.toInt<0):sg x=1:=by
 have:=toInt_ne h;rw[sg,B! h2,CD F0]
theorem nM(i:Nat):B_ i=4\/B_ i=2\/B_ i=1:=by
 unfold B_;by_cases h:i=0
 ·rw[CD h];exact .inl rfl
 ·rw[B! h];split;exact .inr (.inl rfl);exact .inr (.inr rfl)
theorem Agd(hx:x≠0)(hw:w≠0)(h:(x.toInt<0)=(w.toInt<0))(i:Nat):B_ i*sg x*sg w=B_ i:=by
 by_cases h1:x.toInt<0
 ·rw[qm h1,qm (by rw[<-h];exact h1)];obtain e|e|e:=nM i<;>rw[e]<;>decide
 ·rw[qo hx h1,qo hw (by rw[<-h];exact h1)];obtain e|e|e:=nM i<;>rw[e]<;>decide
theorem Aak(hx:x≠0)(hw:w≠0)(h:¬(x.toInt<0)=(w.toInt<0))(i:Nat)(a:Int32):a+B_ i*sg x*sg w=a-B_ i:=by
 have key:B_ i*sg x*sg w=-B_ i:=by
  by_cases h1:x.toInt<0
  ·have h2:¬w.toInt<0:=λh2=>h (propext ⟨λ_=>h2,λ_=>h1⟩);rw[qm h1,qo hw h2];obtain e|e|e:=nM i<;>rw[e]<;>decide
  ·have h2:w.toInt<0:=Decidable.by_contra λh2=>h (propext ⟨λh3=>absurd h3 h1,λh3=>absurd h3 h2⟩);rw[qo hx h1,qm h2];obtain e|e|e:=nM i<;>rw[e]<;>decide
 rw[key,Int32.sub_eq_add_neg]
def uH(i:Nat):Nat->Bool:=λj=>decide (j<i)
theorem S3{a b:LX}{i:Nat}(h:i<a.length):Mm (dZ (uH i) a b) (i:Int) (a.getD i 0)=some (dZ (uH (i+1)) a b):=by
 rw[fG h];congr 1;apply Vg;intro k _;rw[O3];simp only[uH,SU,E3];omega
theorem Agz{a b:LX}{i:Nat}(e:a.getD i 0=b.getD i 0):dZ (uH i) a b=dZ (uH (i+1)) a b:=by
 apply YQ;intro k _;simp only[uH,E3];by_cases h1:k<i
 ·rw[CD h1,CD F0]
 ·by_cases h2:k=i
  ·subst h2;rw[B! h1,CD F0,e]
  ·rw[B! h1,B! F0]
theorem L? {a b:LX}{i:Nat}(h:i<a.length):Aj (dZ (uH i) a b) (i:Int)=some (b.getD i 0):=by
 rw[CV h,B! (by simp[uH])]
theorem Aq4{s:Int}{t p:LX}{w:Int32}(hw:w≠0)(ht:t.length=16)(hp:p.length=16):∀(j i q:Nat),i+j=16->j<q->Ve w p s q (i:Int) (dZ (uH i) (D7 t p w) t)=some (s,D7 t p w,p,0)
 |0,i,q+1,hi,_=>by
  obtain rfl:i=16:=F0
  rw[Ve,MY,B! S0,nQ (λk hk=>by rw[IV]at hk;simpa [uH]using hk)];rfl
 |j+1,i,q+1,hi,hq=>by
  have hl:=IV t p w;have hg:=vg t p w (i:=i) F0;rw[Ve,MY,CD F9,W? F0,Aa,Ag (b:=1) F0 F0,L? F0,step_eq];simp only[Aa];rw[aV,UP,qZ,vk,vk,show(0:Int32).toInt=0 from rfl];have ih:=Aq4 (s:=s) hw ht hp j (i+1) q F0 F0;by_cases hx:p.getD i 0=0
  ·rw[CD (by rw[hx];rfl),Agz (by rw[hg,hx,ru,Int32.mul_zero,Int32.zero_mul,Int32.add_zero])];exact ih
  ·rw[B! (by simpa using hx)];by_cases hs:((p.getD i 0).toInt<0)=(w.toInt<0)
   ·rw[CD (by rw[RG];simp only[hs]),show t.getD i 0+B_ i=(D7 t p w).getD i 0 by rw[hg,Agd hx hw hs],S3 F0,Aa];exact ih
   ·rw[B! (by rw[RG,decide_eq_decide];exact λh=>hs (propext h)),show t.getD i 0-B_ i=(D7 t p w).getD i 0 by rw[hg,Aak hx hw hs],S3 F0,Aa];exact ih
theorem Ahy{t:LX}(p:LX)(ht:t.length=16):D7 t p 0=t:=by
 apply UW (by rw[IV,ht]);intro i h1 h2;have:=vg t p 0 (i:=i) F0;rw[Nc h1,Nc h2]at this;rw[this,ru,Int32.mul_zero,Int32.add_zero]
theorem P!{s:Int}{t p:LX}(h:i? s t p)(w:Int32):fU s t p w=some (s,D7 t p w,p,0):=by
 rw[fU,ZV,wC h,Aa,B! M_,qZ];by_cases hw:w=0
 ·rw[CD (by simpa using hw),hw,Ahy p h.2.1]
 ·have h1:=Aq4 (s:=s) hw h.2.1 h.2.2 16 0 As F0 F8;rw[jL (by rw[IV,h.2.1]) (λk _=>by simp[uH])]at h1;rw[B! (by simpa using hw)];exact h1
theorem Asx{s:Int}{t p:LX}{w:Int32}(ht:t.length=16)(hp:p.length=16):∀(j i q:Nat),i+j=16->j<q->Iv w s p q (i:Int) (dZ (uH i) (D7 t p w) t)=some (s,D7 t p w,p)
 |0,i,q+1,hi,_=>by
  obtain rfl:i=16:=F0
  rw[Iv,Sd,B! S0,nQ (λk hk=>by rw[IV]at hk;simpa [uH]using hk)];rfl
 |j+1,i,q+1,hi,hq=>by
  have hl:=IV t p w;have hg:=vg t p w (i:=i) F0;rw[Iv,Sd,CD F9,W? (l:=p) F0,Ag (b:=1) F0 F0,L? F0,Af2,sign_eq w,Aa,Aa,Aa,Aa,Aa,sign_eq,Aa,Aa,Aa,aV,D5,D5,<-hg,S3 F0,Aa];exact Asx ht hp j (i+1) q F0 F0
theorem Ab7{s:Int}{t p:LX}(h:i? s t p)(w:Int32):NM s t p w=some (s,D7 t p w,p):=by
 have h1:=Asx (s:=s) (w:=w) h.2.1 h.2.2 16 0 As F0 F8;rw[jL (by rw[IV,h.2.1]) (λk _=>by simp[uH])]at h1;exact h1
theorem Anb{p:LX}(h:p.length=16):∃a0 a1 a2 a3 a4 a5 a6 a7 a8 a9 b0 b1 b2 b3 b4 b5,p=[a0,a1,a2,a3,a4,a5,a6,a7,a8,a9,b0,b1,b2,b3,b4,b5]:=by
 match p,h with
 |[a0,a1,a2,a3,a4,a5,a6,a7,a8,a9,b0,b1,b2,b3,b4,b5],_=>exact⟨a0,a1,a2,a3,a4,a5,a6,a7,a8,a9,b0,b1,b2,b3,b4,b5,rfl⟩
theorem pQ{s:Int}{t p:LX}(h:i? s t p)(x:Int32):nY s t p x=some (s,t,x::p.take 15,0):=by
 obtain⟨hs,ht,hp⟩:=h;rw[nY,SS,wC ⟨hs,ht,hp⟩,Aa,B! M_,show VA (16:Int) 1 16=some ()from rfl,Aa,show VA (16:Int) 0 16=some ()from rfl,Aa,eV,Asn];obtain⟨a0,a1,a2,a3,a4,a5,a6,a7,a8,a9,b0,b1,b2,b3,b4,b5,rfl⟩:=Anb hp;rfl
def uh(p:LX)(i:Nat):LX:=(List.range 16).map λk=>if k<=i then p.getD k 0 else p.getD (k-1) 0
theorem CY(p:LX)(i:Nat):(uh p i).length=16:=by simp[uh]
theorem Anw(p:LX)(i k:Nat)(h:k<16):(uh p i).getD k 0=if k<=i then p.getD k 0 else p.getD (k-1) 0:=by
 rw[Nc (by rw[CY];exact h)];simp[uh]
theorem An6(p:LX)(i:Nat)(h:i+1<16):Mm (uh p (i+1)) ((i+1:Nat):Int) (p.getD i 0)=some (uh p i):=by
 rw[Uh _ (by rw[CY];exact h)];congr 1;apply UW (by simp[CY]);intro k h1 h2;rw[CY]at h2;rw[aQ];simp only[uh,aU,b?];by_cases hk:i+1=k
 ·subst hk;rw[CD rfl,B! F0];rfl
 ·rw[B! hk];by_cases h3:k<=i
  ·rw[CD F0,CD h3]
  ·rw[B! F0,B! h3]
theorem Awd(s:Int)(t p:LX)(x:Int32)(hp:p.length=16):∀(i q:Nat),i<16->i<q->Jt x s t q (i:Int) (uh p i)=some (s,t,x::p.take 15)
 |0,q+1,_,_=>by
  have hg:Aj (uh p 0) (0:Int)=some ((uh p 0).getD 0 0):=W? (l:=uh p 0) (k:=0) (by rw[CY];omega);have hset:Mm (uh p 0) (0:Int) x=some ((uh p 0).set 0 x):=Uh (l:=uh p 0) (n:=0) x (by rw[CY];omega);rw[Jt,Uo,B! X!,FY,HC,hg,Aa,hset,Aa];congr 3;apply UW (by simp[CY,hp]);intro k h1 h2;rw[W9,CY]at h1;rw[aQ];cases k with
  |zero=>rw[CD rfl];rfl
  |succ k=>
   rw[B! F0];simp only[uh,aU,b?,List.getElem_cons_succ,gV];rw[B! F0,o?,Nc F0]
 |i+1,q+1,hi,hq=>by
  have hg:=W? (l:=uh p (i+1)) (k:=i) (by rw[CY];omega);rw[Anw p (i+1) i F0,CD F0]at hg;have e1:Am ((i+1:Nat):Int) (1:Int)=(i:Int):=by rw[Cc];omega
  have hg2:=W? (l:=uh p (i+1)) (k:=i+1) (by rw[CY];omega);rw[Jt,Uo,CD X!,e1,hg,Aa,Aa,hg2,Aa,An6 p i hi,Aa];exact Awd s t p x hp i q F0 F0
theorem Agr{s:Int}{t p:LX}(hp:p.length=16)(x:Int32):Aae s t p x=some (s,t,x::p.take 15):=by
 have h:=Awd s t p x hp 15 As F0 F8;have e:uh p 15=p:=by
  apply UW (by rw[CY,hp]);intro k h1 h2;rw[CY]at h1;simp only[uh,aU,b?];rw[CD F0,Nc h2]
 rw[e]at h;exact h
theorem Aij{s:Int}{t p:LX}(h:i? s t p)(w x:Int32):i? s (D7 t p w) (x::p.take 15):=⟨h.1,IV _ _ _,by simp[h.2.2]⟩
theorem Aod{s:Int}{t p:LX}(h:i? s t p)(y:Int32):mE s t p y=some (y+gF s t p,s,D7 t p y,(y+gF s t p)::p.take 15,0):=by
 rw[mE,Adv h,Aa];simp only;rw[B! M_,aV,TV,P! h,Aa];simp only;rw[pQ (s:=s) (t:=D7 t p y) (p:=p) ⟨h.1,IV _ _ _,h.2.2⟩,Aa];rfl
theorem Ae6{s:Int}{t p:LX}(h:i? s t p)(y:Int32):Xr s t p y=some (y+gF s t p,s,D7 t p y,(y+gF s t p)::p.take 15):=by
 rw[Xr,Am1 h,Aa,sP,Aa,Ab7 h,Aa];simp only;rw[Agr h.2.2,Aa]
def sB(bits:Int):Int:=if bits=16 then 9 else 10
def shB(bits:Int):Int:=if bits=8 then 4 else 5
def Cb(bits:Int):Prop:=bits=8\/bits=16\/bits=24
def gs(sh:Int)(last:Int32):Int32:=Ad (xw (Am (Dl (Ad last:Int) sh.toNat) (Ad last)) sh.toNat)
theorem Att(bits:Int):sB bits=9\/sB bits=10:=by unfold sB;split<;>simp
theorem An7(bits:Int):0<=shB bits:=by unfold shB;split<;>omega
theorem Ave{bits:Int}(h:Cb bits)(t:LX):tY bits t=some (sB bits,t,List.replicate 16 0,0):=by
 obtain rfl|rfl|rfl:=h<;>rfl
theorem Asd{bits:Int}(h:Cb bits):kU bits=some (shB bits,0):=by
 obtain rfl|rfl|rfl:=h<;>rfl
theorem Aqv{sh:Int}(h:0<=sh)(last:Int32):WZ sh last=some (gs sh last):=by
 rw[WZ,Bq (by rw[Dq];simpa using h),Aa,Aa];rfl
theorem uz{bits:Int}(h:Cb bits)(last:Int32):Xz bits last=some (gs (shB bits) last,0):=by
 rw[Xz,Asd h,Aa];simp only;rw[B! M_,Aqv (An7 bits),Aa]
theorem Q7{bits:Int}(h:Cb bits)(last:Int32)(t p:LX):Xx bits last (sB bits) t p=some 0:=by
 rw[Xx,Ave h,Aa];simp only;rw[B! (by rw[Ao,Ao];simp)]
theorem Afr{bits:Int}(h:Cb bits){t p:LX}(hF:i? (sB bits) t p)(last y:Int32):
  Mk bits last (sB bits) t p y=some (y+gF (sB bits) t p+gs (shB bits) last,bits,y+gF (sB bits) t p+gs (shB bits) last,sB bits,D7 t p y,(y+gF (sB bits) t p)::p.take 15,0):=by
 rw[Mk,Q7 h,Aa,B! M_,uz h,Aa];simp only;rw[Aod hF,Aa];simp only;rw[aV]
theorem xD(sh:Int)(hs:sh=4\/sh=5)(last:Int32):Ro sh last=some (gs sh last):=by
 have hl:=BD last;have key:∀n:Int,n=16\/n=32->gs sh last=Int32.ofInt (((n-1)*last.toInt).fdiv n)->Ui last n=some (gs sh last):=by
  intro n hn hg;have e:Br (Am n (1:Int)) (Ad last:Int)=(n-1)*last.toInt:=by
   obtain rfl|rfl:=hn<;>(rw[Fj,Cc,Fg])
  rw[Ui,GC,Bq RL,Aa,Aa,e,Akm _ n F0 (by obtain rfl|rfl:=hn<;>omega) (by obtain rfl|rfl:=hn<;>omega),hg]
 rw[Ro,IQ];obtain rfl|rfl:=hs
 ·rw[B! XG];refine key 16 (.inl rfl) ?_;have e:Dl (Ad last:Int) (4:Int).toNat=last.toInt*16:=by
   rw[Fj];show wrap64 (last.toInt*2^4)=_;rw[Db]<;>omega
  rw[gs,e,Fj,Cc,TF]
  show Int32.ofInt ((last.toInt*16-last.toInt).fdiv 16)=_;congr 2;omega
 ·rw[CD WG];refine key 32 (.inr rfl) ?_;have e:Dl (Ad last:Int) (5:Int).toNat=last.toInt*32:=by
   rw[Fj];show wrap64 (last.toInt*2^5)=_;rw[Db]<;>omega
  rw[gs,e,Fj,Cc,TF]
  show Int32.ofInt ((last.toInt*32-last.toInt).fdiv 32)=_;congr 2;omega
theorem Ahh{bits:Int}(h:Cb bits){t p:LX}(hF:i? (sB bits) t p)(last y:Int32):
  Xn bits last (sB bits) t p y=some (y+gF (sB bits) t p+gs (shB bits) last,bits,y+gF (sB bits) t p+gs (shB bits) last,sB bits,D7 t p y,(y+gF (sB bits) t p)::p.take 15):=by
 have hb:AY bits last (sB bits) t p=some (Ad (gs (shB bits) last):Int):=by
  rw[AY];obtain rfl|rfl|rfl:=h
  ·rw[CD WG,xD 4 (.inl rfl),Aa];rfl
  ·rw[B! XG,xD 5 (.inr rfl),Aa];rfl
  ·rw[B! XG,xD 5 (.inr rfl),Aa];rfl
 rw[Xn,Ae6 hF,Aa];simp only;rw[hb,Aa,sP,Aa]
theorem Aug{bits:Int}(h:Cb bits)(t:LX):Agt bits t=some (bits,0,sB bits,t,List.replicate 16 0,0):=by
 obtain rfl|rfl|rfl:=h<;>rfl
def TQ(n:UInt32):Int32:=if n.toNat %2=0 then Int32.ofInt ((n.toNat/2:Nat):Int)else Int32.ofInt (-((n.toNat/2:Nat):Int)-1)
theorem Auh(a b:Int32):(Yo a b).toBitVec=a.toBitVec^^^b.toBitVec:=by
 show(Int32.ofInt ((BitVec.ofInt 32 a.toBitVec.toInt^^^BitVec.ofInt 32 b.toBitVec.toInt).toNat:Int)).toBitVec=_;rw[BitVec.ofInt_toInt,BitVec.ofInt_toInt,oH,BitVec.ofInt_natCast,BitVec.ofNat_toNat,BitVec.setWidth_eq]
theorem Auf(m:Nat)(h:m<2147483648):Yo (Int32.ofInt (m:Int)) (Int32.ofInt (-1))=Int32.ofInt (-(m:Int)-1):=by
 apply Int32.toBitVec_inj.1;have e1:(Int32.ofInt (-1)).toBitVec=BitVec.allOnes 32:=F3
 rw[Auh,e1,BitVec.xor_allOnes,oH,oH];apply dD;rw[iJ,W7,W7];omega
theorem Ajz(n:UInt32):Zs n=some (TQ n):=by
 have hn:=n.toNat_lt;have e1:(Ad (Cq n (GI.toZ (1:UInt64)).toNat):Int32)=Int32.ofInt ((n.toNat/2:Nat):Int):=by
  show Int32.ofInt ((Cq n 1).toNat:Int)=_;rw[NO]
 have e2:(Ad (Ev n (1:UInt32)):Int32)=Int32.ofInt ((n.toNat %2:Nat):Int):=by
  show Int32.ofInt ((Ev n (1:UInt32)).toNat:Int)=_;rw[J7,iE]
  show Int32.ofInt ((n.toNat&&&1:Nat):Int)=_;rw[oC]
 rw[Zs,e1,e2,TQ];congr 1;by_cases h:n.toNat %2=0
 ·have e3:sO (Int32.ofInt ((n.toNat %2:Nat):Int))=Int32.ofInt 0:=by rw[h];decide
  rw[CD h,e3];apply Int32.toBitVec_inj.1;rw[Auh,show(Int32.ofInt 0).toBitVec=0#32 from rfl,BitVec.xor_zero]
 ·have e3:sO (Int32.ofInt ((n.toNat %2:Nat):Int))=Int32.ofInt (-1):=by rw[show n.toNat %2=1 by omega];decide
  rw[B! h,e3,Auf _ F0]
theorem Am9(n:UInt32):HA n=some (TQ n):=by
 have hn:=n.toNat_lt;have e1:geq (FP n (2:UInt32)) (0:UInt32)=decide (n.toNat %2=0):=by
  rw[sj,Aet,O3];simp only[RG,<-iF,oU,E3];rfl
 rw[HA,e1,TQ];by_cases h:n.toNat %2=0
 ·rw[CD (by simpa using h),CD h,Ao2];rfl
 ·have e2:(Ad n:Int)=(n.toNat:Int):=C7 n;rw[B! (by simpa using h),B! h,e2,Ag,tq,Db F0 F0,QC,iK,TF];congr 2;rw[CD (.inr F0),Db F0 F0];omega
theorem PO{p:Prop}(h:p:=by rw[Au,Ac];simp;omega):p:=h
theorem pE{c:Prop} [Decidable c](h:c):Ke (decide c)=some ():=by rw[UI h];rfl
def unV(f:Nat->Int32)(ch:Nat):Nat->Int32
 |0=>if 1<ch then f (ch-1)+Ci (f (ch-2)) (2:Int32)else f (ch-1)
 |j+1=>unV f ch j-f (ch-2-j)
def L9(ch:Nat)(m:LX):LX:=(List.range m.length).map λk=>unV (λi=>m.getD (k-k %ch+i) 0) ch (ch-1-k %ch)
theorem nJ(ch:Nat)(m:LX):(L9 ch m).length=m.length:=by simp[L9]
theorem B9{ch:Nat}{m:LX}{a i:Nat}(ha:a %ch=0)(hi:i<ch)(h:a+i<m.length):(L9 ch m).getD (a+i) 0=unV (λi=>m.getD (a+i) 0) ch (ch-1-i):=by
 have hb:(a+i) %ch=i:=by rw[Nat.add_mod,ha,T9,i_,DM hi]
 rw[Nc (by rw[nJ];exact h)];simp only[L9,aU,b?,hb];rw[show a+i-i=a by omega]
section
variable (ch:Nat) (m:LX)
theorem Aq3(h1:1<=ch)(h6:ch<=6)(hm:m.length %ch=0)(hl2:m.length<=4000):bX (ch:Int) m=some 0:=by
 rw[bX,B! SY,B! PO,Bq RL,Aa,B!];rw[Ao,Hl,Ac,<-dH,hm];simp
theorem D2(bk:Int->LX->Option (LX×Int))(at':Nat)(h1:1<=ch)(h6:ch<=6)(hm:at' %ch=0)(hl:at'+ch<=m.length)(hl2:m.length<=4000):∀(i q:Nat),i<=ch-1->i<q->
  Zo bk (ch:Int) (at':Int) q ((i:Int)-1) (dZ (λk=>decide (k<at'\/ (at'+i<=k/\k<at'+ch))) (L9 ch m) m)=bk ((at'+ch:Nat):Int) (dZ (λk=>decide (k<at'+ch)) (L9 ch m) m)
 |0,q+1,hi,_=>by
  have e4:Ae (at':Int) (ch:Int)=((at'+ch:Nat):Int):=by rw[Ag];omega
  rw[Zo,SJ,B! RY,eT,At1,e4];congr 1;apply Vg;intro k _;rw[O3];simp;omega
 |i+1,q+1,hi,hq=>by
  have hlen:=nJ ch m;have e2:Ae (at':Int) (ch:Int)-(at':Int)=(ch:Int):=by rw[Ag];omega
  have e3:Ae (i:Int) 1=((i+1:Nat):Int):=by rw[Ag];omega
  have hv:((L9 ch m).getD (at'+(i+1)) 0-m.getD (at'+i) 0)=(L9 ch m).getD (at'+i) 0:=by
   rw[B9 hm F0 F0,B9 hm F0 F0,show ch-1-i=(ch-1-(i+1))+1 by omega,unV,show ch-2-(ch-1-(i+1))=i by omega]
  rw[Zo,SJ,show((i+1:Nat):Int)-1=(i:Int) by omega,CD RY,e2,e3,pE F0,Aa,pE F0,Aa,
   show(at':Int)+((i+1:Nat):Int)=((at'+(i+1):Nat):Int) by omega,show(at':Int)+(i:Int)=((at'+i:Nat):Int) by omega,
   CV F0,Aa,CV F0,Aa,Aa,CD F7,B! F7,UP,hv,fG F0,Aa,Cc]
  have ih:=D2 bk at' h1 h6 hm hl hl2 i q F0 F0;rw[<-ih];congr 1;apply Vg;intro k _;rw[O3];simp;omega
theorem O8{at' ch n:Nat}(ha:at' %ch=0)(hm:n %ch=0)(h:at'<n):at'+ch<=n:=by
 have d1:=Y2 at' ch;have d2:=Y2 n ch;rw[ha,U_]at d1;rw[hm,U_]at d2;have hlt:at'/ch<n/ch:=by
  rcases XC (at'/ch) (n/ch)with h'|h'
  ·exact h'
  ·have:=X8 ch h';omega
 have:=X8 ch (show at'/ch+1<=n/ch from hlt);rw[eu]at this;omega
theorem Adw(h1:1<=ch)(h6:ch<=6)(hm:m.length %ch=0)(hl2:m.length<=4000):∀(j at' q:Nat),at' %ch=0->at'<=m.length->m.length-at'<=j->j<q->
  Uc (ch:Int) q (at':Int) (dZ (λk=>decide (k<at')) (L9 ch m) m)=some (L9 ch m,0)
 |j,at',q+1,ha,hle,hj,hq=>by
  have hlen:=nJ ch m;have hl:Ac (dZ (λk=>decide (k<at')) (L9 ch m) m)=(m.length:Int):=by rw[Ac,NC,hlen]
  rw[Uc,dK,hl];by_cases h:at'<m.length
  ·have hb:=O8 ha hm h;obtain⟨j,rfl⟩:∃k,j=k+1:=⟨j-1,F0⟩;have e1:Am (Ae (at':Int) (ch:Int)-(at':Int)) 1=((ch-1:Nat):Int):=by rw[Ag,Cc];omega
   have e2:Ae (at':Int) (ch:Int)-(at':Int)=(ch:Int):=by rw[Ag];omega
   have e4:Ae (at':Int) (ch:Int)=((at'+ch:Nat):Int):=by rw[Ag];omega
   have hi:=D2 ch m (Uc (ch:Int) q) at' h1 h6 ha hb hl2 (ch-1) As F0 F8;have hrest:=Adw h1 h6 hm hl2 j (at'+ch) q (by rw[bK,ha]) hb F0 F0;have hstart:fA (Uc (ch:Int) q) (ch:Int) (at':Int) (dZ (λk=>decide (k<at'\/ (at'+(ch-1)<=k/\k<at'+ch))) (L9 ch m) m)=some (L9 ch m,0):=by
    have e6:Am ((ch-1:Nat):Int) 1=((ch-1:Nat):Int)-1:=Cc;rw[fA,dE,dO,e1,e6];exact R? hi hrest
   rw[CD F9,show VA (m.length:Int) (at':Int) (Ae (at':Int) (ch:Int))=some () by rw[e4,VA,pE];omega,Aa,e1,e2];have hlast:=B9 (m:=m) ha (show ch-1<ch by omega) F0;rw[show ch-1-(ch-1)=0 by omega,unV]at hlast;by_cases hc:1<ch
   ·have e5:Am ((ch-1:Nat):Int) 1=((ch-2:Nat):Int):=by rw[Cc];omega
    rw[CD hc]at hlast;rw[CD R7,pE F0,Aa,e5,pE F0,Aa,show(at':Int)+((ch-1:Nat):Int)=((at'+(ch-1):Nat):Int) by omega,show(at':Int)+((ch-2:Nat):Int)=((at'+(ch-2):Nat):Int) by omega,
     CV F0,Aa,CV F0,Aa,Aa,B! CH,B! CH,aV,<-hlast,fG F0,Aa]
    rw[<-hstart];congr 1;apply Vg;intro k _;rw[O3];simp;omega
   ·have hc1:ch=1:=F0
    rw[B! R7,<-hstart];congr 1;rw[B! hc]at hlast;apply YQ;intro k hk;by_cases hk2:k=at'
    ·subst hk2;rw[B! CH,CD F7];rw[show k+(ch-1)=k by omega]at hlast;exact hlast.symm
    ·by_cases hk3:k<at'
     ·rw[CD F7,CD F7]
     ·rw[B! F7,B! F7]
  ·rw[B! F9,nQ (λk hk=>by simp;omega)];rfl
theorem Ang(h1:1<=ch)(h6:ch<=6)(hm:m.length %ch=0)(hl2:m.length<=4000):tD (ch:Int) m=some (L9 ch m,0):=by
 have hlen:=nJ ch m;have h:=Adw ch m h1 h6 hm hl2 m.length 0 As CH F0 F0 F8;rw[tD,mH,Aq3 ch m h1 h6 hm hl2,Aa,B! M_,Dd,Bi F7,Aa,Aa,RI,Atc];rw[jL hlen.symm (λk _=>by simp)]at h;exact h
end
def xO(f:Nat->Int32)(ch:Nat):LX:=(List.range ch).map λi=>unV f ch (ch-1-i)
theorem bO(f:Nat->Int32)(ch:Nat):(xO f ch).length=ch:=by simp[xO]
theorem uT(f:Nat->Int32){ch i:Nat}(h:i<ch):(xO f ch).getD i 0=unV f ch (ch-1-i):=by
 rw[Nc (by rw[bO];exact h)];simp[xO]
theorem Akw(a b:Int32):Dh (Am (Ad a:Int) (Ad b:Int))=some (a-b):=by
 have:=BD a;have:=BD b;rw[Fj,Fj,Cc,B7,oO,U!,U!]
theorem Agl(a b:Int32):Dh (Ae (Ad a:Int) (Ci (Ad b:Int) (2:Int)))=some (a+Ci b (2:Int32)):=by
 have:=BD a;have hb:=BD b;have hd: -2147483648<=b.toInt.tdiv 2/\b.toInt.tdiv 2<=2147483648:=by
  rw[iK,show Int.sign 2=1 from rfl];by_cases h:0<=b.toInt\/2∣b.toInt
  ·rw[CD h];omega
  ·rw[B! h];omega
 have e:Ci b (2:Int32)=Int32.ofInt (b.toInt.tdiv 2):=rfl;rw[Fj,Fj,QC,Db F0 F0,Ag,B7,oN,U!,e]
theorem Asp(seg z:LX)(ch:Nat)(h6:ch<=6)(hs:seg.length=ch)(hz:z.length=ch):∀(i q:Nat),i+1<=ch->i<q->
  Ir seg q ((i:Int)-1) (dZ (λk=>decide (i<=k)) (xO (λi=>seg.getD i 0) ch) z)=some (xO (λi=>seg.getD i 0) ch)
 |0,q+1,hi,_=>by
  rw[Ir,Sy,B! RY,nQ (λk hk=>by simp)];rfl
 |i+1,q+1,hi,hq=>by
  have hlen:=bO (λi=>seg.getD i 0) ch;have e3:Ae (i:Int) 1=((i+1:Nat):Int):=by rw[Ag];omega
  have hv:(xO (λi=>seg.getD i 0) ch).getD (i+1) 0-seg.getD i 0=(xO (λi=>seg.getD i 0) ch).getD i 0:=by
   rw[uT _ F0,uT _ F0,show ch-1-i=(ch-1-(i+1))+1 by omega,unV,show ch-2-(ch-1-(i+1))=i by omega]
  rw[Ir,Sy,show((i+1:Nat):Int)-1=(i:Int) by omega,CD RY,e3,CV F0,Aa,W? F0,Aa,Aa,CD CH,Akw,Aa,CV F0,Aa,hv,fG F0,Aa,Cc];have ih:=Asp seg z ch h6 hs hz i q F0 F0;rw[<-ih];congr 1;apply Vg;intro k _;rw[O3];simp;omega
theorem B? {l:LX}{i:Nat}(v:Int32)(h:i<l.length):(l.set i v).getD i 0=v:=by
 rw[Nc (by rw[W9];exact h)];simp
theorem Aac(seg:LX)(ch:Nat)(h1:1<=ch)(h6:ch<=6)(hs:seg.length=ch):Yk seg=some (xO (λi=>seg.getD i 0) ch):=by
 have hlen:=bO (λi=>seg.getD i 0) ch;have hzl:(List.replicate ch (0:Int32)).length=ch:=by simp
 have e1:Am (Ac seg) 1=((ch-1:Nat):Int):=by rw[Ac,hs,Cc];omega
 have e2:Am (Ac seg) 2=((ch-1:Nat):Int)-1:=by rw[Ac,hs,Cc];omega
 have hlast:=uT (λi=>seg.getD i 0) (show ch-1<ch by omega);rw[show ch-1-(ch-1)=0 by omega,unV]at hlast;have hend:∀z:LX,z.length=ch->z.getD (ch-1) 0=(xO (λi=>seg.getD i 0) ch).getD (ch-1) 0->Sg seg z=some (xO (λi=>seg.getD i 0) ch):=by
  intro z hz hzl;have h:=Asp seg z ch h6 hs hz (ch-1) As F0 F8;have e:dZ (λk=>decide (ch-1<=k)) (xO (λi=>seg.getD i 0) ch) z=z:=by
   apply UW (by rw[NC,hlen,hz]);intro k k1 k2;rw[Tm];by_cases hk:ch-1<=k
   ·obtain rfl:k=ch-1:=F0
    rw[CD CH,<-hzl,Nc k2]
   ·rw[B! (by simpa using hk),Nc k2]
  rw[e]at h;rw[Sg,FM,e2];exact h
 rw[Yk,EO,Ac,hs,pW,Aa,Bq Y8,Aa];rw[Ac,hs]at e1;rw[Ac,hs]at e2;have hz1:(List.replicate (Int.toNat (ch:Int)) (0:Int32)).length=ch:=by simp
 have hs1:=W? (l:=seg) (k:=ch-1) F0;rw[e1,hs1,Aa,W? F0,Aa,Uh _ F0,Aa];by_cases hc:1<ch
 ·rw[CD hc]at hlast;have e3:((ch-1:Nat):Int)-1=((ch-2:Nat):Int):=F0
  have hs2:=W? (l:=seg) (k:=ch-2) F0;rw[CD R7,Aa,e2,e3,hs2,Aa,Agl,Aa,W? (by rw[W9];omega),Aa,Uh _ (by rw[W9];omega),Aa];refine hend _ CH ?_;rw[hlast,B? _ (by rw[W9];omega)]
 ·rw[B! hc]at hlast;rw[B! R7];refine hend _ CH ?_;rw[hlast,B? _ F0]
theorem Aoa(ch:Nat)(m:LX)(h1:1<=ch)(h6:ch<=6)(hm:m.length %ch=0)(hl2:m.length<=4000):Tx (ch:Int) m=some 0:=by
 rw[Tx,B! SY,B! PO,Bq RL,Aa,B!];rw[Au,Hl,Ac,<-dH,hm];simp
theorem Auy(ch:Nat)(m:LX)(h1:1<=ch)(h6:ch<=6)(hm:m.length %ch=0)(hl2:m.length<=4000):∀(j at' q:Nat),at' %ch=0->at'<=m.length->m.length-at'<=j->j<q->
  Qm (ch:Int) m q (at':Int) ((L9 ch m).take at')=some (L9 ch m,0)
 |j,at',q+1,ha,hle,hj,hq=>by
  have hlen:=nJ ch m;rw[Qm,PK];by_cases h:at'<m.length
  ·have hb:=O8 ha hm h;have e4:Ae (at':Int) (ch:Int)=((at'+ch:Nat):Int):=by rw[Ag];omega
   have hrest:=Auy ch m h1 h6 hm hl2 (j-1) (at'+ch) q (by rw[bK,ha]) hb F0 F0;have hseg:((m.take (at'+ch)).drop at').length=ch:=by simp;omega
   have htl:((L9 ch m).take at').length=at':=by simp[hlen];omega
   rw[CD F2,e4,PY,Aa,show((at'+ch:Nat):Int).toNat=at'+ch from rfl,show(at':Int).toNat=at' from rfl,Aac _ ch h1 h6 hseg,Aa,Bi (by rw[htl,bO];omega),Aa];have e:(L9 ch m).take at'++xO (λi=>((m.take (at'+ch)).drop at').getD i 0) ch=(L9 ch m).take (at'+ch):=by
    apply UW (by rw[D!,htl,bO,JW,hlen];omega);intro k k1 k2;rw[JW,hlen]at k2;rw[List.getElem_append,gV];by_cases hk:k<at'
    ·rw[dif_pos (by rw[htl];exact hk),gV]
    ·rw[dif_neg (by rw[htl];exact hk)];have hu:=B9 (m:=m) ha (show k-at'<ch by omega) F0;rw[show at'+(k-at')=k by omega,Nc F0]at hu;have hx:∀n,n<=ch->unV (λi=>((m.take (at'+ch)).drop at').getD i 0) ch n=unV (λi=>m.getD (at'+i) 0) ch n:=by
      have hf:∀i,i<ch-> ((m.take (at'+ch)).drop at').getD i 0=m.getD (at'+i) 0:=by
       intro i hi;rw[Nc F0,Nc F0];simp
      intro n
      induction n with
      |zero=>
       intro _;rw[unV,unV,hf _ F0];split
       ·rw[hf _ F0]
       ·rfl
      |succ n ih=>intro hn;rw[unV,unV,ih F0,hf _ F0]
     have hy:=uT (λi=>((m.take (at'+ch)).drop at').getD i 0) (show k-at'<ch by omega);rw[Nc (by rw[bO];omega)]at hy;rw[hu,<-hx _ F0,<-hy];congr 1;rw[htl]
   rw[e];exact hrest
  ·rw[B! F2,TM F0];rfl
theorem Af9(ch:Nat)(m:LX)(h1:1<=ch)(h6:ch<=6)(hm:m.length %ch=0)(hl2:m.length<=4000):HB (ch:Int) m=some (L9 ch m,0):=by
 have h:=Auy ch m h1 h6 hm hl2 m.length 0 As CH F0 F0 F8;rw[HB,NR,Aoa ch m h1 h6 hm hl2,Aa,B! M_];exact h
def pre{α:Type}(ch c:Nat)(f:α->Nat->α)(a0:α):Nat->α
 |0=>a0
 |m+1=>if m %ch=c then f (pre ch c f a0 m) m else pre ch c f a0 m
theorem tL{α:Type}(ch c:Nat)(f:α->Nat->α)(a0:α):∀m,m<=c->c<ch->pre ch c f a0 m=a0
 |0,_,_=>rfl
 |m+1,h,h2=>by rw[pre,B! (by rw[DM F0];omega),tL ch c f a0 m F0 h2]
theorem D_{α:Type}(ch c i:Nat)(f:α->Nat->α)(a0:α)(hi:i %ch=c)(hc:c<ch):∀j,j<ch->pre ch c f a0 (i+1+j)=pre ch c f a0 (i+1)
 |0,_=>rfl
 |j+1,h=>by
  have hne:(i+1+j) %ch≠c:=by
   intro e;have h1:(i+(1+j)) %ch=i %ch:=by rw[hi,<-e];congr 1;omega
   have h2:(1+j) %ch=0:=by
    have h3:=mo h1;rwa [aK]at h3
   rw[DM F0]at h2;omega
  rw[show i+1+(j+1)=(i+1+j)+1 by omega,pre,B! hne,D_ ch c i f a0 hi hc j F0]
theorem Ajc(ch c i:Nat)(f:α->Nat->α)(a0:α)(hi:i %ch=c)(hc:c<ch):pre ch c f a0 (i+ch)=f (pre ch c f a0 i) i:=by
 have h:=D_ ch c i f a0 hi hc (ch-1) F0;rw[show i+1+(ch-1)=i+ch by omega]at h;rw[h,pre,CD hi]
abbrev CS:=Int32×LX×LX
def I_(bits:Int)(s:CS)(y:Int32):Int32:=y+gF (sB bits) s.2.1 s.2.2+gs (shB bits) s.1
def jc(bits:Int)(s:CS)(y:Int32):CS:=(I_ bits s y,D7 s.2.1 s.2.2 y,(y+gF (sB bits) s.2.1 s.2.2)::s.2.2.take 15)
def cst(bits:Int)(ch:Nat)(t:LX)(v:LU)(c:Nat):Nat->CS:=pre ch c (λs i=>jc bits s (TQ (v.getD i 0))) (0,t,List.replicate 16 0)
def OkC(bits:Int)(s:CS):Prop:=i? (sB bits) s.2.1 s.2.2
theorem zq(bits:Int)(ch:Nat){t:LX}(ht:t.length=16)(v:LU)(c:Nat):∀m,OkC bits (cst bits ch t v c m)
 |0=>⟨Att bits,ht,by simp[cst,pre]⟩
 |m+1=>by
  have ih:=zq bits ch ht v c m;rw[cst,pre];split
  ·exact Aij ih _ _
  ·exact ih
def T4(bits:Int)(ch:Nat)(t:LX)(v:LU):LX:=(List.range v.length).map λi=>I_ bits (cst bits ch t v (i %ch) i) (TQ (v.getD i 0))
theorem nS(bits:Int)(ch:Nat)(t:LX)(v:LU):(T4 bits ch t v).length=v.length:=by simp[T4]
theorem sT(bits:Int)(ch:Nat)(t:LX)(v:LU){i:Nat}(h:i<v.length):(T4 bits ch t v).getD i 0=I_ bits (cst bits ch t v (i %ch) i) (TQ (v.getD i 0)):=by
 rw[Nc (by rw[nS];exact h)];simp[T4]
abbrev CL:=Int×Int32×(Int×LX×LX×Unit)×Unit
def toC(bits:Int)(s:CS):CL:=(bits,s.1,(sB bits,s.2.1,s.2.2,()),())
def cts(bits:Int)(ch:Nat)(t:LX)(v:LU)(i:Nat):List CL:=(List.range 6).map λc=>toC bits (cst bits ch t v c i)
theorem t!{bits:Int}{ch:Nat}{t:LX}{v:LU}{i c:Nat}(h:c<6):Aj (cts bits ch t v i) (c:Int)=some (toC bits (cst bits ch t v c i)):=by
 rw[Cj (by simp[cts];exact h)];simp[cts]
theorem Ap9(bits:Int)(ch:Nat)(t:LX)(v:LU)(c m:Nat):cst bits ch t v c (m+1)=if m %ch=c then jc bits (cst bits ch t v c m) (TQ (v.getD m 0))else cst bits ch t v c m:=rfl
theorem p_{bits:Int}{ch:Nat}{t:LX}{v:LU}{i c:Nat}(h:c<6)(hc:i %ch=c):Mm (cts bits ch t v i) (c:Int) (toC bits (jc bits (cst bits ch t v c i) (TQ (v.getD i 0))))=some (cts bits ch t v (i+1)):=by
 rw[Uh _ (by simp[cts];exact h)];congr 1;apply UW (by simp[cts]);intro k h1 h2;rw[aQ];simp only[cts,aU,b?];by_cases hk:c=k
 ·subst hk;rw[CD rfl,Ap9,CD hc]
 ·rw[B! hk,Ap9,B! F0]
section
variable {bits:Int} {ch:Nat} {t:LX} {v:LU}
theorem O_(hb:Cb bits)(ht:t.length=16)(h1:1<=ch)(h6:ch<=6)(hv:v.length<=4000):∀(j i q:Nat),i+j=v.length->j<q->
  Jy v (ch:Int) bits q (i:Int) (cts bits ch t v i) ((T4 bits ch t v).take i)=Mr (ch:Int) bits (T4 bits ch t v)
 |0,i,q+1,hi,_=>by
  rw[Jy,Mq,B! F2,TM (by rw[nS];omega)]
 |j+1,i,q+1,hi,hq=>by
  have hlen:=nS bits ch t v;have hc:i %ch<6:=RN (RW _ F0) h6;have hok:=zq bits ch ht v (i %ch) i;have hs:=p_ (bits:=bits) (ch:=ch) (t:=t) (v:=v) (i:=i) hc rfl;have hx:=sT bits ch t v (i:=i) F0;have hcb:=Afr hb hok (cst bits ch t v (i %ch) i).1 (TQ (v.getD i 0));have ih:=O_ hb ht h1 h6 hv j (i+1) q F0 F0;rw[Ns F0,<-Nc F0,hx]at ih;rw[Jy,Mq,CD F2,uS F0,Aa,Bq RL,Aa,PX,t! hc,Aa,Aa,Ajz,Aa];refine R? (congrArg (λo=>Option.bind o _) hcb) ?_;rw[Aa];simp only;rw[AX,Aaw,B! M_,PX];refine R? (congrArg (λo=>Option.bind o _) hs) ?_;rw[Aa,Bi F7,Aa,Ag];exact ih
theorem Ahb(hb:Cb bits)(ht:t.length=16)(h1:1<=ch)(h6:ch<=6)(hv:v.length<=4000):Ux (ch:Int) bits t v=Mr (ch:Int) bits (T4 bits ch t v):=by
 have h:=O_ hb ht h1 h6 hv v.length 0 As F0 F8;have e:As=(As-7)+1+1+1+1+1+1+1:=by have:=Aq;omega
 have hs:BC v (ch:Int) bits t 0 (List.replicate 6 ((0:Int),(0:Int32),((0:Int),(List.replicate 16 (0:Int32)),(List.replicate 16 (0:Int32)),()),()))=Abm v (ch:Int) bits (cts bits ch t v 0):=by
  rw[BC,e];obtain rfl|rfl|rfl:=hb<;>rfl
 rw[Ux,EA,hs];exact h
theorem Aez(bk:Int->LX->Option LX)(hb:Cb bits)(ht:t.length=16)(h1:1<=ch)(h6:ch<=6)(hv:v.length<=4000)(z:LX)(c:Nat)(hc:c<ch):∀(j i q:Nat),i %ch=c->v.length-i<=j->i<=5000->j<q->
  Md bk v (ch:Int) bits t (c:Int) q (i:Int) (dZ (λk=>decide (k %ch<c\/ (k %ch=c/\k<i))) (T4 bits ch t v) z) bits (cst bits ch t v c i).1 (sB bits) (cst bits ch t v c i).2.1 (cst bits ch t v c i).2.2=
   bk ((c+1:Nat):Int) (dZ (λk=>decide (k %ch<c+1)) (T4 bits ch t v) z)
 |j,i,q+1,hi,hj,hi5,hq=>by
  have hlen:=nS bits ch t v;rw[Md,EY];by_cases h:i<v.length
  ·have hok:=zq bits ch ht v c i;have hst:=Ahh hb hok (cst bits ch t v c i).1 (TQ (v.getD i 0));have hx:=sT bits ch t v (i:=i) h;rw[hi]at hx;have ih:=Aez bk hb ht h1 h6 hv z c hc (j-1) (i+ch) q (by rw[bK];exact hi) F0 F0 F0;have P9:cst bits ch t v c (i+ch)=jc bits (cst bits ch t v c i) (TQ (v.getD i 0)):=Ajc ch c i _ _ hi hc;rw[P9]at ih;have hset:=fG (p:=λk=>decide (k %ch<c\/ (k %ch=c/\k<i))) (a:=T4 bits ch t v) (b:=z) (k:=i) F0;rw[hx]at hset;have y? :dZ (λj=>decide (j %ch<c\/ (j %ch=c/\j<i))||decide (j=i)) (T4 bits ch t v) z=dZ (λk=>decide (k %ch<c\/ (k %ch=c/\k<i+ch))) (T4 bits ch t v) z:=by
    apply Vg;intro k _;rw[O3];simp only[SU,E3];constructor
    ·rintro((h1|h1)|h1)
     ·exact .inl h1
     ·exact .inr ⟨h1.1,F0⟩
     ·subst h1;exact .inr ⟨hi,F0⟩
    ·rintro(h1|⟨h1,h2⟩)
     ·exact .inl (.inl h1)
     ·by_cases h3:k<i
      ·exact .inl (.inr ⟨h1,h3⟩)
      ·refine .inr ?_;have h4:(i+(k-i)) %ch=i %ch:=by rw[show i+(k-i)=k by omega,h1,hi]
       have h5:=mo h4;rw[aK,DM F0]at h5;omega
   rw[y?]at hset;rw[CD F2,uS h,Aa,Am9,Aa];refine R? (congrArg (λo=>Option.bind o _) hst) ?_;rw[Aa];simp only;rw[FG,EZ,CV F0,Aa];refine R? (congrArg (λo=>Option.bind o _) hset) ?_;rw[Aa,EJ,EU,Ag];exact ih
  ·rw[B! F2,ER,FC,Ag];have y? :dZ (λk=>decide (k %ch<c\/ (k %ch=c/\k<i))) (T4 bits ch t v) z=dZ (λk=>decide (k %ch<c+1)) (T4 bits ch t v) z:=by
    apply Vg;intro k hk;rw[O3];simp only[E3];omega
   rw[y?];rfl
theorem Am7(hb:Cb bits)(ht:t.length=16)(h1:1<=ch)(h6:ch<=6)(hv:v.length<=4000)(z:LX):∀(j c q:Nat),c+j=ch->j<q->
  Gk v (ch:Int) bits t q (c:Int) (dZ (λk=>decide (k %ch<c)) (T4 bits ch t v) z)=Se (ch:Int) bits (T4 bits ch t v)
 |0,c,q+1,hc,_=>by
  rw[Gk,Sf,B! F9,nQ (λk hk=>by have:=RW k (show 0<ch by omega);simp;omega)]
 |j+1,c,q+1,hc,hq=>by
  have ih:=Am7 hb ht h1 h6 hv z j (c+1) q F0 F0;have hin:=Aez (Gk v (ch:Int) bits t q) hb ht h1 h6 hv z c F0 v.length c As (DM F0) F0 F0 F8;have h0:cst bits ch t v c c=(0,t,List.replicate 16 0):=tL ch c _ _ c (N! _) F0;rw[h0]at hin;have y? :dZ (λk=>decide (k %ch<c\/ (k %ch=c/\k<c))) (T4 bits ch t v) z=dZ (λk=>decide (k %ch<c)) (T4 bits ch t v) z:=by
   apply Vg;intro k hk;have:=VV k ch;rw[O3];simp only[E3];omega
  rw[y?]at hin;rw[Gk,Sf,CD F9,Aug hb,Aa];simp only;rw[FB];exact R? hin ih
theorem Agq(hb:Cb bits)(ht:t.length=16)(h1:1<=ch)(h6:ch<=6)(hv:v.length<=4000)(hm:v.length %ch=0):Rm (ch:Int) bits t v=some (L9 ch (T4 bits ch t v)):=by
 have hlen:=nS bits ch t v;have h:=Am7 hb ht h1 h6 hv (List.replicate v.length 0) ch 0 As F0 F8;rw[jL (by rw[hlen];simp) (λk _=>by simp)]at h;rw[Rm,GU,Ac,pW,Aa,Bq Y8,Aa,FN];refine R? h ?_;rw[Se,FA,Af9 ch _ h1 h6 (by rw[hlen];exact hm) F0,Aa]
end
def hB(bits:Int):Int:=if bits=8 then 128 else if bits=16 then 32768 else 8388608
theorem rz{bits:Int}(h:Cb bits):Yt bits=some (Int32.ofInt (-(hB bits)),Int32.ofInt (hB bits-1),0):=by
 obtain rfl|rfl|rfl:=h<;>decide
theorem sY{bits:Int}(h:Cb bits):Xg bits=some (hB bits):=by
 obtain rfl|rfl|rfl:=h<;>rfl
theorem dI(bits:Int):0<hB bits/\hB bits<=8388608:=by
 unfold hB;split; · omega
 ·split<;>omega
theorem M1{bits:Int}(h:Cb bits)(l:LX)(hl:l.length<=4000):∀(j i q:Nat),i+j=l.length->j<q->
  Sa (Int32.ofInt (-(hB bits))) (Int32.ofInt (hB bits-1)) l q (i:Int)=Bk l (hB bits) q (i:Int)
 |0,i,q+1,hi,_=>by
  rw[Sa,GF,Bk,Dy,B! F2,B! F2];rfl
 |j+1,i,q+1,hi,hq=>by
  have hh:=dI bits;have ih:=M1 h l hl j (i+1) q F0 F0;have e1:(Int32.ofInt (-(hB bits))).toInt= -(hB bits):=by rw[WT,dR (by show -(4294967296/2:Int)<= _;omega) (by show _<(4294967296+1)/2;omega)]
  have e2:(Int32.ofInt (hB bits-1)).toInt=hB bits-1:=by rw[WT,dR (by show -(4294967296/2:Int)<= _;omega) (by show _<(4294967296+1)/2;omega)]
  rw[Sa,GF,Bk,Dy,CD F2,CD F2,W? F0,Aa,Aa,Aa,Fj,tq,Db F0 F0,Ag,vk,iw,e1,e2,Af,Dq];generalize(l.getD i 0).toInt=X;by_cases h1:X< -(hB bits)
  ·rw[CD F7,CD F7]
  ·rw[B! (c:=decide (X<0-hB bits)=true) F7];by_cases h2:hB bits<=X
   ·rw[CD F7,CD F7]
   ·rw[B! F7,B! F7];exact ih
theorem eX{bits:Int}(h:Cb bits)(l:LX)(hl:l.length<=4000):Tn bits l=Bo bits l:=by
 have hh:=dI bits;rw[Tn,VE,rz h,Aa,Bo,Hu,sY h,Aa];simp only;rw[B! M_,B! PO,B! SC,B! PO];exact M1 h l hl l.length 0 As F0 F8
theorem Ach{bits:Int}(h:Cb bits)(l:LX)(hl:l.length<=4000):∃e,Bo bits l=some e:=by
 have hh:=dI bits;have key:∀(j i q:Nat),i+j=l.length->j<q->∃e,Bk l (hB bits) q (i:Int)=some e:=by
  intro j
  induction j with
  |zero=>
   intro i q hi hq;obtain⟨q,rfl⟩:∃k,q=k+1:=⟨q-1,F0⟩;rw[Bk,Dy,B! F2];exact⟨_,rfl⟩
  |succ j ih=>
   intro i q hi hq;obtain⟨q,rfl⟩:∃k,q=k+1:=⟨q-1,F0⟩;rw[Bk,Dy,CD F2,W? F0,Aa,Aa,Ag];split
   ·exact⟨_,rfl⟩
   ·split
    ·exact⟨_,rfl⟩
    ·exact ih (i+1) q F0 F0
 obtain⟨e,he⟩:=key l.length 0 As F0 F8;rw[Bo,Hu,sY h,Aa,B! SC,B! PO];exact⟨e,he⟩
theorem Asw{bits:Int}{ch:Nat}{t:LX}{v:LU}(hb:Cb bits)(ht:t.length=16)(h1:1<=ch)(h6:ch<=6)(hv:v.length<=4000)(hm:v.length %ch=0):
  ∃l e,Rm (ch:Int) bits t v=some l/\BE (ch:Int) bits l=some (if e≠0 then([],e)else(l,0))/\Ux (ch:Int) bits t v=some (if e≠0 then([],e)else(l,0))/\Bo bits l=some e/\l.length=v.length:=by
 have hlen:=nS bits ch t v;have hul:=nJ ch (T4 bits ch t v);obtain⟨e,he⟩:=Ach hb (L9 ch (T4 bits ch t v)) F0;refine⟨L9 ch (T4 bits ch t v),e,Agq hb ht h1 h6 hv hm,?_,?_,he,F0⟩
 ·rw[BE,he,Aa];by_cases h:e=0
  ·rw[B! (by rw[Ao];simpa using h),B! (by simpa using h)]
  ·rw[CD (by rw[Ao];simpa using h),CD h]
 ·rw[Ahb hb ht h1 h6 hv,Mr,Aah,Ang ch _ h1 h6 (by rw[hlen];exact hm) F0,Aa];simp only;rw[B! M_,eX hb _ F0,he,Aa];by_cases h:e=0
  ·rw[B! (by rw[Ao];simpa using h),B! (by simpa using h)]
  ·rw[CD (by rw[Ao];simpa using h),CD h]
def kM(s:Nat):Nat:=(s/2)^^^ (if s %2=1 then 3988292384 else 0)
theorem Q4{s:Nat}(h:s<4294967296):kM s<4294967296:=by
 unfold kM;exact V0 (n:=32) F7 (by split<;>decide)
theorem E!(x y:Nat):(x^^^y)/2=(x/2)^^^ (y/2):=by
 have:=zV (a:=x) (b:=y) (i:=1);simpa [zX]using this
theorem Age(x y:Nat):kM (x^^^y)=kM x^^^kM y:=by
 have h:(x^^^y) %2=(x %2+y %2) %2:=by
  have:=Nat.xor_mod_two_eq_one (a:=x) (b:=y);have h1:(x^^^y) %2<2:=RW _ F0;omega
 simp only[kM,E!,h];have hx:x %2=0\/x %2=1:=F0
 have hy:y %2=0\/y %2=1:=F0
 rcases hx with hx|hx<;>rcases hy with hy|hy<;>simp only[hx,hy]<;>simp
 ·rw[UM]
 ·rw[UM,Z! (y/2),UM,Z! 3988292384 (y/2)]
 ·rw[UM,Z! 3988292384,UM,Nat.xor_self];simp
def AD:Nat->Nat->Nat
 |0,s=>s
 |k+1,s=>AD k (kM s)
theorem Alm:∀(k x y:Nat),AD k (x^^^y)=AD k x^^^AD k y
 |0,_,_=>rfl
 |k+1,x,y=>by rw[AD,Age,Alm k];rfl
theorem Ady:∀(k h:Nat),AD k (2^k*h)=h
 |0,h=>by simp[AD]
 |k+1,h=>by
  have:kM (2^(k+1)*h)=2^k*h:=by
   rw[RF,Q2 (2^k) 2,RT,kM,B! F0,zh _ F0];simp
  rw[AD,this,Ady k]
theorem G5:∀(k:Nat) {s:Nat},s<4294967296->AD k s<4294967296
 |0,_,h=>h
 |k+1,_,h=>G5 k (Q4 h)
def yR(s c:Nat):Nat:=AD 8 (s^^^c)
theorem G0{s c:Nat}(h:s<4294967296)(hc:c<256):yR s c<4294967296:=G5 8 (V0 (n:=32) (by simpa using h) F7)
theorem Awk{s c:Nat}(hc:c<256):yR s c=(s/256)^^^AD 8 ((s %256)^^^c):=by
 have h:s=(2^8*(s/256))^^^ (s %256):=by
  have h1:s %256<2^8:=by simpa using RW s (by omega:256>0)
  have:=X2 h1 (s/256);have h2:2^8*(s/256)|||s %256=(2^8*(s/256))^^^ (s %256):=by
   apply oF;intro i;rw[Nat.testBit_or,Nat.testBit_xor];by_cases hi:i<8
   ·have:(2^8*(s/256)).testBit i=false:=by rw[zy];simp;omega
    rw[this];simp
   ·have:(s %256).testBit i=false:=Nat.testBit_lt_two_pow (RN h1 (PZ F0 F0));rw[this];simp
  omega
 rw[yR]
 conv=>lhs;rw[h]
 rw[UM,Alm,Ady]
def Z7(s:Nat)(l:LB):Nat:=l.foldl (λs c=>yR s c.toNat) s
def Fe(b:LB):UInt32:=4294967295-UInt32.ofNat (Z7 4294967295 b)
theorem Am4(s:UInt32)(c:Nat)(hc:c<256):IL s (Ad (FP (UInt8.ofNat c) (2:UInt8)):Int)=some (UInt32.ofNat (s.toNat/2^^^ (if(s.toNat^^^c) %2=1 then 3988292384 else 0))):=by
 have h1:(Ad (FP (UInt8.ofNat c) (2:UInt8)):Int)=((c %2:Nat):Int):=by
  rw[TD,Aoq,UInt8.toNat_mod,RO];show((c %256 %2:Nat):Int)=_;omega
 have h2:geq (FP s (2:UInt32)) (1:UInt32)=decide (s.toNat %2=1):=by
  rw[sj,Aet,O3];simp only[RG,E3];rw[<-iF,oU];rfl
 have h3:Ci s (2:UInt32)=UInt32.ofNat (s.toNat/2):=by
  apply UInt32.toNat_inj.1;rw[Ao2,UInt32.toNat_div,RH]
  show s.toNat/2=_;have:=s.toNat_lt;omega
 have h4:Yo (Ci s (2:UInt32)) (3988292384:UInt32)=UInt32.ofNat (s.toNat/2^^^3988292384):=by
  apply UInt32.toNat_inj.1;rw[h3,aS,aO,RH,RH];have:=s.toNat_lt;rw[DM (a:=s.toNat/2) F0,DM]
  ·rfl
  ·exact V0 (n:=32) F0 F3
 have hx:(s.toNat^^^c) %2=(s.toNat %2+c %2) %2:=by
  have:=Nat.xor_mod_two_eq_one (a:=s.toNat) (b:=c);have h1:(s.toNat^^^c) %2<2:=RW _ F0;omega
 have hs:s.toNat %2=0\/s.toNat %2=1:=F0
 have hc2:c %2=0\/c %2=1:=F0
 rw[IL,NG,h1,h2,hx];rcases hs with hs|hs<;>rcases hc2 with hc2|hc2<;>simp[hs,hc2,Ax,NS,OM,aS,h3]
theorem Avb:∀(j i q:Nat) (s:UInt32) (c:Nat),i+j=8->j<q->c<2^j->Lr q s (UInt8.ofNat c) (i:Int)=some (UInt32.ofNat (AD j (s.toNat^^^c)))
 |0,i,q+1,s,c,hi,_,hc=>by
  obtain rfl:i=8:=F0
  obtain rfl:c=0:=by simpa using hc
  rw[Lr,Yl,B! S0,PQ,OX,AD];simp
 |j+1,i,q+1,s,c,hi,hq,hc=>by
  have hc8:c<256:=RN hc (show 2^(j+1)<=2^8 from PZ F0 F0);rw[Lr,Yl,CD F9,Am4 s c hc8,Aa,Ag];have e:Ci (UInt8.ofNat c) (2:UInt8)=UInt8.ofNat (c/2):=by
   apply UInt8.toNat_inj.1;rw[Aob,UInt8.toNat_div,RO,RO]
   show c %256/2=_;omega
  rw[e];have h:=Avb j (i+1) q (UInt32.ofNat (s.toNat/2^^^ (if(s.toNat^^^c) %2=1 then 3988292384 else 0))) (c/2) F0 F0 (by rw[RF]at hc;omega);rw[show((i:Int)+1)=((i+1:Nat):Int) by omega,h,RH,AD];congr 3;have:=s.toNat_lt;rw[DM,kM,E!,UM,UM,Z! (c/2)];exact V0 (n:=32) F0 (by split<;>decide)
theorem An8(s:UInt32)(c:UInt8):Aei s c=some (UInt32.ofNat (yR s.toNat c.toNat)):=by
 have h:=Avb 8 0 As s c.toNat F0 F8 (by simpa using c.toNat_lt);rw[UInt8.ofNat_toNat]at h;exact h
theorem Ar1(b:LB)(hb:b.length<4611686018427387904):∀(j i q:Nat) (s:UInt32),i+j=b.length->j<q->Jp b q s (i:Int)=some (UInt32.ofNat (Z7 s.toNat (b.drop i)))
 |0,i,q+1,s,hi,_=>by
  rw[Jp,Tt,B! F2,show i=b.length by omega,VM];simp[JO,HL,Z7]
 |j+1,i,q+1,s,hi,hq=>by
  have hlt:i<b.length:=F0
  rw[Jp,Tt,CD F2,Cj hlt,Aa,An8,Aa,Ag];have h:=Ar1 b hb j (i+1) q (UInt32.ofNat (yR s.toNat b[i].toNat)) F0 F0;rw[show((i:Int)+1)=((i+1:Nat):Int) by omega,h,drop_cons hlt,RH,DM (G0 s.toNat_lt b[i].toNat_lt)];rfl
theorem kC(b:LB)(hb:b.length<4611686018427387904):Uz b=some (Fe b):=by
 have h:=Ar1 b hb b.length 0 As 4294967295 F0 F8;rw[Uz,Aal,HG,IB,show((0:Int))=((0:Nat):Int)from rfl,h,Aa,H2];rfl
theorem Aos(c:UInt32):Yo (Cq c (GI.toZ (1:UInt64)).toNat) (Br (3988292384:UInt32) (Ev c (1:UInt32)))=UInt32.ofNat (kM c.toNat):=by
 apply UInt32.toNat_inj.1;have e:(GI.toZ (1:UInt64)).toNat=1:=rfl;have h1:(Cq c 1).toNat=c.toNat/2:=by rw[NO]
 have h2:(Br (3988292384:UInt32) (Ev c (1:UInt32))).toNat=if c.toNat %2=1 then 3988292384 else 0:=by
  rw[Ala,J7,UInt32.toNat_mul,iE]
  show 3988292384*(c.toNat&&&1) %4294967296=_;rw[oC];have:c.toNat %2=0\/c.toNat %2=1:=F0
  rcases this with h|h<;>simp[h]
 rw[e,aS,aO,h1,h2,RH,DM (Q4 c.toNat_lt)];rfl
theorem L_(If:Int->LU->Option (UInt32×Int))(s:UInt32)(b:LB)(x:Int)(t:LU):∀(j i q:Nat) (c:UInt32),i+j=8->j<q->
  Rw If s b x t q c (i:Int)=HE If s b x (UInt32.ofNat (AD j c.toNat)) t
 |0,i,q+1,c,hi,_=>by
  obtain rfl:i=8:=F0
  rw[Rw,GQ,B! S0,AD,UInt32.ofNat_toNat]
 |j+1,i,q+1,c,hi,hq=>by
  rw[Rw,GQ,CD F9,Aos,Ag,show((i:Int)+1)=((i+1:Nat):Int) by omega,L_ If s b x t j (i+1) q _ F0 F0,RH,DM (Q4 c.toNat_lt)];rfl
def tbl(n:Nat):LU:=(List.range n).map λi=>UInt32.ofNat (AD 8 i)
theorem tN(s:UInt32)(b:LB):∀(j i q:Nat),i+j=256->j<q->Nz s b q (i:Int) (tbl i++List.replicate j 0)=UR s b (tbl 256)
 |0,i,q+1,hi,_=>by
  obtain rfl:i=256:=F0
  rw[Nz,IW,B! S0];simp
 |j+1,i,q+1,hi,hq=>by
  have hlen:(tbl i++List.replicate (j+1) 0).length=i+(j+1):=by simp[tbl]
  rw[Nz,IW,CD F9,TN];have h:=L_ (Nz s b q) s b (i:Int) (tbl i++List.replicate (j+1) 0) 8 0 As (Ad (i:Int)) F0 F8;rw[show((0:Int))=((0:Nat):Int)from rfl,h,HE,Ao0,Cj (by rw[hlen];omega),Aa,Uh _ (by rw[hlen];omega),Aa,Ap8,Al6,Ag];have e:(Ad (i:Int):UInt32).toNat=i:=by rw[Apd,RH,DM F0]
  rw[e,VB,mP (by simp[tbl])];have h2:=tN s b j (i+1) q F0 F0;have h3:tbl (i+1)=tbl i++[UInt32.ofNat (AD 8 i)]:=by simp[tbl,eN]
  rw[h3]at h2;rw[show((i:Int)+1)=((i+1:Nat):Int) by omega,<-h2];simp
theorem Ann{i:Nat}(h:i<256):Aj (tbl 256) (i:Int)=some (UInt32.ofNat (AD 8 i)):=by
 rw[Cj (by simpa [tbl]using h)];simp[tbl]
theorem Alq(s:UInt32)(c:UInt8):Aj (tbl 256) (GI.toZ (Yo (Ad s:UInt8) c))=some (UInt32.ofNat (AD 8 ((s.toNat %256)^^^c.toNat))):=by
 have e:GI.toZ (Yo (Ad s:UInt8) c)=(((s.toNat %256)^^^c.toNat:Nat):Int):=by
  rw[EG,pA,oo,rB,RO]
 rw[e,Ann];exact V0 (n:=8) F7 (by simpa using c.toNat_lt)
theorem Aga(s:UInt32)(c:UInt8):Yo (Cq s (GI.toZ (8:UInt64)).toNat) (UInt32.ofNat (AD 8 ((s.toNat %256)^^^c.toNat)))=UInt32.ofNat (yR s.toNat c.toNat):=by
 apply UInt32.toNat_inj.1;have hlt:AD 8 ((s.toNat %256)^^^c.toNat)<4294967296:=G5 8 (V0 (n:=32) F7 (by have:=c.toNat_lt;simp;omega));have e:(GI.toZ (8:UInt64)).toNat=8:=rfl;rw[e,aS,aO,NO,RH,RH,DM hlt,DM (G0 s.toNat_lt c.toNat_lt),Awk c.toNat_lt]
theorem Apr(b:LB)(hb:b.length<4611686018427387904):∀(j i q:Nat) (s:UInt32),i+j=b.length->j<q->Sk b (tbl 256) q s (i:Int)=some (UInt32.ofNat (Z7 s.toNat (b.drop i)),0)
 |0,i,q+1,s,hi,_=>by
  rw[Sk,IU,B! F2,show i=b.length by omega,VM];simp[UD,Amf,Z7]
 |j+1,i,q+1,s,hi,hq=>by
  have hlt:i<b.length:=F0
  rw[Sk,IU,CD F2,Cj hlt,Aa,Alq,Aa,Aa,Aga,Ag];have h:=Apr b hb j (i+1) q (UInt32.ofNat (yR s.toNat b[i].toNat)) F0 F0;rw[show((i:Int)+1)=((i+1:Nat):Int) by omega,h,drop_cons hlt,RH,DM (G0 s.toNat_lt b[i].toNat_lt)];rfl
theorem Amz(s:UInt32)(b:LB)(hb:b.length<=100000):fK s b=some (UInt32.ofNat (Z7 s.toNat b),0):=by
 have h:=tN s b 256 0 As F0 F8;have h2:=Apr b F0 b.length 0 As s F0 F8;rw[fK,ZQ,B! PO,Al9];refine R? h ?_;rw[UR,UG,Amv,UN,UT];exact h2
theorem Aiz(a:UInt32):O2 a=4294967295-a:=by
 have h:=a.toNat_lt;have e:O2 a=UInt32.ofNat (BitVec.ofInt 32 4294967295^^^BitVec.ofInt 32 (a.toNat:Int)).toNat:=Fk _;apply UInt32.toNat_inj.1;rw[e,RH,n_ _ _ (by rw[nk];show a.toNat<=4294967295;omega)];have h1:BitVec.ofInt 32 (a.toNat:Int)=a.toBitVec:=yw a;have h2:(BitVec.ofInt 32 4294967295:BitVec 32)=BitVec.allOnes 32:=F3
 rw[h1,h2,BitVec.allOnes_xor,iJ];show(4294967296-1-a.toNat) %4294967296=4294967295-a.toNat;omega
theorem wM(b:LB)(hb:b.length<=100000):Zb b=some (Fe b,0):=by
 rw[Zb,Amz _ _ hb,Aa];simp only[Ao,Aiz];rfl
theorem pO:∀{l m:LB},l.length=m.length->Ff l=Ff m->l=m
 |[],[],_,_=>rfl
 |x::l,y::m,h,e=>by
  simp only[Ff]at e;have hx:=x.toNat_lt;have hy:=y.toNat_lt;have h1:x=y:=UInt8.toNat_inj.1 F0;rw[h1,pO (l:=l) (m:=m) (by simpa using h) F0]
theorem xq:∀(w n:Nat),Ff (Xj n w)=n %256^w
 |0,n=>by simp[Xj,Ff,iY]
 |w+1,n=>by
  rw[Xj,Ff,xq w (n/256),RO,show(256:Nat)^(w+1)=256*256^w by rw[RF,Q2],Nat.mod_mul]
def Wo(b:LB):Int:=
 if b.length<5 then 24 else if 41254<b.length then 4 else if(Fe (b.take (b.length-4))).toNat≠Ff (b.drop (b.length-4))then 22 else 0
theorem Ayb(b:LB):HQ b=some (if Wo b≠0 then([],Wo b)else(b.take (b.length-4),0)):=by
 rw[HQ];by_cases h1:b.length<5
 ·have hS:Wo b=24:=by rw[Wo,CD h1]
  rw[CD F2,hS];rfl
 rw[B! F2];by_cases h2:41254<b.length
 ·have hS:Wo b=4:=by rw[Wo,B! h1,CD h2]
  rw[CD PO,hS];rfl
 have e4:Am (Ac b) 4=((b.length-4:Nat):Int):=by rw[Ac,Cc];omega
 have hd:(b.drop (b.length-4)).length=4:=by simp;omega
 rw[B! PO,e4,Dg,Aa,show((b.length-4:Nat):Int).toNat=b.length-4 from rfl,wM _ F7,Aa];simp only;rw[B! M_,Di,Aa,show((b.length-4:Nat):Int).toNat=b.length-4 from rfl,D? _ F0 F0,Aa];have hne:Bj (pJ (b.drop (b.length-4))) (Ad (Fe (b.take (b.length-4))):UInt64)=decide ((Fe (b.take (b.length-4))).toNat≠Ff (b.drop (b.length-4))):=by
  have hlt:=(Fe (b.take (b.length-4))).toNat_lt;rw[SK,O3];simp only[V?,ne_eq,<-Y1,E3];rw[YZ F0,Dr,Q8,DM F0];exact⟨λh e=>h e.symm,λh e=>h e.symm⟩
 simp only;rw[hne,Aa];by_cases h3:(Fe (b.take (b.length-4))).toNat≠Ff (b.drop (b.length-4))
 ·have hS:Wo b=22:=by rw[Wo,B! h1,B! h2,CD h3]
  rw[CD (by simp[h3]),hS];rfl
 ·have hS:Wo b=0:=by rw[Wo,B! h1,B! h2,B! h3]
  rw[B! (by rw[UA h3];decide),hS];rfl
theorem Agj(b:LB)(hb:b.length<=1000000):AT b=some (b++Xj (Fe b).toNat 4):=by
 have h:∀k:Nat,(Ad (Cq (Fe b) k):UInt8)=UInt8.ofNat ((Fe b).toNat/2^k):=by
  intro k;rw[rB,NO]
 have h0:(Ad (Fe b):UInt8)=UInt8.ofNat (Fe b).toNat:=rB _;have h1:=h 8;have h2:=h 16;have h3:=h 24;rw[AT,kC b F0,Aa,Bi F7,Aa,Bi F7,Aa,h0,show(GI.toZ (8:UInt64)).toNat=8 from rfl,show(GI.toZ (16:UInt64)).toNat=16 from rfl,show(GI.toZ (24:UInt64)).toNat=24 from rfl,h1,h2,h3];simp only[Xj,YP,RI]
theorem I5(b:LB):Rn b=some (Wo b):=by
 rw[Rn];by_cases h1:b.length<5
 ·rw[CD F2,Wo,CD h1]
 rw[B! F2];by_cases h2:41254<b.length
 ·rw[CD PO,Wo,B! h1,CD h2]
 have e4:Am (Ac b) 4=((b.length-4:Nat):Int):=by rw[Ac,Cc];omega
 have hd:(b.drop (b.length-4)).length=4:=by simp;omega
 rw[B! PO,e4,Dg,Aa,show((b.length-4:Nat):Int).toNat=b.length-4 from rfl,Agj _ F7,Aa];have hlt:=(Fe (b.take (b.length-4))).toNat_lt;have hiff:(b.take (b.length-4)++Xj (Fe (b.take (b.length-4))).toNat 4 !=b)=decide ((Fe (b.take (b.length-4))).toNat≠Ff (b.drop (b.length-4))):=by
  rw[O3];simp only[V?,ne_eq,E3];constructor
  ·intro h e;apply h;have:Xj (Fe (b.take (b.length-4))).toNat 4=b.drop (b.length-4):=pO (by rw[El,hd]) (by rw[xq,DM F0,e]);rw[this,X6]
  ·intro h e;apply h;have hx:Xj (Fe (b.take (b.length-4))).toNat 4=b.drop (b.length-4):=by
    have e2:b.take (b.length-4)++Xj (Fe (b.take (b.length-4))).toNat 4=b.take (b.length-4)++b.drop (b.length-4):=by rw[e,X6]
    exact List.append_cancel_left e2
   rw[<-hx,xq,DM F0]
 rw[hiff];by_cases h3:(Fe (b.take (b.length-4))).toNat≠Ff (b.drop (b.length-4))
 ·rw[CD (by simp[h3]),Wo,B! h1,B! h2,CD h3]
 ·rw[B! (by rw[UA h3];decide),Wo,B! h1,B! h2,B! h3]
theorem Acm {b:LB}(h:Wo b=0):5<=b.length/\b.length<=41254:=by
 unfold Wo at h;split at h
 ·simp at h
 ·split at h
  ·simp at h
  ·omega
theorem pK{c:Nat}(h1:1<=c)(h6:c<=6):Ci (4000:Int) (c:Int)=((4000/c:Nat):Int):=by
 have:c=1\/c=2\/c=3\/c=4\/c=5\/c=6:=F0
 rcases this with rfl|rfl|rfl|rfl|rfl|rfl<;>rfl
theorem Amo(p:LB)(h:p.length<=41250):okB p (8*p.length):=⟨F0,F0,λk h1 h2=>by omega⟩
theorem XU{bits:Int}{ch n:Nat}{t:LX}(b:LB)(hb:Cb bits)(ht:t.length=16)(h1:1<=ch)(h6:ch<=6)(n1:1<=n)(n2:n<=4000/ch):
  ∃l e,Rt (ch:Int) bits t (n:Int) b=some (l,e)/\Fl (ch:Int) bits t (n:Int) b=some (l,e)/\ (e=0->Bo bits l=some 0/\l.length<=4000/\l.length=n*ch)/\ (e≠0->l=[]):=by
 have hn:n*ch<=4000:=by
  have:=J? ch n2;have h2:=X? 4000 ch;omega
 have hq4:=pK h1 h6;generalize 4000/ch=mm at*
 have hck:Nk (ch:Int) bits=some 0:=by
  have hr:∃x y,Yt bits=some (x,y,0):=⟨_,_,rz hb⟩;obtain⟨x,y,hr⟩:=hr;rw[Nk,hr,Aa];simp only;rw[B! (by simp[Ao,Af,Au];omega)]
 have hh:=dI bits;have kB:Oq (ch:Int) bits (n:Int)=some 0:=by
  rw[Oq,DZ,B! SY,sY hb,Aa,B! SC,Aa,B! (by simp[Ao,Af];omega),Bq RL,Aa,hq4,B! R7]
 rw[Rt,Fl,Uu,hck,kB,Aa,Aa,B! M_,B! F9,Bq RL,Aa,hq4,B! R7,B! M_,Ayb,I5];by_cases hs:Wo b≠0
 ·rw[CD hs];simp only[Aa];rw[CD (by rw[Ao];simpa using hs),CD (by rw[Ao];simpa using hs)];exact⟨[],Wo b,rfl,rfl,λe=>absurd e hs,λ_=>rfl⟩
 have hs0:Wo b=0:=by simpa using hs
 have hlen:=Acm hs0;have e4:Am (Ac b) 4=((b.length-4:Nat):Int):=by rw[Ac,Cc];omega
 rw[B! hs,hs0];simp only[Aa];rw[B! M_,B! M_,e4,Dg,Aa,show((b.length-4:Nat):Int).toNat=b.length-4 from rfl];have hpl:(b.take (b.length-4)).length=b.length-4:=by simp
 generalize b.take (b.length-4)=p at*
 have e8:Br (8:Int) (Ac p)=((8*p.length:Nat):Int):=by rw[Ac,Fg];omega
 have hp:=Amo p F0;have hv:=values_eq hp h1 h6 hn;have hr:=rX (N:=8*p.length) (p:=p) rfl F0 h1 h6 hn;have hat:=A6 (ch:=ch) (p:=p) (N:=8*p.length) (n*ch) 0 [] F0;rw[za,B! PO,Bm,Bi F7,Aa,Aa,Aa,RI,e8];simp only;rw[B! M_,hv,hr,Aa,Aa];generalize Zu ch p (8*p.length) (n*ch) 0 []=V at*
 obtain⟨v,at',e⟩:=V;simp only at*
 by_cases he:e≠0
 ·rw[CD he,CD he];simp only;rw[CD (by rw[Ao];simpa using he),Jg,Js,CD (by rw[Ao];simpa using he)];exact⟨[],e,rfl,rfl,λh=>absurd h he,λ_=>rfl⟩
 have he0:e=0:=by simpa using he
 have hvl:=hat.2.2 he0;simp only[Y_,T9]at hvl;rw[B! he,B! he];simp only;rw[B! M_,Cc,show((8*p.length:Nat):Int)-(at':Int)=((8*p.length-at':Nat):Int) by omega,Jg,Js];by_cases h7:7<8*p.length-at'
 ·have hE:(if 7<8*p.length-at'\/Cg p at' (8*p.length-at')≠0 then(12:Int)else 0)=12:=CD (.inl h7);rw[CD RX,hE,CD F3];exact⟨[],12,rfl,rfl,λh=>absurd h F3,λ_=>rfl⟩
 rw[B! RX,xQ hp at' _ F0,B! F0,Aa];have hz:Bj (Pn p at' (8*p.length-at')) (0:UInt64)=decide (Cg p at' (8*p.length-at')≠0):=by
  rw[SK,O3];simp only[V?,ne_eq,<-Y1,E3];rw[Yq p _ _ F0];rfl
 simp only;rw[hz];by_cases hv0:Cg p at' (8*p.length-at')≠0
 ·have hE:(if 7<8*p.length-at'\/Cg p at' (8*p.length-at')≠0 then(12:Int)else 0)=12:=CD (.inr hv0);rw[CD (by simp[hv0]),hE,CD F3];exact⟨[],12,rfl,rfl,λh=>absurd h F3,λ_=>rfl⟩
 have hm:v.length %ch=0:=by rw[hvl];exact V3 n ch
 obtain⟨l,e,g1,g2,g3,g4,g5⟩:=Asw (v:=v) hb ht h1 h6 F0 hm;have hE:(if 7<8*p.length-at'\/Cg p at' (8*p.length-at')≠0 then(12:Int)else 0)=0:=B! F0;rw[B! (by rw[UA hv0];decide),hE,B! F3,g1,g3,Aa,Aa,g2];by_cases hl:e≠0
 ·rw[CD hl];exact⟨[],e,rfl,rfl,λh=>absurd h hl,λ_=>rfl⟩
 ·rw[B! hl];have hl0:e=0:=by simpa using hl
  exact⟨l,0,rfl,rfl,λ_=>⟨by rw[g4,hl0],F0,F0⟩,λe=>absurd rfl e⟩
theorem lL(a b:Int32):a-b+b=a:=by
 apply Int32.toBitVec_inj.1;simp only[Int32.toBitVec_sub,Int32.toBitVec_add];apply dD;simp only[BitVec.toNat_sub,BitVec.toNat_add];have:=a.toBitVec.isLt;have:=b.toBitVec.isLt;omega
def mxV(f:Nat->Int32)(ch i:Nat):Int32:=if i+1<ch then f (i+1)-f i else if 1<ch then f (ch-1)-Ci (f (ch-1)-f (ch-2)) (2:Int32)else f (ch-1)
def mx(ch:Nat)(x:LX):LX:=(List.range x.length).map λk=>mxV (λi=>x.getD (k-k %ch+i) 0) ch (k %ch)
theorem jV(ch:Nat)(x:LX):(mx ch x).length=x.length:=by simp[mx]
theorem Aqy{ch:Nat}{x:LX}{k:Nat}(h:k<x.length):(mx ch x).getD k 0=mxV (λi=>x.getD (k-k %ch+i) 0) ch (k %ch):=by
 rw[Nc (by rw[jV];exact h)];simp[mx]
def uK(x:Int32):UInt32:=UInt32.ofNat (if 0<=x.toInt then 2*x.toInt.toNat else 2*(-x.toInt-1).toNat+1)
theorem Arf(x:Int32):TQ (uK x)=x:=by
 have h:=BD x;have e:(uK x).toNat=if 0<=x.toInt then 2*x.toInt.toNat else 2*(-x.toInt-1).toNat+1:=by
  rw[uK,RH];split<;>exact DM F0
 rw[TQ,e];by_cases h0:0<=x.toInt
 ·rw[CD h0,CD F0,show((2*x.toInt.toNat/2:Nat):Int)=x.toInt by omega,U!]
 ·rw[B! h0,B! F0,show -(((2*(-x.toInt-1).toNat+1)/2:Nat):Int)-1=x.toInt by omega,U!]
theorem Adi{α:Type}(ch c:Nat)(f g:α->Nat->α)(a0:α):∀m:Nat,(∀i,i<m->∀a,f a i=g a i)->pre ch c f a0 m=pre ch c g a0 m
 |0,_=>rfl
 |m+1,h=>by
  rw[pre,pre,Adi ch c f g a0 m λi hi=>h i F0,h m F0]
theorem Aog(bits:Int)(ch:Nat)(t:LX)(v w:LU)(c i:Nat)(h:i<=v.length):cst bits ch t (v++w) c i=cst bits ch t v c i:=by
 unfold cst;apply Adi;intro j hj a;have:(v++w).getD j 0=v.getD j 0:=by
  rw[J3,J3,RM F0]
 rw[this]
def U6(bits:Int)(s:CS)(x:Int32):Int32:=x-gs (shB bits) s.1-gF (sB bits) s.2.1 s.2.2
theorem Afo(bits:Int)(s:CS)(x:Int32):I_ bits s (U6 bits s x)=x:=by
 rw[I_,U6,lL,lL]
def evl(bits:Int)(ch:Nat)(t m:LX):Nat->LU
 |0=>[]
 |i+1=>evl bits ch t m i++[uK (U6 bits (cst bits ch t (evl bits ch t m i) (i %ch) i) (m.getD i 0))]
theorem yx(bits:Int)(ch:Nat)(t m:LX):∀i,(evl bits ch t m i).length=i
 |0=>rfl
 |i+1=>by rw[evl,D!,yx bits ch t m i];rfl
theorem tK(bits:Int)(ch:Nat)(t m:LX):∀(j i:Nat),∃w,evl bits ch t m (i+j)=evl bits ch t m i++w
 |0,i=>⟨[],CH⟩
 |j+1,i=>by
  obtain⟨w,hw⟩:=tK bits ch t m j i;rw[<-RU,evl,hw];exact⟨_,RD _ _ _⟩
theorem V'{p:Prop}(h:p:=by rw[D!];omega):p:=h
def tb(l:List Bool)(k:Nat):Nat:=if l.getD k false=true then 1 else 0
theorem pM(b:Bool)(l:List Bool):tb (b::l) 0=if b=true then 1 else 0:=rfl
theorem qp(b:Bool)(l:List Bool)(k:Nat):tb (b::l) (k+1)=tb l k:=by simp[tb]
theorem Anx{a b:List Bool}{k:Nat}(h:k<a.length):tb (a++b) k=tb a k:=by
 rw[tb,tb,J3,J3,RM h]
theorem pC(a b:List Bool)(k:Nat):tb (a++b) (a.length+k)=tb b k:=by
 rw[tb,tb,J3,J3,TJ F0,aK]
theorem jo{l:List Bool}{k:Nat}(h:l.length<=k):tb l k=0:=by
 rw[tb,J3,Xq h];rfl
def At(p:LB)(a:Nat)(c:List Bool):Prop:=∀i,i<c.length->Hk p (a+i)=tb c i
theorem At.left{p:LB}{a:Nat}{c d:List Bool}(h:At p a (c++d)):At p a c:=λi hi=>by
 rw[h i V',Anx hi]
theorem At.right{p:LB}{a:Nat}{c d:List Bool}(h:At p a (c++d)):At p (a+c.length) d:=λi hi=>by
 rw[RU,h (c.length+i) V',pC]
theorem At.cons{p:LB}{a:Nat}{b:Bool}{c:List Bool}(h:At p a (b::c)):Hk p a=(if b=true then 1 else 0)/\At p (a+1) c:=by
 have h0:=h 0 CH;rw[U_,pM]at h0;refine⟨h0,λi hi=>?_⟩;have:=h (i+1) F7;rw[qp]at this;rw[show a+1+i=a+(i+1) by omega,this]
def jJ:Nat->Nat->List Bool
 |_,0=>[]
 |v,n+1=>decide (v %2=1)::jJ (v/2) n
theorem EN:∀(v n:Nat),(jJ v n).length=n
 |_,0=>rfl
 |v,n+1=>by rw[jJ,R8,EN (v/2) n]
theorem mU(p:LB):∀(n a v:Nat),At p a (jJ v n)->Cg p a n=v %2^n
 |0,a,v,_=>by rw[Cg,Nat.pow_zero,iY]
 |n+1,a,v,h=>by
  rw[jJ]at h;obtain⟨h0,h1⟩:=h.cons;rw[Cg,h0,mU p n (a+1) (v/2) h1,RF,Q2 (2^n) 2,Nat.mod_mul];have:=Nat.mod_two_eq_zero_or_one v;rcases this with e|e<;>simp[e]
def sS(l v:Nat):List Bool:=if 48<=v/2^l then List.replicate 48 true++jJ v 32 else List.replicate (v/2^l) true++(false::jJ (v %2^l) l)
theorem Agn{l v:Nat}(hl:l<=24):1<= (sS l v).length/\ (sS l v).length<=80:=by
 rw[sS];generalize v/2^l=q;split
 ·rw[D!,T_,EN];omega
 ·rw[D!,T_,R8,EN];omega
def JC(k l:Nat)(v:UInt32):List Bool:=if v.toNat<2^k then false::jJ v.toNat k else true::sS l (v.toNat-2^k)
theorem mR{k l:Nat}(v:UInt32)(hk:k<=24)(hl:l<=24):1<= (JC k l v).length/\ (JC k l v).length<=81:=by
 have:=Agn (v:=v.toNat-2^k) hl;rw[JC];split
 ·rw[R8,EN];omega
 ·rw[R8];omega
def bv:List Bool->Nat
 |[]=>0
 |b::r=>(if b=true then 1 else 0)+2*bv r
theorem xG:∀l:List Bool,bv l<2^l.length
 |[]=>by decide
 |b::r=>by
  have:=xG r;rw[bv,R8,RF];split<;>omega
theorem uQ:∀(l:List Bool) (k:Nat),bv l/2^k %2=tb l k
 |[],k=>by simp[bv,tb]
 |b::r,0=>by
  rw[bv,pM,Nat.pow_zero,Nat.div_one];split<;>omega
 |b::r,k+1=>by
  have:((if b=true then 1 else 0)+2*bv r)/2=bv r:=by split<;>omega
  rw[bv,qp,RF,Q2 (2^k) 2,<-YP,this,uQ r k]
def Mw(c:List Bool):LB:=(List.range ((c.length+7)/8)).map λj=>UInt8.ofNat (bv ((c.drop (8*j)).take 8))
theorem Yz(c:List Bool):(Mw c).length=(c.length+7)/8:=by simp[Mw]
theorem TC(c:List Bool)(i:Nat):Hk (Mw c) i=tb c i:=by
 rw[Hk];by_cases h:i/8<(c.length+7)/8
 ·have hg:(Mw c).getD (i/8) 0=UInt8.ofNat (bv ((c.drop (8*(i/8))).take 8)):=by
   rw[J3,RR (by rw[Yz];exact h)];simp[Mw]
  have hlt:=xG ((c.drop (8*(i/8))).take 8);have hl8:((c.drop (8*(i/8))).take 8).length<=8:=by rw[JW];omega
  have hp:=PZ (show 0<2 by omega) hl8;have hn:(UInt8.ofNat (bv ((c.drop (8*(i/8))).take 8))).toNat=bv ((c.drop (8*(i/8))).take 8):=by
   rw[RO];exact DM F0
  rw[hg,hn,uQ,tb,tb];have:((c.drop (8*(i/8))).take 8).getD (i %8) false=c.getD i false:=by
   rw[J3,J3,S_,CD F0,W6,show 8*(i/8)+i %8=i by omega]
  rw[this]
 ·have hg:(Mw c).getD (i/8) 0=0:=by
   rw[J3,Xq (by rw[Yz];omega)];rfl
  rw[hg,jo F0];simp
def WS(ch:Nat)(V:LU):Nat->List Bool
 |0=>[]
 |i+1=>WS ch V i++JC (now ch (V.take i)).1 (now ch (V.take i)).2.1 (V.getD i 0)
theorem jC(ch:Nat)(v:LU):(now ch v).1<=24/\ (now ch v).2.1<=24:=by
 have:=kZ ch v (v.length %ch) v.length;exact⟨this.1,this.2.1⟩
theorem aT(ch:Nat)(V:LU):∀i,(WS ch V i).length<=81*i
 |0=>by simp[WS]
 |i+1=>by
  have h:=jC ch (V.take i);have:=mR (V.getD i 0) h.1 h.2;rw[WS,D!];have:=aT ch V i;omega
def P64:Nat:=4823603603198064275
def QS(s:Nat):Nat:=(2*s %18446744073709551616)^^^ (s/9223372036854775808*P64)
theorem cU{s:Nat}(h:s<18446744073709551616):QS s<18446744073709551616:=by
 have h1:s/9223372036854775808=0\/s/9223372036854775808=1:=F0
 exact V0 (n:=64) (RW _ F3) (by rcases h1 with e|e<;>rw[e]<;>decide)
theorem tR(x y:Nat):(x^^^y)/9223372036854775808=(x/9223372036854775808)^^^ (y/9223372036854775808):=by
 have:=zV (a:=x) (b:=y) (i:=63);simpa [zX]using this
theorem sC(x y:Nat):2*(x^^^y) %18446744073709551616=(2*x %18446744073709551616)^^^ (2*y %18446744073709551616):=by
 have h1:=zZ (a:=x) (b:=y) (i:=1);have h2:=Nat.xor_mod_two_pow (a:=2*x) (b:=2*y) (n:=64);have e:2*(x^^^y)=(2*x)^^^ (2*y):=by simpa [Nat.shiftLeft_eq,Q2]using h1
 rw[e];exact h2
theorem Ant{a b:Nat}(ha:a=0\/a=1)(hb:b=0\/b=1)(p:Nat):(a^^^b)*p=(a*p)^^^ (b*p):=by
 rcases ha with rfl|rfl<;>rcases hb with rfl|rfl<;>simp
theorem Au8(a b c d:Nat):(a^^^b)^^^ (c^^^d)=(a^^^c)^^^ (b^^^d):=by
 rw[UM,UM,<-UM b c d,Z! b c,UM c b d]
theorem Aa5{x y:Nat}(hx:x<18446744073709551616)(hy:y<18446744073709551616):QS (x^^^y)=QS x^^^QS y:=by
 rw[QS,QS,QS,sC,tR,Ant F0 F0,Au8]
def Ps:Nat->Nat->Nat
 |0,s=>s
 |k+1,s=>Ps k (QS s)
theorem vP:∀(k:Nat) {s:Nat},s<18446744073709551616->Ps k s<18446744073709551616
 |0,_,h=>h
 |k+1,_,h=>vP k (cU h)
theorem L6:∀(k:Nat) {x y:Nat},x<18446744073709551616->y<18446744073709551616->Ps k (x^^^y)=Ps k x^^^Ps k y
 |0,_,_,_,_=>rfl
 |k+1,x,y,hx,hy=>by rw[Ps,Aa5 hx hy,L6 k (cU hx) (cU hy)];rfl
theorem D4:∀(k h:Nat),2^k*h<18446744073709551616->Ps k h=2^k*h
 |0,h,_=>by simp[Ps]
 |k+1,h,hl=>by
  have hpos:0<2^k:=TU F0;rw[RF,RT]at hl;have h2:2*h<18446744073709551616:=WR (Nat.le_mul_of_pos_left _ hpos) hl;have:QS h=2*h:=by rw[QS,DM h2,show h/9223372036854775808=0 by omega];simp
  rw[Ps,this,D4 k _ hl,RF,RT]
def lX(s c:Nat):Nat:=Ps 8 (s^^^ (c*72057594037927936))
theorem c56{c:Nat}(hc:c<256):c*72057594037927936<18446744073709551616:=F0
theorem wV{s c:Nat}(h:s<18446744073709551616)(hc:c<256):lX s c<18446744073709551616:=vP 8 (V0 (n:=64) h (c56 hc))
theorem Ani(s:Nat):s=(s/72057594037927936*72057594037927936)^^^ (s %72057594037927936):=by
 have h1:s %72057594037927936<2^56:=RW _ F3;have:=X2 h1 (s/72057594037927936);have h2:2^56*(s/72057594037927936)|||s %72057594037927936=(2^56*(s/72057594037927936))^^^ (s %72057594037927936):=by
  apply oF;intro i;rw[Nat.testBit_or,Nat.testBit_xor];by_cases hi:i<56
  ·have:(2^56*(s/72057594037927936)).testBit i=false:=by rw[zy];simp;omega
   rw[this];simp
  ·have:(s %72057594037927936).testBit i=false:=Nat.testBit_lt_two_pow (RN h1 (PZ F0 F0));rw[this];simp
 rw[Q2 (s/72057594037927936)]
 show s=(2^56*(s/72057594037927936))^^^ _;rw[<-h2,<-this];have:=Y2 s 72057594037927936
 show s=72057594037927936*_+_;omega
theorem Afg(a c:Nat):(a^^^c)*72057594037927936=(a*72057594037927936)^^^ (c*72057594037927936):=by
 have h1:=zZ (a:=a) (b:=c) (i:=56);simpa [Nat.shiftLeft_eq]using h1
theorem Bar{s c:Nat}(h:s<18446744073709551616)(hc:c<256):lX s c=(256*s %18446744073709551616)^^^Ps 8 (((s/72057594037927936)^^^c)*72057594037927936):=by
 have hs:s/72057594037927936<2^8:=by show _<256;omega
 have hx:(s/72057594037927936)^^^c<256:=V0 (n:=8) hs (by simpa using hc);have hl:s %72057594037927936<72057594037927936:=RW _ F3;rw[lX]
 conv=>lhs;rw[Ani s]
 rw[Z! (s/72057594037927936*72057594037927936),UM,<-Afg,L6 8 F0 (c56 hx),D4 8 _ (by show 256*_<_;omega)];congr 1
 show 256*(s %72057594037927936)=_;omega
def J4(s:Nat)(l:LB):Nat:=l.foldl (λs c=>lX s c.toNat) s
theorem T8{n:Nat}(h:n<18446744073709551616):(UInt64.ofNat n).toNat=n:=by rw[Q8];exact DM h
theorem Aqf(s:UInt64)(bit:Nat)(hb:bit=0\/bit=1):IM s (bit:Int)=some (UInt64.ofNat ((2*s.toNat %18446744073709551616)^^^ (((s.toNat/9223372036854775808)^^^bit)*P64))):=by
 have hs:=s.toNat_lt;have ht:s.toNat/9223372036854775808=0\/s.toNat/9223372036854775808=1:=F0
 have e1:(Br s (2:UInt64)).toNat=2*s.toNat %18446744073709551616:=by
  rw[OL,UInt64.toNat_mul];show s.toNat*2 %_=_;rw[Q2]
 have hlt:2*s.toNat %18446744073709551616<18446744073709551616:=RW _ F3;have ey:Yo (Br s (2:UInt64)) (4823603603198064275:UInt64)=UInt64.ofNat ((2*s.toNat %18446744073709551616)^^^P64):=by
  apply UInt64.toNat_inj.1;rw[E6,iH,e1,T8 (V0 (n:=64) hlt F3)];rfl
 have en:Br s (2:UInt64)=UInt64.ofNat (2*s.toNat %18446744073709551616):=by
  apply UInt64.toNat_inj.1;rw[e1,T8 hlt]
 have eg:Lo s (9223372036854775808:UInt64)=decide (s.toNat/9223372036854775808=1):=by
  rw[Amn,decide_eq_decide]
  show 9223372036854775808<=s.toNat↔_;omega
 have hp:∀b:Bool,Xl s b=some (if b=true then UInt64.ofNat ((2*s.toNat %18446744073709551616)^^^P64)else UInt64.ofNat (2*s.toNat %18446744073709551616)):=by
  intro b;rw[Xl,OZ,ey,en];cases b<;>rfl
 rw[IM,OC,hp,hp,eg];rcases hb with rfl|rfl<;>rcases ht with h|h<;>rw[h]<;>simp[Ax]
theorem Awf(c:UInt8):∀(j q:Nat) (s:UInt64),j<=8->j<q->Ls c q s ((2^j/2:Nat):Int)=some (UInt64.ofNat (Ps j (s.toNat^^^ (c.toNat %2^j*2^(64-j)))))
 |0,q+1,s,_,_=>by
  rw[Ls,Yu,B! X!,NI,PF];simp[Ps,iY]
 |j+1,q+1,s,hj,hq=>by
  have hc:=c.toNat_lt;have hs:=s.toNat_lt;have hj2:2^j<=2^7:=PZ F0 F0;have hpos:0<2^j:=TU F0;have e1:2^(j+1)/2=2^j:=by rw[RF];omega
  have e2:Ci ((2^j:Nat):Int) 2=((2^j/2:Nat):Int):=by
   generalize 2^j=K at*
   rw[QC,XL F0,Db F0 F0];omega
  have e3:Hl (Ci (Ad c:Int) ((2^j:Nat):Int)) (2:Int)=((c.toNat/2^j %2:Nat):Int):=by
   have hX:=RS c.toNat (2^j);rw[TD,QC,<-i!];generalize c.toNat/2^j=X at*
   rw[Db F0 F0,Hl,dA F0];omega
  have hbit:c.toNat/2^j %2=0\/c.toNat/2^j %2=1:=F0
  rw[Ls,Yu,e1,CD (by rw[Au,E3];omega),Bq (by rw[Ao,V?];omega),Aa,e3,Aqf s _ hbit,Aa,e2,Awf c j q _ F0 F0];congr 2;rw[Ps];congr 1;have hx:c.toNat %2^(j+1)*2^(64-(j+1))=(c.toNat/2^j %2)*9223372036854775808+c.toNat %2^j*2^(63-j):=by
   have h63:(9223372036854775808:Nat)=2^j*2^(63-j):=by rw[<-WV,show j+(63-j)=63 by omega]
   rw[Nat.mod_pow_succ,h63,show 64-(j+1)=63-j by omega,H9,VQ,RT,Nat.mul_left_comm]
  have hr:c.toNat %2^j<2^j:=RW _ hpos;have Ax4:c.toNat %2^j*2^(63-j)<9223372036854775808:=by
   have h63:(9223372036854775808:Nat)=2^j*2^(63-j):=by rw[<-WV,show j+(63-j)=63 by omega]
   rw[h63];exact ny hr (TU F0)
  have h64:c.toNat %2^j*2^(64-j)=2*(c.toNat %2^j*2^(63-j)):=by
   rw[show 64-j=(63-j)+1 by omega,RF,<-RT,Q2]
  rw[hx,h64];generalize c.toNat %2^j*2^(63-j)=R at*
  generalize c.toNat/2^j %2=b at*
  have ht:s.toNat/9223372036854775808=0\/s.toNat/9223372036854775808=1:=F0
  have hp:((s.toNat/9223372036854775808^^^b)*P64)<18446744073709551616:=by
   rcases ht with h|h<;>rcases hbit with h2|h2<;>rw[h,h2]<;>decide
  rw[T8 (V0 (n:=64) (RW _ F3) hp),QS,sC,tR,show(b*9223372036854775808+R)/9223372036854775808=b by omega,show 2*(b*9223372036854775808+R) %18446744073709551616=2*R by omega,UM,UM,Z! (2*R)]
theorem Aqm(c:UInt8)(s:UInt64):Ada s c=some (UInt64.ofNat (lX s.toNat c.toNat)):=by
 have h:=Awf c 8 As s (N! _) F8;have hc:=c.toNat_lt;rw[DM (show c.toNat<2^8 by simpa using hc)]at h;exact h
theorem Arv(b:LB)(hb:b.length<4611686018427387904):∀(j i q:Nat) (s:UInt64),i+j=b.length->j<q->Jo b q s (i:Int)=some (UInt64.ofNat (J4 s.toNat (b.drop i)))
 |0,i,q+1,s,hi,_=>by
  rw[Jo,Ub,B! F2,show i=b.length by omega,VM];simp[HW,IA,J4]
 |j+1,i,q+1,s,hi,hq=>by
  have hlt:i<b.length:=F0
  have hc:=b[i].toNat_lt;rw[Jo,Ub,CD F2,Cj hlt,Aa,Aqm,Aa,Ag];have h:=Arv b hb j (i+1) q (UInt64.ofNat (lX s.toNat b[i].toNat)) F0 F0;rw[show((i:Int)+1)=((i+1:Nat):Int) by omega,h,drop_cons hlt,T8 (wV s.toNat_lt (by simpa using hc))];rfl
def BO(b:LB):UInt64:=UInt64.ofNat (J4 0 b)
theorem Ap2(b:LB)(hb:b.length<=100000):AP 0 b=some (BO b):=
 Arv b F0 b.length 0 As 0 F0 F8
theorem Aa7(c:UInt64):Yo (Dl c (GI.toZ (1:UInt64)).toNat) (Br (4823603603198064275:UInt64) (Cq c (GI.toZ (63:UInt64)).toNat))=UInt64.ofNat (QS c.toNat):=by
 have hc:=c.toNat_lt;apply UInt64.toNat_inj.1;have h1:(Dl c (GI.toZ (1:UInt64)).toNat).toNat=2*c.toNat %18446744073709551616:=by
  rw[show(GI.toZ (1:UInt64)).toNat=1 from rfl,WJ,Q2]
 have h2:(Br (4823603603198064275:UInt64) (Cq c (GI.toZ (63:UInt64)).toNat)).toNat=c.toNat/9223372036854775808*P64:=by
  rw[show(GI.toZ (63:UInt64)).toNat=63 from rfl,OL,UInt64.toNat_mul,JJ]
  show 4823603603198064275*(c.toNat/9223372036854775808) %18446744073709551616=_;have h1:c.toNat/9223372036854775808=0\/c.toNat/9223372036854775808=1:=F0
  rcases h1 with e|e<;>rw[e]<;>decide
 rw[E6,iH,h1,h2,T8 (cU hc)];rfl
theorem Av3(If:Int->LQ->Option (UInt64×Int))(s:UInt64)(b:LB)(x:Int)(t:LQ):∀(j i q:Nat) (c:UInt64),i+j=8->j<q->
  Ta If s b x t q c (i:Int)=GR If s b x (UInt64.ofNat (Ps j c.toNat)) t
 |0,i,q+1,c,hi,_=>by
  obtain rfl:i=8:=F0
  rw[Ta,FX,B! S0,Ps,UInt64.ofNat_toNat]
 |j+1,i,q+1,c,hi,hq=>by
  rw[Ta,FX,CD F9,Aa7,Ag,show((i:Int)+1)=((i+1:Nat):Int) by omega,Av3 If s b x t j (i+1) q _ F0 F0,T8 (cU c.toNat_lt)];rfl
def YV(n:Nat):LQ:=(List.range n).map λi=>UInt64.ofNat (Ps 8 (i*72057594037927936))
theorem J9(s:UInt64)(b:LB):∀(j i q:Nat),i+j=256->j<q->Oo s b q (i:Int) (YV i++List.replicate j 0)=UY s b (YV 256)
 |0,i,q+1,hi,_=>by
  obtain rfl:i=256:=F0
  rw[Oo,HJ,B! S0];simp
 |j+1,i,q+1,hi,hq=>by
  have hlen:(YV i++List.replicate (j+1) 0).length=i+(j+1):=by simp[YV]
  rw[Oo,HJ,CD F9,WB];have h:=Av3 (Oo s b q) s b (i:Int) (YV i++List.replicate (j+1) 0) 8 0 As (Dl (Ad (i:Int):UInt64) (GI.toZ (56:UInt64)).toNat) F0 F8;rw[show((0:Int))=((0:Nat):Int)from rfl,h,GR,Al7,Cj (by rw[hlen];omega),Aa,Uh _ (by rw[hlen];omega),Aa,Ame,Al4,Ag];have e:(Dl (Ad (i:Int):UInt64) (GI.toZ (56:UInt64)).toNat).toNat=i*72057594037927936:=by
   rw[WJ,Vn,T8 F0]
   show i*72057594037927936 %18446744073709551616=_;omega
  rw[e,VB,mP (by simp[YV])];have h2:=J9 s b j (i+1) q F0 F0;have h3:YV (i+1)=YV i++[UInt64.ofNat (Ps 8 (i*72057594037927936))]:=by simp[YV,eN]
  rw[h3]at h2;rw[show((i:Int)+1)=((i+1:Nat):Int) by omega,<-h2];simp
theorem Agk{i:Nat}(h:i<256):Aj (YV 256) (i:Int)=some (UInt64.ofNat (Ps 8 (i*72057594037927936))):=by
 rw[Cj (by simpa [YV]using h)];simp[YV]
theorem Azz (s:UInt64)(c:UInt8):Aj (YV 256) (GI.toZ (Yo (Ad (Cq s (GI.toZ (56:UInt64)).toNat):UInt8) c))=some (UInt64.ofNat (Ps 8 (((s.toNat/72057594037927936)^^^c.toNat)*72057594037927936))):=by
 have hs:=s.toNat_lt;have e:GI.toZ (Yo (Ad (Cq s (GI.toZ (56:UInt64)).toNat):UInt8) c)=(((s.toNat/72057594037927936)^^^c.toNat:Nat):Int):=by
  have e2:((Ad (Cq s (GI.toZ (56:UInt64)).toNat):UInt8)).toNat=s.toNat/72057594037927936:=by
   rw[VO,RO,JJ]
   show s.toNat/72057594037927936 %256=_;omega
  rw[EG,pA,oo,e2]
 rw[e,Agk];exact V0 (n:=8) (by show _<256;omega) (by simpa using c.toNat_lt)
theorem Bav(s:UInt64)(c:UInt8):Yo (Dl s (GI.toZ (8:UInt64)).toNat) (UInt64.ofNat (Ps 8 (((s.toNat/72057594037927936)^^^c.toNat)*72057594037927936)))=UInt64.ofNat (lX s.toNat c.toNat):=by
 have hs:=s.toNat_lt;have hc:c.toNat<256:=by simpa using c.toNat_lt
 apply UInt64.toNat_inj.1;have hlt:Ps 8 (((s.toNat/72057594037927936)^^^c.toNat)*72057594037927936)<18446744073709551616:=vP 8 (c56 (V0 (n:=8) (by show _<256;omega) (by simpa using c.toNat_lt)));have e:(GI.toZ (8:UInt64)).toNat=8:=rfl;rw[e,E6,iH,WJ,T8 hlt,T8 (wV hs hc),Bar hs hc,Q2 s.toNat]
theorem Av8(b:LB)(s0:UInt64)(hb:b.length<4611686018427387904):∀(j i q:Nat) (s:UInt64),i+j=b.length->j<q->Sj b s0 (YV 256) q s (i:Int)=some (UInt64.ofNat (J4 s.toNat (b.drop i)),0)
 |0,i,q+1,s,hi,_=>by
  rw[Sj,HH,B! F2,show i=b.length by omega,VM];simp[VD,Al5,Ap5,Ap4,J4]
 |j+1,i,q+1,s,hi,hq=>by
  have hlt:i<b.length:=F0
  have hc:=b[i].toNat_lt;rw[Sj,HH,CD F2,Cj hlt,Aa,Azz,Aa,Aa,Bav,Ag];have h:=Av8 b s0 hb j (i+1) q (UInt64.ofNat (lX s.toNat b[i].toNat)) F0 F0;rw[show((i:Int)+1)=((i+1:Nat):Int) by omega,h,drop_cons hlt,T8 (wV s.toNat_lt (by simpa using hc))];rfl
theorem Aup(b:LB)(hb:b.length<=100000):bI b=some (BO b,0):=by
 have h:=J9 0 b 256 0 As F0 F8;have h2:=Av8 b 0 F0 b.length 0 As 0 F0 F8;have hn:fB 0 b=some (BO b,0):=by
  rw[fB,ZX,B! PO,Anz];refine R? h ?_;rw[UY,TS,UB];exact h2
 rw[bI,hn,Aa]
theorem Ae1(p:LB)(hp:p.length<=64):HV p=some (Xj (BO p).toNat 8,0):=by
 rw[HV,wT,B! PO,Aup p F0,Aa,Aa];simp only;have h:=VN (BO p) 8 F0 F0 (by simpa using(BO p).toNat_lt);rw[B! M_];exact congrArg (λo=>Option.bind o λx:LB×Int=>some (x.1,x.2)) h
theorem Ack(p:LB)(hp:p.length<=64):Yh p=some (Xj (BO p).toNat 8):=by
 have h:=N7 (BO p) 8 F0;rw[Yh,Aed,Ap2 p F0,Aa,Aa];exact congrArg (λo=>Option.bind o λl=>some l) h
def s8(n:Nat):Int32:=Int32.ofInt (if n<128 then(n:Int)else(n:Int)-256)
def YA(d:UInt64)(n:Nat):LX:=(List.range n).map λi=>s8 (d.toNat/256^i %256)
theorem bT(d:UInt64)(n:Nat):(YA d n).length=n:=by simp[YA]
theorem Q1(d:UInt64)(n:Nat):YA d (n+1)=YA d n++[s8 (d.toNat/256^n %256)]:=by simp[YA,eN]
theorem bm8(z:Nat):(z:Int).bmod Int8.size=if z %256<128 then((z %256:Nat):Int)else((z %256:Nat):Int)-256:=by
 rw[show Int8.size=256 from rfl,eP];split<;>split<;>omega
theorem sD(d:UInt64):∀(j i q:Nat),i+j=8->j<q->MJ d q (i:Int) (YA d i++List.replicate (16-i) 0)=some (YA d 8++List.replicate 8 0)
 |0,i,q+1,hi,_=>by
  obtain rfl:i=8:=F0
  rw[MJ,fT,B! S0];rfl
 |j+1,i,q+1,hi,hq=>by
  have hlen:(YA d i++List.replicate (16-i) 0).length=16:=by simp[bT];omega
  have ih:=sD d j (i+1) q F0 F0;have e8:Br (8:Int) (i:Int)=((8*i:Nat):Int):=by rw[Fg];omega
  have ev:(Ad (Ad (Cq d (GI.toZ (((8*i:Nat):Int))).toNat):Int8):Int32)=s8 (d.toNat/256^i %256):=by
   have e1:(Cq d (GI.toZ (((8*i:Nat):Int))).toNat).toNat=d.toNat/256^i:=by
    rw[show(GI.toZ (((8*i:Nat):Int))).toNat=8*i from rfl,JJ,iZ]
   show Int32.ofInt (Int8.ofInt ((Cq d (GI.toZ (((8*i:Nat):Int))).toNat).toNat:Int)).toInt=_;rw[e1,s8,Int8.toInt_ofInt,bm8]
  rw[MJ,fT,CD F9,e8,Bq RX,Aa,ev,Cj,Aa,Uh _ F0,Aa,Ag,show 16-i=(15-i)+1 by omega,VB,mP (bT d i)];rw[Q1,show 16-(i+1)=15-i by omega,RD]at ih;exact ih
theorem tu(d:UInt64):∀(j i q:Nat) (e:UInt64),i+j=8->j<q->e.toNat=d.toNat/256^i->Lm q e (i:Int) (YA d i++List.replicate (16-i) 0)=some (YA d 8++List.replicate 8 0)
 |0,i,q+1,e,hi,_,he=>by
  obtain rfl:i=8:=F0
  rw[Lm,DK,B! S0];rfl
 |j+1,i,q+1,e,hi,hq,he=>by
  have hlen:(YA d i++List.replicate (16-i) 0).length=16:=by simp[bT];omega
  have hq2:(Ci e (256:UInt64)).toNat=d.toNat/256^(i+1):=by
   rw[uJ,aP,he,RF,<-YP];rfl
  have ih:=tu d j (i+1) q (Ci e (256:UInt64)) F0 F0 hq2;have ev:(Ad (FP e (256:UInt64)):Int32)=Int32.ofInt ((d.toNat/256^i %256:Nat):Int):=by
   show Int32.ofInt ((FP e (256:UInt64)).toNat:Int)=_;rw[Aj6,oW,he];rfl
  have hz:d.toNat/256^i %256<256:=RW _ F0;have et:(Int32.ofInt ((d.toNat/256^i %256:Nat):Int)).toInt=((d.toNat/256^i %256:Nat):Int):=by
   rw[WT,dR (by show -(4294967296/2:Int)<= _;omega) (by show _<(4294967296+1)/2;omega)]
  have hp8:∀x:Int32,x=s8 (d.toNat/256^i %256)->DR (Lm q) e (i:Int) (YA d i++List.replicate (16-i) 0) x=some (YA d 8++List.replicate 8 0):=by
   intro x hx;rw[DR,Acn,hx,Cj,Aa,Uh _ F0,Aa,Ag,show 16-i=(15-i)+1 by omega,VB,mP (bT d i)];rw[Q1,show 16-(i+1)=15-i by omega,RD]at ih;exact ih
  rw[Lm,DK,CD F9,ev,iw,et,show(127:Int32).toInt=127 from rfl];by_cases h:d.toNat/256^i %256<128
  ·rw[B! (by simp only[E3];omega)];exact hp8 _ (by rw[s8,CD h])
  ·rw[CD (by simp only[E3];omega)];refine hp8 _ ?_;rw[s8,B! h,UP,oO];rfl
def Qw(p:LB):LX:=YA (BO p) 8++List.replicate 8 0
theorem Tz(p:LB):(Qw p).length=16:=by simp[Qw,bT]
theorem nN(p:LB)(hp:p.length<=64):Vm p=some (Qw p,0):=by
 have h:=sD (BO p) 8 0 As F0 F8;have h2:qj (BO p)=some (Qw p):=h;rw[Vm,B! PO,Aup p F0,Aa];simp only;rw[B! M_,h2,Aa]
theorem tQ(p:LB)(hp:p.length<=64):Wn p=some (Qw p,0):=by
 have h:=tu (BO p) 8 0 As (BO p) F0 F8 CH;have h2:Ajq (BO p)=some (Qw p):=h;rw[Wn,B! PO,Ahw,Aeb,B! PO,Ap2 p F0,Aa,Aa,Aa];simp only;rw[h2,Aa]
def u8(z:Int):UInt8:=UInt8.ofNat (z %256).toNat
theorem qc(z:Int):u8 (z %256)=u8 z:=by rw[u8,u8];congr 2;omega
def wB(bits:Int):Nat:=if bits=8 then 1 else if bits=16 then 2 else 3
theorem jf{bits:Int}(h:Cb bits):Ci bits 8=(wB bits:Int):=by obtain rfl|rfl|rfl:=h<;>rfl
theorem E7(bits:Int):1<=wB bits/\wB bits<=3:=by
 unfold wB;split; · omega
 ·split<;>omega
def oG(bits:Int)(x:Int):LB:=if bits=8 then [u8 (x+128)]else if bits=16 then [u8 x,u8 (x/256)]else [u8 x,u8 (x/256),u8 (x/65536)]
theorem C_(bits x:Int):(oG bits x).length<=3:=by
 unfold oG;split; · simp
 ·split<;>simp
theorem Ajx(x:Int32)(k:Nat)(hk:k<=32):(Ad (Cq x k):UInt8)=u8 (x.toInt.fdiv (2^k)):=by
 have h:=BD x;have e:Cq x k=Int32.ofInt (x.toInt.fdiv (2^k)):=by
  show Int32.ofInt (x.toInt.fdiv (2^min k 32))=_;rw[SF hk]
 have hb: -2147483648<=x.toInt.fdiv (2^k)/\x.toInt.fdiv (2^k)<2147483648:=by
  have hpos:(0:Int)<2^k:=bY F0;rw[U? _ F0];constructor
  ·refine(Int.le_ediv_iff_mul_le hpos).2 ?_;have:(1:Int)<=2^k:=F0
   have h2: -2147483648*(2^k:Int)<= -2147483648*1:=Int.mul_le_mul_of_nonpos_left F0 this;omega
  ·refine Int.ediv_lt_of_lt_mul hpos ?_;have:(1:Int)<=2^k:=F0
   have h2:(2147483648:Int)*1<=2147483648*2^k:=mh this F0;omega
 show UInt8.ofNat ((Cq x k).toInt %256).toNat=_;rw[e,WT,dR (by show -(4294967296/2:Int)<= _;omega) (by show _<(4294967296+1)/2;omega)];rfl
section
variable (bk:Int->LB->Option (LB×Int)) (l:LX)
theorem A4{bits:Int}(h:Cb bits)(c:Int32)(x:Int)(i q:Nat)(acc:LB)(hi:i<wB bits)(ha:acc.length<=100000):
  Kh bk bits l c x (q+1) (i:Int) acc=Kh bk bits l c x q ((i+1:Nat):Int) (acc++[u8 (c.toInt.fdiv (2^(8*i)))]):=by
 have hw:=E7 bits;have e8:Br (8:Int) (i:Int)=((8*i:Nat):Int):=by rw[Fg];omega
 rw[Kh,CN,jf h,CD F9,e8,Bq RX,Aa,show(GI.toZ (((8*i:Nat):Int))).toNat=8*i from rfl,Ajx _ _ F0,Bi F7,Aa,Ag];rfl
theorem j?{bits:Int}(h:Cb bits)(c:Int32)(x:Int)(q:Nat)(acc:LB):Kh bk bits l c x (q+1) ((wB bits:Nat):Int) acc=bk (Ae x 1) acc:=by
 rw[Kh,CN,jf h,B! S0,QJ,Ak8]
theorem Aqk{bits:Int}(h:Cb bits)(c:Int32)(x:Int)(acc:LB)(ha:acc.length<=90000)(hr: -(hB bits)<=c.toInt/\c.toInt<hB bits):
  Qc bk bits l x acc (if bits=8 then Ae c (128:Int32)else c)=bk (Ae x 1) (acc++oG bits c.toInt):=by
 have e:As=(As-4)+1+1+1+1:=by have:=Aq;omega
 have hc:=BD c;rw[Qc,PT,RA,e];have g0:=λ(c:Int32) q acc ha=>A4 bk l h c x 0 q acc (by have:=E7 bits;omega) ha;obtain rfl|rfl|rfl:=h
 ·have hh:hB 8=128:=rfl;rw[hh]at hr;have e1:(Ae c (128:Int32)).toInt=c.toInt+128:=by
   show(Int32.ofInt (c.toInt+(128:Int32).toInt)).toInt=_;rw[show(128:Int32).toInt=128 from rfl,WT,dR (by show -(4294967296/2:Int)<= _;omega) (by show _<(4294967296+1)/2;omega)]
  have g1:=j? bk l (bits:=8) (.inl rfl) (Ae c (128:Int32)) x (As-4+1+1);rw[CD rfl,show(0:Int)=((0:Nat):Int)from rfl,g0 _ _ _ F0];refine R? (g1 _) ?_;rw[e1,oG,CD rfl]
  show bk _ (acc++[u8 ((c.toInt+128).fdiv 1)])=_;rw[Int.fdiv_one]
 ·have g1:=λq acc ha=>A4 bk l (bits:=16) (.inr (.inl rfl)) c x 1 q acc F3 ha;have g2:=j? bk l (bits:=16) (.inr (.inl rfl)) c x (As-4+1);rw[B! F3,show(0:Int)=((0:Nat):Int)from rfl,g0 _ _ _ F0,g1 _ _ F7];refine R? (g2 _) ?_;rw[oG,B! F3,CD rfl,RD]
  show bk _ (acc++[u8 (c.toInt.fdiv 1),u8 (c.toInt.fdiv 256)])=_;rw[Int.fdiv_one,U? _ F0]
 ·have g1:=λq acc ha=>A4 bk l (bits:=24) (.inr (.inr rfl)) c x 1 q acc F3 ha;have g2:=λq acc ha=>A4 bk l (bits:=24) (.inr (.inr rfl)) c x 2 q acc F3 ha;have g3:=j? bk l (bits:=24) (.inr (.inr rfl)) c x (As-4);rw[B! F3,show(0:Int)=((0:Nat):Int)from rfl,g0 _ _ _ F0,g1 _ _ F7,g2 _ _ F7];refine R? (g3 _) ?_;rw[oG,B! F3,B! F3,RD,RD]
  show bk _ (acc++[u8 (c.toInt.fdiv 1),u8 (c.toInt.fdiv 256),u8 (c.toInt.fdiv 65536)])=_;rw[Int.fdiv_one,U? _ F0,U? _ F0]
end
def Ot(bits:Int)(l:LX):LB:=l.flatMap λx=>oG bits x.toInt
theorem MQ(bits:Int):∀l:LX,(Ot bits l).length<=3*l.length
 |[]=>by simp[Ot]
 |x::l=>by
  have h1:=MQ bits l;have h2:=C_ bits x.toInt;simp only[Ot,oS,D!,R8]at*
  omega
def inR(bits:Int)(l:LX):Prop:=∀x∈l, -(hB bits)<=x.toInt/\x.toInt<hB bits
theorem pB{bits:Int}(h:Cb bits)(l:LX)(hl:l.length<=4000)(hr:inR bits l):∀(j i q:Nat),i+j=l.length->j<q->Hb bits l q (i:Int) (Ot bits (l.take i))=some (Ot bits l,0)
 |0,i,q+1,hi,_=>by
  rw[Hb,CW,B! F2,TM F0];rfl
 |j+1,i,q+1,hi,hq=>by
  have hlt:i<l.length:=F0
  have ih:=pB h l hl hr j (i+1) q F0 F0;have hlen:=MQ bits (l.take i);have hx:=hr l[i] (S6 _);have h1:=Aqk (Hb bits l q) l h l[i] (i:Int) (Ot bits (l.take i)) (by rw[JW]at hlen;omega) hx;rw[Hb,CW,CD F2,Cj hlt,Aa];have e:(if(geq bits (8:Int))=true then Qc (Hb bits l q) bits l (i:Int) (Ot bits (l.take i)) (Ae l[i] (128:Int32))else Qc (Hb bits l q) bits l (i:Int) (Ot bits (l.take i)) l[i])=Qc (Hb bits l q) bits l (i:Int) (Ot bits (l.take i)) (if bits=8 then Ae l[i] (128:Int32)else l[i]):=by
   by_cases h8:bits=8
   ·rw[CD (by rw[Ax];simpa using h8),CD h8]
   ·rw[B! (by rw[Ax];simpa using h8),B! h8]
  rw[e,h1,Ag];rw[Ns hlt]at ih;have e2:Ot bits (l.take i++[l[i]])=Ot bits (l.take i)++oG bits l[i].toInt:=by unfold Ot;rw[List.flatMap_append,List.flatMap_singleton]
  rw[e2]at ih;exact ih
theorem Apt{bits:Int}(h:Cb bits){l:LX}(hl:l.length<=4000)(hc:Bo bits l=some 0):inR bits l:=by
 have hh:=dI bits;have key:∀(j i q:Nat),i+j=l.length->j<q->Bk l (hB bits) q (i:Int)=some 0->∀k,i<=k-> (hk:k<l.length)-> -(hB bits)<=l[k].toInt/\l[k].toInt<hB bits:=by
  intro j
  induction j with
  |zero=>intro i q hi hq _ k h1 h2;omega
  |succ j ih=>
   intro i q hi hq hs k h1 h2;obtain⟨q,rfl⟩:∃k,q=k+1:=⟨q-1,F0⟩;rw[Bk,Dy,CD F2,Cj,Aa,Aa,Fj,tq,Db F0 F0,Ag,Af,Dq]at hs;by_cases g1:l[i].toInt<0-hB bits
   ·rw[CD (by simpa using g1)]at hs;simp at hs
   ·rw[B! (by simpa using g1)]at hs;by_cases g2:hB bits<=l[i].toInt
    ·rw[CD (by simpa using g2)]at hs;simp at hs
    ·rw[B! (by simpa using g2)]at hs;by_cases hk:k=i
     ·subst hk;omega
     ·exact ih (i+1) q F0 F0 hs k F0 h2
 rw[Bo,Hu,sY h,Aa,B! SC,B! PO]at hc;have:=key l.length 0 As F0 F8 hc;intro x hx;obtain⟨k,hk,rfl⟩:=oL hx;exact this k F0 hk
theorem M4{bits:Int}(h:Cb bits){l:LX}(hl:l.length<=4000)(hc:Bo bits l=some 0):To bits l=some (Ot bits l,0):=by
 have h1:=pB h l hl (Apt h hl hc) l.length 0 As F0 F8;rw[To,VF,eX h l hl,hc,Aa,B! M_];exact h1
theorem Amh{bits:Int}(h:Cb bits)(x:Int32)(hr: -(hB bits)<=x.toInt/\x.toInt<hB bits):LA bits x=some (oG bits x.toInt):=by
 have hx:=BD x;have gu:∀z:Int,(Ad z:UInt8)=u8 z:=λz=>rfl;have hq:∀n:Int,0<=n->n<=20000000->Ci n (256:Int)=n/256/\Ci n (65536:Int)=n/65536:=by
  intro n h1 h2;constructor<;>(rw[QC,XL h1,Db F0 F0])
 have hm:∀n:Int,0<=n->Hl n (256:Int)=n %256:=λn h1=>by rw[Hl,dA h1]
 rw[LA,Ab2,Fj];obtain rfl|rfl|rfl:=h
 ·rw[CD WG,Ag,gu,oG,CD rfl]
 ·have hh:hB 16=32768:=rfl;rw[hh]at hr;have hp:∀n:Int,0<=n->n<=70000->u8 n=u8 x.toInt->u8 (n/256)=u8 (x.toInt/256)->Mt 16 n=some (oG 16 x.toInt):=by
   intro n h1 h2 h3 h4;rw[Mt,BA,B! XG,hm n h1,(hq n h1 F0).1,hm _ F0,gu,gu,qc,qc,h3,h4,oG,B! F3,CD rfl]
  rw[B! XG];by_cases hn:x.toInt<0
  ·rw[CD (by rw[Af];simpa using hn),sY (.inr (.inl rfl)),Aa,hh,Fg,Ag];refine hp _ F0 F0 ?_ ?_
   ·rw[u8,u8];congr 2;omega
   ·rw[u8,u8];congr 2;omega
  ·rw[B! (by rw[Af];simpa using hn)];exact hp _ F0 F0 rfl rfl
 ·have hh:hB 24=8388608:=rfl;rw[hh]at hr;have hp:∀n:Int,0<=n->n<=16777215->u8 n=u8 x.toInt->u8 (n/256)=u8 (x.toInt/256)->u8 (n/65536)=u8 (x.toInt/65536)->Mt 24 n=some (oG 24 x.toInt):=by
   intro n h1 h2 h3 h4 h5;rw[Mt,BA,CD WG,hm n h1,(hq n h1 F0).1,(hq n h1 F0).2,hm _ F0,gu,gu,gu,qc,qc,h3,h4,h5,Bi CH,Aa,oG,B! F3,B! F3];rfl
  rw[B! XG];by_cases hn:x.toInt<0
  ·rw[CD (by rw[Af];simpa using hn),sY (.inr (.inr rfl)),Aa,hh,Fg,Ag];refine hp _ F0 F0 ?_ ?_ ?_
   ·rw[u8,u8];congr 2;omega
   ·rw[u8,u8];congr 2;omega
   ·rw[u8,u8];congr 2;omega
  ·rw[B! (by rw[Af];simpa using hn)];exact hp _ F0 F0 rfl rfl rfl
theorem pU{bits:Int}(h:Cb bits)(l:LX)(hl:l.length<=4000)(hr:inR bits l):∀(j i q:Nat),i+j=l.length->j<q->Kw bits l q (i:Int) (Ot bits (l.take i))=some (Ot bits l,0)
 |0,i,q+1,hi,_=>by
  rw[Kw,Vy,B! F2,TM F0];rfl
 |j+1,i,q+1,hi,hq=>by
  have hlt:i<l.length:=F0
  have ih:=pU h l hl hr j (i+1) q F0 F0;have hlen:=MQ bits (l.take i);have hol:=C_ bits l[i].toInt;rw[JW]at hlen;have e2:Ot bits (l.take i++[l[i]])=Ot bits (l.take i)++oG bits l[i].toInt:=by unfold Ot;rw[List.flatMap_append,List.flatMap_singleton]
  rw[Ns hlt,e2]at ih;rw[Kw,Vy,CD F2,Cj hlt,Aa,Amh h _ (hr l[i] (S6 _)),Aa,Bi,Aa,Ag];exact ih
theorem nD{bits:Int}(h:Cb bits){l:LX}(hl:l.length<=4000)(hc:Bo bits l=some 0):Tu bits l=some (Ot bits l,0):=by
 have h1:=pU h l hl (Apt h hl hc) l.length 0 As F0 F8;rw[Tu,KP,hc,Aa,B! M_];exact h1
theorem p?{p:Prop}(h:p:=by rw[Dq,Ac,Ac];simp;omega):p:=h
theorem ig{p:Prop}(h:p:=by rw[Ag]<;>omega):p:=h
def ZP:LB->Nat->Int×Int
 |[],n=>((n:Int),0)
 |c::r,n=>if 128<=c.toNat then(0,12)else ZP r (128*n+c.toNat)
theorem tP:∀(l:LB) (n k:Nat),n<128^k->0<= (ZP l n).1/\ (ZP l n).1<((128^(k+l.length):Nat):Int)
 |[],n,k,h=>by simp[ZP];exact_mod_cast h
 |c::r,n,k,h=>by
  rw[ZP];split
  ·have:0<128^(k+(c::r).length):=TU F0;exact⟨Int.le_refl _,by simp only;exact_mod_cast this⟩
  ·have:=tP r (128*n+c.toNat) (k+1) (by rw[RF];omega);rw[R8,show k+(r.length+1)=k+1+r.length by omega];exact this
theorem or7(n c:Nat)(hn:n<268435456)(hc:c<128):rA (Dl (n:Int) (GI.toZ (7:UInt64)).toNat) (c:Int)=((128*n+c:Nat):Int):=by
 have e:(GI.toZ (7:UInt64)).toNat=7:=rfl;have h1:Dl (n:Int) 7=((2^7*n:Nat):Int):=by
  have:Dl (n:Int) 7=wrap64 ((n:Int)*2^7):=rfl;rw[this,Db F0 F0];omega
 rw[e,h1];have h2:rA ((2^7*n:Nat):Int) (c:Int)=wrap64 ((BitVec.ofInt 64 ((2^7*n:Nat):Int)|||BitVec.ofInt 64 (c:Int)).toNat:Int):=rfl;rw[h2,d_,W7,W7];have h3:(((2^7*n:Nat):Int) %((2^64:Nat):Int)).toNat=2^7*n:=F0
 have h4:((c:Int) %((2^64:Nat):Int)).toNat=c:=F0
 rw[h3,h4,<-X2 (by simpa using hc),Db F0 F0]
theorem tB(b:LB)(hb:b.length=4):∀(j i q n:Nat),i+j=4->j<q->n<128^i->Nq b q (n:Int) (i:Int)=some (ZP (b.drop i) n)
 |0,i,q+1,n,hi,_,_=>by
  rw[Nq,Zg,B! F2,show b.drop i=[] by simp;omega];rfl
 |j+1,i,q+1,n,hi,hq,hn=>by
  have hlt:i<b.length:=F0
  have hn2:n<268435456:=RN hn (show 128^i<=128^4 from PZ F0 F0);rw[Nq,Zg,CD F2,Cj hlt,Aa,drop_cons hlt,ZP,wU];by_cases hc:128<=b[i].toNat
  ·rw[CD F7,CD hc]
  ·rw[B! F7,B! hc,TD,or7 n _ hn2 F0,Ag];exact tB b hb j (i+1) q _ F0 F0 (by rw[RF];omega)
theorem wS(b:LB)(hb:b.length=4):∀(j i q n:Nat),i+j=4->j<q->n<128^i->Lb b q (n:Int) (i:Int)=some (ZP (b.drop i) n)
 |0,i,q+1,n,hi,_,_=>by
  rw[Lb,Wb,B! F9,show b.drop i=[] by simp;omega];rfl
 |j+1,i,q+1,n,hi,hq,hn=>by
  have hlt:i<b.length:=F0
  have hn2:n<268435456:=RN hn (show 128^i<=128^4 from PZ F0 F0);rw[Lb,Wb,CD F9,Cj hlt,Aa,drop_cons hlt,ZP,vA];have h128:(128:UInt8).toNat=128:=rfl;by_cases hc:128<=b[i].toNat
  ·rw[CD (by simpa using hc),CD hc]
  ·have h3:=b[i].toNat_lt;rw[B! (by simpa using hc),B! hc,Aa,TD,Fg,Ag,Ag];have:=wS b hb j (i+1) q (128*n+b[i].toNat) F0 F0 (by rw[RF];omega);rw[<-this];rfl
theorem Aa4(b:LB)(hb:b.length=4):MW b=some (ZP b 0):=by
 have h:=tB b hb 4 0 As 0 F0 F8 CH;rw[MW,MN,B! (by rw[Ao,Ac];simp;omega),Ah6];exact h
theorem Ag5(b:LB)(hb:b.length=4):DW b=some (ZP b 0):=by
 have h:=wS b hb 4 0 As 0 F0 F8 CH;rw[DW,KQ,B! (by rw[Ao,Ac];simp;omega),KB];exact h
theorem jW{b:LB}(hb:b.length=4):0<= (ZP b 0).1/\ (ZP b 0).1<268435456:=by
 have:=tP b 0 0 CH;rw[hb]at this;simpa using this
theorem eD(s p:LB):Mi s p=some (decide (p.length<=s.length/\s.take p.length=p)):=by
 rw[Mi];by_cases h:p.length<=s.length
 ·rw[CD p?,show Ac p=(p.length:Int)from rfl,Dg,Aa,Ki,Aa,O1];congr 1;rw[O3];simp[h]
 ·rw[B! p?];simp[h]
def bF(b:LB)(n:Int):Int×Int:=
 if 4000<n then(0,4)else if(b.length:Int)<n then(0,24)else
 if b.getD 5 0=16/\ (b.take n.toNat).drop (n-10).toNat≠ [51,68,73]++part b 3 7 then(0,12)else(n,0)
def yX(b:LB)(r:Int):Int×Int:=bF b (r+10+(if b.getD 5 0=16 then 10 else 0))
def Zy(b:LB):Int×Int:=
 if ¬(3<=b.length/\b.take 3=[73,68,51])then(0,6)else if b.length<10 then(0,24)else
 if(ZP (part b 6 4) 0).2≠0\/b.getD 4 0≠0\/ ¬((b.getD 5 0=0/\2<= (b.getD 3 0).toNat/\ (b.getD 3 0).toNat<=4)\/ (b.getD 5 0=16/\b.getD 3 0=4))then(0,12)else
 yX b (ZP (part b 6 4) 0).1
theorem qF{b:LB}{i:Nat}(h:i<b.length):Aj b (i:Int)=some (b.getD i 0):=by
 rw[Cj h];simp[J3,h]
theorem Qn{b:LB}(a w:Nat)(h:a+w<=b.length:=by omega):Bp b (a:Int) ((a+w:Nat):Int)=some (part b a w):=by
 rw[PY];rfl
theorem Anl(b:LB)(r:Int)(h10:10<=b.length)(h0:0<=r)(h1:r<268435456):Xp b r=some (yX b r):=by
 have g5:Aj b (5:Int)=some (b.getD 5 0):=qF (i:=5) F0;have key:∀n:Int,10<=n->n<268435500->Xk b n=some (bF b n):=by
  intro n hn hn2;rw[Xk,OO,bF];by_cases c1:4000<n
  ·rw[CD (by rw[Au];simpa using c1),CD c1]
  ·rw[B! (by rw[Au];simpa using c1),B! c1];by_cases c2:(b.length:Int)<n
   ·rw[CD (by rw[Af,Ac];simpa using c2),CD c2]
   ·have e3:Bp b (3:Int) (10:Int)=some (part b 3 7):=Qn 3 7;rw[B! (by rw[Af,Ac];simpa using c2),B! c2,g5,Aa];by_cases c3:b.getD 5 0=16
    ·rw[CD (by rw[eB];simpa using c3),Cc,PY,Aa,e3,Aa,Bi (by rw[Em];simp),Aa];by_cases c4:(b.take n.toNat).drop (n-10).toNat=[51,68,73]++part b 3 7
     ·rw[B! (by simpa using c4),B! (by intro h;exact h.2 c4)]
     ·rw[CD (by simpa using c4),CD ⟨c3,c4⟩]
    ·rw[B! (by rw[eB];simpa using c3),B! (λh=>c3 h.1)]
 rw[Xp,NQ,g5,Aa,yX];by_cases c3:b.getD 5 0=16
 ·rw[CD (by rw[eB];simpa using c3),Ag ig ig,Ag,key _ F0 F0,CD c3,show 10+r+10=r+10+10 by omega]
 ·rw[B! (by rw[eB];simpa using c3),Ag,key _ F0 F0,B! c3,show 10+r=r+10+0 by omega]
theorem Akx(b:LB)(hb:b.length<4611686018427387904):GV b=some (Zy b):=by
 rw[GV,NU,Zy];by_cases h3:3<=b.length
 ·rw[B! F2,Dg,Aa];by_cases hp:b.take 3=[73,68,51]
  ·rw[B! (by simpa using hp),B! (by simp[h3,hp]),PN,NZ];by_cases h10:b.length<10
   ·rw[CD F2,CD h10]
   ·have e6:Bp b (6:Int) (10:Int)=some (part b 6 4):=Qn 6 4;have g3:Aj b (3:Int)=some (b.getD 3 0):=qF (i:=3) F0;have g4:Aj b (4:Int)=some (b.getD 4 0):=qF (i:=4) F0;have g5:Aj b (5:Int)=some (b.getD 5 0):=qF (i:=5) F0;obtain⟨v1,v2⟩:=jW (b:=part b 6 4) (Em);rw[B! F2,B! h10,e6,Aa,Ag5 _ (Em),Aa];have ht:=Anl b (ZP (part b 6 4) 0).1 F0 v1 v2;generalize ZP (part b 6 4) 0=v at*
    obtain⟨v,e⟩:=v;simp only at ht v1 v2⊢;simp only[Aa,g3,g4,g5,ht];generalize b.getD 3 0=x at*
    generalize b.getD 4 0=y at*
    generalize b.getD 5 0=z at*
    simp only[jq,Aq9,wU,Ao];by_cases he:e=0<;>by_cases hy:y=0<;>by_cases hz:z=0<;>by_cases hz2:z=16<;>by_cases hx:x=4<;>by_cases hx2:x.toNat<2<;>by_cases hx4:4<x.toNat<;>simp_all<;>(rw[B! F0,B! F0])
  ·rw[CD (by simpa using hp),CD (by simp[hp])]
 ·rw[CD F2,CD (by simp[h3])]
theorem Acz(b:LB)(n:Int)(h10:10<=b.length)(hn:10<=n)(hn2:n<268435500):QE b (b.getD 5 0) n=some (bF b n):=by
 rw[QE,Ajl];by_cases c1:4000<n
 ·rw[CD (by rw[Au];simpa using c1),bF,CD c1]
 ·rw[B! (by rw[Au];simpa using c1)];by_cases c2:(b.length:Int)<n
  ·rw[CD (by rw[Af,Ac];simpa using c2),bF,B! c1,CD c2]
  ·have e3:Bp b (3:Int) (10:Int)=some (part b 3 7):=Qn 3 7;rw[B! (by rw[Af,Ac];simpa using c2)];by_cases c3:b.getD 5 0=16
   ·have hl:((b.take n.toNat).drop (n-10).toNat).length=10:=by simp;omega
    have ht:bF b n=if(b.take n.toNat).drop (n-10).toNat≠ [51,68,73]++part b 3 7 then(0,12)else(n,0):=by rw[bF,B! c1,B! c2];simp only[c3,Z0]
    rw[CD (by rw[eB];simpa using c3),Cc,PY,Aa,ht];generalize(b.take n.toNat).drop (n-10).toNat=f at*
    rw[Dg,Aa,Di,Aa,e3,Aa,Ki,Aa];have hf:f=f.take 3++f.drop 3:=(X6 3 f).symm;by_cases c4:f=[51,68,73]++part b 3 7
    ·subst c4;simp
    ·by_cases c5:f.take 3=[51,68,73]
     ·have:f.drop 3≠part b 3 7:=λh=>c4 (by rw[hf,c5,h]);simp only[VC,RI]at c4;simp[c4,c5,this]
     ·simp only[VC,RI]at c4;simp[c4,c5]
   ·rw[B! (by rw[eB];simpa using c3),bF,B! c1,B! c2,B! (λh=>c3 h.1)]
theorem Aj9(b:LB)(r:Int)(h10:10<=b.length)(h0:0<=r)(h1:r<268435456):QY b r (b.getD 5 0)=some (yX b r):=by
 rw[QY,Ak4,yX];by_cases c3:b.getD 5 0=16
 ·rw[CD (by rw[eB];simpa using c3),Ag ig ig,Ag,Acz b _ h10 F0 F0,CD c3]
 ·rw[B! (by rw[eB];simpa using c3),Ag,Acz b _ h10 F0 F0,B! c3];simp
theorem Ag0(b:LB)(hb:b.length<4611686018427387904):SH b=some (Zy b):=by
 rw[SH,CO,eD,Aa];by_cases hp:3<=b.length/\b.take 3=[73,68,51]
 ·rw[B! (by simpa using hp)];by_cases h10:b.length<10
  ·rw[CD F2,Zy,B! (λh=>h hp),CD h10]
  ·have e6:Bp b (6:Int) (10:Int)=some (part b 6 4):=Qn 6 4;have g3:Aj b (3:Int)=some (b.getD 3 0):=qF (i:=3) F0;have g4:Aj b (4:Int)=some (b.getD 4 0):=qF (i:=4) F0;have g5:Aj b (5:Int)=some (b.getD 5 0):=qF (i:=5) F0;obtain⟨v1,v2⟩:=jW (b:=part b 6 4) (Em);have ht:=Aj9 b (ZP (part b 6 4) 0).1 F0 v1 v2;rw[B! F2,g3,Aa,g5,Aa,QH,QX,e6,Aa,Aa4 _ (Em),Aa,Zy,B! (λh=>h hp),B! h10];generalize ZP (part b 6 4) 0=v at*
   obtain⟨v,e⟩:=v;simp only at ht v1 v2⊢;simp only[Aa,g4,PW,Aiv];generalize b.getD 3 0=x at*
   generalize b.getD 4 0=y at*
   generalize b.getD 5 0=z at*
   simp only[jq,Ar5,eB,vA,Ao];have e2:(2:UInt8).toNat=2:=rfl;have e4:(4:UInt8).toNat=4:=rfl;by_cases he:e=0<;>by_cases hy:y=0<;>by_cases hz:z=0<;>by_cases hz2:z=16<;>by_cases hx:x=4<;>by_cases hx2:2<=x.toNat<;>by_cases hx4:x.toNat<=4<;>simp_all
 ·rw[CD (by rw[S4,W5];exact hp),Zy,CD hp]
theorem Al3{b:LB}{n:Int}(h:Zy b=(n,0)):10<=n/\n<=b.length/\n<=4000:=by
 unfold Zy at h;split at h; · simp at h
 split at h; · simp at h
 split at h; · simp at h
 rename_i h10 _;obtain⟨v1,v2⟩:=jW (b:=part b 6 4) (Em);unfold yX at h;generalize hm:(ZP (part b 6 4) 0).1+10+(if b.getD 5 0=16 then 10 else 0)=m at h;unfold bF at h;split at h; · simp at h
 split at h; · simp at h
 split at h; · simp at h
 simp only[G_,VX]at h;subst h;refine⟨?_,F0,F0⟩;rw[<-hm];split<;>omega
theorem cG{p:Prop}(h:p:=by rw[Af,Ac];simp):p:=h
theorem T?{p:Prop}(h:p:=by rw[Em];omega):p:=h
theorem W_{p:Prop}(h:p:=by simp[El]):p:=h
def B3:LB:=[65,80,69,84,65,71,69,88]
def Py(n m fl:Nat):LB:=B3++Xj 2000 4++Xj (n+32) 4++Xj m 4++Xj fl 4++List.replicate 8 0
theorem YY{n:Nat}(h:n<18446744073709551616):(UInt64.ofNat n).toNat=n:=by rw[Q8,DM h]
theorem nV(n m:Int)(fl:UInt64)(c:UInt64)(i q:Nat)(acc:LB)(hi:i<6)(hc:Aj ([(2000:UInt64),(Ad (Ae n (32:Int)):UInt64),(Ad m:UInt64),fl,(0:UInt64),(0:UInt64)]:LQ) (i:Int)=some c)(h:c.toNat<4294967296)(ha:acc.length<=1000000):
  EH n m fl (q+1) (i:Int) acc=EH n m fl q ((i+1:Nat):Int) (acc++Xj c.toNat 4):=by
 have hb:=VN c 4 F0 F0 (by simpa using h);rw[EH,eJ,CD F2,hc,Aa,Aa,show((4:Int))=((4:Nat):Int)from rfl,hb,Aa];simp only;rw[Bi (by rw[El];omega),Aa,Ag];rfl
theorem G3(n m:Nat)(fl:UInt64)(hn:n<=3000)(hm:m<=1000)(hf:fl.toNat<4294967296):nB (n:Int) (m:Int) fl=some (Py n m fl.toNat):=by
 have e1:(Ad (Ae (n:Int) (32:Int)):UInt64).toNat=n+32:=by rw[Ag,show(n:Int)+32=((n+32:Nat):Int) by omega,Vn,YY F0]
 have e2:(Ad (m:Int):UInt64).toNat=m:=by rw[Vn,YY F0]
 have hF:As=(As-7)+1+1+1+1+1+1+1:=by have:=Aq;omega
 rw[nB,rJ,I1,hF];rw[show((0:Int))=((0:Nat):Int)from rfl,nV n m fl 2000 0 _ _ F0 rfl F3 CH,nV n m fl _ 1 _ _ F0 rfl (by rw[e1];omega) W_,nV n m fl _ 2 _ _ F0 rfl (by rw[e2];omega) W_,
  nV n m fl fl 3 _ _ F0 rfl hf W_,nV n m fl 0 4 _ _ F0 rfl F3 W_,nV n m fl 0 5 _ _ F0 rfl F3 W_,e1,e2]
 rw[EH,eJ,B! cG,qT,P2,Py];have z:Xj (0:UInt64).toNat 4++Xj (0:UInt64).toNat 4=List.replicate 8 0:=F3
 have z2:Xj (2000:UInt64).toNat 4=Xj 2000 4:=rfl;rw[RD _ (Xj (0:UInt64).toNat 4),z,z2];rfl
theorem vC(n m:Nat)(fl:UInt64)(hn:n<=3000)(hm:m<=1000)(hf:fl.toNat<4294967296):So (n:Int) (m:Int) fl=some (Py n m fl.toNat):=by
 have e1:(Ad (Ae (n:Int) (32:Int)):UInt64).toNat=n+32:=by rw[Ag,show(n:Int)+32=((n+32:Nat):Int) by omega,Vn,YY F0]
 have e2:(Ad (m:Int):UInt64).toNat=m:=by rw[Vn,YY F0]
 have w:∀c:UInt64,Ew c 4=some (Xj c.toNat 4):=λc=>N7 c 4 F0;have z2:Xj (2000:UInt64).toNat 4=Xj 2000 4:=rfl;rw[So];simp only[w,e1,e2,Aa];rw[Bi W_,Aa,Bi W_,Aa,Bi W_,Aa,Bi W_,Aa,pW,Aa,Bi W_,Aa,z2];rfl
theorem TA{b:LB}{a w k:Nat}(h:a+w<=k):part (b.take k) a w=part b a w:=by rw[part,part,dM,SF h]
def FO(b:LB):Bool:=decide (Ff (part b 12 4)<32\/3032<Ff (part b 12 4)\/1000<Ff (part b 16 4))
theorem wL(b:LB)(h:20<=b.length):(((Cw (pJ (part b 12 4)) (32:UInt64))||(Ef (pJ (part b 12 4)) (3032:UInt64)))||(Ef (pJ (part b 16 4)) (1000:UInt64)))=FO b:=by
 rw[B8,XW,XW,YZ T?,YZ T?,FO];show((decide (Ff (part b 12 4)<32)||decide (3032<Ff (part b 12 4)))||decide (1000<Ff (part b 16 4)))=_;simp[Bool.or_assoc]
theorem wF(b:LB)(h:20<=b.length)(hb:FO b=false):Am (Ad (pJ (part b 12 4)):Int) (32:Int)=((Ff (part b 12 4)-32:Nat):Int)/\ (Ad (pJ (part b 16 4)):Int)=((Ff (part b 16 4):Nat):Int)/\Ff (part b 12 4)-32<=3000/\Ff (part b 16 4)<=1000:=by
 simp only[FO,W5]at hb;refine⟨?_,ND T?,F0,F0⟩;rw[ND T?,Cc];omega
theorem eQ(b:LB)(fl:UInt64)(h:20<=b.length)(hl:b.length<4611686018427387904)(hf:fl.toNat<4294967296):
  TE b fl=some (if FO b=true then(0,0,false)else(((Ff (part b 12 4)-32:Nat):Int),((Ff (part b 16 4):Nat):Int),b==Py (Ff (part b 12 4)-32) (Ff (part b 16 4)) fl.toNat)):=by
 have a1:cA b 12 4=some (pJ (part b 12 4),0):=X9 b 12 4 F0 F0 F0 hl;have a2:cA b 16 4=some (pJ (part b 16 4),0):=X9 b 16 4 F0 F0 F0 hl;rw[TE,a1,Aa];simp only;rw[a2,Aa];simp only;rw[wL b h];cases hb:FO b with
 |true=>rfl
 |false=>
  obtain⟨i1,i2,i3,i4⟩:=wF b h hb;rw[i1,i2,G3 _ _ _ i3 i4 hf];rfl
theorem E_(b:LB)(h:20<=b.length)(hl:b.length<4611686018427387904):
  Wj b=some (if FO b=true then(0,0,false)else(((Ff (part b 12 4)-32:Nat):Int),((Ff (part b 16 4):Nat):Int),true)):=by
 have a1:Bp b 12 16=some (part b 12 4):=Qn 12 4;have a2:Bp b 16 20=some (part b 16 4):=Qn 16 4;rw[Wj,a1,Aa,r! _ T?,Aa,a2,Aa,r! _ T?,Aa,wL b h];cases hb:FO b with
 |true=>rfl
 |false=>
  obtain⟨i1,i2,i3,i4⟩:=wF b h hb;rw[i1,i2];rfl
def Km(b:LB):Int×Int:=
 if ¬(8<=b.length/\b.take 8=B3)then(0,6)else if b.length<32 then(0,24)else
 if FO b=true\/b.take 32≠Py (Ff (part b 12 4)-32) (Ff (part b 16 4)) 2684354560 then(0,12)else
 if b.length<Ff (part b 12 4)+32 then(0,24)else
 if(b.take (Ff (part b 12 4)+32)).drop (Ff (part b 12 4))≠Py (Ff (part b 12 4)-32) (Ff (part b 16 4)) 2147483648 then(0,12)else(((Ff (part b 12 4)+32:Nat):Int),0)
theorem Asf(b:LB):FO (b.take 32)=FO b:=by rw[FO,FO,TA F0,TA F0]
section
variable {b:LB}
theorem fa1(h:¬(8<=b.length/\b.take 8=B3)):Km b=(0,6):=by rw[Km,CD h]
theorem fa2(h:8<=b.length/\b.take 8=B3)(h2:b.length<32):Km b=(0,24):=by rw[Km,B! (λh'=>h' h),CD h2]
variable (h:8<=b.length/\b.take 8=B3) (h2:¬b.length<32)
include h h2
theorem fa3(h3:FO b=true):Km b=(0,12):=by rw[Km,B! (λh'=>h' h),B! h2,CD (.inl h3)]
theorem fa4(h4:b.take 32≠Py (Ff (part b 12 4)-32) (Ff (part b 16 4)) 2684354560):Km b=(0,12):=by rw[Km,B! (λh'=>h' h),B! h2,CD (.inr h4)]
variable (h3:FO b=false) (h4:b.take 32=Py (Ff (part b 12 4)-32) (Ff (part b 16 4)) 2684354560)
include h3 h4
theorem fa5(h5:b.length<Ff (part b 12 4)+32):Km b=(0,24):=by
 rw[Km,B! (λh'=>h' h),B! h2,B! (λh'=>h'.elim (λe=>by rw[h3]at e;cases e) λe=>e h4),CD h5]
theorem fa6(h5:¬b.length<Ff (part b 12 4)+32)(h6:(b.take (Ff (part b 12 4)+32)).drop (Ff (part b 12 4))≠Py (Ff (part b 12 4)-32) (Ff (part b 16 4)) 2147483648):Km b=(0,12):=by
 rw[Km,B! (λh'=>h' h),B! h2,B! (λh'=>h'.elim (λe=>by rw[h3]at e;cases e) λe=>e h4),B! h5,CD h6]
theorem fa7(h5:¬b.length<Ff (part b 12 4)+32)(h6:(b.take (Ff (part b 12 4)+32)).drop (Ff (part b 12 4))=Py (Ff (part b 12 4)-32) (Ff (part b 16 4)) 2147483648):Km b=(((Ff (part b 12 4)+32:Nat):Int),0):=by
 rw[Km,B! (λh'=>h' h),B! h2,B! (λh'=>h'.elim (λe=>by rw[h3]at e;cases e) λe=>e h4),B! h5,B! (λh'=>h' h6)]
end
theorem Aay(b:LB)(hl:b.length<4611686018427387904):nG b=some (Km b):=by
 rw[nG,eD,Aa];by_cases hp:8<=b.length/\b.take 8=B3
 ·rw[B! (by simpa [B3]using hp)];by_cases h32:b.length<32
  ·rw[CD F2,fa2 hp h32]
  ·have t:=eQ (b.take 32) 2684354560 F7 F7 F3;rw[Asf,TA F0,TA F0]at t;rw[B! F2,Dg,Aa,show(32:Int).toNat=32 from rfl,t,Aa];cases hb:FO b with
   |true=>rw[fa3 hp h32 hb];simp
   |false=>
    obtain⟨i1,i2,i3,i4⟩:=wF b F0 hb;have i5:32<=Ff (part b 12 4):=by simp only[FO,W5]at hb;omega
    simp only[SD,RQ,false_or];by_cases c1:b.take 32=Py (Ff (part b 12 4)-32) (Ff (part b 16 4)) 2684354560
    ·have c1':b.take 32=Py (Ff (part b 12 4)-32) (Ff (part b 16 4)) (2684354560:UInt64).toNat:=c1;rw[B! (by simpa using c1'),Ag];have e1:((Ff (part b 12 4)-32:Nat):Int)+64=((Ff (part b 12 4)+32:Nat):Int):=F0
     rw[e1];by_cases c2:b.length<Ff (part b 12 4)+32
     ·rw[CD F2,fa5 hp h32 hb c1 c2]
     ·rw[B! F2,Cc,PY,Aa,G3 _ _ _ i3 i4 F3,Aa,Ki,Aa];rw[show(((Ff (part b 12 4)+32:Nat):Int)).toNat=Ff (part b 12 4)+32 by omega,show(((Ff (part b 12 4)+32:Nat):Int)-32).toNat=Ff (part b 12 4) by omega];by_cases c3:(b.take (Ff (part b 12 4)+32)).drop (Ff (part b 12 4))=Py (Ff (part b 12 4)-32) (Ff (part b 16 4)) 2147483648
      ·have c3':(b.take (Ff (part b 12 4)+32)).drop (Ff (part b 12 4))=Py (Ff (part b 12 4)-32) (Ff (part b 16 4)) (2147483648:UInt64).toNat:=c3;rw[B! (by simpa using c3'),fa7 hp h32 hb c1 c2 c3]
      ·have c3':¬(b.take (Ff (part b 12 4)+32)).drop (Ff (part b 12 4))=Py (Ff (part b 12 4)-32) (Ff (part b 16 4)) (2147483648:UInt64).toNat:=c3;rw[CD (by simpa using c3'),fa6 hp h32 hb c1 c2 c3]
    ·have c1':¬b.take 32=Py (Ff (part b 12 4)-32) (Ff (part b 16 4)) (2684354560:UInt64).toNat:=c1;rw[CD (by simpa using c1'),fa4 hp h32 c1]
 ·rw[CD (by rw[S4,W5];exact hp),fa1 hp]
theorem Afw(b:LB)(hl:b.length<4611686018427387904):DQ b=some (Km b):=by
 rw[DQ,JZ];by_cases h8:8<=b.length
 ·rw[B! F2,Dg,Aa,show(8:Int).toNat=8 from rfl];by_cases ha:b.take 8=B3
  ·have hp:=And.intro h8 ha;rw[B! (by simpa [B3]using ha),KJ,KC];by_cases h32:b.length<32
   ·rw[CD F2,fa2 hp h32]
   ·have t:=E_ (b.take 32) F7 F7;rw[Asf,TA F0,TA F0]at t;rw[B! F2,Dg,Aa,show(32:Int).toNat=32 from rfl,t,Aa];cases hb:FO b with
    |true=>rw[fa3 hp h32 hb];simp
    |false=>
     obtain⟨i1,i2,i3,i4⟩:=wF b F0 hb;have i5:32<=Ff (part b 12 4):=by simp only[FO,W5]at hb;omega
     simp only[SD,RQ,false_or,Aa,XB];rw[Wr,vC _ _ _ i3 i4 F3,Aa,Aa];by_cases c1:b.take 32=Py (Ff (part b 12 4)-32) (Ff (part b 16 4)) 2684354560
     ·have c1':b.take 32=Py (Ff (part b 12 4)-32) (Ff (part b 16 4)) (2684354560:UInt64).toNat:=c1;rw[B! (by simpa using c1'),KW,KK,Ag];have e1:64+((Ff (part b 12 4)-32:Nat):Int)=((Ff (part b 12 4)+32:Nat):Int):=F0
      rw[e1];by_cases c2:b.length<Ff (part b 12 4)+32
      ·rw[CD F2,fa5 hp h32 hb c1 c2]
      ·rw[B! F2,Cc,PY,Aa,Mf,CD rfl,vC _ _ _ i3 i4 F3,Aa,Aa];rw[show(((Ff (part b 12 4)+32:Nat):Int)).toNat=Ff (part b 12 4)+32 by omega,show(((Ff (part b 12 4)+32:Nat):Int)-32).toNat=Ff (part b 12 4) by omega];by_cases c3:(b.take (Ff (part b 12 4)+32)).drop (Ff (part b 12 4))=Py (Ff (part b 12 4)-32) (Ff (part b 16 4)) 2147483648
       ·have c3':(b.take (Ff (part b 12 4)+32)).drop (Ff (part b 12 4))=Py (Ff (part b 12 4)-32) (Ff (part b 16 4)) (2147483648:UInt64).toNat:=c3;rw[B! (by simpa using c3'),fa7 hp h32 hb c1 c2 c3]
       ·have c3':¬(b.take (Ff (part b 12 4)+32)).drop (Ff (part b 12 4))=Py (Ff (part b 12 4)-32) (Ff (part b 16 4)) (2147483648:UInt64).toNat:=c3;rw[CD (by simpa using c3'),fa6 hp h32 hb c1 c2 c3]
     ·have c1':¬b.take 32=Py (Ff (part b 12 4)-32) (Ff (part b 16 4)) (2684354560:UInt64).toNat:=c1;rw[CD (by simpa using c1'),fa4 hp h32 c1]
  ·rw[CD (by simpa [B3]using ha),fa1 (λh=>ha h.2)]
 ·rw[CD F2,fa1 (λh=>h8 h.1)]
theorem Ag8{b:LB}{n:Int}(h:Km b=(n,0)):64<=n/\n<=b.length:=by
 unfold Km at h;split at h; · simp at h
 split at h; · simp at h
 split at h; · simp at h
 rename_i hb;split at h; · simp at h
 split at h; · simp at h
 simp only[G_,VX]at h;have hb':¬FO b=true:=λe=>hb (.inl e);simp only[FO,E3]at hb';omega
def Cz(b:LB):Int×Int:=if(Zy b).2≠6 then Zy b else Km b
theorem size_eq(b:LB)(hl:b.length<4611686018427387904):Xw b=some (Cz b):=by
 rw[Xw,Ag0 b hl,Aa,Aay b hl];by_cases h:(Zy b).2=6
 ·simp[Cz,h,Ao]
 ·simp[Cz,h,Ao]
theorem lP{b:LB}{n:Int}(h:Cz b=(n,0)):10<=n/\n<=b.length:=by
 unfold Cz at h;split at h
 ·have:=Al3 h;omega
 ·have:=Ag8 h;omega
def Cp(b:LB):Nat->Nat->LI×Int
 |0,_=>([],6)
 |j+1,p=>if(Cz (b.drop p)).2=6 then([],0)else if(Cz (b.drop p)).2≠0 then([],(Cz (b.drop p)).2)else
  if 4000<(p:Int)+(Cz (b.drop p)).1 then([],4)else
  if(Cp b j (p+(Cz (b.drop p)).1.toNat)).2=0 then((Cz (b.drop p)).1::(Cp b j (p+(Cz (b.drop p)).1.toNat)).1,0)else([],(Cp b j (p+(Cz (b.drop p)).1.toNat)).2)
theorem nZ(b:LB):∀(j p:Nat),p<=b.length->p<=4000-> (Cp b j p).2=0-> (∀x∈(Cp b j p).1,10<=x)/\ (p:Int)+(Cp b j p).1.sum<=b.length/\ (p:Int)+(Cp b j p).1.sum<=4000
 |0,p,_,_,h=>by simp[Cp]at h
 |j+1,p,hp,hq,h=>by
  rw[Cp]at h⊢;split at h
  ·rename_i h6;rw[CD h6];simp;omega
  ·rename_i h6;split at h
   ·rename_i h0;exact absurd h h0
   ·rename_i h0;rw[B! h6,B! h0];have hz:Cz (b.drop p)=((Cz (b.drop p)).1,0):=by rw[iQ];exact⟨rfl,Classical.not_not.1 h0⟩
    have hs:=lP hz;rw[Q!]at hs;split at h
    ·simp at h
    ·rename_i h4;rw[B! h4];split at h
     ·rename_i h00;rw[CD h00];obtain⟨i1,i2,i3⟩:=nZ b j _ F0 F0 h00;refine⟨λx hx=>?_,?_,?_⟩
      ·rcases List.mem_cons.1 hx with rfl|hx
       ·exact hs.1
       ·exact i1 x hx
      ·simp only[RV];omega
      ·simp only[RV];omega
     ·rename_i h00;exact absurd h h00
def U4(b:LB)(j p:Nat):Int×Int:=if(Cp b j p).2=0 then((p:Int)+(Cp b j p).1.sum,0)else(0,(Cp b j p).2)
theorem O5(b:LB)(hl:b.length<4611686018427387904):∀(j p q:Nat),p<=b.length->p<=4000->b.length-p<j->j<=q->Vk b q (p:Int)=some (U4 b j p)
 |0,p,q,_,_,h,_=>by omega
 |j+1,p,q,hp,hp4,hj,hq=>by
  obtain⟨q,rfl⟩:∃k,q=k+1:=⟨q-1,F0⟩;rw[Vk,Di,Aa,O1,size_eq _ F7,Aa,Ax,Ax,Ao,U4];by_cases h6:(Cz (b.drop p)).2=6
  ·rw[CD (by simpa using h6)];have:Cp b (j+1) p=([],0):=by rw[Cp,CD h6]
   rw[this];simp
  ·rw[B! (by simpa using h6)];by_cases h0:(Cz (b.drop p)).2=0
   ·have hz:Cz (b.drop p)=((Cz (b.drop p)).1,0):=by rw[iQ];exact⟨rfl,h0⟩
    have hs:=lP hz;rw[Q!]at hs;rw[Ag,Au];by_cases h4:4000<(p:Int)+(Cz (b.drop p)).1
    ·rw[CD (by simp[h0];omega)];have:Cp b (j+1) p=([],4):=by rw[Cp,B! h6,B! (λh=>h h0),CD h4]
     rw[this];simp
    ·rw[B! (by simp[h0];omega),B! (by simpa using h0)];have ih:=O5 b hl j (p+(Cz (b.drop p)).1.toNat) q F0 F0 F0 F0;rw[show(p:Int)+(Cz (b.drop p)).1=((p+(Cz (b.drop p)).1.toNat:Nat):Int) by omega,ih,U4];have:Cp b (j+1) p=if(Cp b j (p+(Cz (b.drop p)).1.toNat)).2=0 then((Cz (b.drop p)).1::(Cp b j (p+(Cz (b.drop p)).1.toNat)).1,0)else([],(Cp b j (p+(Cz (b.drop p)).1.toNat)).2):=by
      rw[Cp,B! h6,B! (λh=>h h0),B! h4]
     rw[this];by_cases hr:(Cp b j (p+(Cz (b.drop p)).1.toNat)).2=0
     ·simp only[hr,U3,RV];congr 2;omega
     ·simp only[hr,RQ]
   ·rw[B! (by simp[h0]),CD (by simpa using h0)];have:Cp b (j+1) p=([],(Cz (b.drop p)).2):=by rw[Cp,B! h6,CD h0]
    rw[this];simp[h0]
def cL(b:LB)(j p:Nat)(xs:LI):LI×Int:=if(Cp b j p).2=0 then(xs++(Cp b j p).1,0)else([],(Cp b j p).2)
theorem Ait(bk:Int->LI->Option (LI×Int))(b:LB)(p:Nat)(hp:p<=b.length)(xs:LI)(hx:xs.length<=4000)(hl:b.length<4611686018427387904):Wf (Pk bk b) b (p:Int) xs=Pk bk b (p:Int) xs (Cz (b.drop p)).1 (Cz (b.drop p)).2:=by
 have hf:=Afw (b.drop p) F7;rw[Wf,Di,Aa,O1,Akx _ F7,Aa];by_cases h:(Zy (b.drop p)).2=6
 ·simp[Cz,h,Ax,hf]
 ·simp[Cz,h,Ax]
theorem Alw(b:LB)(hl:b.length<4611686018427387904):∀(j p q:Nat) (xs:LI),p<=b.length->p<=4000->b.length-p<j->j<=q->xs.length<=p->Oy b q (p:Int) xs=some (cL b j p xs)
 |0,p,q,_,_,_,h,_,_=>by omega
 |j+1,p,q,xs,hp,hp4,hj,hq,hx=>by
  obtain⟨q,rfl⟩:∃k,q=k+1:=⟨q-1,F0⟩;rw[Oy,Ait _ b p hp xs F0 hl,Pk,KI,Ax,Ao,cL];by_cases h6:(Cz (b.drop p)).2=6
  ·rw[CD (by simpa using h6)];have:Cp b (j+1) p=([],0):=by rw[Cp,CD h6]
   rw[this];simp
  ·rw[B! (by simpa using h6)];by_cases h0:(Cz (b.drop p)).2=0
   ·have hz:Cz (b.drop p)=((Cz (b.drop p)).1,0):=by rw[iQ];exact⟨rfl,h0⟩
    have hs:=lP hz;rw[Q!]at hs;rw[B! (by simpa using h0),Ag,Au];by_cases h4:4000<(p:Int)+(Cz (b.drop p)).1
    ·rw[CD F7];have:Cp b (j+1) p=([],4):=by rw[Cp,B! h6,B! (λh=>h h0),CD h4]
     rw[this];simp
    ·rw[B! F7,Bi F7,Aa];have ih:=Alw b hl j (p+(Cz (b.drop p)).1.toNat) q (xs++[(Cz (b.drop p)).1]) F0 F0 F0 F0 F7;rw[show(p:Int)+(Cz (b.drop p)).1=((p+(Cz (b.drop p)).1.toNat:Nat):Int) by omega,ih,cL];have:Cp b (j+1) p=if(Cp b j (p+(Cz (b.drop p)).1.toNat)).2=0 then((Cz (b.drop p)).1::(Cp b j (p+(Cz (b.drop p)).1.toNat)).1,0)else([],(Cp b j (p+(Cz (b.drop p)).1.toNat)).2):=by
      rw[Cp,B! h6,B! (λh=>h h0),B! h4]
     rw[this];by_cases hr:(Cp b j (p+(Cz (b.drop p)).1.toNat)).2=0
     ·simp only[hr,U3];simp
     ·simp only[hr,RQ]
   ·rw[CD (by simpa using h0)];have:Cp b (j+1) p=([],(Cz (b.drop p)).2):=by rw[Cp,B! h6,CD h0]
    rw[this];simp[h0]
theorem B2:∀{l:LI},(∀x∈l,10<=x)->0<=l.sum/\ (l.length:Int)<=l.sum
 |[],_=>by simp
 |x::l,h=>by
  have h1:=h x TR;have h2:=B2 (l:=l) λy hy=>h y (RK _ hy);simp only[RV,R8];omega
theorem E1(r:Int)(l:LI)(hl:l.length<=4000)(hx:∀x∈l,10<=x):∀(j i q:Nat) (n:Int),i+j=l.length->j<q->0<=n->n+(l.drop i).sum<=4000->Kt r l q n (i:Int)=some (n+(l.drop i).sum,r)
 |0,i,q+1,n,hi,_,_,_=>by
  rw[Kt,Vo,B! F2,show i=l.length by omega,VM];simp[KV,JY]
 |j+1,i,q+1,n,hi,hq,hn,hs=>by
  have hlt:i<l.length:=F0
  rw[drop_cons hlt,RV]at hs⊢;have h1:=hx l[i] (S6 hlt);have h2:=B2 (l:=l.drop (i+1)) λy hy=>hx y (a_ hy);rw[Kt,Vo,CD F2,Cj hlt,Aa,Aa,Ag,Ag];have ih:=E1 r l hl hx j (i+1) q (n+l[i]) F0 F0 F0 F0;rw[show((i:Int)+1)=((i+1:Nat):Int) by omega,ih];congr 2;omega
def Ds(b:LB):Int×Int:=U4 b (b.length+1) 0
theorem TO(b:LB)(hl:b.length<4611686018427387904):Lw b=some (Ds b):=by
 have:=O5 b hl (b.length+1) 0 As F0 F0 F0 F8;exact this
theorem eA(b:LB)(hl:b.length<4611686018427387904):Us b=some (Ds b):=by
 have h:=Alw b hl (b.length+1) 0 As [] F0 F0 F0 F8 CH;have h':Ac5 b=some (cL b (b.length+1) 0 []):=h;rw[Us,KG,h',Aa,Ds,U4,cL];have ho:=nZ b (b.length+1) 0 F0 F0;by_cases h0:(Cp b (b.length+1) 0).2=0
 ·obtain⟨i1,i2,i3⟩:=ho h0;have hp:=B2 i1;simp only[h0,U3,RI];have:=E1 0 (Cp b (b.length+1) 0).1 F0 i1 (Cp b (b.length+1) 0).1.length 0 As 0 F0 F8 F0 (by simpa using i3);simpa [Vq]using this
 ·simp only[h0,RQ];have:=E1 (Cp b (b.length+1) 0).2 [] CH CH 0 0 As 0 CH F8 F0 CH;simpa [Vq]using this
theorem TB{b:LB}(h:(Ds b).2=0):0<= (Ds b).1/\ (Ds b).1<=b.length/\ (Ds b).1<=4000:=by
 unfold Ds U4 at h⊢;split at h
 ·rename_i h0;rw[CD h0];obtain⟨i1,i2,i3⟩:=nZ b (b.length+1) 0 F0 F0 h0;have hp:=B2 i1;exact⟨by simp;omega,i2,i3⟩
 ·rename_i h0;exact absurd h h0
theorem Wl{p:Prop}(h:p:=by rw[Af,Ac,Ac];simp;omega):p:=h
def Al(r:Nat):Nat:=max 1 (256*r/245)
theorem Iw(r:Nat):1<=Al r:=Nat.le_max_left _ _
theorem OG{r:Nat}(h:r<=1048576):Al r<=1100000:=by unfold Al;omega
theorem Akj{r:Nat}(h:r<=1048576):tA (1:Int) (Ci (Br (256:Int) (r:Int)) (245:Int))=(Al r:Int):=by
 rw[Fg,QC,XL F0,Db F0 F0,jy,Al];omega
def Ap(g n:Nat):LI:=List.replicate ((n-1)/g) (g:Int)++[((n-(n-1)/g*g:Nat):Int)]
theorem jY(g n:Nat):(Ap g n).length=(n-1)/g+1:=by simp[Ap]
theorem Axo{g n:Nat}(h:n<=g)(h1:1<=n):Ap g n=[(n:Int)]:=by
 rw[Ap,VJ F0];simp
theorem Azv {g n:Nat}(hg:1<=g)(h:g<n):Ap g n=(g:Int)::Ap g (n-g):=by
 have e:(n-1)/g=(n-g-1)/g+1:=by rw[<-Nat.add_div_right _ F0];congr 1;omega
 rw[Ap,Ap,e,VB,VC];congr 4;have:=X? (n-g-1) g;rw[H9,SA];omega
theorem Asj{g n:Nat}(hg:1<=g)(h1:1<=n):(n+g-1)/g=(n-1)/g+1:=by
 rw[<-Nat.add_div_right _ F0];congr 1;omega
theorem aI{r:Nat}(h1:1<=r)(h:r<=1048576):Tq (r:Int)=some ((Al r:Int),0):=by
 rw[Tq,B! SY,Akj h]
theorem Ajt{r:Nat}(h:r<=1048576):Wv (r:Int)=some (Al r:Int):=by rw[Wv,Akj h]
theorem K2{r n:Nat}(h1:1<=r)(h:r<=1048576)(n1:1<=n)(n2:n<=4000):BW (r:Int) (n:Int)=some (if 1000<(n-1)/Al r+1 then(0,4)else((((n-1)/Al r+1:Nat):Int),0)):=by
 have hp:=Iw r;have hl:=OG h;have e:Ci (Am (Ae (n:Int) (Al r:Int)) (1:Int)) (Al r:Int)=(((n-1)/Al r+1:Nat):Int):=by
  have:(n+Al r-1)/Al r<=n+Al r-1:=RS _ _;rw[Ag,Cc,QC,XL F0,show(n:Int)+(Al r:Int)-1=((n+Al r-1:Nat):Int) by omega,<-og,Asj hp n1];rw[Asj hp n1]at this;generalize(n-1)/Al r=k at*
  exact Db F0 F0
 rw[BW,aI h1 h,Aa];simp only;rw[B! M_,B! SY,Bq RL,Aa,e];by_cases hk:1000<(n-1)/Al r+1
 ·rw[CD R7,CD hk]
 ·rw[B! R7,B! hk]
theorem P4{r:Nat}(h:r<=1048576):∀(j n q:Nat) (acc:LI),n<=4000->n<=j->j<q->acc.length+n<=10000->Fs (r:Int) q (n:Int) acc=some (acc++(if n=0 then []else Ap (Al r) n))
 |0,n,q+1,acc,hn,hj,hq,ha=>by
  obtain rfl:n=0:=F0
  rw[Fs,Kx,B! X!];simp[Pm,Pc]
 |j+1,n,q+1,acc,hn,hj,hq,ha=>by
  have hp:=Iw r;have hl:=OG h;by_cases h0:n=0
  ·subst h0;rw[Fs,Kx,B! X!];simp[Pm,Pc]
  ·rw[Fs,Kx,CD R7,Ajt h,Aa,Bi F7,Aa,Aa,Cc,AK];by_cases hs:n<=Al r
   ·rw[show min (n:Int) (Al r:Int)=(n:Int) by omega,B! h0,Axo hs F0];have hz:∃k,q=k+1:=⟨q-1,F0⟩;obtain⟨q,rfl⟩:=hz;rw[Fs,Kx,B! R7];simp[Pm,Pc]
   ·rw[show min (n:Int) (Al r:Int)=(Al r:Int) by omega,show(n:Int)-(Al r:Int)=((n-Al r:Nat):Int) by omega,P4 h j (n-Al r) q _ F0 F0 F0 F7,B! F0,B! h0,Azv hp (show Al r<n by omega)];simp
theorem M8{r n:Nat}(h:r<=1048576)(n1:1<=n)(n2:n<=4000):Om (r:Int) (n:Int)=some (Ap (Al r) n):=by
 have:=P4 h n n As [] n2 (N! _) F8 F7;rw[Om,KF,JX,this,B! F0];rfl
theorem mul_one(m:Nat)(h:m<=100000):CF (1:UInt64) (UInt64.ofNat m)=some (0,UInt64.ofNat m):=by
 have y1:(UInt64.ofNat m).toNat=m:=YY F0;have s1:Cq (1:UInt64) (GI.toZ (32:UInt64)).toNat=0:=F3
 have s2:Cq (UInt64.ofNat m) (GI.toZ (32:UInt64)).toNat=0:=by
  apply UInt64.toNat_inj.1;rw[JJ,y1];exact VJ (WR h F3)
 have s0:Cq (0:UInt64) (GI.toZ (32:UInt64)).toNat=0:=F3
 have a1:Ev (1:UInt64) (4294967295:UInt64)=1:=F3
 have a0:Ev (0:UInt64) (4294967295:UInt64)=0:=F3
 have a2:Ev (UInt64.ofNat m) (4294967295:UInt64)=UInt64.ofNat m:=by
  apply UInt64.toNat_inj.1;rw[N5,iG,y1]
  show m&&& (2^32-1)=m;rw[dC,DM F0]
 have m1:∀x:UInt64,Br 1 x=x:=λx=>by rw[OL,UInt64.one_mul]
 have m0:∀x:UInt64,Br 0 x=0:=λx=>by rw[OL,UInt64.zero_mul]
 have p0:∀x:UInt64,Ae 0 x=x:=λx=>by rw[OR,UInt64.zero_add]
 have p1:∀x:UInt64,Ae x 0=x:=λx=>by rw[OR,UInt64.add_zero]
 rw[CF,QN];simp only[s1,s2,a1,a2,m1,m0,p0,p1,s0,a0,Aa]
theorem Auz(v:Int)(m:Nat)(hm:m<=100000):∀(j n q:Nat),1<=n->n<=m->m-n<=j->j<q->Fi q (n:Int) (List.replicate n v++List.replicate (m-n) 0)=some (List.replicate m v)
 |j,n,q+1,hn,hnm,hj,hq=>by
  have hlen:Ac (List.replicate n v++List.replicate (m-n) 0)=(m:Int):=by simp[Ac];omega
  rw[Fi,Ib,hlen];by_cases h:n<m
  ·obtain⟨j,rfl⟩:∃k,j=k+1:=⟨j-1,F0⟩;rw[CD F9];have v1:VA (m:Int) (n:Int) (m:Int)=some ():=by rw[VA,Bq];simp;omega
   have v2:VA (m:Int) (0:Int) (n:Int)=some ():=by rw[VA,Bq];simp;omega
   have e1:JV (List.replicate n v++List.replicate (m-n) 0) (0:Int) ((n:Int)-0)=List.replicate n v:=by
    simp[JV]
   rw[v1,Aa,v2,Aa,e1];have e2:IK ((m:Int)-(n:Int)) (List.replicate n v).length=((min n (m-n):Nat):Int):=by
    rw[IK,T_];split<;>omega
   have e3:Rv (List.replicate n v++List.replicate (m-n) 0) (n:Int) ((m:Int)-(n:Int)) (List.replicate n v)=List.replicate (n+min n (m-n)) v++List.replicate (m-(n+min n (m-n))) 0:=by
    have t1:((m:Int)-(n:Int)).toNat=m-n:=F0
    have t2:(List.replicate n v++List.replicate (m-n) (0:Int)).take n=List.replicate n v:=by simp
    rw[Rv,t1,O1,t2,List.take_replicate,T_,<-RD,List.replicate_append_replicate,oX,T_,Nat.min_comm (m-n) n];simp only[List.drop_replicate];rw[show n-(n+min n (m-n))=0 by omega,List.replicate_zero,RI,show m-n-(n+min n (m-n)-n)=m-(n+min n (m-n)) by omega]
   rw[e2,e3,Ag,show(n:Int)+((min n (m-n):Nat):Int)=((n+min n (m-n):Nat):Int) by omega];exact Auz v m hm j (n+min n (m-n)) q F0 F0 F0 F0
  ·rw[B! F9];obtain rfl:n=m:=F0
   simp[Kn,Pp]
theorem Ahc(v:Int)(m:Nat)(hm:m<=100000):Ph [v] (m:Int)=some (List.replicate m v):=by
 have y1:(UInt64.ofNat m).toNat=m:=YY F0;have c1:(Ad (Ac [v]):UInt64)=1:=by rfl
 have c2:(Ad (m:Int):UInt64)=UInt64.ofNat m:=Vn m;have c3:(Ad (UInt64.ofNat m):Int)=(m:Int):=by rw[xM F0,y1]
 rw[Ph,Ra,B! S0,CI,Qv,c1,c2,mul_one m hm,Aa];simp only;rw[B! (by rw[XW,XW,y1];simp;show m<=9223372036854775807;omega),CB,Rc,c3,pW,Aa,Bq Y8,Aa,CG,O1];by_cases h0:m=0
 ·subst h0;have hF:As=(As-1)+1:=by have:=Aq;omega
  rw[hF,Fi,Ib];simp[Ac,PM,IK,Af,Kn,Pp]
 ·have:=Auz v m hm m 1 As F0 F0 F0 F8;have e1:IK (Ac (List.replicate m (0:Int))) [v].length=((1:Nat):Int):=by simp[IK,Ac];omega
  have e2:PM (List.replicate m (0:Int)) [v]=List.replicate 1 v++List.replicate (m-1) 0:=by
   obtain⟨k,rfl⟩:∃k,m=k+1:=⟨m-1,F0⟩;simp[PM]
  rw[e1,e2,this]
theorem Agu(l m:LI)(h:l.length+m.length<=1000000):Oz [l,m]=some (l++m):=by
 have hF:As=(As-3)+1+1+1:=by have:=Aq;omega
 rw[Oz,Qy,BT];have g0:Aj [l,m] (0:Int)=some l:=rfl;have g1:Aj [l,m] (1:Int)=some m:=rfl;have l2:Ac [l,m]=2:=rfl;have h3:Pv [l,m] []=some (l++m):=by
  rw[Pv,Pq,Pu,hF,Ex,Hj,l2,CD F3,g0,Aa,Bi F7,Aa,RI,show Ae (0:Int) 1=1 by decide,
   Ex,Hj,l2,CD F3,g1,Aa,Bi,Aa,show Ae (1:Int) 1=2 by decide,Ex,Hj,l2,B! F3]
  rfl
 rw[hF,Fh,Hy,l2,CD F3,g0,Aa,Ag V! V!,B! cG,show Ae (0:Int) 1=1 by decide,
  Fh,Hy,l2,CD F3,g1,Aa,Ag V! V!,B! Wl,show Ae (1:Int) 1=2 by decide,
  Fh,Hy,l2,B! F3,Agg,Pw,B! Wl,AA,Pr]
 have z:Am (0:Int) 0=0:=F3
 have n0:(0:Int)+Ac l+Ac m=((l.length+m.length:Nat):Int):=by simp[Ac]
 rw[z,n0,Cc,Int.sub_zero];by_cases hp:0<l.length+m.length
 ·rw[CD R7,show VA (0:Int) 0 0=some ()from rfl,Aa,pW,Aa,Bi F7,Aa];rw[show VA (Ac ([]++List.replicate ((l.length+m.length:Nat):Int).toNat (0:Int))) 0 0=some () by rw[VA,Bq];simp[Ac];omega,Aa];simp only[JV,Int.sub_self,iS,W8];exact h3
 ·rw[B! R7];exact h3
theorem Alk{r n:Nat}(h1:1<=r)(h:r<=1048576)(n1:1<=n)(n2:n<=4000)(hk:(n-1)/Al r+1<=1000):XI (r:Int) (n:Int)=some (Ap (Al r) n,0):=by
 have hp:=Iw r;have hl:=OG h;have hd:=X? (n-1) (Al r);rw[XI,K2 h1 h n1 n2,B! F0,Aa];simp only;rw[B! M_,aI h1 h,Aa];simp only;rw[Ap];generalize(n-1)/Al r=k at*
 have e1:Am ((k+1:Nat):Int) 1=(k:Int):=by rw[Cc];omega
 have e2:(k:Int)*(Al r:Int)=((k*Al r:Nat):Int):=by simp
 rw[e1,Ahc _ _ F0,Aa,Fg (by rw[e2];omega) (by rw[e2];omega),e2,Cc,UU,Agu _ _ F7,Aa,Aa,show(n:Int)-((k*Al r:Nat):Int)=((n-k*Al r:Nat):Int) by omega]
def Kj(f c w r n:Nat):Bool:=decide ((f=1\/f=2)/\ (1<=c/\c<=6)/\ (w=8\/w=16\/w=24)/\ (1<=r/\r<=1048576)/\1<=n)
def QF(c r n:Nat):Bool:=decide (n<=4000/c/\ (n-1)/Al r+1<=1000)
theorem XF(f c w r n:Nat):Qt (f:Int) (c:Int) (w:Int) (r:Int) (n:Int)=some (Kj f c w r n):=by
 have e2:Sp (f:Int) (c:Int) (w:Int) (r:Int) (n:Int)=some (decide ((f=1\/f=2)/\ (1<=c/\c<=6)/\ (1<=r/\r<=1048576)/\1<=n)):=by
  rw[Sp,LW];congr 1;rw[O3];simp only[Ax,Au,KO,DG,SU,RG,E3];omega
 have g:∀k:Nat,geq (w:Int) (k:Int)=decide (w=k):=λk=>by rw[Ax,O3];simp;omega
 have g8:geq (w:Int) (8:Int)=decide (w=8):=g 8;have g16:geq (w:Int) (16:Int)=decide (w=16):=g 16;have g24:geq (w:Int) (24:Int)=decide (w=24):=g 24;rw[Qt,LM,e2,g8,g16,g24,Kj];by_cases h8:w=8
 ·subst h8;simp
 ·by_cases h16:w=16
  ·subst h16;simp
  ·by_cases h24:w=24
   ·subst h24;simp
   ·simp[h8,h16,h24]
theorem rQ(f c w r n:Nat):Jz (f:Int) (c:Int) (w:Int) (r:Int) (n:Int)=some (Kj f c w r n):=by
 rw[Jz,Kj];simp only[Ax,Dq,KO,DG,SU,RG,E3,Y3];split
 ·rename_i h;congr 1;rw[O3];simp only[DG,SU,RG,E3];omega
 ·rename_i h;congr 1;symm;rw[W5];omega
theorem yC{c:Nat}(h:1<=c):Ci (4000:Int) (c:Int)=((4000/c:Nat):Int):=by
 have:4000/c<=4000:=RS _ _;rw[QC,XL F0,show(4000:Int)=((4000:Nat):Int)from rfl,<-og];generalize 4000/c=k at*
 exact Db F0 F0
theorem mZ{f c w r n:Nat}(h:Kj f c w r n=true):PD (f:Int) (c:Int) (w:Int) (r:Int) (n:Int)=some (QF c r n):=by
 simp only[Kj,E3]at h;have hd:4000/c<=4000:=RS _ _;rw[PD,Bq RL,Aa,yC F0,QF];generalize 4000/c=m at*
 by_cases h1:n<=m
 ·rw[B! R7,K2 F0 F0 F0 F0,Aa];generalize(n-1)/Al r+1=k;by_cases h2:1000<k
  ·rw[CD h2];simp[Ax,KO];omega
  ·rw[B! h2];simp[Ax,KO,h1];omega
 ·rw[CD R7];simp[h1]
theorem S7{f c w r n:Nat}(h:Kj f c w r n=true):Xe (f:Int) (c:Int) (w:Int) (r:Int) (n:Int)=some (!QF c r n):=by
 simp only[Kj,E3]at h;have hd:4000/c<=4000:=RS _ _;rw[Xe,Bq RL,Aa,yC F0,QF];generalize 4000/c=m at*
 by_cases h1:n<=m
 ·rw[B! R7,M8 F0 F0 F0,Aa,Ac,jY];generalize(n-1)/Al r+1=k;congr 1;rw[Au,O3];simp only[E3,S4,W5];omega
 ·rw[CD R7];simp[h1]
def AB:LB:=[84,84,65,49]
def f0(b:LB):Nat:=Ff (part b 4 2)
def f1(b:LB):Nat:=Ff (part b 6 2)
def f2(b:LB):Nat:=Ff (part b 8 2)
def f3(b:LB):Nat:=Ff (part b 10 4)
def f4(b:LB):Nat:=Ff (part b 14 4)
abbrev H6:=Int×Int×Int×Int×Int×Int
def Fo(b:LB):H6:=
 if b.take (min 4 b.length)≠AB.take (min 4 b.length)then(0,0,0,0,0,12)else if b.length<22 then(0,0,0,0,0,24)else
 if(Fe (b.take 18)).toNat≠Ff (part b 18 4)then(0,0,0,0,0,22)else
 if Kj (f0 b) (f1 b) (f2 b) (f3 b) (f4 b)=false then(0,0,0,0,0,12)else
 if QF (f1 b) (f3 b) (f4 b)=false then(0,0,0,0,0,4)else((f0 b:Int),(f1 b:Int),(f2 b:Int),(f3 b:Int),(f4 b:Int),0)
section
variable {b:LB}
theorem rs1(h:b.take (min 4 b.length)≠AB.take (min 4 b.length)):Fo b=(0,0,0,0,0,12):=by rw[Fo,CD h]
variable (h:b.take (min 4 b.length)=AB.take (min 4 b.length))
include h
theorem rs2(h2:b.length<22):Fo b=(0,0,0,0,0,24):=by rw[Fo,B! (λe=>e h),CD h2]
variable (h2:¬b.length<22)
include h2
theorem rs3(h3:(Fe (b.take 18)).toNat≠Ff (part b 18 4)):Fo b=(0,0,0,0,0,22):=by rw[Fo,B! (λe=>e h),B! h2,CD h3]
variable (h3:(Fe (b.take 18)).toNat=Ff (part b 18 4))
include h3
theorem rs4(h4:Kj (f0 b) (f1 b) (f2 b) (f3 b) (f4 b)=false):Fo b=(0,0,0,0,0,12):=by rw[Fo,B! (λe=>e h),B! h2,B! (λe=>e h3),CD h4]
variable (h4:Kj (f0 b) (f1 b) (f2 b) (f3 b) (f4 b)=true)
include h4
theorem rs5(h5:QF (f1 b) (f3 b) (f4 b)=false):Fo b=(0,0,0,0,0,4):=by rw[Fo,B! (λe=>e h),B! h2,B! (λe=>e h3),B! (by rw[h4];simp),CD h5]
theorem rs6(h5:QF (f1 b) (f3 b) (f4 b)=true):Fo b=((f0 b:Int),(f1 b:Int),(f2 b:Int),(f3 b:Int),(f4 b:Int),0):=by rw[Fo,B! (λe=>e h),B! h2,B! (λe=>e h3),B! (by rw[h4];simp),B! (by rw[h5];simp)]
end
theorem tV(b:LB)(h2:¬b.length<22):Bj (Ad (Fe (b.take 18)):UInt64) (pJ (part b 18 4))=decide ((Fe (b.take 18)).toNat≠Ff (part b 18 4)):=by
 rw[SK,Dr,O3];simp only[V?,ne_eq,E3];rw[<-Y1,YY (by have:=(Fe (b.take 18)).toNat_lt;omega),YZ T?]
theorem jI(b:LB)(a w:Nat)(i q:Nat)(l:LI)(hi:i<5)(hl:l.length=5)(hw:Aj ([2,2,2,4,4]:LI) (i:Int)=some (w:Int))(h1:1<=w)(h4:w<=4)(ha:a+w<=b.length)(hb:b.length<4611686018427387904):
  Ny b (q+1) (a:Int) (i:Int) l=Ny b q ((a+w:Nat):Int) ((i+1:Nat):Int) (l.set i (Ff (part b a w):Int)):=by
 rw[Ny,GK,CD F9,hw,Aa,X9 b a w h1 F0 ha hb,Aa];simp only;rw[Cj,Aa,Uh _ F0,Aa,ND (by rw[Em ha];omega),Ag,Ag];rfl
theorem Ajk(b:LB)(h22:¬b.length<22)(hb:b.length<4611686018427387904):UL b 4 0 (List.replicate 5 0)=GJ [(f0 b:Int),(f1 b:Int),(f2 b:Int),(f3 b:Int),(f4 b:Int)]:=by
 have hF:As=(As-6)+1+1+1+1+1+1:=by have:=Aq;omega
 rw[UL,hF,show(4:Int)=((4:Nat):Int)from rfl,show(0:Int)=((0:Nat):Int)from rfl];rw[jI b 4 2 0 _ _ F0 CH rfl F0 F0 F0 hb,jI b 6 2 1 _ _ F0 CH rfl F0 F0 F0 hb,jI b 8 2 2 _ _ F0 CH rfl F0 F0 F0 hb,
  jI b 10 4 3 _ _ F0 CH rfl F0 F0 F0 hb,jI b 14 4 4 _ _ F0 CH rfl F0 F0 F0 hb,Ny,GK,B! S0]
 rfl
theorem Avd(b:LB):Je [84,84,65,49] (b.take (min 4 b.length))=some (decide (b.take (min 4 b.length)=AB.take (min 4 b.length))):=by
 have hl:(b.take (min 4 b.length)).length=min 4 b.length:=by rw[JW];omega
 rw[Je,Hf,CD (by rw[Dq,Ac,Ac,hl];simp;omega),Ac,hl,Dg F0 F7,Aa,Aa,O1];congr 1;rw[O3];rw[E3,RG];exact eq_comm
theorem zF(b:LB):Ee (4:Int) (Ac b)=((min 4 b.length:Nat):Int):=by rw[AK,Ac];omega
theorem wX(b:LB)(hb:b.length<4611686018427387904):Qi b=some (Fo b):=by
 rw[Qi,VL,zF,Dg,Aa,O1,Avd,Aa];by_cases h:b.take (min 4 b.length)=AB.take (min 4 b.length)
 ·rw[B! (by simpa using h)];by_cases h2:b.length<22
  ·rw[CD F2,rs2 h h2]
  ·have a1:cA b 18 4=some (pJ (part b 18 4),0):=X9 b 18 4 F0 F0 F0 hb;rw[B! F2,a1,Aa];simp only;rw[Dg,Aa,show(18:Int).toNat=18 from rfl,wM _ F7,Aa];simp only;rw[tV b h2];by_cases h3:(Fe (b.take 18)).toNat=Ff (part b 18 4)
   ·rw[B! (by simpa using h3),Ajk b h2 hb,GJ,Api];rw[show Aj [(f0 b:Int),(f1 b:Int),(f2 b:Int),(f3 b:Int),(f4 b:Int)] 0=some (f0 b:Int)from rfl,show Aj [(f0 b:Int),(f1 b:Int),(f2 b:Int),(f3 b:Int),(f4 b:Int)] 1=some (f1 b:Int)from rfl,show Aj [(f0 b:Int),(f1 b:Int),(f2 b:Int),(f3 b:Int),(f4 b:Int)] 2=some (f2 b:Int)from rfl,
     show Aj [(f0 b:Int),(f1 b:Int),(f2 b:Int),(f3 b:Int),(f4 b:Int)] 3=some (f3 b:Int)from rfl,show Aj [(f0 b:Int),(f1 b:Int),(f2 b:Int),(f3 b:Int),(f4 b:Int)] 4=some (f4 b:Int)from rfl]
    simp only[Aa,XF];cases h4:Kj (f0 b) (f1 b) (f2 b) (f3 b) (f4 b)with
    |false=>rw[rs4 h h2 h3 h4];rfl
    |true=>
     rw[mZ h4,B! CH,Aa];cases h5:QF (f1 b) (f3 b) (f4 b)with
     |false=>rw[rs5 h h2 h3 h4 h5];rfl
     |true=>rw[rs6 h h2 h3 h4 h5];rfl
   ·rw[CD (by simpa using h3),rs3 h h2 h3]
 ·rw[CD (by simpa using h),rs1 h]
theorem G2(b:LB)(hb:b.length<4611686018427387904):Xc b=some (Fo b):=by
 rw[Xc,NV,zF,Dg,Aa,O1,Dg F0 F7,Aa,O1];by_cases h:b.take (min 4 b.length)=AB.take (min 4 b.length)
 ·rw[B! (by rw[h];simp[AB]),OW,NY];by_cases h2:b.length<22
  ·rw[CD F2,rs2 h h2]
  ·have a1:Bp b 18 22=some (part b 18 4):=Qn 18 4;have c1:Bp b 4 6=some (part b 4 2):=Qn 4 2;have c2:Bp b 6 8=some (part b 6 2):=Qn 6 2;have c3:Bp b 8 10=some (part b 8 2):=Qn 8 2;have c4:Bp b 10 14=some (part b 10 4):=Qn 10 4;have c5:Bp b 14 18=some (part b 14 4):=Qn 14 4;have hs:Bj (pJ (part b 18 4)) (Ad (Fe (b.take 18)):UInt64)=decide ((Fe (b.take 18)).toNat≠Ff (part b 18 4)):=by
    rw[<-tV b h2,SK,SK,O3];simp only[V?,ne_eq];exact not_congr eq_comm
   have lp:∀a w,a+w<=b.length->Ed (part b a w)=some (pJ (part b a w)):=λa w h=>r! _ (by rw[Em h];omega);rw[B! F2,a1,Aa,Dg,Aa,show(18:Int).toNat=18 from rfl,lp _ _ F0,Aa,kC _ F7,Aa,hs];by_cases h3:(Fe (b.take 18)).toNat=Ff (part b 18 4)
   ·rw[B! (by simpa using h3),PA,OJ,c1,Aa,c2,Aa,c3,Aa,c4,Aa,c5,Aa,lp _ _ F0,Aa,lp _ _ F0,Aa,lp _ _ F0,Aa,lp _ _ F0,Aa,lp _ _ F0,Aa,
     OT,OI,ND T?,ND T?,ND T?,ND T?,ND T?]
    rw[show Ff (part b 4 2)=f0 b from rfl,show Ff (part b 6 2)=f1 b from rfl,show Ff (part b 8 2)=f2 b from rfl,show Ff (part b 10 4)=f3 b from rfl,show Ff (part b 14 4)=f4 b from rfl,rQ,Aa];cases h4:Kj (f0 b) (f1 b) (f2 b) (f3 b) (f4 b)with
    |false=>rw[rs4 h h2 h3 h4];rfl
    |true=>
     rw[S7 h4,B! CH,Aa];cases h5:QF (f1 b) (f3 b) (f4 b)with
     |false=>rw[rs5 h h2 h3 h4 h5];rfl
     |true=>rw[rs6 h h2 h3 h4 h5];rfl
   ·rw[CD (by simpa using h3),rs3 h h2 h3]
 ·rw[CD (by simpa [AB]using h),rs1 h]
theorem Asr{b:LB}(h:(Fo b).2.2.2.2.2=0):Fo b=((f0 b:Int),(f1 b:Int),(f2 b:Int),(f3 b:Int),(f4 b:Int),0)/\22<=b.length/\Kj (f0 b) (f1 b) (f2 b) (f3 b) (f4 b)=true/\QF (f1 b) (f3 b) (f4 b)=true:=by
 unfold Fo at h⊢;split at h; · simp at h
 rename_i c1;rw[B! c1];split at h; · simp at h
 rename_i c2;rw[B! c2];split at h; · simp at h
 rename_i c3;rw[B! c3];split at h; · simp at h
 rename_i c4;rw[B! c4];split at h; · simp at h
 rename_i c5;rw[B! c5];exact⟨rfl,F0,by simpa using c4,by simpa using c5⟩
theorem Awn{f c w r n:Nat}(h:Kj f c w r n=true)(h2:QF c r n=true):Ei (f:Int) (c:Int) (w:Int) (r:Int) (n:Int)=some (Ap (Al r) n,0):=by
 have hc:Mz (f:Int) (c:Int) (w:Int) (r:Int) (n:Int)=some 0:=by
  rw[Mz,XF,Aa,h,B! CH,mZ h,Aa,h2];rfl
 have hd:4000/c<=4000:=RS _ _;simp only[Kj,E3]at h;simp only[QF,E3]at h2;rw[Ei,hc,Aa,B! M_,Alk F0 F0 F0 F0 h2.2];rfl
def okL:LI->Int->Bool
 |[],_=>true
 |x::l,left=>decide (5<=x/\x<=left)&&okL l (left-x)
theorem l?:∀l:LI,(∀x∈l,5<=x)->0<=l.sum
 |[],_=>by simp
 |x::l,h=>by
  have h1:=h x TR;have h2:=l? l λy hy=>h y (RK _ hy);rw[RV];omega
theorem IC:∀(l:LI) (left:Int),0<=left-> (okL l left=true↔(∀x∈l,5<=x)/\l.sum<=left)
 |[],left,h=>by simp[okL];exact h
 |x::l,left,h=>by
  rw[okL,DG,E3,RV];by_cases hx:5<=x/\x<=left
  ·rw[IC l (left-x) F0];constructor
   ·rintro⟨_,h1,h2⟩;exact⟨λy hy=>(List.mem_cons.1 hy).elim (λe=>e▸hx.1) (h1 y),F0⟩
   ·rintro⟨h1,h2⟩;exact⟨hx,λy hy=>h1 y (RK _ hy),F0⟩
  ·constructor
   ·rintro⟨h1,_⟩;exact absurd h1 hx
   ·rintro⟨h1,h2⟩;have h3:=h1 x TR;have:0<=l.sum:=l? l λy hy=>h1 y (RK _ hy);omega
theorem Q0(l:LI)(hl:l.length<=1000):∀(j i q:Nat) (left:Int),i+j=l.length->j<q->0<=left->left<=100000->Sm l q left (i:Int)=some (if okL (l.drop i) left=true then 0 else 8)
 |0,i,q+1,left,hi,_,_,_=>by
  rw[Sm,JL,B! F2,show i=l.length by omega,VM];rfl
 |j+1,i,q+1,left,hi,hq,h0,h1=>by
  have hlt:i<l.length:=F0
  rw[Sm,JL,CD F2,Cj hlt,Aa,drop_cons hlt];by_cases h:5<=l[i]/\l[i]<=left
  ·rw[B! SY,Cc,Ag];have ih:=Q0 l hl j (i+1) q (left-l[i]) F0 F0 F0 F0;rw[show((i:Int)+1)=((i+1:Nat):Int) by omega,ih];simp[okL,h]
  ·rw[CD SY];have:okL (l[i]::l.drop (i+1)) left=false:=by rw[okL,UA h];rfl
   rw[this];rfl
def Xh(l:LI):Bool:=decide (1<=l.length/\l.length<=1000)&&okL l 100000
theorem Axm(l:LI)(hl:l.length<=1000):Qr l=some (if Xh l=true then 0 else 8):=by
 rw[Qr,II,Xh];by_cases h:1<=l.length
 ·rw[B! (by rw[Ax,Au,Ac];simp;constructor;(intro e;subst e;simp at h);omega),Ap6];have:=Q0 l hl l.length 0 As 100000 F0 F8 F0 F0;rw[Ys]at this;rw[UI (show 1<=l.length/\l.length<=1000 from⟨h,hl⟩),V8];exact this
 ·have:l=[]:=by
   cases l with
   |nil=>rfl
   |cons _ _=>simp at h
  subst this;rfl
theorem Alo(l:LI)(hl:l.length<=1000):∀(j i q:Nat) (s:Int),i+j=l.length->j<q->0<=s->s<=100000*(i:Int)->Lc l q s (i:Int)=some (if(∀x∈l.drop i,5<=x/\x<=100000)/\s+(l.drop i).sum<=100000 then 0 else 8)
 |0,i,q+1,s,hi,_,_,_=>by
  rw[Lc,Wc,B! F2,show i=l.length by omega,VM,IG,IZ];by_cases h:s<=100000
  ·rw[B! R7,CD F7]
  ·rw[CD R7,B! F7]
 |j+1,i,q+1,s,hi,hq,h0,h1=>by
  have hlt:i<l.length:=F0
  rw[Lc,Wc,CD F2,Cj hlt,Aa,drop_cons hlt];by_cases h5:l[i]<5
  ·rw[CD (by rw[Af];simpa using h5),B! (λh=>by have:=(h.1 l[i] TR).1;omega)]
  ·rw[B! (by rw[Af];simpa using h5),Aa];by_cases h6:100000<l[i]
   ·rw[CD (by rw[Au];simpa using h6),B! (λh=>by have:=(h.1 l[i] TR).2;omega)]
   ·rw[B! (by rw[Au];simpa using h6),KL,KH,Cj hlt,Aa,Ag,Ag];have ih:=Alo l hl j (i+1) q (s+l[i]) F0 F0 F0 F0;rw[show((i:Int)+1)=((i+1:Nat):Int) by omega,ih];have e:((∀x∈l.drop (i+1),5<=x/\x<=100000)/\s+l[i]+(l.drop (i+1)).sum<=100000)↔((∀x∈l[i]::l.drop (i+1),5<=x/\x<=100000)/\s+(l[i]::l.drop (i+1)).sum<=100000):=by
     rw[RV,List.forall_mem_cons,Int.add_assoc];constructor
     ·rintro⟨a,b⟩;exact⟨⟨F0,a⟩,b⟩
     ·rintro⟨⟨_,a⟩,b⟩;exact⟨a,b⟩
    simp only[e]
theorem D6:∀{l:LI},(∀x∈l,5<=x)->∀x∈l,x<=l.sum
 |[],_,x,hx=>by simp at hx
 |y::l,h,x,hx=>by
  have h1:=h y TR;have h2:=l? l λz hz=>h z (RK _ hz);rw[RV];rcases List.mem_cons.1 hx with rfl|hx
  ·omega
  ·have:=D6 (l:=l) (λz hz=>h z (RK _ hz)) x hx;omega
theorem Axl (l:LI)(hl:l.length<=1000):Ig l=some (if Xh l=true then 0 else 8):=by
 rw[Ig,Vp,Xh];by_cases h:1<=l.length
 ·have:=Alo l hl l.length 0 As 0 F0 F8 F0 F0;rw[B! (by rw[Af,Au,Ac];simp;omega),KT];refine R? this ?_;rw[Ys,UI (show 1<=l.length/\l.length<=1000 from⟨h,hl⟩),V8];have e:((∀x∈l,5<=x/\x<=100000)/\0+l.sum<=100000)↔okL l 100000=true:=by
   rw[IC l 100000 F0,Int.zero_add];constructor
   ·rintro⟨a,b⟩;exact⟨λx hx=>(a x hx).1,b⟩
   ·rintro⟨a,b⟩;exact⟨λx hx=>⟨a x hx,Int.le_trans (D6 a x hx) b⟩,b⟩
  simp only[e]
 ·have:l=[]:=by
   cases l with
   |nil=>rfl
   |cons _ _=>simp at h
  subst this;rfl
theorem TK(l:LI):Qr l=some (if Xh l=true then 0 else 8):=by
 by_cases hl:l.length<=1000
 ·exact Axm l hl
 ·rw[Qr,II,CD PO,Xh,UA F0];rfl
theorem ZO(l:LI):Ig l=some (if Xh l=true then 0 else 8):=by
 by_cases hl:l.length<=1000
 ·exact Axl l hl
 ·rw[Ig,Vp,CD PO,Xh,UA F0];rfl
theorem Ab0(l:LI)(hl:l.length<=1000)(hx:∀x∈l,0<=x/\x<4294967296):Qr l=some (if Xh l=true then 0 else 8):=TK l
theorem Afm(l:LI)(hl:l.length<=1000)(hx:∀x∈l,0<=x/\x<4294967296):Ig l=some (if Xh l=true then 0 else 8):=ZO l
def SX(b:LB)(n:Nat):LI:=(List.range n).map λi=>(Ff (part b (4*i) 4):Int)
theorem OE(b:LB)(n:Nat):(SX b n).length=n:=by simp[SX]
theorem Ae5(b:LB)(n:Nat):SX b (n+1)=SX b n++[(Ff (part b (4*n) 4):Int)]:=by simp[SX,eN]
theorem pR(b:LB)(n:Nat)(h:4*n<=b.length):∀x∈SX b n,0<=x/\x<4294967296:=by
 intro x hx;simp only[SX,iR,h_]at hx;obtain⟨i,hi,rfl⟩:=hx;have:=sI (l:=part b (4*i) 4) T?;omega
def Kg(b:LB)(n:Nat):LI×Int:=
 if ¬(1<=n/\n<=1000)then([],2)else if b.length<4*n+4 then([],24)else if(Fe (b.take (4*n))).toNat≠Ff (part b (4*n) 4)then([],22)else
 if Xh (SX b n)=true then(SX b n,0)else([],12)
theorem pX{b:LB}{n:Nat}(h:1<=n/\n<=1000)(h2:¬b.length<4*n+4):Bj (Ad (Fe (b.take (4*n))):UInt64) (pJ (part b (4*n) 4))=decide ((Fe (b.take (4*n))).toNat≠Ff (part b (4*n) 4)):=by
 rw[SK,Dr,O3];simp only[V?,ne_eq,E3];rw[<-Y1,YY (by have:=(Fe (b.take (4*n))).toNat_lt;omega),YZ T?]
section
variable {b:LB} {n:Nat}
theorem ss1(h:¬(1<=n/\n<=1000)):Kg b n=([],2):=by rw[Kg,CD h]
variable (h:1<=n/\n<=1000)
include h
theorem ss2(h2:b.length<4*n+4):Kg b n=([],24):=by rw[Kg,B! (λe=>e h),CD h2]
variable (h2:¬b.length<4*n+4)
include h2
theorem ss3(h3:(Fe (b.take (4*n))).toNat≠Ff (part b (4*n) 4)):Kg b n=([],22):=by rw[Kg,B! (λe=>e h),B! h2,CD h3]
theorem ss4(h3:(Fe (b.take (4*n))).toNat=Ff (part b (4*n) 4)):Kg b n=if Xh (SX b n)=true then(SX b n,0)else([],12):=by rw[Kg,B! (λe=>e h),B! h2,B! (λe=>e h3)]
end
theorem Alj(b:LB)(l8:LI)(n:Nat)(hn:n<=1000)(h8:l8.length=n)(hb:4*n+4<=b.length)(hb2:b.length<4611686018427387904):∀(j i q:Nat),i+j=n->j<q->Vh b l8 q (i:Int) (SX b i++List.replicate j 0)=MR (SX b n)
 |0,i,q+1,hi,_=>by
  obtain rfl:i=n:=F0
  rw[Vh,MV,B! F2];simp
 |j+1,i,q+1,hi,hq=>by
  have hlen:(SX b i++List.replicate (j+1) 0).length=i+(j+1):=by simp[OE]
  have ha:=X9 b (4*i) 4 F0 F0 F0 hb2;rw[Vh,MV,CD F2,Fg,show(4:Int)*(i:Int)=((4*i:Nat):Int) by omega,show(4:Int)=((4:Nat):Int)from rfl,ha,Aa];simp only;rw[Cj (by rw[hlen];omega),Aa,Uh _ (by rw[hlen];omega),Aa,ND T?,Ag,VB,mP (OE _ _)];have ih:=Alj b l8 n hn h8 hb hb2 j (i+1) q F0 F0;rw[Ae5]at ih;rw[show((i:Int)+1)=((i+1:Nat):Int) by omega,<-ih];simp
theorem Aq5(b:LB)(n:Nat)(hb:b.length<=100100):UX b (n:Int)=some (Kg b n):=by
 rw[UX,aD];by_cases h:1<=n/\n<=1000
 ·rw[B! SY,Fg,Ag];by_cases h2:b.length<4*n+4
  ·rw[CD F2,ss2 h h2]
  ·have ha:cA b (4*(n:Int)) 4=some (pJ (part b (4*n) 4),0):=by
    rw[show(4:Int)*(n:Int)=((4*n:Nat):Int) by omega];exact X9 b (4*n) 4 F0 F0 F0 F0
   rw[B! F2,ha,Aa];simp only;rw[Dg,Aa,show(4*(n:Int)).toNat=4*n by omega,wM _ F7,Aa];simp only;rw[pX h h2];by_cases h3:(Fe (b.take (4*n))).toNat=Ff (part b (4*n) 4)
   ·have hlp:=Alj b (List.replicate n 0) n F0 CH F0 F0 n 0 As F0 F8;rw[B! (by simpa using h3),pW,Aa,Bq Y8,Aa,Ari,O1];refine R? (hlp) ?_;rw[MR,As8,Ab0 _ (by rw[OE];omega) (pR b n F0),Aa,ss4 h h2 h3];cases Xh (SX b n)<;>rfl
   ·rw[CD (by simpa using h3),ss3 h h2 h3]
 ·rw[CD SY,ss1 h]
theorem Arr(b:LB)(n:Nat)(hn:n<=1000)(hb:4*n+4<=b.length)(hb2:b.length<4611686018427387904):∀(j i q:Nat),i+j=n->j<q->Lq b (n:Int) q (i:Int) (SX b i)=Yb (SX b n)
 |0,i,q+1,hi,_=>by
  obtain rfl:i=n:=F0
  rw[Lq,Xv,B! S0]
 |j+1,i,q+1,hi,hq=>by
  have hc:Bp b ((4:Int)*(i:Int)) ((4:Int)*(i:Int)+4)=some (part b (4*i) 4):=by
   rw[show(4:Int)*(i:Int)=((4*i:Nat):Int) by omega];exact Qn (4*i) 4
  rw[Lq,Xv,CD F9,Fg,Ag,hc,Aa,r! _ T?,Aa,Bi (by rw[OE];simp;omega),Aa,
   ND T?,Ag,<-Ae5]
  exact Arr b n hn hb hb2 j (i+1) q F0 F0
theorem Alb(b:LB)(n:Nat)(hb:b.length<=100100):IP b (n:Int)=some (Kg b n):=by
 rw[IP,NL];by_cases h:1<=n/\n<=1000
 ·rw[B! SY,Fg,Ag];by_cases h2:b.length<4*n+4
  ·rw[CD F2,ss2 h h2]
  ·have hc:Bp b ((4:Int)*(n:Int)) ((4:Int)*(n:Int)+4)=some (part b (4*n) 4):=by
    rw[show(4:Int)*(n:Int)=((4*n:Nat):Int) by omega];exact Qn (4*n) 4
   have hs:Bj (pJ (part b (4*n) 4)) (Ad (Fe (b.take (4*n))):UInt64)=decide ((Fe (b.take (4*n))).toNat≠Ff (part b (4*n) 4)):=by
    rw[<-pX h h2,SK,SK,O3];simp only[V?,ne_eq];exact not_congr eq_comm
   rw[B! F2,hc,Aa,Dg,Aa,show(4*(n:Int)).toNat=4*n by omega,r! _ T?,Aa,kC _ F7,Aa,hs];by_cases h3:(Fe (b.take (4*n))).toNat=Ff (part b (4*n) 4)
   ·have hlp:=Arr b n F0 F0 F0 n 0 As F0 F8;rw[B! (by simpa using h3),NX,NK,PC];refine R? hlp ?_;rw[Yb,OP,Afm _ (by rw[OE];omega) (pR b n F0),Aa,ss4 h h2 h3];cases Xh (SX b n)<;>rfl
   ·rw[CD (by simpa using h3),ss3 h h2 h3]
 ·rw[CD SY,ss1 h]
theorem Akn{b:LB}{n:Nat}(h:(Kg b n).2=0):Kg b n=(SX b n,0)/\1<=n/\n<=1000/\4*n+4<=b.length/\ (∀x∈SX b n,5<=x)/\ (SX b n).sum<=100000:=by
 unfold Kg at h⊢;split at h; · simp at h
 rename_i c1;rw[B! c1];split at h; · simp at h
 rename_i c2;rw[B! c2];split at h; · simp at h
 rename_i c3;rw[B! c3];split at h
 ·rename_i c4;rw[CD c4];have c4':=c4;rw[Xh,DG,IC _ _ F0]at c4';exact⟨rfl,F0,F0,F0,c4'.2.1,c4'.2.2⟩
 ·simp at h
def Wa(b:LB):LB:=b.drop (Ds b).1.toNat
theorem jh(A K:Nat)(h:A<=200000)(hk:K<=1000):Ae (Ae (A:Int) (Br 4 (K:Int))) 4=((A+4*K+4:Nat):Int):=by
 rw[Fg,Ag (a:=(A:Int)) F0 F0,Ag];omega
theorem Ag2(l:LI)(i:Nat):(l.take i).sum+(l.drop i).sum=l.sum:=by
 conv=>rhs;rw[<-X6 i l,iM]
theorem Ar7{l:LI}{i:Nat}(h:i<l.length):(l.take (i+1)).sum=(l.take i).sum+l[i]:=by
 rw[Ns h,iM];simp
theorem LH{g n:Nat}(hg:1<=g)(hn:1<=n){x:Int}(h:x∈Ap g n):∃m:Nat,x=m/\1<=m/\m<=n:=by
 have hmul:=X? (n-1) g;rw[Ap,e?]at h;rcases h with h|h
 ·rw[List.mem_replicate]at h;have h1:1<= (n-1)/g:=Nat.pos_of_ne_zero h.1;have:=J? g h1;exact⟨g,h.2,hg,F0⟩
 ·rw[hH]at h;exact⟨_,h,F0,F0⟩
theorem sM{f c w r n:Nat}(h:Kj f c w r n=true):(1<=c/\c<=6)/\Cb (w:Int)/\ (1<=r/\r<=1048576)/\1<=n/\ (f=1\/f=2):=by
 simp only[Kj,E3]at h;refine⟨h.2.1,?_,h.2.2.2.1,h.2.2.2.2,h.1⟩;rcases h.2.2.1 with rfl|rfl|rfl
 ·exact .inl rfl
 ·exact .inr (.inl rfl)
 ·exact .inr (.inr rfl)
theorem VZ{p:Prop}(h:p:=by rw[JW];omega):p:=h
theorem Aqh(n m:Nat):Py n m 0≠Py n m 2147483648:=by
 intro h;simp[Py,Xj,B3]at h
def Cy(b:LB):LB:=b.drop (b.length-32)
theorem Atf{b:LB}(h:32<=b.length):(Cy b).length=32:=by rw[Cy,Q!];omega
def KS(t:LB):Nat:=Ff (part t 12 4)-32
def L4(t:LB):Nat:=Ff (part t 16 4)
def Ya(b:LB):Int×Int:=
 if ¬(32<=b.length/\ (Cy b).take 8=B3)then(0,6)else if FO (Cy b)=true then(0,12)else
 if Cy b=Py (KS (Cy b)) (L4 (Cy b)) 0 then(if b.length<KS (Cy b)+32 then(0,24)else(((KS (Cy b)+32:Nat):Int),0))else
 if Cy b≠Py (KS (Cy b)) (L4 (Cy b)) 2147483648 then(0,12)else
 if b.length<KS (Cy b)+64 then(0,24)else
 if(b.take (b.length-(KS (Cy b)+64)+32)).drop (b.length-(KS (Cy b)+64))≠Py (KS (Cy b)) (L4 (Cy b)) 2684354560 then(0,12)else(((KS (Cy b)+64:Nat):Int),0)
section
variable {b:LB}
theorem ba1(h:¬(32<=b.length/\ (Cy b).take 8=B3)):Ya b=(0,6):=by rw[Ya,CD h]
variable (h:32<=b.length/\ (Cy b).take 8=B3)
include h
theorem ba2(h2:FO (Cy b)=true):Ya b=(0,12):=by rw[Ya,B! (λh'=>h' h),CD h2]
variable (h2:FO (Cy b)=false)
include h2
theorem ba3(h3:Cy b=Py (KS (Cy b)) (L4 (Cy b)) 0):Ya b=if b.length<KS (Cy b)+32 then(0,24)else(((KS (Cy b)+32:Nat):Int),0):=by
 rw[Ya,B! (λh'=>h' h),B! (by rw[h2];simp),CD h3]
variable (h3:Cy b≠Py (KS (Cy b)) (L4 (Cy b)) 0)
include h3
theorem ba4(h4:Cy b≠Py (KS (Cy b)) (L4 (Cy b)) 2147483648):Ya b=(0,12):=by
 rw[Ya,B! (λh'=>h' h),B! (by rw[h2];simp),B! h3,CD h4]
variable (h4:Cy b=Py (KS (Cy b)) (L4 (Cy b)) 2147483648)
include h4
theorem ba5(h5:b.length<KS (Cy b)+64):Ya b=(0,24):=by
 rw[Ya,B! (λh'=>h' h),B! (by rw[h2];simp),B! h3,B! (λe=>e h4),CD h5]
theorem ba6(h5:¬b.length<KS (Cy b)+64):Ya b=if(b.take (b.length-(KS (Cy b)+64)+32)).drop (b.length-(KS (Cy b)+64))≠Py (KS (Cy b)) (L4 (Cy b)) 2684354560 then(0,12)else(((KS (Cy b)+64:Nat):Int),0):=by
 rw[Ya,B! (λh'=>h' h),B! (by rw[h2];simp),B! h3,B! (λe=>e h4),B! h5]
end
theorem Asa{b:LB}{n:Int}(h:Ya b=(n,0)):32<=n/\n<=b.length:=by
 unfold Ya at h;split at h; · simp at h
 rename_i h32;split at h; · simp at h
 split at h
 ·split at h; · simp at h
  simp only[G_,VX]at h;omega
 split at h; · simp at h
 split at h; · simp at h
 split at h; · simp at h
 simp only[G_,VX]at h;omega
theorem Afv{b:LB}(h:(Ya b).2≠0):(Ya b).1=0:=by
 revert h
 unfold Ya;split; · simp
 split; · simp
 split
 ·split<;>simp
 split; · simp
 split; · simp
 split<;>simp
theorem w!{b:LB}(h:32<=b.length)(hl:b.length<4611686018427387904):Am (Ac b) 32=((b.length-32:Nat):Int)/\Bp b ((b.length-32:Nat):Int) (Ac b)=some (Cy b):=by
 refine⟨by rw[Ac,Cc];omega,?_⟩;rw[Di];rfl
theorem Ahl(b:LB)(hl:b.length<4611686018427387904):sW b=some (Ya b):=by
 rw[sW,Avp];by_cases h32:32<=b.length
 ·obtain⟨e1,e2⟩:=w! h32 hl;have hl3:=Atf h32;rw[B! (by rw[e1,Af];simp),e1,e2,Aa,eD,Aa];by_cases hp:(Cy b).take 8=B3
  ·have h:=And.intro h32 hp;rw[B! (by simpa [B3,hl3]using hp),Aui,Aw8,e1,e2,Aa,eQ _ 0 F0 F0 F3,Aa];cases hb:FO (Cy b)with
   |true=>
    rw[ba2 h hb];simp only[U3,SD,RQ];rw[Aa,eQ _ 2147483648 F0 F0 F3,Aa,hb];rfl
   |false=>
    obtain⟨i1,i2,i3,i4⟩:=wF (Cy b) F0 hb;have eI:Ff (part (Cy b) 12 4)-32=KS (Cy b):=rfl;have eM:Ff (part (Cy b) 16 4)=L4 (Cy b):=rfl;simp only[SD,RQ];rw[eI]at i3;rw[eM]at i4;rw[eI,eM];by_cases c1:Cy b=Py (KS (Cy b)) (L4 (Cy b)) 0
    ·have c1':Cy b=Py (KS (Cy b)) (L4 (Cy b)) (0:UInt64).toNat:=c1;rw[CD (by simpa using c1'),ba3 h hb c1];by_cases c2:b.length<KS (Cy b)+32
     ·rw[CD F9,CD c2]
     ·rw[B! F9,B! c2,Ag];rfl
    ·have c1':¬Cy b=Py (KS (Cy b)) (L4 (Cy b)) (0:UInt64).toNat:=c1;rw[B! (by simpa using c1'),Aa,eQ _ 2147483648 F0 F0 F3,Aa,hb];simp only[SD,RQ];rw[eI,eM];by_cases c2:Cy b=Py (KS (Cy b)) (L4 (Cy b)) 2147483648
     ·have c2':Cy b=Py (KS (Cy b)) (L4 (Cy b)) (2147483648:UInt64).toNat:=c2;rw[B! (by simpa using c2'),Ag];by_cases c3:b.length<KS (Cy b)+64
      ·rw[CD F2,ba5 h hb c1 c2 c3]
      ·rw[B! F2,Ac,Cc,Ag,PY,Aa,G3 _ _ _ i3 i4 F3,Aa,Ki,Aa,ba6 h hb c1 c2 c3];rw[show((b.length:Int)-(((KS (Cy b):Nat):Int)+64)).toNat=b.length-(KS (Cy b)+64) by omega,show((b.length:Int)-(((KS (Cy b):Nat):Int)+64)+32).toNat=b.length-(KS (Cy b)+64)+32 by omega];have e7:(2684354560:UInt64).toNat=2684354560:=rfl;rw[e7];by_cases c4:(b.take (b.length-(KS (Cy b)+64)+32)).drop (b.length-(KS (Cy b)+64))=Py (KS (Cy b)) (L4 (Cy b)) 2684354560
       ·rw[B! (by simpa using c4),B! (λe=>e c4)];rfl
       ·rw[CD (by simpa using c4),CD c4]
     ·have c2':¬Cy b=Py (KS (Cy b)) (L4 (Cy b)) (2147483648:UInt64).toNat:=c2;rw[CD (by simpa using c2'),ba4 h hb c1 c2]
  ·rw[CD (by rw[S4,W5];intro h;exact hp h.2),ba1 (λh=>hp h.2)]
 ·rw[CD (by rw[Ac,Cc,Af];simp;omega),ba1 (λh=>h32 h.1)]
theorem Aoc{b:LB}(h:32<=b.length):(b.take (b.length-32+8)).drop (b.length-32)=(Cy b).take 8:=by
 rw[Cy,List.take_drop]
theorem Alp(b:LB)(hl:b.length<4611686018427387904):GZ b=some (Ya b):=by
 rw[GZ,NH];by_cases h32:32<=b.length
 ·obtain⟨e1,e2⟩:=w! h32 hl;have hl3:=Atf h32;rw[B! F2,e1,Ag,PY,Aa,show((b.length-32:Nat):Int).toNat=b.length-32 from rfl,show(((b.length-32:Nat):Int)+8).toNat=b.length-32+8 by omega,Aoc h32];by_cases hp:(Cy b).take 8=B3
  ·have h:=And.intro h32 hp;rw[B! (by simpa [B3]using hp),PB,OY,e1,e2,Aa,E_ _ F0 F0,Aa];cases hb:FO (Cy b)with
   |true=>rw[ba2 h hb];rfl
   |false=>
    obtain⟨i1,i2,i3,i4⟩:=wF (Cy b) F0 hb;have eI:Ff (part (Cy b) 12 4)-32=KS (Cy b):=rfl;have eM:Ff (part (Cy b) 16 4)=L4 (Cy b):=rfl;simp only[SD,RQ,XB];rw[eI]at i3;rw[eM]at i4;rw[eI,eM,Mf,CD rfl,vC _ _ _ i3 i4 F3,Aa,Aa];have e7:(2147483648:UInt64).toNat=2147483648:=rfl;have e8:(2684354560:UInt64).toNat=2684354560:=rfl;rw[e7];by_cases c2:Cy b=Py (KS (Cy b)) (L4 (Cy b)) 2147483648
    ·have c1:Cy b≠Py (KS (Cy b)) (L4 (Cy b)) 0:=λe=>Aqh (KS (Cy b)) (L4 (Cy b)) (e.symm.trans c2);rw[B! (by simpa using c2),Yc,Xo,CD (by simpa using c2),Ym,Yr,Ag (a:=32) F0 F0,Ag];by_cases c3:b.length<KS (Cy b)+64
     ·rw[CD F2,ba5 h hb c1 c2 c3]
     ·rw[B! F2,CD (by simpa using c2),Ac,Cc,Ag,PY,Aa,Wr,vC _ _ _ i3 i4 F3,Aa,Aa,ba6 h hb c1 c2 c3,e8];rw[show((b.length:Int)-(32+((KS (Cy b):Nat):Int)+32)).toNat=b.length-(KS (Cy b)+64) by omega,show((b.length:Int)-(32+((KS (Cy b):Nat):Int)+32)+32).toNat=b.length-(KS (Cy b)+64)+32 by omega];by_cases c4:(b.take (b.length-(KS (Cy b)+64)+32)).drop (b.length-(KS (Cy b)+64))=Py (KS (Cy b)) (L4 (Cy b)) 2684354560
      ·rw[B! (by simpa using c4),B! (λe=>e c4),show(32+((KS (Cy b):Nat):Int)+32)=((KS (Cy b)+64:Nat):Int) by omega]
      ·rw[CD (by simpa using c4),CD c4]
    ·rw[CD (by simpa using c2),Mf,B! CH,vC _ _ _ i3 i4 F3,Aa,Aa];have e9:(0:UInt64).toNat=0:=rfl;rw[e9];by_cases c1:Cy b=Py (KS (Cy b)) (L4 (Cy b)) 0
     ·rw[B! (by simpa using c1),Yc,Xo,B! (by simpa using c2),Ym,Yr,Ag,ba3 h hb c1,B! (c:=(Cy b==Py (KS (Cy b)) (L4 (Cy b)) 2147483648)=true) (by simpa using c2)];by_cases c3:b.length<KS (Cy b)+32
      ·rw[CD F2,CD c3]
      ·rw[B! F2,B! c3,show(32+((KS (Cy b):Nat):Int))=((KS (Cy b)+32:Nat):Int) by omega]
     ·rw[CD (by simpa using c1),ba4 h hb c1 c2]
  ·rw[CD (by simpa [B3]using hp),ba1 (λh=>hp h.2)]
 ·rw[CD F2,ba1 (λh=>h32 h.1)]
def xu:Nat->LB->Nat->Int×Int
 |0,_,_=>(0,38)
 |j+1,b,a=>if b=[]then((a:Int),0)else if(Ya b).2≠0 then(0,38)else xu j (b.take (b.length-(Ya b).1.toNat)) (a+1)
theorem Agm:∀(j q a:Nat) (b:LB),b.length<j->j<=q->b.length<=4000->a+b.length<=4000->Uv q (a:Int) b=some (xu j b a)
 |0,_,_,_,h,_,_,_=>by omega
 |j+1,q+1,a,b,h,hq,h4,ha=>by
  rw[Uv,QW,xu];by_cases hb:b=[]
  ·subst hb;rw[B! F3,CD rfl];rfl
  ·have hpos:0<b.length:=List.length_pos_iff.2 hb;rw[CD PO,B! hb,Ahl b F0,Aa];have hbad:=Afv (b:=b);have hok:=λn=>Asa (b:=b) (n:=n);generalize Ya b=v at*
   obtain⟨n,e⟩:=v;simp only at hbad⊢;rw[MC,Ai7];by_cases he:e≠0
   ·rw[CD he,hbad he,CD F3]
   ·obtain⟨k1,k2⟩:=hok n (by rw[show e=0 by simpa using he]);rw[B! he,B! SC,Ac,Cc,Dg,Aa,Aif,Aih,Ag];rw[show((b.length:Int)-n).toNat=b.length-n.toNat by omega];have ih:=Agm j q (a+1) (b.take (b.length-n.toNat)) VZ F0 VZ VZ;rw[<-ih];rfl
theorem qw:∀(j q a:Nat) (b:LB),b.length<j->j<=q->b.length<=4000->a+b.length<=4000->Ng q b (a:Int)=some (xu j b a)
 |0,_,_,_,h,_,_,_=>by omega
 |j+1,q+1,a,b,h,hq,h4,ha=>by
  rw[Ng,JT,xu];by_cases hb:b=[]
  ·subst hb;rw[B! F3,CD rfl];rfl
  ·have hpos:0<b.length:=List.length_pos_iff.2 hb;rw[CD PO,B! hb,Alp b F0,Aa];have hok:=λn=>Asa (b:=b) (n:=n);generalize Ya b=v at*
   obtain⟨n,e⟩:=v;simp only;by_cases he:e≠0
   ·rw[CD he,CD (by rw[Ao];simpa using he)]
   ·obtain⟨k1,k2⟩:=hok n (by rw[show e=0 by simpa using he]);rw[B! he,B! (by rw[Ao];simpa using he),Ac,Cc,Dg,Aa,Ag];rw[show((b.length:Int)-n).toNat=b.length-n.toNat by omega];have ih:=qw j q (a+1) (b.take (b.length-n.toNat)) VZ F0 VZ VZ;rw[<-ih];rfl
def YM(b:LB):Int×Int:=if 4000<b.length then(0,38)else xu (b.length+1) b 0
theorem Bbi(b:LB)(hl:b.length<4611686018427387904):SL b=some (YM b):=by
 rw[SL,QR,YM];by_cases h:4000<b.length
 ·rw[CD PO,CD h]
 ·rw[B! PO,B! h];exact Agm _ As 0 b F0 F8 F0 F0
theorem Acb(b:LB)(hl:b.length<4611686018427387904):AS b=some (YM b):=by
 rw[AS,GG,YM];by_cases h:4000<b.length
 ·rw[CD PO,CD h]
 ·rw[B! PO,B! h];exact qw _ As 0 b F0 F8 F0 F0
theorem WA{a b:Nat}(h:a<9223372036854775808:=by omega):Ci (a:Int) (b:Int)=((a/b:Nat):Int):=by
 have:a/b<=a:=RS _ _;rw[QC,XL F0,<-og];generalize a/b=k at*
 exact Db F0 F0
theorem Afd{bits:Int}(h:Cb bits)(x:Int):(oG bits x).length=wB bits:=by
 obtain rfl|rfl|rfl:=h<;>rfl
theorem jK{bits:Int}(h:Cb bits):∀l:LX,(Ot bits l).length=l.length*wB bits
 |[]=>by simp[Ot]
 |x::l=>by
  have h1:=jK h l;have h2:=Afd h x.toInt;simp only[Ot,oS,D!,R8,WE]at*
  omega
def zG(b:LB)(A:Nat)(l:LI)(k:Nat):LB:=(b.take ((A:Int)+(l.take (k+1)).sum).toNat).drop ((A:Int)+(l.take k).sum).toNat
structure Gts (b p:LB) (f c w r n A:Nat) (l:LI) (k m:Nat) (x:LX) (s:LB) (e:Int):Prop where
 mom:Aj (Ap (Al r) n) (k:Int)=some (m:Int)
 pos:1<=m/\m*c<=4000
 got:Bba b p (f:Int) (c:Int) (w:Int) (r:Int) (n:Int) (A:Int) l (k:Int)=some (s,e)
 none':e≠0->s=[]/\x=[]
 some':e=0->s=Ot (w:Int) x/\x.length=m*c/\Bo (w:Int) x=some 0/\To (w:Int) x=some (s,0)/\ (A:Int)+(l.take (k+1)).sum<=b.length
 way:((b.length:Int)<(A:Int)+(l.take (k+1)).sum/\e=24)\/ ((A:Int)+(l.take (k+1)).sum<=b.length/\Rt (c:Int) (w:Int) (Qw p) (m:Int) (zG b A l k)=some (x,e)/\Fl (c:Int) (w:Int) (Qw p) (m:Int) (zG b A l k)=some (x,e))
theorem Gts.lens{b p:LB}{f c w r n A:Nat}{l:LI}{k m:Nat}{x:LX}{s:LB}{e:Int}(hw:Cb (w:Int))(g:Gts b p f c w r n A l k m x s e):s.length<=12000/\x.length<=4000/\ (e=0->s.length=m*c*wB (w:Int)):=by
 by_cases he:e=0
 ·obtain⟨h1,h2,_⟩:=g.some' he;have h3:=MQ (w:Int) x;have h4:=jK hw x;have h5:=g.pos;rw[<-h1]at h3 h4;refine⟨F0,F0,λ_=>by rw[h4,h2]⟩
 ·obtain⟨h1,h2⟩:=g.none' he;exact⟨by simp[h1],by simp[h2],λh=>absurd h he⟩
def Rp(b:LB)(k:Nat):Nat:=(b.getD k 0).toNat
theorem uO(b:LB)(k:Nat):Rp b k<256:=(b.getD k 0).toNat_lt
def sx(n:Nat)(b:LB)(a:Nat):Int:=
 if n=1 then(Rp b a:Int)-128 else
 if n=2 then(if Rp b a+256*Rp b (a+1)<32768 then(Rp b a+256*Rp b (a+1):Nat)else((Rp b a+256*Rp b (a+1):Nat):Int)-65536)else
 (if Rp b a+256*Rp b (a+1)+65536*Rp b (a+2)<8388608 then(Rp b a+256*Rp b (a+1)+65536*Rp b (a+2):Nat)else((Rp b a+256*Rp b (a+1)+65536*Rp b (a+2):Nat):Int)-16777216)
def oK(n m:Nat)(b:LB):LX:=(List.range m).map λx=>Int32.ofInt (sx n b (x*n))
theorem B5(n m:Nat)(b:LB):(oK n m b).length=m:=by simp[oK]
theorem Aj7(n m:Nat)(b:LB):oK n (m+1) b=oK n m b++[Int32.ofInt (sx n b (m*n))]:=by simp[oK,eN]
theorem lS{n:Int}(h: -2147483648<=n)(h':n<2147483648):(Int32.ofInt n).toInt=n:=by
 rw[WT,eP,show((Int32.size:Nat):Int)=4294967296 from rfl];split<;>omega
theorem nW{b:LB}{k:Nat}(h:k<b.length):Aj b (k:Int)=some (b.getD k 0):=by
 rw[Cj h];simp[J3,h]
theorem VH(c:UInt8):(Ad c:Int32)=Int32.ofInt (c.toNat:Int):=rfl
theorem wK{v:Nat}(k:Nat)(hk:k<=32)(h:v<2147483648):Dl (Int32.ofInt (v:Int)) k=Int32.ofInt ((v*2^k:Nat):Int):=by
 have e:Dl (Int32.ofInt (v:Int)) k=Int32.ofInt ((Int32.ofInt (v:Int)).toInt*2^min k 32):=rfl;rw[e,lS F0 F0,SF hk];simp
theorem gO{v w i:Nat}(hv:v<2^i)(hw:w*2^i<2147483648)(hi:i<=31):rA (Int32.ofInt (v:Int)) (Int32.ofInt ((w*2^i:Nat):Int))=Int32.ofInt ((v+w*2^i:Nat):Int):=by
 have hv2:v<2147483648:=RN hv (show 2^i<=2^31 from PZ F0 hi);have e:rA (Int32.ofInt (v:Int)) (Int32.ofInt ((w*2^i:Nat):Int))=Int32.ofInt ((BitVec.ofInt 32 (Int32.ofInt (v:Int)).toInt|||BitVec.ofInt 32 (Int32.ofInt ((w*2^i:Nat):Int)).toInt).toNat:Int):=rfl;rw[e,lS F0 F0,lS F0 F0,d_,W7,W7];have a1:((v:Int) %((2^32:Nat):Int)).toNat=v:=F0
 have a2:(((w*2^i:Nat):Int) %((2^32:Nat):Int)).toNat=w*2^i:=F0
 rw[a1,a2,Nat.or_comm,Q2 w,<-X2 hv,VQ]
theorem Aqb(w:Nat)(h:w<2147483648):rA (0:Int32) (Int32.ofInt (w:Int))=Int32.ofInt (w:Int):=by
 have:=gO (v:=0) (w:=w) (i:=0) CH (by simpa using h) F0;simpa using this
theorem carry{v k:Nat}(hk:k<=31)(h:v*2^k<4294967296)(hv:v<2147483648):Cq (Dl (Int32.ofInt (v:Int)) k) k=Int32.ofInt ((if v*2^k<2147483648 then((v*2^k:Nat):Int)else((v*2^k:Nat):Int)-4294967296).fdiv (2^k)):=by
 rw[wK k F0 hv];have e:∀x:Int32,Cq x k=Int32.ofInt (x.toInt.fdiv (2^min k 32)):=λ_=>rfl;have hX:(Int32.ofInt ((v*2^k:Nat):Int)).toInt=if v*2^k<2147483648 then((v*2^k:Nat):Int)else((v*2^k:Nat):Int)-4294967296:=by
  rw[WT,eP,show((Int32.size:Nat):Int)=4294967296 from rfl];generalize v*2^k=X at*
  split<;>split<;>omega
 rw[e,SF F0,hX]
theorem sx2(b:LB)(a:Nat):sx 2 b a=if Rp b a+256*Rp b (a+1)<32768 then((Rp b a+256*Rp b (a+1):Nat):Int)else((Rp b a+256*Rp b (a+1):Nat):Int)-65536:=rfl
theorem sx3(b:LB)(a:Nat):sx 3 b a=if Rp b a+256*Rp b (a+1)+65536*Rp b (a+2)<8388608 then((Rp b a+256*Rp b (a+1)+65536*Rp b (a+2):Nat):Int)else((Rp b a+256*Rp b (a+1)+65536*Rp b (a+2):Nat):Int)-16777216:=rfl
variable (b:LB)
theorem At3(bk:Int->LX->Option (LX×Int))(a:Nat)(acc:LX)(h:a+1<=b.length)(hl:b.length<=100000)(ha:acc.length<=100000)(j25:Int->LX->Int32->Int->Option (LX×Int))(j30:LX->Option (LX×Int)):
  Gh (Ji bk 8 b) j25 j30 8 b (a:Int) acc=bk ((a+1:Nat):Int) (acc++[Int32.ofInt (sx 1 b a)]):=by
 have hb:=uO b a;have e:Am (Ad (b.getD a 0):Int32) (128:Int32)=Int32.ofInt (sx 1 b a):=by
  have e1:Am (Ad (b.getD a 0):Int32) (128:Int32)=Int32.ofInt ((Int32.ofInt ((b.getD a 0).toNat:Int)).toInt-(128:Int32).toInt):=rfl;rw[e1,lS F0 (by have:=(b.getD a 0).toNat_lt;omega)];rfl
 have q8:Ci (8:Int) 8=1:=F3
 rw[Gh,CD F2,CD WG,nW F0,Aa,e,Bi F7,Aa,Ji,Wp,q8,Ag];rfl
theorem Ars(bk:Int->LX->Option (LX×Int))(a:Nat)(acc:LX)(h:a+2<=b.length)(hl:b.length<=100000)(ha:acc.length<=100000)(j28:Int->LX->Option (LX×Int))(j30:LX->Option (LX×Int)):
  Gh j28 (Me bk 16 b) j30 16 b (a:Int) acc=bk ((a+2:Nat):Int) (acc++[Int32.ofInt (sx 2 b a)]):=by
 have h0:=uO b a;have h1:=uO b (a+1);have q:Ci (16:Int) 8=2:=F3
 have hF:As=(As-3)+1+1+1:=by have:=Aq;omega
 have z0:(GI.toZ (Br (8:Int) 0)).toNat=0:=F3
 have z1:(GI.toZ (Br (8:Int) 1)).toNat=8:=F3
 have z16:(GI.toZ (Am (32:Int) 16)).toNat=16:=F3
 have s0:Dl (Int32.ofInt (Rp b a:Int)) 0=Int32.ofInt (Rp b a:Int):=by have:=wK (v:=Rp b a) 0 F0 F0;simpa using this
 have s1:Dl (Int32.ofInt (Rp b (a+1):Int)) 8=Int32.ofInt ((Rp b (a+1)*2^8:Nat):Int):=wK 8 F0 F0;have o1:=gO (v:=Rp b a) (w:=Rp b (a+1)) (i:=8) (by simpa using h0) F0 F0;have c:=carry (v:=Rp b a+Rp b (a+1)*2^8) (k:=16) F0 F0 F0;rw[Gh,CD F2,B! XG,Me,hF,Et,Fz,q,CD F3,show Ae (a:Int) 0=((a:Nat):Int) by rw[Ag];omega,nW F0,Aa,Bq F3,Aa,z0,
  VH,show((b.getD a 0).toNat:Int)=(Rp b a:Int)from rfl,s0,Aqb _ F0,show Ae (0:Int) 1=1 by decide,
  Et,Fz,q,CD F3,show Ae (a:Int) 1=((a+1:Nat):Int) by rw[Ag];omega,nW F0,Aa,Bq F3,Aa,z1,
  VH,show((b.getD (a+1) 0).toNat:Int)=(Rp b (a+1):Int)from rfl,s1,o1,show Ae (1:Int) 1=2 by decide,
  Et,Fz,q,B! F3,Ww,FR,Bq F3,Aa,Aa,z16,c,Bi F7,Aa,Ji,Wp,q,Ag]
 have e:((if(Rp b a+Rp b (a+1)*2^8)*2^16<2147483648 then(((Rp b a+Rp b (a+1)*2^8)*2^16:Nat):Int)else(((Rp b a+Rp b (a+1)*2^8)*2^16:Nat):Int)-4294967296).fdiv (2^16))=sx 2 b a:=by
  rw[U? _ F0,sx2];split<;>split<;>omega
 rw[e];rfl
theorem Ary(bk:Int->LX->Option (LX×Int))(a:Nat)(acc:LX)(h:a+3<=b.length)(hl:b.length<=100000)(ha:acc.length<=100000)(j28:Int->LX->Option (LX×Int))(j30:LX->Option (LX×Int)):
  Gh j28 (Me bk 24 b) j30 24 b (a:Int) acc=bk ((a+3:Nat):Int) (acc++[Int32.ofInt (sx 3 b a)]):=by
 have h0:=uO b a;have h1:=uO b (a+1);have h2:=uO b (a+2);have q:Ci (24:Int) 8=3:=F3
 have hF:As=(As-4)+1+1+1+1:=by have:=Aq;omega
 have z0:(GI.toZ (Br (8:Int) 0)).toNat=0:=F3
 have z1:(GI.toZ (Br (8:Int) 1)).toNat=8:=F3
 have z2:(GI.toZ (Br (8:Int) 2)).toNat=16:=F3
 have z8:(GI.toZ (Am (32:Int) 24)).toNat=8:=F3
 have s0:Dl (Int32.ofInt (Rp b a:Int)) 0=Int32.ofInt (Rp b a:Int):=by have:=wK (v:=Rp b a) 0 F0 F0;simpa using this
 have s1:Dl (Int32.ofInt (Rp b (a+1):Int)) 8=Int32.ofInt ((Rp b (a+1)*2^8:Nat):Int):=wK 8 F0 F0;have s2:Dl (Int32.ofInt (Rp b (a+2):Int)) 16=Int32.ofInt ((Rp b (a+2)*2^16:Nat):Int):=wK 16 F0 F0;have o1:=gO (v:=Rp b a) (w:=Rp b (a+1)) (i:=8) (by simpa using h0) F0 F0;have o2:=gO (v:=Rp b a+Rp b (a+1)*2^8) (w:=Rp b (a+2)) (i:=16) F0 F0 F0;have c:=carry (v:=Rp b a+Rp b (a+1)*2^8+Rp b (a+2)*2^16) (k:=8) F0 F0 F0;rw[Gh,CD F2,B! XG,Me,hF,Et,Fz,q,CD F3,show Ae (a:Int) 0=((a:Nat):Int) by rw[Ag];omega,nW F0,Aa,Bq F3,Aa,z0,
  VH,show((b.getD a 0).toNat:Int)=(Rp b a:Int)from rfl,s0,Aqb _ F0,show Ae (0:Int) 1=1 by decide,
  Et,Fz,q,CD F3,show Ae (a:Int) 1=((a+1:Nat):Int) by rw[Ag];omega,nW F0,Aa,Bq F3,Aa,z1,
  VH,show((b.getD (a+1) 0).toNat:Int)=(Rp b (a+1):Int)from rfl,s1,o1,show Ae (1:Int) 1=2 by decide,
  Et,Fz,q,CD F3,show Ae (a:Int) 2=((a+2:Nat):Int) by rw[Ag];omega,nW F0,Aa,Bq F3,Aa,z2,
  VH,show((b.getD (a+2) 0).toNat:Int)=(Rp b (a+2):Int)from rfl,s2,o2,show Ae (2:Int) 1=3 by decide,
  Et,Fz,q,B! F3,Ww,FR,Bq F3,Aa,Aa,z8,c,Bi F7,Aa,Ji,Wp,q,Ag]
 have e:((if(Rp b a+Rp b (a+1)*2^8+Rp b (a+2)*2^16)*2^8<2147483648 then(((Rp b a+Rp b (a+1)*2^8+Rp b (a+2)*2^16)*2^8:Nat):Int)else(((Rp b a+Rp b (a+1)*2^8+Rp b (a+2)*2^16)*2^8:Nat):Int)-4294967296).fdiv (2^8))=sx 3 b a:=by
  rw[U? _ F0,sx3];split<;>split<;>omega
 rw[e];rfl
theorem Asm(bits:Int)(n m:Nat)(hn:1<=n)(hm:b.length=m*n)(hl:b.length<=100000)(step:∀(q a:Nat) (acc:LX),a+n<=b.length->acc.length<=100000->Eh bits b (q+1) (a:Int) acc=Eh bits b q ((a+n:Nat):Int) (acc++[Int32.ofInt (sx n b a)])):
  ∀(j x q:Nat),x+j=m->j<q->Eh bits b q ((x*n:Nat):Int) (oK n x b)=some (oK n m b,0)
 |0,x,q+1,hx,_=>by
  obtain rfl:x=m:=F0
  rw[Eh,Gh,B! F2];rfl
 |j+1,x,q+1,hx,hq=>by
  have h1:(x+1)*n<=m*n:=J? n F0;rw[H9,SA]at h1;have h2:m<=m*n:=aL m hn;rw[step q (x*n) _ F0 (by rw[B5];omega),<-Aj7,show x*n+n=(x+1)*n by rw[H9,SA]];exact Asm bits n m hn hm hl step j (x+1) q F0 F0
theorem Atp{bits:Int}(h:Cb bits)(hl:b.length<=100000)(q a:Nat)(acc:LX)(ha:a+wB bits<=b.length)(hc:acc.length<=100000):
  Eh bits b (q+1) (a:Int) acc=Eh bits b q ((a+wB bits:Nat):Int) (acc++[Int32.ofInt (sx (wB bits) b a)]):=by
 rw[Eh];obtain rfl|rfl|rfl:=h
 ·exact At3 b _ a acc ha hl hc _ _
 ·exact Ars b _ a acc ha hl hc _ _
 ·exact Ary b _ a acc ha hl hc _ _
theorem Baf{bits:Int}(h:Cb bits){m:Nat}(hm:b.length=m*wB bits)(h4:m<=4000):MU bits b=some (oK (wB bits) m b,0):=by
 have hn:=E7 bits;have hl:b.length<=12000:=by rw[hm];exact S! h4 hn.2
 rw[MU,MI,rz h,Aa];simp only;rw[B! M_,jf h,Bq RL,Aa];have hr:Hl (Ac b) (wB bits:Int)=0:=by rw[Ac,PX,hm,V3];rfl
 have hq:Ci (Ac b) (wB bits:Int)=(m:Int):=by rw[Ac,WA,hm,oD _ F0]
 rw[B! (by rw[Ao,hr];simp),Aa,hq,B! R7,Aem];have:=Asm b bits (wB bits) m F0 hm F0 (λq a acc ha hc=>Atp b h F0 q a acc ha hc) m 0 As F0 F8;simpa [oK]using this
end Go.Pl
namespace Go.Pl
open Go Go.Lv
theorem Art{c:Nat}{w:Nat}(hc:c<=6)(hw:Cb (w:Int)):Ci (Br (c:Int) (w:Int)) 8=((c*wB (w:Int):Nat):Int):=by
 have h:w=8\/w=16\/w=24:=by unfold Cb at hw;omega
 have:c=0\/c=1\/c=2\/c=3\/c=4\/c=5\/c=6:=F0
 rcases h with rfl|rfl|rfl<;>rcases this with rfl|rfl|rfl|rfl|rfl|rfl|rfl<;>rfl
theorem Aqx{w:Nat}(hw:Cb (w:Int)):8*wB (w:Int)=w/\w<=24:=by
 have h:w=8\/w=16\/w=24:=by unfold Cb at hw;omega
 rcases h with rfl|rfl|rfl<;>exact⟨rfl,F0⟩
theorem Ase{t c w:Nat}(ht:t<=4000)(hc:c<=6)(hw:Cb (w:Int)):Ci (Br (Br (t:Int) (c:Int)) (w:Int)) 8=((t*(c*wB (w:Int)):Nat):Int):=by
 obtain⟨h1,h2⟩:=Aqx hw;have e1:(t:Int)*(c:Int)=((t*c:Nat):Int):=by simp
 have b1:t*c<=4000*6:=S! ht hc;have b2:t*c*w<=24000*24:=S! b1 h2;rw[Fg (a:=(t:Int)) (by rw[e1];omega) (by rw[e1];omega),e1,Fg U7 U7,<-TX,show(8:Int)=((8:Nat):Int)from rfl,WA];congr 1;generalize wB (w:Int)=W at*
 subst h1;rw[Nat.mul_left_comm,zh _ F0,RT]
theorem Aps{seg p:LB}(hs:seg.length=8)(hp:p.length<=64):IY seg p=some (seg==Xj (BO p).toNat 8,0):=by
 rw[IY,Ae1 p hp,Aa];simp only;rw[B! (by rw[Ao,Ao,Ac,Ac,El,hs];simp),Ki,Aa]
def vI(b:LB):LI:=Ap (Al (f3 (Wa b))) (f4 (Wa b))
theorem vF{ch:Nat}{bits:Int}(hb:Cb bits)(h1:1<=ch)(h6:ch<=6):Nk (ch:Int) bits=some 0:=by
 have hr:∃x y,Yt bits=some (x,y,0):=⟨_,_,rz hb⟩;obtain⟨x,y,hr⟩:=hr;rw[Nk,hr,Aa];simp only;rw[B! (by simp[Ao,Af,Au];omega)]
theorem N0{c r n:Nat}(h:QF c r n=true):1<= (Ap (Al r) n).length/\ (Ap (Al r) n).length<=1000:=by
 simp only[QF,E3]at h;rw[jY];exact⟨Nat.le_add_left _ _,h.2⟩
theorem qb(g:Nat):∀K:Nat,(List.replicate K (g:Int)).sum=((K*g:Nat):Int)
 |0=>by simp
 |K+1=>by
  rw[VB,RV,qb g K,WE];omega
theorem kX{g n:Nat}(hn:1<=n):(Ap g n).sum=(n:Int):=by
 have h:=X? (n-1) g;rw[Ap,iM,qb];simp only[RV,bQ];omega
theorem zm:∀{l:LI},(∀x∈l,0<=x)->0<=l.sum
 |[],_=>by simp
 |x::l,h=>by
  have h1:=h x TR;have h2:=zm (l:=l) λy hy=>h y (RK _ hy);rw[RV];omega
theorem nL{l:LI}(h:∀x∈l,0<=x)(i:Nat):0<= (l.take i).sum/\ (l.take i).sum<=l.sum:=by
 have h1:=zm (l:=l.take i) λx hx=>h x (gX hx);have h2:=zm (l:=l.drop i) λx hx=>h x (a_ hx);have:=Ag2 l i;omega
def FK(c w:Nat)(fr:LI)(k:Nat):Int:=(((fr.take k).sum.toNat*(c*wB (w:Int)):Nat):Int)
section
variable {f c w r n:Nat} (h1:Kj f c w r n=true) (h2:QF c r n=true)
include h1 h2
theorem VK:(∀x∈Ap (Al r) n,0<=x)/\ (Ap (Al r) n).sum=(n:Int)/\n<=4000:=by
 obtain⟨hc,hw,hr,hn,_⟩:=sM h1;have hfit:n<=4000/c:=by simp only[QF,E3]at h2;exact h2.1
 have hn4:n<=4000:=by have:=RS 4000 c;omega
 refine⟨λx hx=>?_,kX hn,hn4⟩;obtain⟨m,rfl,_⟩:=LH (Iw r) hn hx;omega
end
theorem Abb(C W:Nat)(fr:LI):FK C W fr 0=0:=by rw[FK,W8,bQ];simp
theorem Aa9(C W:Nat){fr:LI}(hp:∀z∈fr,0<=z){A m:Nat}(hA:A<fr.length)(hm:fr[A]=(m:Int)):FK C W fr (A+1)=FK C W fr A+((m*C*wB (W:Int):Nat):Int):=by
 have hs:0<= (fr.take A).sum:=by
  have:∀l:LI,(∀z∈l,0<=z)->0<=l.sum:=by
   intro l
   induction l with
   |nil=>intro _;simp
   |cons a l ih=>intro h;rw[RV];have:=h a CH;have:=ih (λz hz=>h z (by simp[hz]));omega
  exact this _ λz hz=>hp z (gX hz)
 have e:(fr.take (A+1)).sum=(fr.take A).sum+m:=by rw[Ns hA,iM,RV,bQ,hm];omega
 rw[FK,FK,e];have:((fr.take A).sum+(m:Int)).toNat=(fr.take A).sum.toNat+m:=F0
 rw[this,H9,RT m];omega
theorem Amc{bits:Int}(h:Cb bits){l:LX}(hl:l.length<=4000)(hr:inR bits l):Bo bits l=some 0:=by
 have hh:=dI bits;have key:∀(j i q:Nat),i+j=l.length->j<q->Bk l (hB bits) q (i:Int)=some 0:=by
  intro j
  induction j with
  |zero=>
   intro i q hi hq;obtain⟨q,rfl⟩:∃k,q=k+1:=⟨q-1,F0⟩;rw[Bk,Dy,B! F2];rfl
  |succ j ih=>
   intro i q hi hq;obtain⟨q,rfl⟩:∃k,q=k+1:=⟨q-1,F0⟩;have hx:=hr l[i] (S6 F0);rw[Bk,Dy,CD F2,Cj,Aa,Aa,Fj,tq,Db F0 F0,Ag,Af,Dq,B! F7,B! F7];exact ih (i+1) q F0 F0
 rw[Bo,Hu,sY h,Aa,B! SC,B! PO];exact key l.length 0 As F0 F8
def Rg(bits:Int)(ch:Nat)(t x:LX):LU:=evl bits ch t (mx ch x) x.length
def O!(bits:Int)(ch:Nat)(t x:LX):LB:=Mw (WS ch (Rg bits ch t x) x.length)
def LG(bits:Int)(ch:Nat)(t x:LX):LB:=O! bits ch t x++Xj (Fe (O! bits ch t x)).toNat 4
theorem Ai8(bits:Int)(ch:Nat)(t x:LX)(h0:1<=x.length)(h4:x.length<=4000):1<= (O! bits ch t x).length/\ (O! bits ch t x).length<=40501:=by
 have h:=aT ch (Rg bits ch t x) x.length;obtain⟨k,hk⟩:∃k,x.length=k+1:=⟨x.length-1,F0⟩;have h1:1<= (WS ch (Rg bits ch t x) x.length).length:=by
  rw[hk,WS,D!];have hn:=jC ch ((Rg bits ch t x).take k);have:=mR ((Rg bits ch t x).getD k 0) hn.1 hn.2;omega
 rw[O!,Yz];omega
theorem H!(bits:Int)(ch:Nat)(t x:LX)(h0:1<=x.length)(h4:x.length<=4000):5<= (LG bits ch t x).length/\ (LG bits ch t x).length<=40505:=by
 have:=Ai8 bits ch t x h0 h4;rw[LG,D!,El];omega
theorem Aw3(p:LB)(b0:UInt64)(a0:Int):∀(j m q:Nat),m+j<=300000->j<=64->j<q->
  Qe b0 a0 q (Pn p m j) (j:Int) (m:Int) (Qu p 0 m)=some (Qu p 0 (m+j),((m+j:Nat):Int),0)
 |0,m,q+1,_,_,_=>by
  rw[Qe,SP,B! X!,dN,Asc];rfl
 |j+1,m,q+1,hm,hj,hq=>by
  have hroom:Qe b0 a0 (q+1) (Pn p m (j+1)) ((j+1:Nat):Int) (m:Int) (Qu p 0 m)=SN (Qe b0 a0 q) b0 a0 (Pn p m (j+1)) ((j+1:Nat):Int) (m:Int) (room p 0 m):=by
   rw[Qe,SP,CD X!,yW m F0,room];by_cases h0:m %8=0
   ·rw[CD (by rw[Ax,h0];rfl),Bi iX,Aa,CD h0]
   ·rw[B! SC,B! h0]
  have hl:Am (Ac (room p 0 m)) 1=((m/8:Nat):Int):=by
   rw[Ac,Of,Cc];omega
  have e2:Ee ((j+1:Nat):Int) (Am (8:Int) ((m %8:Nat):Int))=((min (j+1) (8-m %8):Nat):Int):=by
   rw[AK,Cc];omega
  rw[hroom,SN,Atb,yW m F0,e2,hl];generalize hT:min (j+1) (8-m %8)=T;have hT1:1<=T:=F0
  have hT8:m %8+T<=8:=F0
  have hg:Aj (room p 0 m) ((m/8:Nat):Int)=some (UInt8.ofNat (Cg p (0+8*(m/8)) (m %8))):=by
   rw[Cj cD,nF]
  have z1:(GI.toZ ((m %8:Nat):Int)).toNat=m %8:=rfl;have z2:(GI.toZ ((T:Nat):Int)).toNat=T:=rfl;have hlt:=vD p (0+8*(m/8)) (m %8+T) F0;have hadd:=OB p (m %8) T (0+8*(m/8));rw[show 0+8*(m/8)+m %8=m by omega]at hadd;have hbyte:(Ad (Ev (Pn p m (j+1)) (Am (Dl (1:UInt64) T) (1:UInt64))):UInt8)=UInt8.ofNat (Cg p m T):=by
   rw[VO,yS _ F0,Aaa p m (j+1) T F0 hj]
  have hnew:rA (UInt8.ofNat (Cg p (0+8*(m/8)) (m %8))) (Dl (UInt8.ofNat (Cg p m T)) (m %8))=UInt8.ofNat (Cg p (0+8*(m/8)) (m %8+T)):=by
   rw[or8 (Pe _ _ _) fN F0,hadd,Q2 (2^(m %8))]
  rw[hg,z1,z2,hbyte];simp only[Aa];rw[Bq RY,Aa,Bq RX,Aa,hnew,Uh _ cD,Aa,uP p 0 m T hT1 hT8,Au0,Ata,yW m F0,e2,hT,Bq RY,Aa,z2,M! p m (j+1) T F0 hj,Cc,Ag];have ih:=Aw3 p b0 a0 (j+1-T) (m+T) q F0 F0 F0;rw[show m+T+(j+1-T)=m+(j+1) by omega]at ih;rw[<-ih,show((j+1:Nat):Int)-((T:Nat):Int)=((j+1-T:Nat):Int) by omega,show(m:Int)+((T:Nat):Int)=((m+T:Nat):Int) by omega]
theorem put_eq(p:LB)(m j:Nat)(hm:m+j<=300000)(hj:j<=63):VI (Qu p 0 m) (m:Int) (Pn p m j) (j:Int)=some (Qu p 0 (m+j),((m+j:Nat):Int),0):=by
 have hz:Bj (Cq (Pn p m j) (GI.toZ (j:Int)).toNat) 0=false:=by
  have:Cq (Pn p m j) j=0:=by
   apply UInt64.toNat_inj.1;rw[JJ,Yq p m j F0,VJ (Pe p j m)];rfl
  rw[show(GI.toZ (j:Int)).toNat=j from rfl,this];rfl
 have hl:=Jd p 0 m;have htw:bH (Qu p 0 m) (m:Int)=some (Qu p 0 m,(m:Int)):=by
  rw[bH,Bm,Bi F7,Aa,Aa];rfl
 rw[VI,jS,Zi (sR p 0 m F0),Aa,B! F3,B! SY,CD F9,Bq RY,Aa,hz,B! F3,Ag,B! R7,htw,Aa];exact Aw3 p _ _ j m As hm F0 F8
theorem At.cat{p:LB}{a:Nat}{c d:List Bool}(h:At p a (c++d)):At p a c/\At p (a+c.length) d:=⟨h.left,h.right⟩
theorem K? (p:LB):∀(q a:Nat),At p a (List.replicate q true)->Cg p a q+1=2^q
 |0,a,_=>by rw[Cg]
 |q+1,a,h=>by
  rw[VB]at h;obtain⟨h0,h1⟩:=h.cons;have:=K? p q (a+1) h1;rw[Cg,h0,RF,CD rfl];omega
theorem vL{x:UInt64}{p:LB}{m n:Nat}(hn:n<=63)(h:x.toNat=Cg p m n):x=Pn p m n:=by
 apply UInt64.toNat_inj.1;rw[h,Yq p m n F0]
theorem XX{n:Nat}(h:n<2^64):(UInt64.ofNat n).toNat=n:=by rw[Q8];exact DM h
theorem Adf{p:LB}{m q:Nat}(hq:q<=48)(hm:m+48<=300000)(h:At p m (List.replicate q true++(if q=48 then []else [false]))):
  YJ (Qu p 0 m) (m:Int) (q:Int)=some (Qu p 0 (m+min (q+1) 48),((m+min (q+1) 48:Nat):Int),0):=by
 have h1:=h.left;have hv:=K? p q m h1;have Ax6:2^q<=2^48:=PZ F0 hq;have hval:Cg p m (min (q+1) 48)+1=2^q:=by
  by_cases h48:q=48
  ·subst h48;exact hv
  ·rw[B! h48]at h;have h2:=h.right;rw[T_]at h2;have h0:=h2.cons.1;rw[show min (q+1) 48=q+1 by omega,mW,h0];simpa using hv
 have hx:(Am (Dl (1:UInt64) q) (1:UInt64)).toNat=Cg p m (min (q+1) 48):=by
  have e1:(Dl (1:UInt64) q).toNat=2^q:=by rw[WJ];show 1*2^q %_=_;rw[SA];exact DM F0
  have hpos:0<2^q:=TU F0;rw[uR,n! _ _ (by rw[n?,e1];exact hpos),e1]
  show 2^q-1=_;omega
 rw[YJ,Zi (sR p 0 m F0),Aa,B! F3,fE,B! SY,Aa];simp only;have e2:Ee (Ae (q:Int) 1) 48=((min (q+1) 48:Nat):Int):=by rw[AK,Ag];omega
 rw[B! F3,Bq RY,Aa,e2,show(GI.toZ (q:Int)).toNat=q from rfl,vL F0 hx,put_eq p m _ F0 F0,Aa]
theorem Ai4{p:LB}{m l:Nat}{v:UInt32}(hl:l<=24)(hm:m+81<=300000)(h:At p m (sS l v.toNat)):
  eL (Qu p 0 m) (m:Int) v (l:Int)=some (Qu p 0 (m+(sS l v.toNat).length),((m+(sS l v.toNat).length:Nat):Int),0):=by
 have hvl:=v.toNat_lt;have hz:(GI.toZ (l:Int)).toNat=l:=rfl;have hlp:2^l<=2^24:=PZ F0 hl;have hpos:0<2^l:=TU F0;have Av5:Zt v (l:Int)=some (decide (48<=v.toNat/2^l)):=by
  rw[Zt,Bq RY,Aa,hz,pI,NO];rfl
 rw[eL,Apy,Zi (sR p 0 m F0),Aa,B! F3,B! SY,Bq RY,Aa,Aa,Av5,Aa];rw[sS]at h⊢;by_cases h48:48<=v.toNat/2^l
 ·rw[CD h48]at h⊢;obtain⟨h1,h2⟩:=h.cat;rw[T_]at h2;have hval:=mU p 32 (m+48) v.toNat h2;rw[DM F0]at hval;have hu:=Adf (p:=p) (m:=m) (q:=48) (N! _) F0 (by rw[CD rfl,R2];exact h1);rw[CD (by simpa using h48),ZU,aC,show(48:Int)=((48:Nat):Int)from rfl,hu,Aa];simp only;rw[B! F3,Dr,vL (x:=UInt64.ofNat v.toNat) (p:=p) (m:=m+48) (n:=32) F0 (by rw[XX F0,hval]),show(32:Int)=((32:Nat):Int)from rfl,show m+min (48+1) 48=m+48 by omega,put_eq p (m+48) 32 F0 F0,Aa,D!,T_,EN,RU]
 ·rw[B! h48]at h⊢;generalize hq:v.toNat/2^l=q at*
  obtain⟨h1,h2⟩:=h.cat;rw[T_]at h2;obtain⟨h3,h4⟩:=h2.cons;have hval:=mU p l (m+q+1) (v.toNat %2^l) h4;rw[i_]at hval;have hqa:At p m (List.replicate q true++[false]):=by
   have:List.replicate q true++(false::jJ (v.toNat %2^l) l)=(List.replicate q true++[false])++jJ (v.toNat %2^l) l:=by simp
   rw[this]at h;exact h.left
  have hu:=Adf (p:=p) (m:=m) (q:=q) F0 F0 (by rw[B! F0];exact hqa);have hgq:(Ad (Cq v l):Int)=(q:Int):=by rw[C7,NO,hq]
  have hrest:(Ad (Ev v (Am (Dl (1:UInt32) l) 1)):UInt64)=Pn p (m+q+1) l:=by
   apply vL F0;have e1:(Dl (1:UInt32) l).toNat=2^l:=by rw[jD];show 1*2^l %_=_;rw[SA];exact DM F0
   have e2:(Am (Dl (1:UInt32) l) (1:UInt32)).toNat=2^l-1:=by
    rw[H2,n_ _ _ (by rw[nk,e1];exact hpos),e1];rfl
   have e3:(Ev v (Am (Dl (1:UInt32) l) 1)).toNat=v.toNat %2^l:=by
    rw[J7,iE,e2,dC]
   rw[Dr,XX (by rw[e3];have:=RW v.toNat hpos;omega),e3,hval]
  rw[B! (by simpa using h48),ZU,aC,hz,hgq,hu,Aa];simp only;rw[B! F3,hrest,show m+min (q+1) 48=m+q+1 by omega,put_eq p (m+q+1) l F0 F0,Aa,D!,T_,R8,EN,show m+q+1+l=m+(q+(l+1)) by omega]
theorem Alf{k l:Nat}{s t:UInt64}(h:okD k l s t)(v:UInt32):dY [] 0 (k:Int) (l:Int) s t v=
  some (Mw (JC k l v),((JC k l v).length:Int),((kS k (Xi s (A7 v)):Nat):Int),((lK l t k v:Nat):Int),Xi s (A7 v),lT t k v,0):=by
 obtain⟨h1,h2,h3,h4⟩:=h;have hvl:=v.toNat_lt;have hAt:At (Mw (JC k l v)) 0 (JC k l v):=λi hi=>by rw[T9,TC]
 have hlen:=mR v h1 h2;have hfull:Qu (Mw (JC k l v)) 0 (JC k l v).length=Mw (JC k l v):=by
  apply Q_ (by rw[Jd,Yz]);intro i hi;rw[D9,T9,TC];by_cases hlt:i<(JC k l v).length
  ·rw[CD hlt]
  ·rw[B! hlt,jo F0]
 generalize hP:Mw (JC k l v)=P at*
 have h0:Qu P 0 0=[]:=rfl;have zN:∀(x:Int) (y:UInt64) (aj ai:Int),BQ v (k:Int) s ai P x y=some (P,ai,((kS k (Xi s (A7 v)):Nat):Int),x,Xi s (A7 v),y,0):=by
  intro x y aj ai;rw[BQ,ZI,Dr,aN,gI k h1];rw[As1,ZR,WC,JP,Dr,aN];rfl
 have hp7:∀ai:Int,ZT v (k:Int) (l:Int) s t 0 ai P=some (P,ai,((kS k (Xi s (A7 v)):Nat):Int),((lK l t k v:Nat):Int),Xi s (A7 v),lT t k v,0):=by
  intro ai;rw[ZT,ZH,B! F3,J1 k l s t h1,Aa];by_cases hv:v.toNat<2^k
  ·rw[CD hv];simp only;rw[B! Y8,zN _ _ 0,lK,CD hv,lT,CD hv]
  ·rw[B! hv];simp only;rw[CD WG,Dr,aN,gI l h2 _ (λx=>BQ v (k:Int) s ai P x (Xi t (UInt64.ofNat (gJ k v).toNat))),zN _ _ 0,lK,B! hv,lT,B! hv];rfl
 rw[dY,aE,show Ju [] 0=some 0 from rfl,Aa,B! F3,tT ⟨h1,h2,h3,h4⟩,Aa,B! F3,Apz,ZZ,J1 k l s t h1,Aa];have hput:=put_eq P 0 1 F0 F0;rw[h0,T9,show((0:Nat):Int)=0 from rfl,show((1:Nat):Int)=1 from rfl]at hput;by_cases hv:v.toNat<2^k
 ·have hc:JC k l v=false::jJ v.toNat k:=by rw[JC,CD hv]
  rw[hc]at hAt hfull;obtain⟨b0,b1⟩:=hAt.cons;have hval:=mU P k 1 v.toNat b1;rw[DM hv]at hval;have hz:(Ad (0:Int):UInt64)=Pn P 0 1:=vL F0 (by rw[tI,b0];rfl);rw[CD hv];simp only;rw[hz,hput,Aa];simp only;rw[CD F3,Dr,vL (x:=UInt64.ofNat v.toNat) (p:=P) (m:=1) (n:=k) F0 (by rw[XX F0,hval]),show(1:Int)=((1:Nat):Int)from rfl,put_eq P 1 k F0 F0,Aa];simp only;rw[R8,EN,VQ k 1]at hfull;rw[hfull,hp7,hc,R8,EN,VQ k 1]
 ·have hc:JC k l v=true::sS l (v.toNat-2^k):=by rw[JC,B! hv]
  rw[hc]at hAt hfull;obtain⟨b0,b1⟩:=hAt.cons;have hsub:=Nat.sub_le v.toNat (2^k);have hlv:(gJ k v).toNat=v.toNat-2^k:=by rw[gJ,XS F0]
  have hz:(Ad (1:Int):UInt64)=Pn P 0 1:=vL F0 (by rw[tI,b0];rfl);have hr:=Ai4 (p:=P) (m:=1) (l:=l) (v:=gJ k v) h2 F0 (by rw[hlv];exact b1);rw[hlv,show((1:Nat):Int)=1 from rfl]at hr;rw[B! hv];simp only;rw[hz,hput,Aa];simp only;rw[B! F3,CD F3,hr,Aa];simp only;rw[R8,VQ _ 1]at hfull;rw[hfull,hp7,hc,R8,VQ _ 1]
section
variable (ch:Nat) (x:LX)
theorem XP{at' i:Nat}(ha:at' %ch=0)(hi:i<ch)(h:at'+i<x.length):(mx ch x).getD (at'+i) 0=mxV (λi=>x.getD (at'+i) 0) ch i:=by
 have hb:(at'+i) %ch=i:=by rw[Nat.add_mod,ha,T9,i_,DM hi]
 rw[Aqy h,hb,show at'+i-i=at' by omega]
theorem G? (bk:Int->LX->Option (LX×Int))(at':Nat)(h1:1<=ch)(h6:ch<=6)(hm:at' %ch=0)(hl:at'+ch<=x.length)(hl2:x.length<=4000):∀(j i q:Nat),i+j=ch-1->j<q->
  FI bk (ch:Int) (at':Int) q (i:Int) (dZ (λk=>decide (k<at'+i)) (mx ch x) x)=bk ((at'+ch:Nat):Int) (dZ (λk=>decide (k<at'+ch)) (mx ch x) x)
 |j,i,0,_,h=>absurd h (T6 _)
 |0,i,q+1,hi,_=>by
  have hlen:=jV ch x;have e1:Am (Ae (at':Int) (ch:Int)-(at':Int)) 1=((ch-1:Nat):Int):=by rw[Ag,Cc];omega
  have e2:Ae (at':Int) (ch:Int)-(at':Int)=(ch:Int):=by rw[Ag];omega
  have e4:Ae (at':Int) (ch:Int)=((at'+ch:Nat):Int):=by rw[Ag];omega
  rw[FI,WW,e1,B! F9,jG,Awi,e1,e2];obtain rfl:i=ch-1:=F0
  by_cases h2:1<ch
  ·have e3:Am ((ch-1:Nat):Int) 1=((ch-2:Nat):Int):=by rw[Cc];omega
   have hv:Am (x.getD (at'+(ch-1)) 0) (Ci ((mx ch x).getD (at'+(ch-2)) 0) 2)=(mx ch x).getD (at'+(ch-1)) 0:=by
    rw[XP ch x hm F0 F0,XP ch x hm F0 F0,mxV,mxV,CD F0,B! F0,CD h2,UP,show ch-2+1=ch-1 by omega]
   rw[CD R7,pE F0,Aa,e3,pE F0,Aa,
    show(at':Int)+((ch-1:Nat):Int)=((at'+(ch-1):Nat):Int) by omega,show(at':Int)+((ch-2:Nat):Int)=((at'+(ch-2):Nat):Int) by omega,
    CV F0,Aa,CV F0,Aa,Aa,B! CH,CD F7,hv,fG F0,Aa,lR,jQ,e4]
   congr 1;apply Vg;intro k _;rw[O3];simp;omega
  ·obtain rfl:ch=1:=F0
   have hlast:x.getD at' 0=(mx 1 x).getD at' 0:=by
    have:=XP 1 x (i:=0) hm F0 F0;rw[U_]at this;rw[this,mxV,B! F0,B! F0];rfl
   rw[B! X!,lR,jQ,e4];congr 1;apply UW (by rw[NC,NC]);intro k g1 g2;rw[Tm,Tm];by_cases hk:k<at'
   ·rw[CD F7,CD F7]
   ·by_cases hk2:k=at'
    ·subst hk2;rw[B! CH,CD CH];exact hlast
    ·rw[B! F7,B! F7]
 |j+1,i,q+1,hi,hq=>by
  have hlen:=jV ch x;have e1:Am (Ae (at':Int) (ch:Int)-(at':Int)) 1=((ch-1:Nat):Int):=by rw[Ag,Cc];omega
  have e2:Ae (at':Int) (ch:Int)-(at':Int)=(ch:Int):=by rw[Ag];omega
  have e3:Ae (i:Int) 1=((i+1:Nat):Int):=by rw[Ag];omega
  have hv:Am (x.getD (at'+(i+1)) 0) (x.getD (at'+i) 0)=(mx ch x).getD (at'+i) 0:=by
   rw[XP ch x hm F0 F0,mxV,CD F0,UP]
  rw[FI,WW,e1,CD F9,e2,e3,pE F0,Aa,pE F0,Aa,
   show(at':Int)+((i+1:Nat):Int)=((at'+(i+1):Nat):Int) by omega,show(at':Int)+(i:Int)=((at'+i:Nat):Int) by omega,
   CV F0,Aa,CV F0,Aa,Aa,B! CH,B! CH,hv,fG F0,Aa]
  have ih:=G? bk at' h1 h6 hm hl hl2 j (i+1) q F0 F0;rw[<-ih];congr 1;apply Vg;intro k _;rw[O3];simp;omega
theorem Aum(h1:1<=ch)(h6:ch<=6)(hm:x.length %ch=0)(hl2:x.length<=4000):∀(j at' q:Nat),at' %ch=0->at'<=x.length->x.length-at'<=j->j<q->
  FL (ch:Int) q (at':Int) (dZ (λk=>decide (k<at')) (mx ch x) x)=some (mx ch x,0)
 |j,at',0,_,_,_,h=>absurd h (T6 _)
 |j,at',q+1,ha,hle,hj,hq=>by
  have hlen:=jV ch x;have hl:Ac (dZ (λk=>decide (k<at')) (mx ch x) x)=(x.length:Int):=by rw[Ac,NC,hlen]
  rw[FL,jN,hl];by_cases h:at'<x.length
  ·have hb:=O8 ha hm h;obtain⟨j,rfl⟩:∃k,j=k+1:=⟨j-1,F0⟩;have e4:Ae (at':Int) (ch:Int)=((at'+ch:Nat):Int):=by rw[Ag];omega
   have hi:=G? ch x (FL (ch:Int) q) at' h1 h6 ha hb hl2 (ch-1) 0 As F0 F8;have hrest:=Aum h1 h6 hm hl2 j (at'+ch) q (by rw[bK,ha]) hb F0 F0;rw[U_]at hi;rw[CD F9,show VA (x.length:Int) (at':Int) (Ae (at':Int) (ch:Int))=some () by rw[e4,VA,pE];omega,Aa];exact R? hi hrest
  ·rw[B! F9,nQ (λk hk=>by simp;omega)];rfl
theorem Ag6(h1:1<=ch)(h6:ch<=6)(hm:x.length %ch=0)(hl2:x.length<=4000):C4 (ch:Int) x=some (mx ch x,0):=by
 have hlen:=jV ch x;have h:=Aum ch x h1 h6 hm hl2 x.length 0 As CH F0 F0 F8;rw[C4,qV,Aq3 ch x h1 h6 hm hl2,Aa,B! M_,Dd,Bi F7,Aa,Aa,RI,Auq];rw[jL hlen.symm (λk _=>by simp)]at h;exact h
end
theorem Ajs(a:Int32):mX a=some (uK a):=by
 have h:=BD a;have hc:(Ad a:UInt32)=UInt32.ofNat (a.toInt %4294967296).toNat:=rfl;have hs:(Cq a (GI.toZ (31:UInt64)).toNat)=if 0<=a.toInt then(0:Int32)else -1:=by
  have e:Cq a 31=Int32.ofInt (a.toInt.fdiv (2^31)):=rfl;rw[show(GI.toZ (31:UInt64)).toNat=31 from rfl,e];by_cases h0:0<=a.toInt
  ·rw[CD h0,show a.toInt.fdiv (2^31)=0 by rw[U? _ F3];omega];rfl
  ·rw[B! h0,show a.toInt.fdiv (2^31)= -1 by rw[U? _ F3];omega];rfl
 rw[mX,hs,hc,uK];congr 1;have hsh:(Dl (UInt32.ofNat (a.toInt %4294967296).toNat) (GI.toZ (1:UInt64)).toNat).toNat=2*(a.toInt %4294967296).toNat %4294967296:=by
  rw[show(GI.toZ (1:UInt64)).toNat=1 from rfl,jD,RH,DM (show(a.toInt %4294967296).toNat<2^32 by omega)];omega
 by_cases h0:0<=a.toInt
 ·rw[CD h0,CD h0,show(Ad (0:Int32):UInt32)=0 from rfl];apply UInt32.toNat_inj.1;rw[show∀z:UInt32,Yo z (0:UInt32)=z^^^0 from λz=>by rw[aS],aO,hsh,RH,DM (show 2*a.toInt.toNat<2^32 by omega)]
  show _^^^0=_;rw[Nat.xor_zero];omega
 ·rw[B! h0,B! h0,show(Ad (-1:Int32):UInt32)=4294967295 from rfl];apply UInt32.toNat_inj.1;rw[show∀z:UInt32,Yo z (4294967295:UInt32)=z^^^4294967295 from λz=>by rw[aS],aO,hsh,RH,DM (show 2*(-a.toInt-1).toNat+1<2^32 by omega)]
  show _^^^4294967295=_;have key:∀n:Nat,n<4294967296->n^^^4294967295=4294967295-n:=by
   intro n hn;have:=iJ (x:=BitVec.ofNat 32 n);rw[<-BitVec.xor_allOnes,iD,BitVec.toNat_ofNat,DM F0]at this;simpa using this
  rw[key _ F0];omega
theorem Air{bits:Int}(h:Cb bits){t p:LX}(hF:i? (sB bits) t p)(last x:Int32):
  Vd bits last (sB bits) t p x=some (U6 bits (last,t,p) x,bits,x,sB bits,D7 t p (U6 bits (last,t,p) x),(x-gs (shB bits) last)::p.take 15,0):=by
 rw[Vd,Q7 h,Aa,B! M_,uz h,Aa];simp only;rw[UP,ZC,Adv hF,Aa];simp only;rw[B! M_,UP,TV,P! hF,Aa];simp only;rw[pQ (s:=sB bits) (t:=D7 t p _) (p:=p) ⟨hF.1,IV _ _ _,hF.2.2⟩,Aa,Aa];rfl
theorem H7(bits:Int)(ch:Nat)(t x:LX):(Rg bits ch t x).length=x.length:=yx _ _ _ _ _
theorem Ai5{bits:Int}{ch:Nat}{t x:LX}{i:Nat}(h:i<x.length):(Rg bits ch t x).getD i 0=uK (U6 bits (cst bits ch t (Rg bits ch t x) (i %ch) i) ((mx ch x).getD i 0)):=by
 obtain⟨w,hw⟩:=tK bits ch t (mx ch x) (x.length-(i+1)) (i+1);rw[show i+1+(x.length-(i+1))=x.length by omega,evl,RD]at hw;have hli:=yx bits ch t (mx ch x) i;have hw':Rg bits ch t x=_:=hw;have hg:(Rg bits ch t x).getD i 0=uK (U6 bits (cst bits ch t (evl bits ch t (mx ch x) i) (i %ch) i) ((mx ch x).getD i 0)):=by
  rw[hw',J3,TJ F0,hli,Nat.sub_self];rfl
 have hc:cst bits ch t (Rg bits ch t x) (i %ch) i=cst bits ch t (evl bits ch t (mx ch x) i) (i %ch) i:=by rw[hw',Aog _ _ _ _ _ _ _ F0]
 rw[hg,hc]
section
variable {bits:Int} {ch:Nat} {t x:LX} (hb:Cb bits) (ht:t.length=16) (h1:1<=ch) (h6:ch<=6) (hx1:1<=x.length) (hx4:x.length<=4000) (hm:x.length %ch=0)
include hb ht h1 h6 hx1 hx4 hm
omit ht in
theorem Aqq(hr:inR bits x):MT (ch:Int) bits x=some 0:=by
 rw[MT,vF hb h1 h6,Aa,B! F3,eX hb x hx4,Amc hb hx4 hr,Aa,B! F3,B! (by rw[Ax,Ac,RG];omega),Bq RL,Aa,Ac,PX,hm,B! F3]
omit hm in
theorem Af3:∀(j i q:Nat),i+j=x.length->j<q->
  Li (mx ch x) (ch:Int) bits q (i:Int) (cts bits ch t (Rg bits ch t x) i) ((Rg bits ch t x).take i)=some (Rg bits ch t x,0)
 |j,i,0,_,h=>absurd h (T6 _)
 |0,i,q+1,hi,_=>by
  have hl:=jV ch x;have hV:=H7 bits ch t x;rw[Li,Un,B! F2,TM F0];rfl
 |j+1,i,q+1,hi,hq=>by
  have hl:=jV ch x;have hV:=H7 bits ch t x;have hc:i %ch<6:=RN (RW _ F0) h6;have hok:=zq bits ch ht (Rg bits ch t x) (i %ch) i;have hs:=p_ (bits:=bits) (ch:=ch) (t:=t) (v:=Rg bits ch t x) (i:=i) hc rfl;have hg:=Ai5 (bits:=bits) (ch:=ch) (t:=t) (x:=x) (i:=i) F0;have ih:=Af3 j (i+1) q F0 F0;have htk:(Rg bits ch t x).take i++[(Rg bits ch t x).getD i 0]=(Rg bits ch t x).take (i+1):=by
   have:(Rg bits ch t x).getD i 0=(Rg bits ch t x)[i]' F0:=by rw[J3,RR F0];rfl
   rw[this,Ns F0]
  have hfw:=Air hb hok (cst bits ch t (Rg bits ch t x) (i %ch) i).1 ((mx ch x).getD i 0);rw[Li,Un,CD F2,W? F0,Aa,Aa,Bq RL,Aa,PX,t! hc,Aa,Aa];refine R? (congrArg (λo=>Option.bind o _) hfw) ?_;rw[Aa];simp only;rw[B! F3];have hst:((bits,(mx ch x).getD i 0,(sB bits,D7 (cst bits ch t (Rg bits ch t x) (i %ch) i).2.1 (cst bits ch t (Rg bits ch t x) (i %ch) i).2.2 (U6 bits (cst bits ch t (Rg bits ch t x) (i %ch) i) ((mx ch x).getD i 0)),((mx ch x).getD i 0-gs (shB bits) (cst bits ch t (Rg bits ch t x) (i %ch) i).1)::(cst bits ch t (Rg bits ch t x) (i %ch) i).2.2.take 15,()),()):CL)=toC bits (jc bits (cst bits ch t (Rg bits ch t x) (i %ch) i) (TQ ((Rg bits ch t x).getD i 0))):=by
   rw[hg,Arf,toC,jc,Afo];simp only;rw[U6,lL]
  refine R? (congrArg (λo=>Option.bind o _) ((congrArg (λz=>Mm (cts bits ch t (Rg bits ch t x) i) ((i %ch:Nat):Int) z) hst).trans hs)) ?_;rw[Aa,Ajs,Aa];have hg2:uK (U6 bits ((cst bits ch t (Rg bits ch t x) (i %ch) i).1,(cst bits ch t (Rg bits ch t x) (i %ch) i).2.1,(cst bits ch t (Rg bits ch t x) (i %ch) i).2.2) ((mx ch x).getD i 0))=(Rg bits ch t x).getD i 0:=hg.symm;rw[hg2,Bi (by rw[JW];simp;omega),Aa,htk,Ag];exact ih
theorem Abp(hr:inR bits x):GX (ch:Int) bits t x=some (Rg bits ch t x,0):=by
 have hl:=jV ch x;have h:=Af3 hb ht h1 h6 hx1 hx4 x.length 0 As F0 F8;have e:As=(As-7)+1+1+1+1+1+1+1:=by have:=Aq;omega
 have hs:JS (ch:Int) bits t (mx ch x) 0 (List.replicate 6 ((0:Int),(0:Int32),((0:Int),(List.replicate 16 (0:Int32)),(List.replicate 16 (0:Int32)),()),()))=Ad9 (ch:Int) bits (mx ch x) (cts bits ch t (Rg bits ch t x) 0):=by
  rw[JS,e];obtain rfl|rfl|rfl:=hb<;>rfl
 rw[GX,GY,Aqq hb h1 h6 hx1 hx4 hm hr,Aa,B! F3,Ag6 ch x h1 h6 hm hx4,Aa];simp only;rw[B! F3];refine R? hs ?_;exact h
end
theorem Abj(ch:Nat):HX=some (sts ch []):=by
 have e:As=(As-7)+1+1+1+1+1+1+1:=by have:=Aq;omega
 rw[HX,GP,Aeg,e];rfl
theorem C!(c:List Bool){n:Nat}(h:n<=c.length):Qu (Mw c) 0 n=Mw (c.take n):=by
 have hl:(c.take n).length=n:=by rw[JW];omega
 apply Q_ (by rw[Jd,Yz,hl]);intro i hi;rw[D9,T9,TC,TC];by_cases hlt:i<n
 ·rw[CD hlt,tb,tb,J3,J3,S_,CD hlt]
 ·rw[B! hlt,jo F0]
theorem Ar3(a:UInt8){k:Nat}(hk:k<8):Ev (Cq a k) (1:UInt8)=UInt8.ofNat (a.toNat/2^k %2):=by
 apply UInt8.toNat_inj.1;rw[pS,om,zk,RO]
 show _&&&1=_;rw[oC];generalize a.toNat/2^k=X;omega
theorem Au2 (E code:List Bool)(hE:E.length+code.length<=330000)(bk:Int->List (Int×Int×UInt64×UInt64×Unit)->Int->LB->Bt)(V:LU)(b f g:Int)(k:List (Int×Int×UInt64×UInt64×Unit)):∀(j o q:Nat),o+j=code.length->j<q->
  Gy bk V b f (code.length:Int) g k (Mw code) q (o:Int) ((E.length+o:Nat):Int) (Qu (Mw (E++code)) 0 (E.length+o))=bk (Ae g 1) k ((E.length+code.length:Nat):Int) (Mw (E++code))
 |j,o,0,_,h=>absurd h (T6 _)
 |0,o,q+1,ho,_=>by
  obtain rfl:o=code.length:=F0
  rw[Gy,Up,B! S0,EB,Ac6,C! _ V',TM V']
 |j+1,o,q+1,ho,hq=>by
  generalize hP:Mw (E++code)=P;have hPo:Hk P (E.length+o)=Hk (Mw code) o:=by rw[<-hP,TC,TC,pC]
  have ih:=Au2 E code hE bk V b f g k j (o+1) q F0 F0;rw[hP,<-RU]at ih;generalize hn:E.length+o=n at*
  have hq8:Ci (n:Int) 8=((n/8:Nat):Int):=by rw[show(8:Int)=((8:Nat):Int)from rfl,WA]
  have hr8:Hl (n:Int) 8=((n %8:Nat):Int):=by rw[show(8:Int)=((8:Nat):Int)from rfl,PX]
  have hqo:Ci (o:Int) 8=((o/8:Nat):Int):=by rw[show(8:Int)=((8:Nat):Int)from rfl,WA]
  have hro:Hl (o:Int) 8=((o %8:Nat):Int):=by rw[show(8:Int)=((8:Nat):Int)from rfl,PX]
  have hroom:Gy bk V b f (code.length:Int) g k (Mw code) (q+1) (o:Int) (n:Int) (Qu P 0 n)=Tv (Gy bk V b f (code.length:Int) g k (Mw code) q) (code.length:Int) V g b f k (Mw code) (o:Int) (n:Int) (room P 0 n):=by
   rw[Gy,Up,CD F9,hr8,room];by_cases h0:n %8=0
   ·rw[CD (by rw[Ax,h0];rfl),Bi iX,Aa,CD h0]
   ·rw[B! SC,B! h0]
  have hcl:=Yz code;have hgm:Aj (Mw code) ((o/8:Nat):Int)=some ((Mw code).getD (o/8) 0):=by
   rw[Cj,J3,RR F0];rfl
  have hg:Aj (room P 0 n) ((n/8:Nat):Int)=some (UInt8.ofNat (Cg P (0+8*(n/8)) (n %8))):=by
   rw[Cj cD,nF]
  have hbit:Ev (Cq ((Mw code).getD (o/8) 0) (o %8)) (1:UInt8)=UInt8.ofNat (Hk P n):=by
   rw[Ar3 _ F0,hPo,Hk]
  have hlt:=vD P (0+8*(n/8)) (n %8+1) F0;have hsn:=mW P (0+8*(n/8)) (n %8);rw[show 0+8*(n/8)+n %8=n by omega]at hsn;have hnew:rA (UInt8.ofNat (Cg P (0+8*(n/8)) (n %8))) (Dl (UInt8.ofNat (Hk P n)) (n %8))=UInt8.ofNat (Cg P (0+8*(n/8)) (n %8+1)):=by
   rw[or8 (Pe _ _ _) fN F0,hsn,Q2 (2^(n %8))]
  rw[hroom,Tv,Ac3,hqo,hro,hq8,hr8,hgm,Aa,Aa,Bq RX,Aa,hg,Aa,Bq RX,Aa,Aa,Aa,
   show(GI.toZ ((o %8:Nat):Int)).toNat=o %8 from rfl,show(GI.toZ ((n %8:Nat):Int)).toNat=n %8 from rfl,hbit,hnew,Uh _ cD,Aa,uP P 0 n 1 F0 F0,Ac9,Ad3,Ag,Ag]
  exact ih
theorem Au9(l m:LB)(h:l.length+m.length<=1000000):Ep [l,m]=some (l++m):=by
 have hF:As=(As-3)+1+1+1:=by have:=Aq;omega
 rw[Ep,Ou,Adt];have g0:Aj [l,m] (0:Int)=some l:=rfl;have g1:Aj [l,m] (1:Int)=some m:=rfl;have l2:Ac [l,m]=2:=rfl;have h3:Ge [l,m] []=some (l++m):=by
  rw[Ge,Iz,Iy,hF,Cm,Dn,l2,CD F3,g0,Aa,Bi F7,Aa,RI,show Ae (0:Int) 1=1 by decide,
   Cm,Dn,l2,CD F3,g1,Aa,Bi,Aa,show Ae (1:Int) 1=2 by decide,Cm,Dn,l2,B! F3]
  rfl
 rw[hF,Ct,Dw,l2,CD F3,g0,Aa,Ag V! V!,B! cG,show Ae (0:Int) 1=1 by decide,
  Ct,Dw,l2,CD F3,g1,Aa,Ag V! V!,B! Wl,show Ae (1:Int) 1=2 by decide,
  Ct,Dw,l2,B! F3,Gg,Ja,B! Wl,Nf,Jb]
 have z:Am (0:Int) 0=0:=F3
 have n0:(0:Int)+Ac l+Ac m=((l.length+m.length:Nat):Int):=by simp[Ac]
 rw[z,n0,Cc,Int.sub_zero];by_cases hp:0<l.length+m.length
 ·rw[CD R7,show VA (0:Int) 0 0=some ()from rfl,Aa,pW,Aa,Bi F7,Aa];rw[show VA (Ac ([]++List.replicate ((l.length+m.length:Nat):Int).toNat (0:UInt8))) 0 0=some () by rw[VA,Bq];simp[Ac];omega,Aa];simp only[JV,Int.sub_self,iS,W8];exact h3
 ·rw[B! R7];exact h3
theorem Aiq (bits:Int)(ch:Nat)(h1:1<=ch)(h6:ch<=6)(V:LU)(hV:V.length<=4000):∀(j i q:Nat),i+j=V.length->j<q->
  Ij V (ch:Int) bits q (i:Int) (sts ch (V.take i)) ((WS ch V i).length:Int) (Mw (WS ch V i))=some (Mw (WS ch V V.length)++Xj (Fe (Mw (WS ch V V.length))).toNat 4,0)
 |j,i,0,_,h=>absurd h (T6 _)
 |0,i,q+1,hi,_=>by
  obtain rfl:i=V.length:=F0
  have hel:=aT ch V V.length;have hpl:=Yz (WS ch V V.length);have hlt:=(Fe (Mw (WS ch V V.length))).toNat_lt;rw[Ij,Uf,B! cG,DO,Acp,wM _ F0,Aa];simp only;have e64:(UInt64.ofNat (Fe (Mw (WS ch V V.length))).toNat).toNat=(Fe (Mw (WS ch V V.length))).toNat:=XX F0;rw[B! F3,Dr,show(4:Int)=((4:Nat):Int)from rfl,VN _ 4 F0 F0 (by rw[e64];omega),Aa];simp only;rw[B! F3,e64,Au9 _ _ (by rw[El];omega),Aa]
 |j+1,i,q+1,hi,hq=>by
  have hc:i %ch<6:=RN (RW _ F0) h6;have hvl:(V.take i).length=i:=by rw[JW];omega
  have hel:=aT ch V i;have hk:=jC ch (V.take i);have hcl:=mR (V.getD i 0) hk.1 hk.2;have ih:=Aiq bits ch h1 h6 V hV j (i+1) q F0 F0;have hvi:V.getD i 0=V[i]' F0:=by rw[J3,RR F0];rfl
  have htk:V.take i++[V.getD i 0]=V.take (i+1):=by rw[hvi,Ns F0]
  have hst:=uo (ch:=ch) (v:=V.take i) hc;have hset:=tG (ch:=ch) (v:=V.take i) (V.getD i 0) hc (by rw[hvl]);have Av6:iP ch (V.take i) (i %ch) (V.take i).length=now ch (V.take i):=Ao7 (by rw[hvl]);rw[Av6]at hst hset;rw[htk]at hset;have hdp:=Alf (k:=(now ch (V.take i)).1) (l:=(now ch (V.take i)).2.1) (s:=(now ch (V.take i)).2.2.1) (t:=(now ch (V.take i)).2.2.2) (kZ ch (V.take i) _ _) (V.getD i 0);have hpc:=Au2 (WS ch V i) (JC (now ch (V.take i)).1 (now ch (V.take i)).2.1 (V.getD i 0)) F0 (Ij V (ch:Int) bits q) V (ch:Int) bits (i:Int) (sts ch (V.take (i+1))) (JC (now ch (V.take i)).1 (now ch (V.take i)).2.1 (V.getD i 0)).length 0 As F0 F8;rw[show(WS ch V i).length+0=(WS ch V i).length from rfl,C! _ V',List.take_left,show((0:Nat):Int)=0 from rfl]at hpc;rw[Ij,Uf,CD F2,uS F0,Aa,Aa,Bq RL,Aa,PX,hst,Aa,Aa];refine R? (congrArg (λo=>Option.bind o _) hdp) ?_;rw[Aa];simp only;rw[B! F3,Aa,Aa];refine R? (congrArg (λo=>Option.bind o _) hset) ?_;rw[Aa];refine R? hpc ?_;rw[Ag];rw[WS,D!]at ih;exact ih
theorem Ati{bits:Int}{ch:Nat}{t x:LX}(hb:Cb bits)(ht:t.length=16)(h1:1<=ch)(h6:ch<=6)(hx1:1<=x.length)(hx4:x.length<=4000)(hm:x.length %ch=0)(hr:inR bits x):
  Yp (ch:Int) bits t x=some (LG bits ch t x,0):=by
 have hV:=H7 bits ch t x;have h:=Aiq bits ch h1 h6 (Rg bits ch t x) F0 (Rg bits ch t x).length 0 As F0 F8;have e0:Mw (WS ch (Rg bits ch t x) 0)=[]:=by simp[WS,Mw]
 have e1:((WS ch (Rg bits ch t x) 0).length:Int)=0:=rfl;rw[e0,e1,W8,hV,show((0:Nat):Int)=0 from rfl]at h;rw[Yp,GL,Abp hb ht h1 h6 hx1 hx4 hm hr,Aa];simp only;rw[B! F3,Abj ch,Aa,LG,O!,Abv];exact h
structure ClipOk (c w r n:Nat) (x:LX):Prop where
 ch:1<=c/\c<=6
 bits:Cb (w:Int)
 rate:1<=r/\r<=1048576
 cnt:1<=n/\n<=4000/c
 len:x.length=n*c
 fr:(n-1)/Al r+1<=1000
 rng:inR (w:Int) x
theorem ClipOk.le{c w r n:Nat}{x:LX}(h:ClipOk c w r n x):n<=4000/\n*c<=4000/\1<=x.length/\x.length<=4000:=by
 have h1:=J? c h.cnt.2;have h2:=X? 4000 c;have h3:=RS 4000 c;have h4:=XD h.cnt.1 h.ch.1;have h5:=h.len;have:=h.cnt;omega
theorem ClipOk.w3{c w r n:Nat}{x:LX}(h:ClipOk c w r n x):w=8\/w=16\/w=24:=by
 have:=h.bits;unfold Cb at this;omega
theorem ClipOk.shape{c w r n:Nat}{x:LX}(h:ClipOk c w r n x)(f:Nat)(hf:f=1\/f=2):Kj f c w r n=true:=by
 have:=h.w3;have:=h.ch;have:=h.rate;have:=h.cnt;simp only[Kj,E3];omega
theorem ClipOk.fit{c w r n:Nat}{x:LX}(h:ClipOk c w r n x):QF c r n=true:=by
 have:=h.cnt;have:=h.fr;simp only[QF,E3];omega
theorem TW{p:Prop}(h:p:=by rw[Q!];omega):p:=h
theorem iq{p:Prop}(h:p:=by simp[El,AB]):p:=h
def u? (f c w r n:Nat):LB:=AB++Xj f 2++Xj c 2++Xj w 2++Xj r 4++Xj n 4
def b!(f c w r n:Nat):LB:=u? f c w r n++Xj (Fe (u? f c w r n)).toNat 4
theorem N6(f c w r n:Nat):(u? f c w r n).length=18:=by simp only[u?,AB,D!,El];rfl
theorem R9(f c w r n:Nat):(b! f c w r n).length=22:=by rw[b!,D!,N6,El]
theorem P9(b f g h k:Int)(m v w q:Nat)(a:LB)(hm:m<5)(hv:Aj ([b,f,g,h,k]:LI) (m:Int)=some (v:Int))(hw:Aj ([2,2,2,4,4]:LI) (m:Int)=some (w:Int))(h1:1<=w)(h8:w<=8)(hlt:v<256^w)(h64:v<18446744073709551616)(ha:a.length<=100):
  Mh b f g h k (q+1) (m:Int) a=Mh b f g h k q ((m+1:Nat):Int) (a++Xj v w):=by
 have e64:(UInt64.ofNat v).toNat=v:=XX F0;have hi1:Ae (m:Int) 1=((m+1:Nat):Int):=by rw[Ag];omega
 rw[Mh,CX,CD F9,hv,Aa,hw,Aa,Vn,VN _ w h1 h8 (by rw[e64];exact hlt),Aa];simp only;rw[Bi (by rw[El];omega),Aa,hi1,e64]
theorem Bcb{f c w r n:Nat}(h1:Kj f c w r n=true)(h2:QF c r n=true):SV (f:Int) (c:Int) (w:Int) (r:Int) (n:Int)=some (b! f c w r n,0):=by
 have hs:(f=1\/f=2)/\ (1<=c/\c<=6)/\ (w=8\/w=16\/w=24)/\ (1<=r/\r<=1048576)/\1<=n:=by simpa only[Kj,E3]using h1
 have hn:n<=4000:=by
  simp only[QF,E3]at h2;have:=RS 4000 c;omega
 have hck:Mz (f:Int) (c:Int) (w:Int) (r:Int) (n:Int)=some 0:=by
  rw[Mz,XF,Aa,h1,B! F3,mZ h1,Aa,h2,B! F3]
 have hF:As=(As-6)+1+1+1+1+1+1:=by have:=Aq;omega
 have hlt:=(Fe (u? f c w r n)).toNat_lt;have e64:(UInt64.ofNat (Fe (u? f c w r n)).toNat).toNat=(Fe (u? f c w r n)).toNat:=XX F0;have hfin:CZ (u? f c w r n)=some (b! f c w r n,0):=by
  rw[CZ,Aje,wM _ (by rw[N6];omega),Aa];simp only;rw[Dr,show(4:Int)=((4:Nat):Int)from rfl,VN _ 4 F0 F0 (by rw[e64];omega),Aa];simp only;rw[Bi (by rw[N6,El];omega),Aa,e64];rfl
 rw[SV,QZ,hck,Aa,B! F3,Ak0,hF];have s0:=P9 (f:Int) (c:Int) (w:Int) (r:Int) (n:Int) 0 f 2 ((As-6)+1+1+1+1+1) AB F0 rfl rfl F0 F0 F0 F0 F3;have s1:=P9 (f:Int) (c:Int) (w:Int) (r:Int) (n:Int) 1 c 2 ((As-6)+1+1+1+1) (AB++Xj f 2) F0 rfl rfl F0 F0 F0 F0 iq;have s2:=P9 (f:Int) (c:Int) (w:Int) (r:Int) (n:Int) 2 w 2 ((As-6)+1+1+1) (AB++Xj f 2++Xj c 2) F0 rfl rfl F0 F0 F0 F0 iq;have s3:=P9 (f:Int) (c:Int) (w:Int) (r:Int) (n:Int) 3 r 4 ((As-6)+1+1) (AB++Xj f 2++Xj c 2++Xj w 2) F0 rfl rfl F0 F0 F0 F0 iq;have s4:=P9 (f:Int) (c:Int) (w:Int) (r:Int) (n:Int) 4 n 4 ((As-6)+1) (AB++Xj f 2++Xj c 2++Xj w 2++Xj r 4) F0 rfl rfl F0 F0 F0 F0 iq;refine s0.trans (s1.trans (s2.trans (s3.trans (s4.trans ?_))));rw[Mh,CX,B! F3];exact hfin
def zO(l:LI):LB:=l.flatMap λx=>Xj x.toNat 4
def Z?(l:LI):LB:=zO l++Xj (Fe (zO l)).toNat 4
theorem rZ(l:LI):(zO l).length=4*l.length:=by
 induction l with
 |nil=>rfl
 |cons x l ih=>rw[zO,oS,D!,El,show(l.flatMap λx=>Xj x.toNat 4)=zO l from rfl,ih,R8];omega
theorem Aqc(l:LI):(Z? l).length=4*l.length+4:=by rw[Z?,D!,rZ,El]
theorem Afq(l:LI)(x:Int):zO (l++[x])=zO l++Xj x.toNat 4:=by simp[zO]
theorem Aw5(l:LI)(hl:l.length<=1000)(h5:∀x∈l,5<=x/\x<=100000):∀(j i q:Nat),i+j=l.length->j<q->Ru l q (i:Int) (zO (l.take i))=some (Z? l,0)
 |j,i,0,_,h=>absurd h (T6 _)
 |0,i,q+1,hi,_=>by
  have hlt:=(Fe (zO l)).toNat_lt;have e64:(UInt64.ofNat (Fe (zO l)).toNat).toNat=(Fe (zO l)).toNat:=XX F0;rw[Ru,JK,B! F2,TM F0,QA,Ajf,wM _ (by rw[rZ];omega),Aa];simp only;rw[Dr,show(4:Int)=((4:Nat):Int)from rfl,VN _ 4 F0 F0 (by rw[e64];omega),Aa];simp only;rw[Bi (by rw[rZ,El];omega),Aa,e64];rfl
 |j+1,i,q+1,hi,hq=>by
  have ih:=Aw5 l hl h5 j (i+1) q F0 F0;obtain⟨x5,x6⟩:=h5 l[i] (S6 _);obtain⟨v,hv⟩:=S? (show 0<=l[i] by omega);have e64:(UInt64.ofNat v).toNat=v:=XX F0;have hi1:Ae (i:Int) 1=((i+1:Nat):Int):=by rw[Ag];omega
  rw[Ru,JK,CD F2,Cj,Aa,hv,Vn,show(4:Int)=((4:Nat):Int)from rfl,VN _ 4 F0 F0 (by rw[e64];omega),Aa];simp only;rw[Bi (by rw[rZ,El,JW];omega),Aa,QI,Akd,hi1,e64];rw[Ns F0,Afq,hv,O1]at ih;exact ih
theorem Bam (l:LI):PL l=some (if Xh l=true then(Z? l,0)else([],8)):=by
 rw[PL,UF,TK,Aa];by_cases h:Xh l=true
 ·rw[CD h,CD h,B! F3];simp only[Xh,DG,E3]at h;obtain⟨⟨h1,h2⟩,h3⟩:=h;have h4:=(IC l 100000 F0).1 h3;have h6:=D6 h4.1;have hl:=Aw5 l h2 (λx hx=>⟨h4.1 x hx,by have:=h6 x hx;omega⟩) l.length 0 As F0 F8;exact hl
 ·rw[B! h,B! h,CD F3]
def Ia(c:Nat):LX->LI->List LX
 |_,[]=>[]
 |x,m::l=>x.take (m.toNat*c)::Ia c (x.drop (m.toNat*c)) l
theorem fM(c:Nat):∀(l:LI) (x:LX),(Ia c x l).length=l.length
 |[],x=>rfl
 |m::l,x=>by rw[Ia,R8,R8,fM c l]
theorem Avj(c:Nat):∀(l:LI) (x:LX),(∀m∈l,0<=m)->x.length=l.sum.toNat*c-> (Ia c x l).flatten=x
 |[],x,_,h=>by
  have:x=[]:=V_ (by simpa using h);rw[this];rfl
 |m::l,x,h0,h=>by
  have hm:=h0 m TR;have hl:0<=l.sum:=by
   have:∀l:LI,(∀m∈l,0<=m)->0<=l.sum:=by
    intro l
    induction l with
    |nil=>intro _;simp
    |cons a l ih=>intro h;have:=ih (λm hm=>h m (RK _ hm));have:=h a TR;rw[RV];omega
   exact this l λm hm=>h0 m (RK _ hm)
  rw[RV,show(m+l.sum).toNat=m.toNat+l.sum.toNat by omega,H9]at h;have ih:=Avj c l (x.drop (m.toNat*c)) (λm hm=>h0 m (RK _ hm)) TW;rw[Ia,YT,ih,X6]
theorem qH(c:Nat)(h1:1<=c):∀(l:LI) (x:LX),(∀m∈l,1<=m)->x.length=l.sum.toNat*c->∀y∈Ia c x l,1<=y.length/\y.length<=x.length/\y.length %c=0/\∀v∈y,v∈x
 |[],x,_,_=>λy hy=>by simp[Ia]at hy
 |m::l,x,hm,hx=>by
  have hm1:=hm m TR;have hl:0<=l.sum:=by
   have:∀l:LI,(∀m∈l,1<=m)->0<=l.sum:=by
    intro l
    induction l with
    |nil=>intro _;simp
    |cons a l ih=>intro h;have:=ih (λm hm=>h m (RK _ hm));have:=h a TR;rw[RV];omega
   exact this l λm hm'=>hm m (RK _ hm')
  rw[RV,show(m+l.sum).toNat=m.toNat+l.sum.toNat by omega,H9]at hx;have hpos:1<=m.toNat*c:=XD F0 h1;intro y hy;rw[Ia,Y!]at hy;rcases hy with rfl|hy
  ·have hlen:(x.take (m.toNat*c)).length=m.toNat*c:=by rw[JW];omega
   rw[hlen];exact⟨hpos,F0,V3 _ _,λv hv=>gX hv⟩
  ·obtain⟨a1,a2,a3,a4⟩:=qH c h1 l (x.drop (m.toNat*c)) (λm hm'=>hm m (RK _ hm')) TW y hy;rw[Q!]at a2;exact⟨a1,F0,a3,λv hv=>a_ (a4 v hv)⟩
theorem G4(bits:Int)(ch:Nat)(t x:LX)(h0:1<=x.length)(h4:x.length<=4000):5<= (LG bits ch t x).length/\ (LG bits ch t x).length<=15*x.length:=by
 have h5:=H! bits ch t x h0 h4;have h:=aT ch (Rg bits ch t x) x.length;refine⟨h5.1,?_⟩;rw[LG,D!,El,O!,Yz];omega
def Tf(fs:List LB):LI:=fs.map λf=>(f.length:Int)
theorem LV(fs:List LB):(Tf fs).length=fs.length:=by rw[Tf,iL]
theorem I7:∀fs:List LB,(Tf fs).sum=(fs.flatten.length:Int)
 |[]=>rfl
 |f::fs=>by rw[Tf,T!,RV,YT,D!,show(fs.map λf=>(f.length:Int))=Tf fs from rfl,I7 fs];omega
theorem tZ(bits:Int)(ch:Nat)(t:LX):∀ys:List LX,(∀y∈ys,1<=y.length/\y.length<=4000)-> ((ys.map (LG bits ch t)).flatten).length<=15*ys.flatten.length
 |[],_=>by simp
 |y::ys,h=>by
  have ih:=tZ bits ch t ys λy hy=>h y (RK _ hy);obtain⟨h1,h4⟩:=h y TR;have:=(G4 bits ch t y h1 h4).2;rw[T!,YT,YT,D!,D!];omega
def bC(p:LB):Nat:=if p=[]then 1 else 2
def U5(p:LB):LB:=if p=[]then []else Xj (BO p).toNat 8
theorem Akl(p:LB):bC p=1\/bC p=2:=by unfold bC;split<;>simp
theorem Apx (p:LB):(U5 p).length=if bC p=2 then 8 else 0:=by
 unfold U5 bC;by_cases h:p=[]
 ·rw[CD h,CD h];rfl
 ·rw[B! h,B! h,El];rfl
def YE(c r n:Nat)(x:LX):List LX:=Ia c x (Ap (Al r) n)
def zQ(c w r n:Nat)(x:LX)(p:LB):List LB:=(YE c r n x).map (LG (w:Int) c (Qw p))
def oY(c w r n:Nat)(x:LX)(p:LB):LB:=b! (bC p) c w r n++(U5 p++(Z? (Tf (zQ c w r n x p))++(zQ c w r n x p).flatten))
theorem Awg{g n:Nat}(hg:1<=g)(h1:1<=n):∀m∈Ap g n,1<=m:=by
 intro m hm;rw[Ap,e?,List.mem_replicate,hH]at hm;have h:=X? (n-1) g;rcases hm with⟨_,rfl⟩|rfl
 ·omega
 ·omega
section
variable {c w r n:Nat} {x:LX} (h:ClipOk c w r n x)
include h
theorem ClipOk.sum:(Ap (Al r) n).sum=(n:Int):=kX h.cnt.1
theorem Afc:(YE c r n x).flatten=x:=by
 refine Avj _ _ _ (λm hm=>?_) ?_
 ·have:=Awg (Iw r) h.cnt.1 m hm;omega
 ·rw[h.sum,h.len,O1]
theorem uU:∀y∈YE c r n x,1<=y.length/\y.length<=4000/\y.length %c=0/\inR (w:Int) y:=by
 intro y hy;obtain⟨a1,a2,a3,a4⟩:=qH c h.ch.1 _ _ (Awg (Iw r) h.cnt.1) (by rw[h.sum,h.len,O1]) y hy;have:=h.le;exact⟨a1,F0,a3,λv hv=>h.rng v (a4 v hv)⟩
omit h in
theorem Apa(p:LB):(zQ c w r n x p).length=(Ap (Al r) n).length:=by rw[zQ,iL];exact fM _ _ _
theorem fQ(p:LB):1<= (zQ c w r n x p).length/\ (zQ c w r n x p).length<=1000:=by
 rw[Apa,jY];exact⟨Nat.le_add_left _ _,h.fr⟩
theorem Agb (p:LB):((zQ c w r n x p).flatten).length<=15*x.length:=by
 have:=tZ (w:Int) c (Qw p) (YE c r n x) λy hy=>⟨(uU h y hy).1,(uU h y hy).2.1⟩;rw[Afc h]at this;exact this
theorem Alz(p:LB):∀f∈zQ c w r n x p,5<=f.length:=by
 intro f hf;rw[zQ,iR]at hf;obtain⟨y,hy,rfl⟩:=hf;exact(G4 _ _ _ _ (uU h y hy).1 (uU h y hy).2.1).1
theorem Aix(p:LB):Xh (Tf (zQ c w r n x p))=true:=by
 have h1:=fQ h p;have h2:=Agb h p;have h3:=h.le;simp only[Xh,DG,E3];rw[IC _ _ F0,LV,I7];refine⟨F0,λz hz=>?_,F0⟩;rw[Tf,iR]at hz;obtain⟨f,hf,rfl⟩:=hz;have:=Alz h p f hf;omega
omit h in
theorem Ade(p:LB):(oY c w r n x p).length=22+(if bC p=2 then 8 else 0)+(4*(zQ c w r n x p).length+4)+(zQ c w r n x p).flatten.length:=by
 rw[oY,D!,D!,D!,R9,Apx,Aqc,LV];omega
theorem Al1 (p:LB):(oY c w r n x p).length<=34+4*(zQ c w r n x p).length+15*x.length:=by
 have h1:=Ade (c:=c) (w:=w) (r:=r) (n:=n) (x:=x) p;have h2:=Agb h p;split at h1<;>omega
theorem Ago(p:LB):(oY c w r n x p).length<=64034:=by
 have:=Al1 h p;have:=fQ h p;have:=h.le;omega
end
theorem Av9:∀{l:LI},(∀x∈l,0<=x)->∀k,0<= (l.take k).sum
 |[],_,k=>by simp
 |x::l,h,0=>by simp
 |x::l,h,k+1=>by
  have:=Av9 (l:=l) (λy hy=>h y (RK _ hy)) k;have:=h x TR;rw[List.take_succ_cons,RV];omega
theorem K6(c:Nat)(h1:1<=c):∀(l:LI) (x:LX),(∀m∈l,1<=m)->x.length=l.sum.toNat*c->∀(k:Nat) (hk:k<l.length) (hk':k<(Ia c x l).length),(Ia c x l)[k].length=l[k].toNat*c
 |[],x,_,_=>λk hk=>absurd hk (T6 _)
 |m::l,x,hm,hx=>by
  have hm1:=hm m TR;have hl:0<=l.sum:=by
   have:=Av9 (l:=l) (λy hy=>by have:=hm y (RK _ hy);omega) l.length;rw[US]at this;exact this
  rw[RV,show(m+l.sum).toNat=m.toNat+l.sum.toNat by omega,H9]at hx;intro k hk hk';cases k with
  |zero=>simp only[Ia,List.getElem_cons_zero,JW];omega
  |succ k=>
   simp only[Ia,List.getElem_cons_succ];exact K6 c h1 l (x.drop (m.toNat*c)) (λm hm'=>hm m (RK _ hm')) TW k (by simpa using hk) _
structure FileOf (c w r n:Nat) (x:LX) (p:LB) (T:Nat) (fs:List LB) (z b:LB):Prop where
 clip:ClipOk c w r n x
 pass:p.length<=64
 front:Ds b=((T:Int),0)
 le:b.length<=100000
 lens:Tf fs=Tf (zQ c w r n x p)
 form:b.drop T=b! (bC p) c w r n++(U5 p++(Z? (Tf (zQ c w r n x p))++(fs.flatten++z)))
section
variable {c w r n:Nat} {x:LX} {p:LB} {T:Nat} {fs:List LB} {z b:LB} (h:FileOf c w r n x p T fs z b)
include h
theorem FileOf.cnt:fs.length=(zQ c w r n x p).length:=by
 have:=congrArg List.length h.lens;rw[LV,LV]at this;exact this
end
def Cd(e:Int):Prop:=e=0\/e=4\/e=12\/e=16\/e=22\/e=24\/e=26\/e=38
instance(e:Int):Decidable (Cd e):=by unfold Cd;infer_instance
theorem Cd.nn{e:Int}(h:Cd e):0<=e:=by unfold Cd at h;omega
theorem Aqg(p:LB)(N a k:Nat):Cd (XA p N a k).2.2:=by
 unfold XA
 repeat' split
 all_goals first|decide|exact .inl rfl
theorem Ar9(p:LB)(N a k l:Nat):Cd (dT p N a k l).2.2:=by
 have h:=Aqg p N (a+1) l;unfold dT
 repeat' split
 all_goals first|exact h|decide|exact .inl rfl
theorem pD(ch:Nat)(p:LB)(N:Nat):∀(j a:Nat) (out:LU),Cd (Zu ch p N j a out).2.2
 |0,a,out=>by rw[Zu];exact .inl rfl
 |j+1,a,out=>by
  rw[Zu];split
  ·exact Ar9 ..
  ·exact pD ch p N j _ _
theorem Aig(b:LB):Cd (Wo b):=by
 unfold Wo
 repeat' split
 all_goals first|decide|exact .inl rfl
theorem Ap0(a:LX)(b:Int):∀(q:Nat) (i e:Int),Bk a b q i=some e->Cd e
 |0,_,_,h=>by rw[Bk]at h;cases h
 |q+1,i,e,h=>by
  rw[Bk,Dy]at h;split at h
  ·cases hg:Aj a i with
   |none=>rw[hg]at h;cases h
   |some g=>
    rw[hg,Aa]at h;split at h
    ·cases h;decide
    ·rw[Aa]at h;split at h
     ·cases h;decide
     ·exact Ap0 a b q _ e h
  ·cases h;decide
theorem Aat{bits:Int}{a:LX}{e:Int}(hb:Cb bits)(h:Bo bits a=some e):Cd e:=by
 rw[Bo,Hu]at h;rw[sY hb,Aa,B! (by have:=dI bits;rw[Ax];simp;omega)]at h;split at h
 ·cases h;decide
 ·exact Ap0 a _ _ _ e h
theorem All{bits:Int}{ch n:Nat}{t:LX}{b:LB}(hb:Cb bits)(ht:t.length=16)(h1:1<=ch)(h6:ch<=6)(n1:1<=n)(n2:n<=4000/ch){l:LX}{e:Int}
  (h:Fl (ch:Int) bits t (n:Int) b=some (l,e)):Cd e:=by
 have hn:n*ch<=4000:=by
  have:=J? ch n2;have h2:=X? 4000 ch;omega
 have hq4:=pK h1 h6;generalize 4000/ch=mm at*
 have hh:=dI bits;have kB:Oq (ch:Int) bits (n:Int)=some 0:=by
  rw[Oq,DZ,B! SY,sY hb,Aa,B! SC,Aa,B! (by simp[Ao,Af];omega),Bq RL,Aa,hq4,B! R7]
 rw[Fl,Uu,kB,Aa,B! M_,I5,Aa]at h;by_cases hs:Wo b≠0
 ·rw[CD (by rw[Ao];simpa using hs)]at h;simp only[Aa]at h;cases h;exact Aig b
 have hs0:Wo b=0:=by simpa using hs
 have hlen:=Acm hs0;have e4:Am (Ac b) 4=((b.length-4:Nat):Int):=by rw[Ac,Cc];omega
 rw[B! (by rw[Ao,hs0];simp),e4,Dg,Aa,show((b.length-4:Nat):Int).toNat=b.length-4 from rfl]at h;have hpl:(b.take (b.length-4)).length=b.length-4:=by simp
 generalize b.take (b.length-4)=p at*
 have hr:=rX (N:=8*p.length) (p:=p) rfl F0 h1 h6 hn;have hV:=pD ch p (8*p.length) (n*ch) 0 [];have hat:=A6 (ch:=ch) (p:=p) (N:=8*p.length) (n*ch) 0 [] F0;rw[hr,Aa]at h;generalize Zu ch p (8*p.length) (n*ch) 0 []=V at*
 obtain⟨v,at',er⟩:=V;simp only at*
 by_cases he:er≠0
 ·rw[CD he]at h;simp only at h;rw[Jg,Js,CD (by rw[Ao];simpa using he)]at h;cases h;exact hV
 have he0:er=0:=by simpa using he
 have hvl:=hat.2.2 he0;simp only[Y_,T9]at hvl;rw[B! he]at h;simp only at h;rw[Jg,Js]at h;split at h
 ·cases h;decide
 ·rw[B! F3]at h;have hm:v.length %ch=0:=by rw[hvl];exact V3 n ch
  obtain⟨l',e',g1,g2,g3,g4,g5⟩:=Asw (v:=v) hb ht h1 h6 F0 hm;rw[g1,Aa,g2,Aa]at h;have:=Aat hb g4;by_cases hl:e'≠0
  ·rw[CD hl]at h;cases h;exact this
  ·rw[B! hl]at h;cases h;decide
theorem Adh{bits:Int}{ch n:Nat}{t:LX}{b:LB}(hb:Cb bits)(ht:t.length=16)(h1:1<=ch)(h6:ch<=6)(n1:1<=n)(n2:n<=4000/ch){l:LX}{e:Int}
  (h:Fl (ch:Int) bits t (n:Int) b=some (l,e)):0<=e:=(All hb ht h1 h6 n1 n2 h).nn
def shI(f c w r n:Int):Bool:=decide ((f=1\/f=2)/\ (1<=c/\c<=6)/\ (w=8\/w=16\/w=24)/\ (1<=r/\r<=1048576)/\1<=n)
theorem Ak9(f c w r n:Int):Qt f c w r n=some (shI f c w r n):=by
 have e2:Sp f c w r n=some (decide ((f=1\/f=2)/\ (1<=c/\c<=6)/\ (1<=r/\r<=1048576)/\1<=n)):=by
  rw[Sp,LW];congr 1;rw[O3];simp only[Ax,Au,KO,DG,SU,RG,E3];omega
 have g:∀k:Int,geq w k=decide (w=k):=λk=>by rw[Ax,O3];simp
 rw[Qt,LM,e2,g,g,g,shI];by_cases h8:w=8
 ·subst h8;simp
 ·by_cases h16:w=16
  ·subst h16;simp
  ·by_cases h24:w=24
   ·subst h24;simp
   ·simp[h8,h16,h24]
theorem Aou(f c w r n:Int):Jz f c w r n=some (shI f c w r n):=by
 rw[Jz,shI];simp only[Ax,Dq,KO,DG,SU,RG,E3,Y3];split
 ·rename_i h;congr 1;rw[O3];simp only[DG,SU,RG,E3];omega
 ·rename_i h;congr 1;symm;rw[W5];omega
structure HdI (f c w r n:Int) (F C W R N:Nat):Prop where
 ef:f=F
 ec:c=C
 ew:w=W
 er:r=R
 en:n=N
 shape:Kj F C W R N=true
 fit:QF C R N=true
theorem Ahe(f c w r n:Int):(∃F C W R N:Nat,HdI f c w r n F C W R N)\/ (Ll f c w r n=some 8/\Ei f c w r n=some ([],8)):=by
 by_cases h:shI f c w r n=true
 ·have h':=h;simp only[shI,E3]at h';obtain⟨F,rfl⟩:=S? (show 0<=f by omega);obtain⟨C,rfl⟩:=S? (show 0<=c by omega);obtain⟨W,rfl⟩:=S? (show 0<=w by omega);obtain⟨R,rfl⟩:=S? (show 0<=r by omega);obtain⟨N,rfl⟩:=S? (show 0<=n by omega);have hs:Kj F C W R N=true:=by simp only[Kj,E3];omega
  by_cases hf:QF C R N=true
  ·exact .inl ⟨F,C,W,R,N,rfl,rfl,rfl,rfl,rfl,hs,hf⟩
  ·have hf':QF C R N=false:=by simpa using hf
   refine .inr ⟨?_,?_⟩
   ·rw[Ll,rQ,Aa,hs,B! CH,S7 hs,Aa,hf'];rfl
   ·rw[Ei,Mz,XF,Aa,hs,B! CH,mZ hs,Aa,hf'];rfl
 ·have h':shI f c w r n=false:=by simpa using h
  refine .inr ⟨?_,?_⟩
  ·rw[Ll,Aou,Aa,h'];rfl
  ·rw[Ei,Mz,Ak9,Aa,h'];rfl
theorem HdI.check{f c w r n:Int}{F C W R N:Nat}(h:HdI f c w r n F C W R N):Ll f c w r n=some 0:=by
 obtain⟨rfl,rfl,rfl,rfl,rfl,hs,hf⟩:=h;rw[Ll,rQ,Aa,hs,B! CH,S7 hs,Aa,hf];rfl
theorem HdI.vI{f c w r n:Int}{F C W R N:Nat}(h:HdI f c w r n F C W R N):Ei f c w r n=some (Ap (Al R) N,0):=by
 obtain⟨rfl,rfl,rfl,rfl,rfl,hs,hf⟩:=h;exact Awn hs hf
theorem HdI.num{f c w r n:Int}{F C W R N:Nat}(h:HdI f c w r n F C W R N):(F=1\/F=2)/\ (1<=C/\C<=6)/\ (W=8\/W=16\/W=24)/\ (1<=R/\R<=1048576)/\1<=N/\N<=4000/C/\N<=4000/\ (N-1)/Al R+1<=1000:=by
 obtain⟨rfl,rfl,rfl,rfl,rfl,hs,hf⟩:=h;simp only[Kj,E3]at hs;simp only[QF,E3]at hf;have hd:4000/C<=4000:=RS _ _;omega
theorem HdI.YD{f c w r n:Int}{F C W R N:Nat}(h:HdI f c w r n F C W R N):Gu f c w r n=some (Ap (Al R) N):=by
 have hn:=h.num;obtain⟨rfl,rfl,rfl,rfl,rfl,hs,hf⟩:=h;rw[Gu,M8 F0 F0 F0];rfl
section
variable {f c w r n:Nat} (h1:Kj f c w r n=true) (h2:QF c r n=true)
include h1 h2
theorem Ae0(k:Nat)(hk:k<= (Ap (Al r) n).length):∀(j i q:Nat),i+j=k->j<q->Lt (k:Int) (f:Int) (c:Int) (w:Int) (r:Int) (n:Int) (Ap (Al r) n) q (((Ap (Al r) n).take i).sum) (i:Int)=some (FK c w (Ap (Al r) n) k)
 |0,i,q+1,hi,_=>by
  obtain⟨hc,hw,hr,hn,_⟩:=sM h1;obtain⟨g1,g2,g3⟩:=VK h1 h2;have b:=nL g1 i;obtain rfl:i=k:=F0
  have hb:((Ap (Al r) n).take i).sum.toNat*(c*wB (w:Int))<=4000*(6*3):=S! F0 (S! hc.2 (E7 (w:Int)).2);rw[Lt,Xs,B! S0,NJ,OQ,Ik,Aa];simp only;rw[Ab1,Art hc.2 hw,Aa,FK];have e:((Ap (Al r) n).take i).sum=((((Ap (Al r) n).take i).sum.toNat:Nat):Int):=F0
  rw[e,Fg U7 U7,<-TX];rfl
 |j+1,i,q+1,hi,hq=>by
  obtain⟨g1,g2,g3⟩:=VK h1 h2;have hK:=N0 h2;have hlt:i<(Ap (Al r) n).length:=F0
  have b1:=nL g1 i;have b2:=nL g1 (i+1);have e:=Ar7 hlt;have ih:=Ae0 k hk j (i+1) q F0 F0;rw[e]at ih;rw[Lt,Xs,CD F9,Cj hlt,Aa,Aa,Ag,Ag];exact ih
theorem J_(k:Nat)(hk:k<= (Ap (Al r) n).length):Xb (f:Int) (c:Int) (w:Int) (r:Int) (n:Int) (k:Int)=some (FK c w (Ap (Al r) n) k):=by
 have hK:=N0 h2;obtain⟨g1,g2,g3⟩:=VK h1 h2;obtain⟨hc,hw,hr,hn,_⟩:=sM h1;have h:=Ae0 h1 h2 k hk k 0 As F0 F8;rw[W8,bQ]at h;rw[Xb,OD,Gu,M8 hr.2 hn g3,Aa,Aa];exact h
theorem Aau{i:Nat}(hlt:i<(Ap (Al r) n).length):Ae (FK c w (Ap (Al r) n) i) (Ci (Br (Br ((Ap (Al r) n)[i]) (c:Int)) (w:Int)) 8)=FK c w (Ap (Al r) n) (i+1):=by
 obtain⟨hc,hw,hr,hn,_⟩:=sM h1;obtain⟨g1,g2,g3⟩:=VK h1 h2;have b1:=nL g1 i;have b2:=nL g1 (i+1);have e:=Ar7 hlt;have h0:=g1 _ (S6 hlt);have e2:(Ap (Al r) n)[i]=(((Ap (Al r) n)[i].toNat:Nat):Int):=F0
 have hb:((Ap (Al r) n).take (i+1)).sum.toNat*(c*wB (w:Int))<=4000*(6*3):=S! F0 (S! hc.2 (E7 (w:Int)).2);rw[e2,Ase F0 hc.2 hw,FK,FK];have e3:((Ap (Al r) n).take (i+1)).sum.toNat=((Ap (Al r) n).take i).sum.toNat+(Ap (Al r) n)[i].toNat:=F0
 rw[e3,H9]at hb⊢;rw[Ag];omega
theorem Aex(a:Nat)(ha:a<= (Ap (Al r) n).length)(o p:LB)(m:LI)(a':Int)(N:LB)(u:Bool)(v:Int):∀(j i q:Nat),i+j=a->j<q->
  Pz ((Ap (Al r) n).take a) o p (f:Int) (c:Int) (w:Int) (r:Int) (n:Int) m a' N u v q (FK c w (Ap (Al r) n) i) (i:Int)=some (tM (Ac N) (FK c w (Ap (Al r) n) a))
 |0,i,q+1,hi,_=>by
  obtain rfl:i=a:=F0
  rw[Pz,CM,B! (by rw[Af,Ac,JW];simp;omega),QQ,Aj0]
 |j+1,i,q+1,hi,hq=>by
  have hK:=N0 h2;have hlt:i<(Ap (Al r) n).length:=F0
  have hlt2:i<((Ap (Al r) n).take a).length:=by rw[JW];omega
  have ih:=Aex a ha o p m a' N u v j (i+1) q F0 F0;rw[Pz,CM,CD F2,Cj hlt2,Aa,gV,Aau h1 h2 hlt,Ag];exact ih
end
theorem f?{p:Prop}(h:p:=by simp[Ao,Af,Au,Ac];omega):p:=h
theorem B4{α:Type}(l:List α):geq (Ac l) 0=decide (l=[]):=by
 cases l with
 |nil=>rfl
 |cons x l=>rw[Ax,Ac,R8,UA CH,beq_eq_false_iff_ne];omega
theorem qy{α:Type}(l:List α):Ef (Ac l) 0=decide (l≠ []):=by
 cases l with
 |nil=>rfl
 |cons x l=>rw[Au,Ac,R8,UI CH];simp
inductive FitD (o:LB) (f c w r n:Int) (g:LI) (a:Int) (x:LB):Prop
 |new:f=0->c=0->w=0->r=0->n=0->g=[]->a=0->x=[]->FitD o f c w r n g a x
 |head (F C W R N:Nat):HdI f c w r n F C W R N-> (o==([]:LB))=decide (F=1)->g=[]->a=0->x=[]->FitD o f c w r n g a x
 |tab (F C W R N A:Nat):HdI f c w r n F C W R N-> (o==([]:LB))=decide (F=1)->Xh g=true->g.length=(Ap (Al R) N).length->a=A->A<=g.length->FitD o f c w r n g a x
theorem Abl(f c w r n:Int)(o:LB):Og f c w r n o=Ek f c w r n o:=rfl
theorem Aaf(o p:LB)(f c w r n:Int)(g:LI)(a:Int)(x:LB)(u:Bool)(v:Int):
  (Za o p f c w r n g a x u v=some false/\Lk o p f c w r n g a x u v=some false)\/
  (Za o p f c w r n g a x u v=some true/\Lk o p f c w r n g a x u v=Cr o p f c w r n g a x u v/\FitD o f c w r n g a x):=by
 rw[Za,QV,Lk,We];by_cases hz:f=0/\c=0/\w=0/\r=0/\n=0
 ·obtain⟨rfl,rfl,rfl,rfl,rfl⟩:=hz;rw[CD F3,CD F3,B4,B4,qy,qy];by_cases h:g=[]/\a=0/\x=[]
  ·obtain⟨rfl,rfl,rfl⟩:=h;exact .inr ⟨rfl,by rw[B! F3], .new rfl rfl rfl rfl rfl rfl rfl rfl⟩
  ·refine .inl ⟨?_,?_⟩
   ·congr 1;rw[Bool.eq_false_iff];intro e;simp only[DG,E3,Ax,RG]at e;exact h ⟨e.1.1,e.1.2,e.2⟩
   ·rw[CD];simp only[SU,E3,Ao,V?];by_cases e1:g=[]
    ·by_cases e2:a=0
     ·exact .inr λe3=>h ⟨e1,e2,e3⟩
     ·exact .inl (.inr e2)
    ·exact .inl (.inl e1)
 ·have hz2:¬(((geq f 0)&&((geq c 0)&&((geq w 0)&&((geq r 0)&&((geq n 0)&&true)))))=true):=by
   simp only[DG,Ax,RG,VX];exact hz
  rw[B! hz2,B! hz2];rcases Ahe f c w r n with⟨F,C,W,R,N,h⟩|⟨e1,e2⟩
  ·rw[h.vI,h.check,Aa,Aa,Abl];simp only;rw[B! F3,B! F3,Ek];have hf:geq f 1=decide (F=1):=by rw[h.ef,Ax,O3];simp;omega
   rw[hf];by_cases hp:(o==([]:LB))=decide (F=1)
   ·rw[B! (by rw[hp];simp),Aa,Aa,B! F3,B! F3,Ak5,QP,Pf,Pd,B4,B4,qy];by_cases hg:g=[]
    ·subst hg;rw[CD CH,CD CH];by_cases h':a=0/\x=[]
     ·obtain⟨rfl,rfl⟩:=h';exact .inr ⟨rfl,by rw[B! F3], .head F C W R N h hp rfl rfl rfl⟩
     ·refine .inl ⟨?_,?_⟩
      ·congr 1;rw[Bool.eq_false_iff];intro e;simp only[DG,E3,Ax,RG]at e;exact h' e
      ·rw[CD];simp only[SU,E3,Ao,V?];by_cases e2:a=0
       ·exact .inr λe3=>h' ⟨e2,e3⟩
       ·exact .inl e2
    ·rw[B! (by simpa using hg),B! (by simpa using hg),TK,ZO,Aa,Aa];by_cases ht:Xh g=true
     ·rw[CD ht,h.YD];simp only[Aa];by_cases hl:g.length=(Ap (Al R) N).length/\0<=a/\a<=g.length
      ·obtain⟨hl,ha0,ha1⟩:=hl;obtain⟨A,rfl⟩:=S? ha0;have hA:A<= (Ap (Al R) N).length:=F0
       rw[B! f?,B! F3,B! f?,Dg,Aa,Akc];have hh:=h;clear hf;obtain⟨rfl,rfl,rfl,rfl,rfl,hs,hf⟩:=hh;have hlp:=Aex hs hf A hA o p g (A:Int) x u v A 0 As F0 (by have:=Aq;have:=N0 hf;omega);have h0:FK C W (Ap (Al R) N) 0=0:=by rw[FK,W8,bQ];simp
       rw[h0,show((0:Nat):Int)=0 from rfl]at hlp;rw[show((A:Int)).toNat=A from rfl,hlp,J_ hs hf A hA,Aa];by_cases hx:(x.length:Int)<=FK C W (Ap (Al R) N) A
       ·refine .inr ⟨?_,?_, .tab F C W R N A h hp ht hl rfl F0⟩
        ·rw[KO,Ac,UI hx]
        ·rw[B! PO]
       ·refine .inl ⟨?_,?_⟩
        ·rw[KO,Ac,UA hx]
        ·rw[CD PO]
      ·refine .inl ⟨?_,?_⟩
       ·rw[CD f?]
       ·rw[B! F3,CD f?]
     ·refine .inl ⟨?_,?_⟩
      ·rw[B! ht,CD (by simp[Ao])]
      ·rw[B! ht,CD F3,CD CH]
   ·rw[CD (by simpa using hp),Aa,Aa,CD F3,CD F3];exact .inl ⟨rfl,rfl⟩
  ·rw[e1,e2,Aa,Aa];simp only;rw[CD F3,CD F3];exact .inl ⟨rfl,rfl⟩
theorem Ajy(b:LB)(n:Int):Cd (bF b n).2:=by
 unfold bF
 repeat' split
 all_goals first|decide|exact .inl rfl
theorem Ais(b:LB):(Zy b).2=6\/Cd (Zy b).2:=by
 unfold Zy yX
 repeat' split
 all_goals first|exact .inl rfl|exact .inr (Ajy _ _)|exact .inr F3
theorem Ae8(b:LB):(Km b).2=6\/Cd (Km b).2:=by
 unfold Km
 repeat' split
 all_goals first|exact .inl rfl|exact .inr (.inl rfl)|exact .inr F3
theorem Akb(b:LB):(Cz b).2=6\/Cd (Cz b).2:=by
 unfold Cz;split
 ·exact Ais b
 ·exact Ae8 b
theorem Acx(b:LB):∀(j p:Nat),p<=b.length->b.length<j+p->Cd (Cp b j p).2
 |0,p,h1,h2=>by omega
 |j+1,p,h1,h2=>by
  rw[Cp];split
  ·exact .inl rfl
  ·rename_i h6;split
   ·exact(Akb _).resolve_left h6
   ·rename_i h0;split
    ·exact(by decide:Cd 4)
    ·have hz:Cz (b.drop p)=((Cz (b.drop p)).1,0):=by rw[iQ];exact⟨rfl,by simpa using h0⟩
     obtain⟨k1,k2⟩:=lP hz;rw[Q!]at k2;split
     ·exact .inl rfl
     ·exact Acx b j _ F0 F0
theorem vX(b:LB):Cd (Ds b).2:=by
 unfold Ds U4;split
 ·exact .inl rfl
 ·exact Acx b _ _ F0 F0
theorem Adx(b:LB):0<= (Ds b).2:=(vX b).nn
theorem S1(b:LB):Cd (Fo b).2.2.2.2.2:=by
 unfold Fo
 repeat' split
 all_goals first|decide|exact .inl rfl
theorem E? (b:LB):0<= (Fo b).2.2.2.2.2:=(S1 b).nn
theorem Al0(b:LB){n:Nat}(h:1<=n/\n<=1000):Cd (Kg b n).2:=by
 unfold Kg;rw[B! (λe=>e h)]
 repeat' split
 all_goals first|decide|exact .inl rfl
theorem M? (b:LB)(n:Nat):0<= (Kg b n).2:=by
 unfold Kg
 repeat' split
 all_goals simp
def T3:LB:=[73,68,51]
def T7:LB:=[65,80,69,84,65,71,69,88]
def Th(b s:LB):Bool:=decide (b.length<s.length)&&(b==s.take b.length)
theorem Apn(b s:LB):Rq b s=some (Th b s):=by
 rw[Rq,Th];by_cases h:b.length<s.length
 ·rw[CD Wl,Ac,Dg,Aa,UI h,V8];rfl
 ·rw[B! Wl,UA h];rfl
theorem wE(b s:LB)(h:b.length<s.length):Je s b=some (Th b s):=by
 rw[Je,Hf,CD p?,Ac,Dg,Aa,Aa,Th,UI h,V8,O1];congr 1;rw[O3,RG,RG];exact eq_comm
theorem mS{b s:LB}(h:¬b.length<s.length):Th b s=false:=by rw[Th,UA h];rfl
theorem uX(b:LB):Qs b=some (Th b T3||Th b T7):=by
 obtain⟨q,hq⟩:∃q,As=q+3:=⟨As-3,by have:=Aq;omega⟩;have l3:Kf b (q+1) 2=some false:=by rw[Kf,Uw,B! F3];rfl
 have l2:Kf b (q+2) 1=some (Th b T7):=by
  rw[Kf,Uw,CD F3,show Aj ([([73,68,51]:LB),([65,80,69,84,65,71,69,88]:LB)]:List LB) 1=some T7 from rfl,Aa,show Ae (1:Int) 1=2 from rfl];by_cases h:b.length<T7.length
  ·rw[CD Wl,wE b T7 h,Aa];by_cases hb:Th b T7=true
   ·rw[CD hb,hb]
   ·rw[B! hb,l3];simpa using hb
  ·rw[B! Wl,l3,mS h]
 rw[Qs,QT,Ajn,hq,Kf,Uw,CD F3,show Aj ([([73,68,51]:LB),([65,80,69,84,65,71,69,88]:LB)]:List LB) 0=some T3 from rfl,Aa,show Ae (0:Int) 1=1 from rfl];by_cases h:b.length<T3.length
 ·rw[CD Wl,wE b T3 h,Aa];by_cases hb:Th b T3=true
  ·rw[CD hb,hb];rfl
  ·rw[B! hb,l2,Bool.eq_false_iff.2 hb];rfl
 ·rw[B! Wl,l2,mS h];rfl
def X_(b:LB):Int×Int×Int×Int×Int×Int×Int:=
 if(Ds b).2=24 then(0,0,0,0,0,0, -1)else if(Ds b).2≠0 then(0,0,0,0,0,0,(Ds b).2)else
 if(Th (Wa b) T3||Th (Wa b) T7)=true then(0,0,0,0,0,0, -1)else
 if(Fo (Wa b)).2.2.2.2.2=24 then(0,0,0,0,0,0, -1)else((Ds b).1+22,(Fo (Wa b)).1,(Fo (Wa b)).2.1,(Fo (Wa b)).2.2.1,(Fo (Wa b)).2.2.2.1,(Fo (Wa b)).2.2.2.2.1,(Fo (Wa b)).2.2.2.2.2)
theorem DH(b:LB)(hb:b.length<=100000):Ye b=some (X_ b):=by
 rw[Ye,EL,eA b F0,Aa,X_];have hok:=TB (b:=b);simp only;by_cases h1:(Ds b).2=24
 ·rw[CD (by rw[Ax];simpa using h1),CD h1]
 rw[B! (by rw[Ax];simpa using h1),B! h1];by_cases h2:(Ds b).2≠0
 ·rw[CD (by rw[Ao];simpa using h2),CD h2]
 have h0:(Ds b).2=0:=by simpa using h2
 obtain⟨k1,k2,k3⟩:=hok h0;rw[B! (by rw[Ao,h0];simp),B! h2,Di,Aa,Apn,Aa,show b.drop (Ds b).1.toNat=Wa b from rfl,show([73,68,51]:LB)=T3 from rfl,show([65,80,69,84,65,71,69,88]:LB)=T7 from rfl];by_cases h3:Th (Wa b) T3=true
 ·rw[CD h3,h3,Bool.true_or,CD rfl]
 rw[B! h3,Apn,Aa,Bool.eq_false_iff.2 h3,oq];by_cases h4:Th (Wa b) T7=true
 ·rw[CD h4,CD h4]
 have hl:(Wa b).length<=b.length:=by rw[Wa,Q!];omega
 rw[B! h4,B! h4,EI,EV,G2 _ F0,Aa];simp only;by_cases h5:(Fo (Wa b)).2.2.2.2.2=24
 ·rw[CD (by rw[Ax];simpa using h5),CD h5]
 ·rw[B! (by rw[Ax];simpa using h5),B! h5,Ag]
end Go.Pl
