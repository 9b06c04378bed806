/- A part of a proof (see the text that ends in Proof). No conditions. -/
import Derived.Test.YtgomgobgfhhahaaGreatDoorCnPA
set_option linter.unusedVariables false
set_option linter.unusedSimpArgs false
namespace Go.Lv
theorem Aj{a b:Int}(h: -9223372036854775808<=a+b:=by omega)(h':a+b<=9223372036854775807:=by omega):Ad a b=a+b:=by rw[Auc,Cm h h']
theorem Bu{a b:Int}(h: -9223372036854775808<=a-b:=by omega)(h':a-b<=9223372036854775807:=by omega):Ak a b=a-b:=by rw[As9,Cm h h']
theorem Jh{a b:Int}(h: -9223372036854775808<=a*b:=by omega)(h':a*b<=9223372036854775807:=by omega):Bj a b=a*b:=by rw[Alx,Cm h h']
theorem RD(c:UInt8):(Ae c:Int)=(c.toNat:Int):=by rw[Aku,Cm]<;>have:=c.toNat_lt<;>omega
theorem Ach(c:UInt32):(Ae c:Int)=(c.toNat:Int):=by rw[Aig,Cm]<;>have:=c.toNat_lt<;>omega
theorem qO(c:UInt8):(Ae c:UInt64)=UInt64.ofNat c.toNat:=by simp only[Ae,BF,Hx]
theorem Jf(c:UInt32):(Ae c:UInt64)=UInt64.ofNat c.toNat:=by simp only[Ae,Xp,Hx]
theorem bC(c:UInt64):(Ae c:UInt8)=UInt8.ofNat c.toNat:=by simp only[Ae,Jl,Mx]
theorem qB(c:UInt32):(Ae c:UInt8)=UInt8.ofNat c.toNat:=by simp only[Ae,Xp,Mx]
theorem CI(n:Nat):(Ae (n:Int):UInt64)=UInt64.ofNat n:=by simp only[Ae];exact Hx n
theorem U0(n:Nat):(Ae (n:Int):UInt32)=UInt32.ofNat n:=by simp only[Ae];exact Ex n
theorem Al2(n:Nat):(Ae (n:Int):UInt8)=UInt8.ofNat n:=by simp only[Ae];exact Mx n
theorem tX{c:UInt64}(h:c.toNat<9223372036854775808):(Ae c:Int)=(c.toNat:Int):=by rw[Ai8,Cm]<;>omega
theorem Ae4:LIM=17179869184:=by decide
theorem As:36893488147419103231<Ar:=by decide
theorem Cw{α:Type}{l:List α}{n:Nat}(h:n<l.length:=by omega):Am l (n:Int)=some l[n]:=by simp[Am,h]
theorem Ye{α:Type}{l:List α}{n:Nat}(x:α)(h:n<l.length):Le l (n:Int) x=some (l.set n x):=by simp[Le,h]
theorem BB{α:Type}{l:List α}{a b:Int}(h:0<=a:=by omega)(h1:a<=b:=by omega)(h2:b<=l.length:=by omega):Bf l a b=some ((l.take b.toNat).drop a.toNat):=by rw[Bf,Aa1 ⟨h,h1,h2⟩]
theorem Dg{α:Type}{l:List α}{a:Int}(h:0<=a:=by omega)(h1:a<=l.length:=by omega):Bf l a (Ac l)=some (l.drop a.toNat):=by
 unfold Ac;rw[BB h h1 (Int.le_refl _),Ajk,Aw3]
theorem Da{α:Type}{l:List α}{b:Int}(h:0<=b:=by omega)(h1:b<=l.length:=by omega):Bf l 0 b=some (l.take b.toNat):=by rw[BB (Int.le_refl _) h h1];rfl
theorem Cv{α:Type}{l m:List α}(h:l.length+m.length<=17179869184:=by omega):De l m=some (l++m):=by rw[De,Ae4,Aa1 h]
theorem xM{α:Type}{n:Int}{z:α}(h:0<=n:=by omega)(h':n<=17179869184:=by omega):mkI n z=some (List.replicate n.toNat z):=by rw[mkI,Ae4,Aa1 ⟨h,h'⟩]
theorem Ar1:Hj true=some ():=rfl
theorem Dk{b:Bool}(h:b=true):Hj b=some ():=by rw[h];rfl
theorem Aa{α β:Type}(a:α)(f:α->Option β):Option.bind (some a) f=f a:=rfl
theorem drop_cons{α:Type}{l:List α}{n:Nat}(h:n<l.length):l.drop n=l[n]::l.drop (n+1):=Ayj h
theorem RE{α:Type}{l:List α}{n:Nat}(h:n<l.length):l.take (n+1)=l.take n++[l[n]]:=by rw[List.take_add_one,List.getElem?_eq_getElem h];rfl
def Er:List UInt8->Nat
 |[]=>0
 |x::r=>x.toNat+256*Er r
theorem mg:∀l:List UInt8,Er l<256^l.length
 |[]=>by simp[Er]
 |x::r=>by
  have h:=mg r;have:=x.toNat_lt;simp only[Er,Ars,Aro];omega
theorem E0:∀l m:List UInt8,Er (l++m)=Er l+256^l.length*Er m
 |[],m=>by simp[Er]
 |x::r,m=>by
  simp only[Er,Awx,E0 r m,Ars,Aro,Nat.mul_add];rw[Aom (256^r.length) 256,Avz];omega
def oT(l:List UInt8):UInt64:=UInt64.ofNat (Er l)
theorem Aob{l:List UInt8}(h:l.length<=8):Er l<18446744073709551616:=by
 have h1:=mg l;have h2:256^l.length<=256^8:=Ac8 (by omega) h;exact Ak6 h1 (by simpa using h2)
theorem Afu{l:List UInt8}(h:l.length<=4):Er l<4294967296:=by
 have h1:=mg l;have h2:256^l.length<=256^4:=Ac8 (by omega) h;exact Ak6 h1 (by simpa using h2)
theorem UU{l:List UInt8}(h:l.length<=8):(oT l).toNat=Er l:=by
 rw[oT,Aee,Abw (Aob h)]
theorem KH{l:List UInt8}(h:l.length<=4):(Ae (oT l):Int)=(Er l:Int):=by
 have:=Afu h;rw[tX]<;>rw[UU (by omega)];omega
def RS(n:Nat):Nat->List UInt8
 |0=>[]
 |w+1=>UInt8.ofNat n::RS (n/256) w
theorem Qi:∀(w n:Nat),(RS n w).length=w
 |0,_=>rfl
 |w+1,n=>by simp[RS,Qi w]
theorem zy:∀(w n:Nat),RS n (w+1)=RS n w++[UInt8.ofNat (n/256^w)]
 |0,n=>by simp[RS]
 |w+1,n=>by
  rw[RS,zy w (n/256),RS];simp[Axe,Aro,Aom]
def Lf(p:List UInt8)(i:Nat):Nat:=(p.getD (i/8) 0).toNat/2^(i %8) %2
theorem Zd(p:List UInt8)(i:Nat):Lf p i<2:=Aws _ (by omega)
def Cr(p:List UInt8):Nat->Nat->Nat
 |_,0=>0
 |a,n+1=>Lf p a+2*Cr p (a+1) n
theorem Se(p:List UInt8):∀(n a:Nat),Cr p a n<2^n
 |0,_=>by simp[Cr]
 |n+1,a=>by
  have:=Se p n (a+1);have:=Zd p a;rw[Cr,Aro];omega
theorem SL(p:List UInt8):∀(m n a:Nat),Cr p a (m+n)=Cr p a m+2^m*Cr p (a+m) n
 |0,n,a=>by simp[Cr]
 |m+1,n,a=>by
  rw[show m+1+n=(m+n)+1 by omega,Cr,Cr,SL p m n (a+1),show a+1+m=a+(m+1) by omega,Aro,Nat.mul_add,Aom (2^m) 2,Avz];omega
theorem wy(p:List UInt8)(a:Nat):Cr p a 1=Lf p a:=by simp[Cr]
theorem X3(p:List UInt8)(a n:Nat):Cr p a (n+1)=Cr p a n+2^n*Lf p (a+n):=by rw[SL p n 1 a,wy]
theorem uN(p:List UInt8)(a:Nat):∀t:Nat,a %8+t<=8->Cr p a t=(p.getD (a/8) 0).toNat/2^(a %8) %2^t
 |0,_=>by simp[Cr,Nat.mod_one]
 |t+1,h=>by
  have h1:(a+t)/8=a/8:=by omega
  have h2:(a+t) %8=a %8+t:=by omega
  rw[X3,uN p a t (by omega),Lf,h1,h2,Nat.mod_pow_succ,Ayn,Axe]
theorem W9{p:List UInt8}:∀(n a:Nat),(∀k,k<n->Lf p (a+k)=0)->Cr p a n=0
 |0,_,_=>rfl
 |n+1,a,h=>by
  have h0:=h 0 (by omega);rw[Cr,W9 n (a+1) λk hk=>by have:=h (k+1) (by omega);rwa [show a+1+k=a+(k+1) by omega]];rw[Awr]at h0;omega
def okB(p:List UInt8)(n:Nat):Prop:=n<=330000/\p.length=(n+7)/8/\∀k,n<=k->k<8*p.length->Lf p k=0
def JJ(p:List UInt8)(a n:Nat):List UInt8:=(List.range ((n+7)/8)).map λj=>UInt8.ofNat (Cr p (a+8*j) (min 8 (n-8*j)))
theorem Ox(p:List UInt8)(a n:Nat):(JJ p a n).length=(n+7)/8:=by simp[JJ]
theorem Aad(p:List UInt8):∀(n a k:Nat),k<n->Cr p a n/2^k %2=Lf p (a+k)
 |n+1,a,0,_=>by have:=Zd p a;rw[Cr];simp;omega
 |n+1,a,k+1,h=>by
  have hb:=Zd p a;have e:(Lf p a+2*Cr p (a+1) n)/2=Cr p (a+1) n:=by omega
  rw[Cr,Aro,Aom (2^k) 2,<-Axe,e,Aad p n (a+1) k (by omega),show a+1+k=a+(k+1) by omega]
theorem Aht(p:List UInt8)(n a k:Nat)(h:n<=k):Cr p a n/2^k %2=0:=by
 have:=Se p n a;rw[Avr (Ak6 this (Ac8 (by omega) h))]
theorem Ake(p:List UInt8)(a n k:Nat):Lf (JJ p a n) k=if k<n then Lf p (a+k)else 0:=by
 rw[Lf];by_cases hj:k/8<(n+7)/8
 ·have e:(JJ p a n).getD (k/8) 0=UInt8.ofNat (Cr p (a+8*(k/8)) (min 8 (n-8*(k/8)))):=by
   rw[List.getD_eq_getElem?_getD,List.getElem?_eq_getElem (by rw[Ox];exact hj)];simp[JJ]
  have hlt:Cr p (a+8*(k/8)) (min 8 (n-8*(k/8)))<256:=by
   have:=Se p (min 8 (n-8*(k/8))) (a+8*(k/8));have h2:2^(min 8 (n-8*(k/8)))<=2^8:=Ac8 (by omega) (by omega);omega
  have hu:(UInt8.ofNat (Cr p (a+8*(k/8)) (min 8 (n-8*(k/8))))).toNat=Cr p (a+8*(k/8)) (min 8 (n-8*(k/8))):=by
   rw[Anz];exact Abw hlt
  rw[e,hu];by_cases hk:k<n
  ·rw[Aa1 hk,Aad p _ _ _ (by omega),show a+8*(k/8)+k %8=a+k by omega]
  ·rw[Aaw hk,Aht p _ _ _ (by omega)]
 ·have e:(JJ p a n).getD (k/8) 0=0:=by
   rw[List.getD_eq_getElem?_getD,List.getElem?_eq_none (by rw[Ox];omega)];rfl
  rw[e,Aaw (by omega)];simp
theorem Aek(p:List UInt8)(a n:Nat)(h:n<=330000):okB (JJ p a n) n:=⟨h,Ox p a n,λk hk _=>by rw[Ake,Aaw (by omega)]⟩
end Go.Lv
namespace Go.Pl
open Go Go.Lv
theorem Am7(b:List UInt8)(hb:b.length<4611686018427387904):∀(j q:Nat),j<=b.length->j<q->Nj b q (oT (b.drop j)) ((j:Int)-1)=some (oT b)
 |0,q+1,_,_=>by
  rw[Nj,BI,Aaw (by rw[En];simp)];simp[RU,TK]
 |j+1,q+1,hj,hq=>by
  rw[Nj,BI,Aa1 (by rw[En];simp),show((j+1:Nat):Int)-1=(j:Int) by omega,Cw,Aa,Bu];have h:Ad (Bj (256:UInt64) (oT (b.drop (j+1)))) (Ae b[j]:UInt64)=oT (b.drop j):=by
   rw[LR,MS,qO,drop_cons (n:=j) (by omega),oT,oT,Er,UInt64.ofNat_add,UInt64.ofNat_mul];exact UInt64.add_comm _ _
  rw[h];exact Am7 b hb j q (by omega) (by omega)
theorem yo(b:List UInt8)(hb:b.length<4611686018427387904):Dq b=some (oT b):=by
 have h:=Am7 b hb b.length Ar (Al1 _) (by have:=As;omega);rw[Dq,RT,TS];have e:Ak (Ac b) 1=(b.length:Int)-1:=Bu (by unfold Ac;omega) (by unfold Ac;omega);rw[e,<-h,Awp];rfl
theorem Akp{n c:UInt64}{i:Nat}(hn:n.toNat<2^i)(hc:c.toNat*2^i<18446744073709551616):xL n (Du c i)=UInt64.ofNat (n.toNat+c.toNat*2^i):=by
 rw[Ap3];apply UInt64.toNat_inj.1;rw[UInt64.toNat_or,ZK,Abw hc,Aom,Nat.or_comm,<-As6 hn,Aee,Abw,Ayy,Aom];have h:=As6 hn c.toNat;have h2:2^i*c.toNat+n.toNat<2^64:=by
  rw[h];exact Nat.or_lt_two_pow (by rw[Aom];simpa using hc) n.toNat_lt
 rw[Ayy];first|exact h2|(rw[Aom];exact h2)
theorem S2(b:List UInt8)(hb:b.length<=8):∀(j i q:Nat),i+j=b.length->j<q->CJ b q (oT (b.take i)) (i:Int)=some (oT b,0)
 |0,i,q+1,hi,_=>by
  rw[CJ,WA,Aaw (by rw[Af,Ac];simp;omega),show i=b.length by omega,Aw3];rfl
 |j+1,i,q+1,hi,hq=>by
  have hlt:i<b.length:=by omega
  rw[CJ,WA,Aa1 (by rw[Af,Ac];simp;omega),Cw hlt,Aa,Jh,Dk (by rw[En];simp;omega),Aa,Aj];have h:xL (oT (b.take i)) (Du (Ae b[i]:UInt64) (GI.toZ ((8:Int)*(i:Int))).toNat)=oT (b.take (i+1)):=by
   have e:(GI.toZ ((8:Int)*(i:Int))).toNat=8*i:=by show((8:Int)*(i:Int)).toNat=_;omega
   have e2:(2:Nat)^(8*i)=256^i:=by rw[Nat.pow_mul]
   have h1:=mg (b.take i);rw[Ae5,Asa (by omega)]at h1;have h3:=b[i].toNat_lt;have hle:(256:Nat)^(i+1)<=256^8:=Ac8 (by omega) (by omega);rw[Aro]at hle;have h4:(Ae b[i]:UInt64).toNat=b[i].toNat:=by rw[qO,Aee];omega
   have h5:b[i].toNat*256^i<18446744073709551616:=by
    have:b[i].toNat*256^i<256*256^i:=Nat.mul_lt_mul_of_pos_right (by simpa using h3) (Aww (by omega));simp at hle;omega
   rw[e,Akp (by rw[UU (by simp;omega),e2];exact h1) (by rw[h4,e2];exact h5),UU (by simp;omega),h4,e2,RE hlt];rw[oT,E0];simp only[Er,Ae5,Asa (Nat.le_of_lt hlt),Nat.mul_zero,Awr];rw[Aom]
  rw[h];exact S2 b hb j (i+1) q (by omega) (by omega)
theorem yu(b:List UInt8)(h1:1<=b.length)(h2:b.length<=8):jG b=some (oT b,0):=by
 have h:=S2 b h2 b.length 0 Ar (by omega) (by have:=As;omega);rw[jG,iY,Aaw (by simp[Af,Ay,Ac];omega),iH];exact h
def part(b:List UInt8)(at' w:Nat):List UInt8:=(b.take (at'+w)).drop at'
theorem Ea{b:List UInt8}{a w:Nat}(h:a+w<=b.length:=by omega):(part b a w).length=w:=by simp[part];omega
theorem S7(b:List UInt8)(a w:Nat)(h1:1<=w)(h2:w<=8)(h3:a+w<=b.length)(hb:b.length<4611686018427387904):YO b (a:Int) (w:Int)=some (oT (part b a w),0):=by
 rw[YO,Aaw (by simp[Af,Ay];omega),Aaw (by rw[Ay,Bu (by unfold Ac;omega) (by unfold Ac;omega),Ac];simp;omega),Aj,BB,Aa];rw[show((a:Int)+(w:Int)).toNat=a+w by omega,show(a:Int).toNat=a by omega];rw[yu _ (by rw[show((b.take (a+w)).drop a).length=_ from Ea h3];exact h1) (by rw[show((b.take (a+w)).drop a).length=_ from Ea h3];exact h2),Aa];rfl
theorem xA(w:Nat)(hw:w<=1000):∀(j i q:Nat) (n:UInt64) (acc:List UInt8),i+j=w->j<q->acc.length+j<=1000000->Hy (w:Int) q n (i:Int) acc=some (acc++RS n.toNat j)
 |0,i,q+1,n,acc,hi,_,_=>by
  rw[Hy,Ra,Aaw (by rw[Af];simp;omega)];simp[CK,BM,RS]
 |j+1,i,q+1,n,acc,hi,hq,ha=>by
  rw[Hy,Ra,Aa1 (by rw[Af];simp;omega)];have e:(Ae (CY n (256:UInt64)):UInt8)=UInt8.ofNat n.toNat:=by
   rw[bC,yz];apply UInt8.toNat_inj.1;rw[Anz,Anz,UInt64.toNat_mod]
   show n.toNat %256 %256=_;omega
  have e2:(By n (256:UInt64)).toNat=n.toNat/256:=by rw[sD,Ayp];rfl
  rw[Cv (by simp;omega),Aa,Aj,e];have h:=xA w hw j (i+1) q (By n 256) (acc++[UInt8.ofNat n.toNat]) (by omega) (by omega) (by simp;omega);rw[e2]at h;rw[show((i:Int)+1)=((i+1:Nat):Int) by omega,h,RS];simp
theorem A7(n:UInt64)(w:Nat)(hw:w<=1000):Ef n (w:Int)=some (RS n.toNat w):=by
 rw[Ef,CG,BS];have h:=xA w hw w 0 Ar n [] (by omega) (by have:=As;omega) (by simp;omega);simpa using h
theorem mR{α:Type}{l m:List α}{x y:α}{i:Nat}(h:l.length=i):(l++x::m).set i y=l++y::m:=by subst h;simp
theorem T3(n:UInt64)(l4:List UInt8)(w:Nat)(hl:l4.length=w)(hw:w<=8):∀(j i q:Nat),i+j=w->j<q->BO n l4 q (i:Int) (RS n.toNat i++List.replicate j 0)=some (RS n.toNat w,0)
 |0,i,q+1,hi,_=>by
  rw[BO,VO,Aaw (by rw[Af,Ac];simp;omega)];obtain rfl:i=w:=by omega
  simp[jB,xE]
 |j+1,i,q+1,hi,hq=>by
  have hlen:(RS n.toNat i++List.replicate (j+1) 0).length=i+(j+1):=by simp[Qi]
  rw[BO,VO,Aa1 (by rw[Af,Ac];simp;omega),Jh,Dk (by rw[En];simp;omega),Aa,Cw (by rw[hlen];omega),Aa,Ye _ (by rw[hlen];omega),Aa,Aj];have e:(Ae (Ce n (GI.toZ ((8:Int)*(i:Int))).toNat):UInt8)=UInt8.ofNat (n.toNat/256^i):=by
   have e:(GI.toZ ((8:Int)*(i:Int))).toNat=8*i:=by show((8:Int)*(i:Int)).toNat=_;omega
   rw[e,bC,FJ,Nat.pow_mul]
  rw[e,Avq,mR (Qi _ _)];have h:=T3 n l4 w hl hw j (i+1) q (by omega) (by omega);rw[zy]at h;simpa using h
theorem Aol(n:UInt64)(w:Nat)(h1:1<=w)(h2:w<=8)(h:n.toNat<256^w):zA n (w:Int)=some true:=by
 rw[zA];by_cases h8:w=8
 ·subst h8;rw[Aa1 (by rw[Bb];rfl)]
 ·rw[Aaw (by rw[Bb];simp;omega),Jh,Dk (by rw[En];simp;omega),Aa];have e:(GI.toZ ((8:Int)*(w:Int))).toNat=8*w:=by show((8:Int)*(w:Int)).toNat=_;omega
  rw[e,tU];have:Ce n (8*w)=0:=by
   apply UInt64.toNat_inj.1;rw[FJ,Nat.pow_mul];exact Avr h
  rw[this];rfl
theorem ug(n:UInt64)(w:Nat)(h1:1<=w)(h2:w<=8)(h:n.toNat<256^w):Zm n (w:Int)=some (RS n.toNat w,0):=by
 rw[Zm,jN,Aaw (by simp[Af,Ay];omega),Aol n w h1 h2 h,Aa,Aaw (by simp),xM,Aa,Dk (by rw[Bb];simp),Aa,jY];have h:=T3 n (List.replicate (w:Int).toNat 0) w (by simp) h2 w 0 Ar (by omega) (by have:=As;omega);simpa [RS]using h
theorem Abl(n:Nat)(h:n<4611686018427387904):Eb (n:Int) (7:Int)=((n %8:Nat):Int):=by
 have e:Eb (n:Int) (7:Int)=wrap64 ((BitVec.ofInt 64 (n:Int)&&&BitVec.ofInt 64 7).toNat:Int):=rfl;rw[e,BitVec.toNat_and,Awe,Awe];have h1:((n:Int) %((2^64:Nat):Int)).toNat=n:=by omega
 have h2:((7:Int) %((2^64:Nat):Int)).toNat=2^3-1:=by decide
 rw[h1,h2,Axz,Cm (by omega) (by omega)]
theorem Au5(n:Nat):yC (n:Int) (GI.toZ (3:UInt64)).toNat=((n/8:Nat):Int):=by
 have e:yC (n:Int) (GI.toZ (3:UInt64)).toNat=(n:Int).fdiv 8:=rfl;rw[e,Ap7 _ (by omega)];omega
theorem Auv{t:Nat}(h:t<=8):Ak (Du (1:UInt8) t) (1:UInt8)=UInt8.ofNat (2^t-1):=by
 have:t=0\/t=1\/t=2\/t=3\/t=4\/t=5\/t=6\/t=7\/t=8:=by omega
 rcases this with rfl|rfl|rfl|rfl|rfl|rfl|rfl|rfl|rfl<;>decide
theorem bitsOf(c:UInt8)(off t:Nat)(h:t<=8):(Eb (Ce c off) (Ak (Du (1:UInt8) t) (1:UInt8))).toNat=c.toNat/2^off %2^t:=by
 have hp:2^t<=2^8:=Ac8 (by omega) h;rw[Auv h,Aq5,UInt8.toNat_and,Afx,Anz,Abw (by have:=Aww (n:=t) (show 0<2 by omega);omega),Axz]
theorem N5{p:List UInt8}{k:Nat}(h:k<p.length):Am p (k:Int)=some (p.getD k 0):=by
 rw[Cw h];simp[List.getD_eq_getElem?_getD,h]
def Wa(p:List UInt8)(a n:Nat):UInt64:=UInt64.ofNat (Cr p a n)
theorem GK(p:List UInt8)(a n:Nat)(h:n<=64):(Wa p a n).toNat=Cr p a n:=by
 have h1:=Se p n a;have h2:2^n<=2^64:=Ac8 (by omega) h;rw[Wa,Aee,Abw (by omega)]
theorem Aay(p:List UInt8)(N:Int)(a n:Nat)(hn:n<=64)(ha:a+n<=8*p.length)(hp:p.length<=1000000):∀(j h q:Nat),h+j=n->j<q->MF (a:Int) (n:Int) p N q (Wa p a h) (h:Int)=some (Wa p a n)
 |j,h,q+1,hj,hq=>by
  rw[MF,iL];by_cases hlt:h<n
  ·have e1:Ad (a:Int) (h:Int)=((a+h:Nat):Int):=by rw[Aj];omega
   have e2:Eo (Ak (n:Int) (h:Int)) (Ak (8:Int) (((a+h) %8:Nat):Int))=((min (n-h) (8-(a+h) %8):Nat):Int):=by
    rw[XZ,Bu,Bu];omega
   have hm:(a+h)/8<p.length:=by omega
   rw[Aa1 (by rw[Af];simp;omega),e1,Au5,N5 hm,Aa,Abl _ (by omega),Dk (by rw[En];simp;omega),Aa,e2,Dk (by rw[En];simp),Aa,Dk (by rw[En];simp),Aa];generalize hT:min (n-h) (8-(a+h) %8)=T;have hT8:T<=8:=by omega
   have hT1:1<=T:=by omega
   have hb:(a+h) %8+T<=8:=by omega
   have hv:=uN p (a+h) T hb;have z1:(GI.toZ (((a+h) %8:Nat):Int)).toNat=(a+h) %8:=rfl;have z2:(GI.toZ ((T:Nat):Int)).toNat=T:=rfl;have z3:(GI.toZ ((h:Nat):Int)).toNat=h:=rfl;rw[z1,z2,z3];have hx:(Ae (Eb (Ce (p.getD ((a+h)/8) 0) ((a+h) %8)) (Ak (Du (1:UInt8) T) (1:UInt8))):UInt64).toNat=Cr p (a+h) T:=by
    rw[qO,Aee,bitsOf _ _ _ hT8,<-hv];have:=Se p T (a+h);have h2:2^T<=2^8:=Ac8 (by omega) hT8;omega
   have hlt2:=Se p (h+T) a;rw[SL]at hlt2;have h64:2^(h+T)<=2^64:=Ac8 (by omega) (by omega);have hor:xL (Wa p a h) (Du (Ae (Eb (Ce (p.getD ((a+h)/8) 0) ((a+h) %8)) (Ak (Du (1:UInt8) T) (1:UInt8))):UInt64) h)=Wa p a (h+T):=by
    rw[Akp (by rw[GK p a h (by omega)];exact Se p h a) (by rw[hx,Aom];omega),hx,GK p a h (by omega),Wa,SL,Aom (2^h)]
   rw[hor,Aj,show(h:Int)+((T:Nat):Int)=((h+T:Nat):Int) by omega];exact Aay p N a n hn ha hp (j-T) (h+T) q (by omega) (by omega)
  ·rw[Aaw (by rw[Af];simp;omega),show h=n by omega];rfl
theorem get_eq(p:List UInt8)(N:Int)(a n:Nat)(hn:n<=64)(ha:a+n<=8*p.length)(hp:p.length<=1000000):sM p N (a:Int) (n:Int)=some (Wa p a n):=by
 have:=Aay p N a n hn ha hp n 0 Ar (by omega) (by have:=As;omega);exact this
theorem RF{p:List UInt8}{n:Nat}(h:okB p n):Kh p (n:Int)=some 0:=by
 obtain⟨h1,h2,h3⟩:=h;have e7:Ad (n:Int) 7=((n+7:Nat):Int):=by rw[Aj];omega
 rw[Kh,e7,Au5,Aaw (by simp[Af,Ay,Ao,Ac,h2];omega),Abl _ (by omega)];by_cases hz:n %8=0
 ·rw[Aaw (by rw[Ay];simp;omega)]
 ·have el:Ak (Ac p) 1=((p.length-1:Nat):Int):=by rw[Ac,Bu];omega
  rw[Aa1 (by rw[Ay];simp;omega),el,N5 (by omega),Aa,Dk (by rw[En];simp;omega),Aa];have z:(GI.toZ ((n %8:Nat):Int)).toNat=n %8:=rfl;have hs:Ce (p.getD (p.length-1) 0) (n %8)=0:=by
   apply UInt8.toNat_inj.1;rw[Afx];have hv:=uN p n (8-n %8) (by omega);have h0:Cr p n (8-n %8)=0:=W9 _ _ λk hk=>h3 _ (by omega) (by omega);rw[h0,show n/8=p.length-1 by omega]at hv;have hlt:(p.getD (p.length-1) 0).toNat/2^(n %8)<2^(8-n %8):=by
    have:=(p.getD (p.length-1) 0).toNat_lt;rw[Nat.div_lt_iff_lt_mul (Aww (by omega)),<-Ayn,show 8-n %8+n %8=8 by omega];simpa using this
   rw[Abw hlt]at hv;exact hv.symm
  rw[z,hs,Aaw (by rw[Adv];simp)]
theorem uE{p:List UInt8}{N:Nat}(h:okB p N)(a n:Nat)(hn:n<=64):FW p (N:Int) (a:Int) (n:Int)=some (if N<a+n then(0,24)else(Wa p a n,0)):=by
 obtain⟨h1,h2,h3⟩:=h;rw[FW,RF ⟨h1,h2,h3⟩,Aa,Aaw (by rw[Ao];simp),Aaw (by simp[Af,Ay];omega),Bu];by_cases hl:N<a+n
 ·rw[Aa1 (by rw[Ay];simp;omega),Aa1 hl]
 ·rw[Aaw (by rw[Ay];simp;omega),get_eq p N a n hn (by omega) (by omega),Aa,Aaw hl]
theorem Aw1(c:Nat)(h:c<4611686018427387904):By (c:Int) (2:Int)=((c/2:Nat):Int):=by
 rw[NM,Auf (by omega),Cm (by omega) (by omega)];omega
theorem Aup(c:Nat)(h:c<4611686018427387904):By (c:Int) (8:Int)=((c/8:Nat):Int):=by
 rw[NM,Auf (by omega),Cm (by omega) (by omega)];omega
theorem Ak5(c:Nat):Fl (c:Int) (8:Int)=((c %8:Nat):Int):=by rw[Fl,Auo (by omega)];omega
theorem Axa(c:Nat):Fl (c:Int) (2:Int)=((c %2:Nat):Int):=by rw[Fl,Auo (by omega)];omega
theorem Afi(i c:Nat)(hc:c<256):∀(j k q:Nat),k+j=i %8->j<q->Np (i:Int) q ((c/2^k:Nat):Int) (k:Int)=some (((c/2^(i %8) %2:Nat):Int))
 |0,k,q+1,hk,_=>by
  rw[Np,AN,Ak5,Aaw (by rw[Af];simp;omega),SF,RI,Axa,show k=i %8 by omega]
 |j+1,k,q+1,hk,hq=>by
  have hle:c/2^k<=c:=Ar5 _ _;rw[Np,AN,Ak5,Aa1 (by rw[Af];simp;omega),Aw1 _ (by omega),Aj,Axe,<-Aro];exact Afi i c hc j (k+1) q (by omega) (by omega)
theorem uO(p:List UInt8)(N:Int)(i:Nat)(h:i/8<p.length)(hi:i<4611686018427387904):Lo p N (i:Int)=some ((Lf p i:Nat):Int):=by
 have hc:=(p.getD (i/8) 0).toNat_lt;have:=Afi i (p.getD (i/8) 0).toNat (by simpa using hc) (i %8) 0 Ar (by omega) (by have:=As;omega);rw[Lo,RY,Aup _ hi,N5 h,Aa,RD,TN];simpa [Lf]using this
theorem J4(p:List UInt8)(N:Int)(a n:Nat)(ha:a+n<=8*p.length)(hp:p.length<=1000000):∀(j q:Nat),j<=n->j<q->Jt (a:Int) p N q (Wa p (a+j) (n-j)) ((j:Int)-1)=some (Wa p a n)
 |0,q+1,_,_=>by
  rw[Jt,Ty,Aaw (by rw[En];simp)];rfl
 |j+1,q+1,hj,hq=>by
  have hb:=Zd p (a+j);rw[Jt,Ty,show((j+1:Nat):Int)-1=(j:Int) by omega,Aa1 (by rw[En];simp),Aj (a:=(a:Int)) (by omega) (by omega),show(a:Int)+(j:Int)=((a+j:Nat):Int) by omega,uO p N (a+j) (by omega) (by omega),Aa,Bu];have e:Ad (Bj (2:UInt64) (Wa p (a+(j+1)) (n-(j+1)))) (Ae ((Lf p (a+j):Nat):Int):UInt64)=Wa p (a+j) (n-j):=by
   rw[LR,MS,CI,Wa,Wa,show n-j=(n-(j+1))+1 by omega,Cr,show a+j+1=a+(j+1) by omega,UInt64.ofNat_add,UInt64.ofNat_mul];exact UInt64.add_comm _ _
  rw[e];exact J4 p N a n ha hp j q (by omega) (by omega)
theorem pS(p:List UInt8)(N:Int)(a n:Nat)(ha:a+n<=8*p.length)(hp:p.length<=1000000):Rn p N (a:Int) (n:Int)=some (Wa p a n):=by
 have:=J4 p N a n ha hp n Ar (Al1 _) (by have:=As;omega);have hz:Wa p (a+n) (n-n)=0:=by rw[Nat.sub_self];rfl
 rw[hz]at this;rw[Rn,HQ,HB,Bu];exact this
theorem Ae6(bit:Int)(N:Nat)(l:List UInt8):∀(j k q:Nat),k+j=N %8->j<q->Mb bit (N:Int) l q ((2^k:Nat):Int) (k:Int)=Yu bit ((2^(N %8):Nat):Int) (N:Int) l
 |0,k,q+1,hk,_=>by
  rw[Mb,Yk,Ak5,Aaw (by rw[Af];simp;omega),show k=N %8 by omega]
 |j+1,k,q+1,hk,hq=>by
  have hp:2^k<=2^8:=Ac8 (by omega) (by omega);have e:Bj ((2^k:Nat):Int) 2=((2^(k+1):Nat):Int):=by
   rw[Aro];generalize 2^k=K at*
   rw[Jh];omega
  rw[Mb,Yk,Ak5,Aa1 (by rw[Af];simp;omega),e,Aj];exact Ae6 bit N l j (k+1) q (by omega) (by omega)
theorem D7(p:List UInt8)(a n j:Nat)(h:j<(n+7)/8):(JJ p a n)[j]'(by rw[Ox];exact h)=UInt8.ofNat (Cr p (a+8*j) (min 8 (n-8*j))):=by simp[JJ]
theorem ui(p:List UInt8)(a t:Nat)(h:t<=8):Cr p a t<256:=by
 have h1:=Se p t a;have h2:2^t<=2^8:=Ac8 (by omega) h;omega
def room(p:List UInt8)(a n:Nat):List UInt8:=if n %8=0 then JJ p a n++[0]else JJ p a n
theorem Zp(p:List UInt8)(a n:Nat):(room p a n).length=n/8+1:=by
 rw[room];split<;>simp[Ox]<;>omega
theorem xy(p:List UInt8)(a n j:Nat)(h:j<n/8+1):(room p a n)[j]'(by rw[Zp];exact h)=UInt8.ofNat (Cr p (a+8*j) (min 8 (n-8*j))):=by
 have h0:(room p a n)[j]? =some (UInt8.ofNat (Cr p (a+8*j) (min 8 (n-8*j)))):=by
  rw[room];split
  ·by_cases hj:j<(n+7)/8
   ·rw[List.getElem?_append_left (by rw[Ox];exact hj),List.getElem?_eq_getElem (by rw[Ox];exact hj),D7 p a n j hj]
   ·rw[List.getElem?_append_right (by rw[Ox];omega),Ox,show j-(n+7)/8=0 by omega,show n-8*j=0 by omega];rfl
  ·rw[List.getElem?_eq_getElem (by rw[Ox];omega),D7 p a n j (by omega)]
 rw[List.getElem?_eq_getElem (by rw[Zp];exact h)]at h0;exact Option.some.inj h0
theorem Aa4(p:List UInt8)(a n T:Nat)(h1:1<=T)(h:n %8+T<=8):(room p a n).set (n/8) (UInt8.ofNat (Cr p (a+8*(n/8)) (n %8+T)))=JJ p a (n+T):=by
 apply Aul (by rw[Awl,Zp,Ox];omega);intro j g1 g2;rw[Awl,Zp]at g1;rw[Ayq,D7 p a (n+T) j (by rw[Ox]at g2;exact g2)];split
 ·rename_i e;subst e;rw[show min 8 (n+T-8*(n/8))=n %8+T by omega]
 ·rw[xy p a n j g1,show min 8 (n-8*j)=8 by omega,show min 8 (n+T-8*j)=8 by omega]
theorem X2(p:List UInt8)(a n:Nat):(room p a n)[n/8]'(by rw[Zp];omega)=UInt8.ofNat (Cr p (a+8*(n/8)) (n %8)):=by
 rw[xy p a n _ (by omega),show min 8 (n-8*(n/8))=n %8 by omega]
theorem Alh(p:List UInt8)(a n:Nat)(hn:n<=400000):Xj (JJ p a n) (n:Int) ((Lf p (a+n):Nat):Int)=some (JJ p a (n+1),((n+1:Nat):Int)):=by
 have hb:=Zd p (a+n);have hp:2^(n %8)<=2^7:=Ac8 (by omega) (by omega);have hroom:Xj (JJ p a n) (n:Int) ((Lf p (a+n):Nat):Int)=Yi ((Lf p (a+n):Nat):Int) (n:Int) (room p a n):=by
  rw[Xj,OX,Ak5,room];by_cases h0:n %8=0
  ·rw[Aa1 (by rw[Bb,h0];rfl),Cv (by rw[Ox];simp;omega),Aa,Aa1 h0]
  ·rw[Aaw (by rw[Bb];simp;omega),Aaw h0]
 have hl:=Ae6 ((Lf p (a+n):Nat):Int) n (room p a n) (n %8) 0 Ar (by omega) (by have:=As;omega);rw[hroom,Yi,PJ,OP];refine Awu hl ?_;have hg:Am (room p a n) ((n/8:Nat):Int)=some (UInt8.ofNat (Cr p (a+8*(n/8)) (n %8))):=by
  rw[Cw (by rw[Zp];omega),X2]
 have hlt:=ui p (a+8*(n/8)) (n %8+1) (by omega);have hsn:=X3 p (a+8*(n/8)) (n %8);rw[show a+8*(n/8)+n %8=a+n by omega]at hsn;have hm:Bj ((Lf p (a+n):Nat):Int) ((2^(n %8):Nat):Int)=((2^(n %8)*Lf p (a+n):Nat):Int):=by
  have hle:2^(n %8)*Lf p (a+n)<=2^7*1:=Aum hp (by omega);rw[Alx,<-As3,Cm (by omega) (by rw[Aom];omega),Aom]
 have hx:Ad (UInt8.ofNat (Cr p (a+8*(n/8)) (n %8))) (Ae (((2^(n %8)*Lf p (a+n):Nat):Int)):UInt8)=UInt8.ofNat (Cr p (a+8*(n/8)) (n %8+1)):=by
  rw[Aps,Al2,hsn,UInt8.ofNat_add]
 rw[Yu,OR,Aup _ (by omega),hg,Aa,Aa,Aa,hm,hx,Ye _ (by rw[Zp];omega),Aa,Aa4 p a n 1 (by omega) (by omega),Aj];rfl
theorem rC(p:List UInt8)(N:Int)(a n:Nat)(ha:a+n<=8*p.length)(hp:p.length<=1000000)(hn:n<=300000):∀(j m q:Nat),m+j=n->j<q->Hv ((a+n:Nat):Int) p N q ((a+m:Nat):Int) (m:Int) (JJ p a m)=some (JJ p a n,(n:Int))
 |0,m,q+1,hm,_=>by
  rw[Hv,Qu,Aaw (by rw[Af];simp;omega),show m=n by omega];rfl
 |j+1,m,q+1,hm,hq=>by
  rw[Hv,Qu,Aa1 (by rw[Af];simp;omega),uO p N (a+m) (by omega) (by omega),Aa,Alh p a m (by omega),Aa];simp only;rw[Aj];exact rC p N a n ha hp hn j (m+1) q (by omega) (by omega)
theorem wu(p:List UInt8)(N:Int)(a n:Nat)(ha:a+n<=8*p.length)(hp:p.length<=1000000)(hn:n<=300000):NA p N (a:Int) ((a+n:Nat):Int)=some (JJ p a n,(n:Int)):=by
 have:=rC p N a n ha hp hn n 0 Ar (by omega) (by have:=As;omega);exact this
theorem Asu{t:Nat}(h:t<=8):Ak (Du (1:UInt64) t) (1:UInt64)=UInt64.ofNat (2^t-1):=by
 have:t=0\/t=1\/t=2\/t=3\/t=4\/t=5\/t=6\/t=7\/t=8:=by omega
 rcases this with rfl|rfl|rfl|rfl|rfl|rfl|rfl|rfl|rfl<;>decide
theorem Axl(v:UInt64){t:Nat}(h:t<=8):(Eb v (Ak (Du (1:UInt64) t) (1:UInt64))).toNat=v.toNat %2^t:=by
 have hp:2^t<=2^8:=Ac8 (by omega) h;rw[Asu h,rT,Ayw,Aee,Abw (by have:=Aww (n:=t) (show 0<2 by omega);omega),Axz]
theorem or8{v w i:Nat}(hv:v<2^i)(hw:w*2^i<256)(hi:i<8):xL (UInt8.ofNat v) (Du (UInt8.ofNat w) i)=UInt8.ofNat (v+w*2^i):=by
 have hp:2^i<=2^8:=Ac8 (by omega) (by omega);have hpos:0<2^i:=Aww (by omega);have hw2:w<256:=Avg (Nat.le_mul_of_pos_right w hpos) hw;rw[At3];apply UInt8.toNat_inj.1;have e1:(UInt8.ofNat v).toNat=v:=by rw[Anz,Abw (by omega)]
 have e2:(UInt8.ofNat w).toNat=w:=by rw[Anz,Abw (by omega)]
 rw[UInt8.toNat_or,Apu,e1,e2,Abw hw,Aom w,Nat.or_comm,<-As6 hv,Anz,Ayy v];rw[Aom]at hw;have hb:2^i*w+v<256:=by
  rw[As6 hv];exact Nat.or_lt_two_pow (n:=8) hw (by omega)
 rw[Abw hb]
theorem Ajl(p:List UInt8)(a n T:Nat)(h:T<=n)(hn:n<=64):Ce (Wa p a n) T=Wa p (a+T) (n-T):=by
 apply UInt64.toNat_inj.1;rw[FJ,GK p a n hn,GK p (a+T) (n-T) (by omega)];have:=Se p T a
 conv=>lhs;rw[show n=T+(n-T) by omega,SL,Nat.add_mul_div_left _ _ (Aww (by omega)),Avr this,Avk]
theorem Amd(p:List UInt8)(a n T:Nat)(h:T<=n)(hn:n<=64):(Wa p a n).toNat %2^T=Cr p a T:=by
 have:=Se p T a;rw[GK p a n hn]
 conv=>lhs;rw[show n=T+(n-T) by omega,SL,Nat.add_mul_mod_self_left,Abw this]
theorem H7(bk:Int->Int->List UInt8->Option (List UInt8×Int×Int))(to':Int)(p:List UInt8)(N fr:Int)(r6:UInt64)(a:Nat):∀(j m q:Nat),m+j<=300000->j<=64->j<q->
  Pa bk to' p N fr r6 q (Wa p (a+m) j) (j:Int) (m:Int) (JJ p a m)=QM bk to' p N fr ((m+j:Nat):Int) (JJ p a (m+j))
 |0,m,q+1,_,_,_=>by
  rw[Pa,QU,Aaw (by rw[Ay];simp)];rfl
 |j+1,m,q+1,hm,hj,hq=>by
  have hroom:Pa bk to' p N fr r6 (q+1) (Wa p (a+m) (j+1)) ((j+1:Nat):Int) (m:Int) (JJ p a m)=QL (Pa bk to' p N fr r6 q) to' fr p N r6 (Wa p (a+m) (j+1)) ((j+1:Nat):Int) (m:Int) (room p a m):=by
   rw[Pa,QU,Aa1 (by rw[Ay];simp),Abl m (by omega),room];by_cases h0:m %8=0
   ·rw[Aa1 (by rw[Bb,h0];rfl),Cv (by rw[Ox];simp;omega),Aa,Aa1 h0]
   ·rw[Aaw (by rw[Bb];simp;omega),Aaw h0]
  have hl:Ak (Ac (room p a m)) 1=((m/8:Nat):Int):=by
   rw[Ac,Zp,Bu];omega
  have e2:Eo ((j+1:Nat):Int) (Ak (8:Int) ((m %8:Nat):Int))=((min (j+1) (8-m %8):Nat):Int):=by
   rw[XZ,Bu];omega
  rw[hroom,QL,dL,Abl m (by omega),e2,hl];generalize hT:min (j+1) (8-m %8)=T;have hT1:1<=T:=by omega
  have hT8:m %8+T<=8:=by omega
  have hg:Am (room p a m) ((m/8:Nat):Int)=some (UInt8.ofNat (Cr p (a+8*(m/8)) (m %8))):=by
   rw[Cw (by rw[Zp];omega),X2]
  have z1:(GI.toZ ((m %8:Nat):Int)).toNat=m %8:=rfl;have z2:(GI.toZ ((T:Nat):Int)).toNat=T:=rfl;have hlt:=ui p (a+8*(m/8)) (m %8+T) (by omega);have hadd:=SL p (m %8) T (a+8*(m/8));rw[show a+8*(m/8)+m %8=a+m by omega]at hadd;have hbyte:(Ae (Eb (Wa p (a+m) (j+1)) (Ak (Du (1:UInt64) T) (1:UInt64))):UInt8)=UInt8.ofNat (Cr p (a+m) T):=by
   rw[bC,Axl _ (by omega),Amd p (a+m) (j+1) T (by omega) hj]
  have hnew:xL (UInt8.ofNat (Cr p (a+8*(m/8)) (m %8))) (Du (UInt8.ofNat (Cr p (a+m) T)) (m %8))=UInt8.ofNat (Cr p (a+8*(m/8)) (m %8+T)):=by
   rw[or8 (Se _ _ _) (by rw[Aom];omega) (by omega),hadd,Aom (2^(m %8))]
  rw[hg,z1,z2,hbyte];simp only[Aa];rw[Dk (by rw[En];simp),Aa,Dk (by rw[En];simp;omega),Aa,hnew,Ye _ (by rw[Zp];omega),Aa,Aa4 p a m T hT1 hT8,cC,rA,Abl m (by omega),e2,hT,Dk (by rw[En];simp),Aa,z2,Ajl p (a+m) (j+1) T (by omega) hj,Bu,Aj];have ih:=H7 bk to' p N fr r6 a (j+1-T) (m+T) q (by omega) (by omega) (by omega);rw[show m+T+(j+1-T)=m+(j+1) by omega]at ih;rw[<-ih,show a+m+T=a+(m+T) by omega,show((j+1:Nat):Int)-((T:Nat):Int)=((j+1-T:Nat):Int) by omega,show(m:Int)+((T:Nat):Int)=((m+T:Nat):Int) by omega]
theorem zk(p:List UInt8)(N:Int)(a n:Nat)(ha:a+n<=8*p.length)(hp:p.length<=1000000)(hn:n<=300000):∀(j m f q:Nat),(f=m\/n<=f/\m=n)->m+j=n->f<=n+64->j<q->Xy ((a+n:Nat):Int) p N q ((a+f:Nat):Int) (m:Int) (JJ p a m)=some (JJ p a n,(n:Int),0)
 |j,m,f,q+1,hf,hm,hf2,hq=>by
  rw[Xy,dR];by_cases hlt:f<n
  ·obtain rfl:f=m:=by omega
   have e1:Eo (64:Int) (Ak ((a+n:Nat):Int) ((a+f:Nat):Int))=((min 64 (n-f):Nat):Int):=by
    rw[XZ,Bu];omega
   rw[Aa1 (by rw[Af];simp;omega),e1,get_eq p N (a+f) _ (by omega) (by omega) hp,Aa,bV];have h1:=H7 (Xy ((a+n:Nat):Int) p N q) ((a+n:Nat):Int) p N ((a+f:Nat):Int) (Wa p (a+f) (min 64 (n-f))) a (min 64 (n-f)) f Ar (by omega) (by omega) (by have:=As;omega);refine Awu h1 ?_;rw[QM,rK,Aj,show((a+f:Nat):Int)+64=((a+(f+64):Nat):Int) by omega];exact zk p N a n ha hp hn (j-min 64 (n-f)) (f+min 64 (n-f)) (f+64) q (by omega) (by omega) (by omega) (by omega)
  ·rw[Aaw (by rw[Af];simp;omega),cE,rJ,show m=n by omega]
theorem Atj{p:List UInt8}{N:Nat}(h:okB p N)(a n:Nat)(ha:a+n<=N)(hn:n<=300000):lC p (N:Int) (a:Int) ((a+n:Nat):Int)=some (JJ p a n,(n:Int),0):=by
 obtain⟨h1,h2,h3⟩:=h;have:=zk p N a n (by omega) (by omega) hn n 0 0 Ar (by omega) (by omega) (by omega) (by have:=As;omega);rw[lC,jX,RF ⟨h1,h2,h3⟩,Aa,Aaw (by rw[Ao];simp),Aaw (by simp[Af,Ay];omega),bS];exact this
def Gx(p:List UInt8):Nat->Nat->Nat
 |_,0=>0
 |a,m+1=>if Lf p a=1 then 1+Gx p (a+1) m else 0
theorem WM(p:List UInt8):∀(m a:Nat),Gx p a m<=m
 |0,_=>Al1 _
 |m+1,a=>by rw[Gx];split<;>have:=WM p m (a+1)<;>omega
theorem Aac(p:List UInt8):∀(m a:Nat),∃s,Cr p a m+1=2^(Gx p a m+1)*s+2^Gx p a m/\ (Gx p a m=m->s=0)
 |0,a=>⟨0,by simp[Cr,Gx],λ_=>rfl⟩
 |m+1,a=>by
  have hb:=Zd p a;obtain⟨s,h1,h2⟩:=Aac p m (a+1);by_cases h:Lf p a=1
  ·refine⟨s,?_,λe=>h2 ?_⟩
   ·rw[Gx,Aa1 h,Cr,h,show 1+Gx p (a+1) m+1=(Gx p (a+1) m+1)+1 by omega,show 1+Gx p (a+1) m=Gx p (a+1) m+1 by omega,Aro,Aro (n:=2) (m:=Gx p (a+1) m)];rw[Aro]at h1;generalize Cr p (a+1) m=V at*
    generalize 2^Gx p (a+1) m=W at*
    have e1:W*2*2*s=2*(W*2*s):=by rw[Nat.mul_right_comm (W*2) 2 s,Aom]
    omega
   ·rw[Gx,Aa1 h]at e;omega
  ·refine⟨Cr p (a+1) m,?_,λe=>?_⟩
   ·rw[Gx,Aaw h,Cr];simp;omega
   ·rw[Gx,Aaw h]at e;omega
theorem An8{n t s:Nat}(h:2^(t+1)*s+2^t<=2^n)(ht:t<n)(x:Nat)(hx:x=2^n-(2^(t+1)*s+2^t)):x&&& (2^(t+1)*s+2^t)=2^t:=by
 have hpos:0<2^t:=Aww (by omega);have hlt:2^t<2^(t+1):=by rw[Aro];omega
 have e:x=2^n-((2^(t+1)*s+(2^t-1))+1):=by rw[hx];congr 1;omega
 apply Nat.eq_of_testBit_eq;intro i;rw[Nat.testBit_and,e,Nat.testBit_two_pow_sub_succ (by omega),Nat.testBit_two_pow_mul_add _ (by omega),Nat.testBit_two_pow_mul_add _ hlt];by_cases hi:i<t+1
 ·rw[Aa1 hi,Aa1 hi,Nat.testBit_two_pow_sub_one,Nat.testBit_two_pow];by_cases hit:t=i
  ·subst hit;simp;exact ht
  ·have:¬i=t:=λe=>hit e.symm;simp[hit]
 ·rw[Aaw hi,Aaw hi,Nat.testBit_two_pow];have:¬t=i:=by omega
  simp[this]
theorem Ajr(a:UInt64):(I3 a).toNat=18446744073709551615-a.toNat:=by
 have h:=a.toNat_lt;have e:I3 a=UInt64.ofNat (BitVec.ofInt 64 18446744073709551615^^^BitVec.ofInt 64 (a.toNat:Int)).toNat:=Hx _;have h1:BitVec.ofInt 64 (a.toNat:Int)=a.toBitVec:=oh a;have h2:(BitVec.ofInt 64 18446744073709551615:BitVec 64)=BitVec.allOnes 64:=by decide
 rw[e,Aee,h1,h2,BitVec.allOnes_xor,BitVec.toNat_not];show(18446744073709551616-1-a.toNat) %18446744073709551616=18446744073709551615-a.toNat;omega
theorem Ak1(a:UInt64):(rF a).toNat=(18446744073709551616-a.toNat) %18446744073709551616:=by
 have h:=a.toNat_lt;have e:rF a=UInt64.ofNat ((0-(a.toNat:Int)) %18446744073709551616).toNat:=kr _;rw[e,Aee];show((0-(a.toNat:Int)) %18446744073709551616).toNat %18446744073709551616=_;omega
def Au7:List UInt8:=[0,1,56,2,57,49,28,3,61,58,42,50,38,29,17,4,62,47,59,36,45,43,51,22,53,39,33,30,24,18,12,5,63,55,48,27,60,41,37,16,46,35,44,21,52,32,23,11,54,26,40,15,34,20,31,10,25,14,19,9,13,8,7,6]
theorem Ahb:∀t:Fin 64,Am Au7 (GI.toZ (Ce (Bj (UInt64.ofNat (2^t.val)) (285870213051353865:UInt64)) (GI.toZ (58:UInt64)).toNat))=some (UInt8.ofNat t.val):=by decide +kernel
theorem Avp(x:UInt64)(t s:Nat)(ht:t<64)(h:x.toNat+(2^(t+1)*s+2^t)=18446744073709551616):Gn x=some (t:Int):=by
 have hpos:0<2^t:=Aww (by omega);have hx:x.toNat=2^64-(2^(t+1)*s+2^t):=by show x.toNat=18446744073709551616-_;omega
 have hle:2^t<=2^63:=Ac8 (by omega) (by omega);have hne:x≠0:=by
  intro e;rw[e]at h;have h':2^t*(2*s+1)=2^64:=by
   rw[Nat.mul_add,Nat.mul_one,<-Avz,<-Aro]
   show _=18446744073709551616;simpa using h
  have h2:2^64=2^t*2^(64-t):=by rw[<-Ayn];congr 1;omega
  rw[h2]at h';have h3:=Nat.eq_of_mul_eq_mul_left hpos h';rw[show 64-t=(63-t)+1 by omega,Aro]at h3;omega
 have hx0:x.toNat≠0:=λe=>hne (UInt64.toNat_inj.1 e);have hl:Eb x (rF x)=UInt64.ofNat (2^t):=by
  apply UInt64.toNat_inj.1;rw[rT,Ayw,Ak1,show(18446744073709551616-x.toNat) %18446744073709551616=2^(t+1)*s+2^t by omega,An8 (n:=64) (by show _<=18446744073709551616;omega) ht _ hx,Aee,Abw];exact Avg hle (by decide)
 have hb:=Ahb ⟨t,ht⟩;rw[Gn,Aaw (by rw[tU];simpa using hne),hl];refine Awu (congrArg (λo=>Option.bind o λc=>some (Ae c:Int)) hb) ?_;rw[Aa,RD,Anz,Abw (by show t<256;omega)]
theorem Aop(p:List UInt8)(a m:Nat)(hm:m<=48):Gn (I3 (Wa p a m))=some ((Gx p a m:Nat):Int):=by
 obtain⟨s,h1,h2⟩:=Aac p m a;have hle:=WM p m a;have hlt:=Se p m a;have h48:2^m<=2^48:=Ac8 (by omega) hm;have hn:(I3 (Wa p a m)).toNat=18446744073709551615-Cr p a m:=by rw[Ajr,GK p a m (by omega)]
 have h3:(281474976710656:Nat)=2^48:=rfl;refine Avp _ (Gx p a m) s (by omega) ?_;rw[hn];omega
def unS(p:List UInt8)(N a:Nat):Int×Int×Int:=
 if Gx p a (min 48 (N-a))<min 48 (N-a)then((Gx p a (min 48 (N-a)):Nat),((a+Gx p a (min 48 (N-a))+1:Nat):Int),0)else
 if Gx p a (min 48 (N-a))=48 then(48,((a+48:Nat):Int),0)else(0,0,24)
theorem Amm{p:List UInt8}{N:Nat}(h:okB p N)(a:Nat)(ha:a<N):IM p (N:Int) (a:Int)=some (unS p N a):=by
 have hN:=h.1;have e1:Eo (48:Int) (Ak (N:Int) (a:Int))=((min 48 (N-a):Nat):Int):=by rw[XZ,Bu];omega
 have hle:=WM p (min 48 (N-a)) a;rw[IM,Zl,RF h,Aa,Aaw (by rw[Ao];simp),Aaw (by rw[Af];simp),Aaw (by rw[En];simp;omega),e1,uE h a _ (by omega),Aaw (by omega),Aa];simp only;rw[YF,YG,Aaw (by rw[Ao];simp),Aop p a _ (by omega),Aa,WV,XX,e1,unS];by_cases h1:Gx p a (min 48 (N-a))<min 48 (N-a)
 ·rw[Aa1 (by rw[Af];simp;omega),Aa1 h1,Aj (a:=(a:Int)) (by omega) (by omega),show Ad (0:Int) 1=1 by decide,Aj];congr 3;omega
 ·rw[Aaw (by rw[Af];simp;omega),Aaw h1,XA,XY];by_cases h2:Gx p a (min 48 (N-a))=48
  ·rw[Aa1 (by rw[Bb,h2];rfl),Aa1 h2,h2,Aj (a:=(a:Int)) (by omega) (by omega),Aj];congr 3;omega
  ·rw[Aaw (by rw[Bb];simp;omega),Aaw h2];rfl
theorem ib(p:List UInt8):∀(m a:Nat),Gx p a m<m->Lf p (a+Gx p a m)≠1
 |0,_,h=>by simp[Gx]at h
 |m+1,a,h=>by
  by_cases hb:Lf p a=1
  ·rw[Gx,Aa1 hb]at h⊢;have:=ib p m (a+1) (by omega);rwa [show a+(1+Gx p (a+1) m)=a+1+Gx p (a+1) m by omega]
  ·rw[Gx,Aaw hb];exact hb
theorem Z9(p:List UInt8):∀(m a k:Nat),k<Gx p a m->Lf p (a+k)=1
 |0,a,k,h=>by simp[Gx]at h
 |m+1,a,k,h=>by
  by_cases hb:Lf p a=1
  ·rw[Gx,Aa1 hb]at h;cases k with
   |zero=>exact hb
   |succ k=>
    have:=Z9 p m (a+1) k (by omega);rwa [show a+(k+1)=a+1+k by omega]
  ·rw[Gx,Aaw hb]at h;omega
def unR(p:List UInt8)(N a:Nat):Int×Int:=if(unS p N a).2.2=0 then((unS p N a).1,(unS p N a).2.1)else(-1,0)
theorem P1{p:List UInt8}{N:Nat}(h:okB p N)(a:Nat)(ha:a<N):∀(j k q:Nat),k+j=Gx p a (min 48 (N-a))->j<q->Lu (a:Int) p (N:Int) q (k:Int)=some (unR p N a)
 |0,k,q+1,hk,_=>by
  obtain⟨hN,hl,hz⟩:=h;have hle:=WM p (min 48 (N-a)) a;have hk':k=Gx p a (min 48 (N-a)):=by omega
  have e1:Ad (a:Int) (k:Int)=((a+k:Nat):Int):=by rw[Aj];omega
  have hend:Yg (a:Int) (k:Int) p (N:Int)=some (unR p N a):=by
   rw[Yg,PK,e1];by_cases h48:k=48
   ·have hu:unS p N a=(48,((a+48:Nat):Int),0):=by rw[unS,<-hk',Aaw (by omega),Aa1 h48]
    rw[Aa1 (by rw[Bb,h48];rfl),unR,hu,h48];rfl
   ·rw[Aaw (by rw[Bb];simp;omega)];by_cases hN2:N<=a+k
    ·have hu:unS p N a=(0,0,24):=by rw[unS,<-hk',Aaw (by omega),Aaw h48]
     rw[Aa1 (by rw[En];simp;omega),unR,hu];rfl
    ·have hu:unS p N a=(((k:Nat):Int),((a+k+1:Nat):Int),0):=by rw[unS,<-hk',Aa1 (by omega)]
     rw[Aaw (by rw[En];simp;omega),unR,hu,Aj];rfl
  rw[Lu,Ys,e1];by_cases hc:a+k<N/\k<48
  ·have hb:=Zd p (a+k);have hs:=ib p (min 48 (N-a)) a (by omega);rw[<-hk']at hs;rw[Aa1 (by simp[Af];omega),uO p _ (a+k) (by omega) (by omega),Aa,Aaw (by rw[Bb];simp;omega),hend]
  ·rw[Aaw (by simp[Af];omega),hend]
 |j+1,k,q+1,hk,hq=>by
  obtain⟨hN,hl,hz⟩:=h;have hle:=WM p (min 48 (N-a)) a;have hb:=Z9 p (min 48 (N-a)) a k (by omega);have e1:Ad (a:Int) (k:Int)=((a+k:Nat):Int):=by rw[Aj];omega
  rw[Lu,Ys,e1,Aa1 (by simp[Af];omega),uO p _ (a+k) (by omega) (by omega),Aa,hb,Aa1 (by decide),Aj];exact P1 ⟨hN,hl,hz⟩ a ha j (k+1) q (by omega) (by omega)
theorem Aj9{p:List UInt8}{N:Nat}(h:okB p N)(a:Nat)(ha:a<N):ZH p (N:Int) (a:Int)=some (unR p N a):=by
 have hle:=WM p (min 48 (N-a)) a;have:=P1 h a ha (Gx p a (min 48 (N-a))) 0 Ar (by omega) (by have:=As;omega);exact this
theorem Akz{p:List UInt8}{N a:Nat}(h:Gx p a (min 48 (N-a))<min 48 (N-a)):unS p N a=(((Gx p a (min 48 (N-a)):Nat):Int),((a+Gx p a (min 48 (N-a))+1:Nat):Int),0):=by rw[unS,Aa1 h]
theorem Ajy{p:List UInt8}{N a:Nat}(h:¬Gx p a (min 48 (N-a))<min 48 (N-a))(h2:Gx p a (min 48 (N-a))=48):unS p N a=(48,((a+48:Nat):Int),0):=by rw[unS,Aaw h,Aa1 h2]
theorem Amq{p:List UInt8}{N a:Nat}(h:¬Gx p a (min 48 (N-a))<min 48 (N-a))(h2:¬Gx p a (min 48 (N-a))=48):unS p N a=(0,0,24):=by rw[unS,Aaw h,Aaw h2]
theorem Aif{p:List UInt8}{N:Nat}(h:okB p N)(a:Nat)(ha:N<=a):IM p (N:Int) (a:Int)=some (0,0,24):=by
 rw[IM,Zl,RF h,Aa,Aaw (by rw[Ao];simp),Aaw (by rw[Af];simp),Aa1 (by rw[En];simp;omega)]
def WR(p:List UInt8)(N a k:Nat):UInt32×Int×Int:=
 if N<=a then(0,0,24)else
 if Gx p a (min 48 (N-a))<min 48 (N-a)then
  (if N<a+Gx p a (min 48 (N-a))+1+k then(0,0,24)else(UInt32.ofNat (Gx p a (min 48 (N-a))*2^k+Cr p (a+Gx p a (min 48 (N-a))+1) k),((a+Gx p a (min 48 (N-a))+1+k:Nat):Int),0))
 else if Gx p a (min 48 (N-a))=48 then
  (if N<a+48+32 then(0,0,24)else if Cr p (a+48) 32/2^k<48 then(0,0,12)else(UInt32.ofNat (Cr p (a+48) 32),((a+48+32:Nat):Int),0))
 else(0,0,24)
theorem rW{p:List UInt8}{a n:Nat}(h:n<=32):(Ae (Wa p a n):UInt32)=UInt32.ofNat (Cr p a n):=by
 have e:(Ae (Wa p a n):UInt32)=UInt32.ofNat (Wa p a n).toNat:=by simp only[Ae,Jl,Ex]
 rw[e,GK p a n (by omega)]
theorem dU{n:Nat}(h:n<4294967296):(UInt32.ofNat n).toNat=n:=by rw[All];exact Abw h
theorem uz(p:List UInt8)(a:Nat){n:Nat}(h:n<=32):Cr p a n<4294967296:=by
 have h1:=Se p n a;have h2:2^n<=2^32:=Ac8 (by omega) h;omega
theorem At0{q v k:Nat}(hq:q<48)(hv:v<2^k)(hk:k<=24):xL (Du (Ae (q:Int):UInt32) k) (UInt32.ofNat v)=UInt32.ofNat (q*2^k+v):=by
 have hp:2^k<=2^24:=Ac8 (by omega) hk;have h1:q*2^k<=47*2^24:=Aum (by omega) hp;rw[Aqy];apply UInt32.toNat_inj.1;rw[UInt32.toNat_or,M4,U0,dU (by omega),dU (n:=v) (by omega),Abw (by omega),Aom q,<-As6 hv,dU (by rw[Aom];omega)]
theorem Aoy{p:List UInt8}{N:Nat}(h:okB p N)(a k:Nat)(hk:k<=24):mE p (N:Int) (a:Int) (k:Int)=some (WR p N a k):=by
 have hN:=h.1;rw[mE,bO,RF h,Aa,Aaw (by rw[Ao];simp),Aaw (by simp[Af,Ay];omega)];by_cases ha:N<=a
 ·rw[Aif h a ha,Aa,WR,Aa1 ha];rfl
 have hle:=WM p (min 48 (N-a)) a;rw[Amm h a (by omega),Aa];by_cases h1:Gx p a (min 48 (N-a))<min 48 (N-a)
 ·have hS:WR p N a k=if N<a+Gx p a (min 48 (N-a))+1+k then(0,0,24)else(UInt32.ofNat (Gx p a (min 48 (N-a))*2^k+Cr p (a+Gx p a (min 48 (N-a))+1) k),((a+Gx p a (min 48 (N-a))+1+k:Nat):Int),0):=by rw[WR,Aaw ha,Aa1 h1]
  rw[Akz h1,hS];generalize Gx p a (min 48 (N-a))=q at*
  simp only;rw[Aaw (by rw[Ao];simp),Aaw (by rw[Bb];simp;omega),QW,dG,uE h _ k (by omega),Aa];by_cases h2:N<a+q+1+k
  ·rw[Aa1 h2,Aa1 h2];rfl
  ·rw[Aaw h2,Aaw h2];simp only;have z:(GI.toZ (k:Int)).toNat=k:=rfl;rw[Aaw (by rw[Ao];simp),Aa1 (by rw[Af];simp;omega),Dk (by rw[En];simp),Aa,z,rW (by omega),At0 (by omega) (Se _ _ _) hk,Aj];rfl
 ·by_cases h2:Gx p a (min 48 (N-a))=48
  ·have hS:WR p N a k=if N<a+48+32 then(0,0,24)else if Cr p (a+48) 32/2^k<48 then(0,0,12)else(UInt32.ofNat (Cr p (a+48) 32),((a+48+32:Nat):Int),0):=by rw[WR,Aaw ha,Aaw h1,Aa1 h2]
   have hg:=uE h (a+48) 32 (by omega);rw[Ajy h1 h2,hS];simp only;rw[Aaw (by rw[Ao];simp),Aa1 (by rw[Bb];rfl),QW,dG];refine Awu (congrArg (λo=>Option.bind o _) hg) ?_;rw[Aa];by_cases h3:N<a+48+32
   ·rw[Aa1 h3,Aa1 h3];rfl
   ·rw[Aaw h3,Aaw h3];simp only;have z:(GI.toZ (k:Int)).toNat=k:=rfl;have hv:=uz p (a+48) (n:=32) (by omega);rw[Aaw (by rw[Ao];simp),Aaw (by rw[Af];simp),QQ,Dk (by rw[En];simp),Aa,Aa,z,rW (by omega),Aor];have e:(decide ((48:UInt32).toNat<= (Ce (UInt32.ofNat (Cr p (a+48) 32)) k).toNat))=decide (¬Cr p (a+48) 32/2^k<48):=by
     rw[YJ,dU hv];simp
    rw[e];by_cases h4:Cr p (a+48) 32/2^k<48
    ·rw[Aa1 (by simp[h4]),Aa1 h4]
    ·rw[Aaw (by simp;omega),Aaw h4,Aj];rfl
  ·rw[Amq h1 h2,WR,Aaw ha,Aaw h1,Aaw h2];rfl
theorem P0(k:Nat)(hk:k<=63):∀(j i q:Nat),i+j=k->j<q->Jr (k:Int) q (UInt64.ofNat (2^i)) (i:Int)=some (UInt64.ofNat (2^k))
 |0,i,q+1,hi,_=>by
  rw[Jr,Tz,Aaw (by rw[Af];simp;omega),show i=k by omega];rfl
 |j+1,i,q+1,hi,hq=>by
  have e:Bj (UInt64.ofNat (2^i)) (2:UInt64)=UInt64.ofNat (2^(i+1)):=by
   rw[MS,Aro,UInt64.ofNat_mul];rfl
  rw[Jr,Tz,Aa1 (by rw[Af];simp;omega),Aj,e];exact P0 k hk j (i+1) q (by omega) (by omega)
theorem LK(k:Nat)(hk:k<=63):Ft (k:Int)=some (UInt64.ofNat (2^k)):=
 P0 k hk k 0 Ar (by omega) (by have:=As;omega)
theorem VC{k:Nat}(hk:k<=63):(UInt64.ofNat (2^k)).toNat=2^k:=by
 have hp:2^k<=2^63:=Ac8 (by omega) hk;rw[Aee,Abw (by omega)]
theorem Aqo(v:UInt32)(k:Nat)(hk:k<=24):ED v (k:Int)=some ((min 48 (v.toNat/2^k):Nat):Int):=by
 have hpos:0<2^k:=Aww (by omega);have hv:=v.toNat_lt;rw[ED,LK k (by omega),Aa,Dk (by rw[QD];simp only[Ayr,ne_eq,<-Ayc,VC (show k<=63 by omega)];simp),Aa];have e:(By (Ae v:UInt64) (UInt64.ofNat (2^k))).toNat=v.toNat/2^k:=by
  rw[sD,Ayp,Jf,VC (by omega),Aee,Abw (by omega)]
 have hle:v.toNat/2^k<=v.toNat:=Ar5 _ _;have e2:Eo (48:UInt64) (By (Ae v:UInt64) (UInt64.ofNat (2^k)))=UInt64.ofNat (min 48 (v.toNat/2^k)):=by
  apply UInt64.toNat_inj.1;rw[Aee,Abw (by omega)];show(if _ then _ else _:UInt64).toNat=_;rw[show(GI.toZ (By (Ae v:UInt64) (UInt64.ofNat (2^k))))=((v.toNat/2^k:Nat):Int) by rw[Jl,e],show GI.toZ (48:UInt64)=48 from rfl];split
  ·rw[e];omega
  ·show 48=_;omega
 rw[e2,tX (by rw[Aee,Abw]<;>omega),Aee,Abw (by omega)]
theorem Amb{p:List UInt8}{N:Nat}(h:okB p N)(a k:Nat)(hk:k<=24):JD p (N:Int) (a:Int) (k:Int)=some (WR p N a k):=by
 obtain⟨hN,hl,hz⟩:=h;have h:okB p N:=⟨hN,hl,hz⟩;rw[JD,PR];by_cases ha:N<=a
 ·rw[Aa1 (by rw[En];simp;omega),WR,Aa1 ha]
 have hle:=WM p (min 48 (N-a)) a;rw[Aaw (by rw[En];simp;omega),Aj9 h a (by omega),Aa,unR];by_cases h1:Gx p a (min 48 (N-a))<min 48 (N-a)
 ·have hS:WR p N a k=if N<a+Gx p a (min 48 (N-a))+1+k then(0,0,24)else(UInt32.ofNat (Gx p a (min 48 (N-a))*2^k+Cr p (a+Gx p a (min 48 (N-a))+1) k),((a+Gx p a (min 48 (N-a))+1+k:Nat):Int),0):=by rw[WR,Aaw ha,Aa1 h1]
  rw[Akz h1,hS];generalize Gx p a (min 48 (N-a))=q at*
  rw[Aa1 rfl];simp only;rw[Aaw (by rw[Bb];simp;omega),Yz,Yq,Bu];by_cases h2:N<a+q+1+k
  ·rw[Aa1 (by simp[Af];omega),Aa1 h2]
  ·have hp:2^k<=2^24:=Ac8 (by omega) hk;have hm:q*2^k<=47*2^24:=Aum (by omega) hp;have hv:=Se p k (a+q+1);have e:(Ae (Ad (Bj (Ae (q:Int):UInt64) (UInt64.ofNat (2^k))) (Wa p (a+q+1) k)):UInt32)=UInt32.ofNat (q*2^k+Cr p (a+q+1) k):=by
    have e1:Ad (Bj (Ae (q:Int):UInt64) (UInt64.ofNat (2^k))) (Wa p (a+q+1) k)=UInt64.ofNat (q*2^k+Cr p (a+q+1) k):=by
     rw[LR,MS,CI,Wa,UInt64.ofNat_add,UInt64.ofNat_mul]
    rw[e1];have e2:∀x:UInt64,(Ae x:UInt32)=UInt32.ofNat x.toNat:=λx=>by simp only[Ae,Jl,Ex]
    rw[e2,Aee,Abw (by omega)]
   rw[Aaw (by simp[Af];omega),Aaw h2,pS p _ _ k (by omega) (by omega),Aa,Aa1 (by rw[Af];simp;omega),LK k (by omega),Aa,e,Aj];rfl
 ·by_cases h2:Gx p a (min 48 (N-a))=48
  ·have hS:WR p N a k=if N<a+48+32 then(0,0,24)else if Cr p (a+48) 32/2^k<48 then(0,0,12)else(UInt32.ofNat (Cr p (a+48) 32),((a+48+32:Nat):Int),0):=by rw[WR,Aaw ha,Aaw h1,Aa1 h2]
   rw[Ajy h1 h2,hS,Aa1 rfl];simp only;rw[Aa1 (by rw[Bb];rfl),Yz,Yq,Bu];by_cases h3:N<a+48+32
   ·rw[Aa1 (by simp[Af];omega),Aa1 h3]
   ·have hg:=pS p (N:Int) (a+48) 32 (by omega) (by omega);have hv:=uz p (a+48) (n:=32) (by omega);rw[Aaw (by simp[Af];omega),Aaw h3];refine Awu (congrArg (λo=>Option.bind o _) hg) ?_;rw[Aa,Aaw (by rw[Af];simp),rW (by omega),Aqo _ k hk,Aa,dU hv];by_cases h4:Cr p (a+48) 32/2^k<48
    ·rw[Aa1 (by rw[Af];simp;omega),Aa1 h4]
    ·rw[Aaw (by rw[Af];simp;omega),Aaw h4,Aj];rfl
  ·rw[Amq h1 h2,WR,Aaw ha,Aaw h1,Aaw h2];have e:(if((0:Int),(0:Int),(24:Int)).2.2=0 then(((0:Int),(0:Int),(24:Int)).1,((0:Int),(0:Int),(24:Int)).2.1)else((-1:Int),(0:Int)))=(-1,0):=by decide
   rw[e];rfl
theorem At1{p:List UInt8}{N a k:Nat}{v:UInt32}{n:Int}(h:WR p N a k=(v,n,0)):(a:Int)<n/\n<=N:=by
 unfold WR at h;split at h
 ·simp at h
 split at h
 ·split at h
  ·simp at h
  ·simp only[Ajg]at h;omega
 ·split at h
  ·split at h
   ·simp at h
   ·split at h
    ·simp at h
    ·simp only[Ajg]at h;omega
  ·simp at h
def okD(k l:Nat)(s t:UInt64):Prop:=k<=24/\l<=24/\s.toNat<=68719476735/\t.toNat<=68719476735
theorem Abs(a b:UInt64)(h:a.toNat<=b.toNat):Eo a b=a:=by
 show(if _ then _ else _)=_;rw[Jl,Jl,Aaw (by omega)]
theorem tD(a:UInt64):geq a a=true:=by rw[tU];simp
theorem Asi{k l:Nat}{s t:UInt64}(h:okD k l s t):UH (k:Int) (l:Int) s t=some 0:=by
 obtain⟨h1,h2,h3,h4⟩:=h;have e1:Eo (nJ (k:Int) 0) 24=(k:Int):=by rw[XZ,Adg];omega
 have e2:Eo (nJ (l:Int) 0) 24=(l:Int):=by rw[XZ,Adg];omega
 have e3:Eo s (68719476735:UInt64)=s:=Abs _ _ (by simpa using h3);have e4:Eo t (68719476735:UInt64)=t:=Abs _ _ (by simpa using h4);have e5:∀a:Int,geq a a=true:=λa=>by rw[Bb];simp
 rw[UH,KJ,XG,KG,WZ,oA,e1,e2,e3,e4,e5,e5,tD,tD];rfl
def GC(s n:UInt64):UInt64:=s+n-s/16
def kS(k:Nat)(s:UInt64):Nat:=if 0<k/\s.toNat<2^(k+4)then k-1 else if k<24/\2^(k+5)<s.toNat then k+1 else k
theorem Ar7{k:Nat}(h:k<=24)(s:UInt64):kS k s<=24:=by
 unfold kS;by_cases h1:0<k/\s.toNat<2^(k+4)
 ·rw[Aa1 h1];omega
 ·rw[Aaw h1];split<;>omega
theorem Ae3{k:Nat}{s:UInt64}(h:¬(0<k/\s.toNat<2^(k+4))):(if k<24/\2^(k+5)<s.toNat then((k+1:Nat):Int)else(k:Int))=((kS k s:Nat):Int):=by
 rw[kS,Aaw h];split<;>rfl
theorem Aeo{s n:UInt64}(h:s.toNat<=68719476735)(hn:n.toNat<=4294967295):(GC s n).toNat<=68719476735:=by
 have h1:=s.toNat_lt;have e:(s+n).toNat=s.toNat+n.toNat:=by rw[UInt64.toNat_add];omega
 have e2:(s/16).toNat=s.toNat/16:=by rw[Ayp];rfl
 rw[GC,UInt64.toNat_sub_of_le _ _ (by rw[UInt64.le_iff_toNat_le,e,e2];omega),e,e2];omega
theorem K5(s n:UInt64):Ad s (Ak n (Ce s (GI.toZ (4:UInt64)).toNat))=GC s n:=by
 have e:Ce s (GI.toZ (4:UInt64)).toNat=s/16:=by
  apply UInt64.toNat_inj.1;rw[FJ,Ayp];rfl
 rw[e,LR,zW,GC,UInt64.sub_eq_add_neg,UInt64.sub_eq_add_neg,UInt64.add_assoc]
theorem Agw(s n:UInt64):Ak (Ad s n) (By s (16:UInt64))=GC s n:=by rw[LR,zW,sD,GC]
theorem Awb{k:Nat}(h:k<=24):(Du (16:UInt64) k).toNat=2^(k+4):=by
 have hp:2^k<=2^24:=Ac8 (by omega) h;rw[ZK,Ayn]
 show 16*2^k %_=2^k*16;rw[Abw (by omega),Aom]
theorem As2{k:Nat}(h:k<=24):(Du (32:UInt64) k).toNat=2^(k+5):=by
 have hp:2^k<=2^24:=Ac8 (by omega) h;rw[ZK,Ayn]
 show 32*2^k %_=2^k*32;rw[Abw (by omega),Aom]
theorem Ary{k:Nat}{s:UInt64}(h:0<k)(h2:s.toNat<2^(k+4)):kS k s=k-1:=by rw[kS,Aa1 ⟨h,h2⟩]
theorem Ar6{k:Nat}{s:UInt64}(h:¬(0<k/\s.toNat<2^(k+4)))(h2:k<24)(h3:2^(k+5)<s.toNat):kS k s=k+1:=by rw[kS,Aaw h,Aa1 ⟨h2,h3⟩]
theorem Af1{k:Nat}{s:UInt64}(h:¬(0<k/\s.toNat<2^(k+4)))(h2:¬(k<24/\2^(k+5)<s.toNat)):kS k s=k:=by rw[kS,Aaw h,Aaw h2]
theorem Arn{α:Type}(k:Nat)(hk:k<=24)(s:UInt64)(f:Int->Option α):
  (if(Dx (k:Int) (0:Int))=true then(
   Option.bind (Hj (Je (k:Int) (0:Int))) λ_=>
   if(Bt s (Du (16:UInt64) (GI.toZ (k:Int)).toNat))=true then f (Ak (k:Int) (1:Int))
   else(if(Bt (k:Int) (24:Int))=true then(
    Option.bind (Hj (Je (k:Int) (0:Int))) λ_=>
    if(Dx s (Du (32:UInt64) (GI.toZ (k:Int)).toNat))=true then f (Ad (k:Int) (1:Int))else f (k:Int))
    else f (k:Int)))
  else(if(Bt (k:Int) (24:Int))=true then(
    Option.bind (Hj (Je (k:Int) (0:Int))) λ_=>
    if(Dx s (Du (32:UInt64) (GI.toZ (k:Int)).toNat))=true then f (Ad (k:Int) (1:Int))else f (k:Int))
    else f (k:Int)))=f ((kS k s:Nat):Int):=by
 have z:(GI.toZ (k:Int)).toNat=k:=rfl;rw[z,Dk (by rw[En];simp)];simp only[Aa];rw[yZ,VD,Awb hk,As2 hk];by_cases h0:0<k
 ·rw[Aa1 (by rw[Ay];simp;omega)];by_cases h1:s.toNat<2^(k+4)
  ·rw[Aa1 (by simp[h1]),Ary h0 h1,Bu];congr 1;omega
  ·rw[Aaw (by simp;omega)];by_cases h2:k<24
   ·rw[Aa1 (by rw[Af];simp;omega)];by_cases h3:2^(k+5)<s.toNat
    ·rw[Aa1 (by simp[h3]),Ar6 (λh=>h1 h.2) h2 h3,Aj];rfl
    ·rw[Aaw (by simp;omega),Af1 (λh=>h1 h.2) (λh=>h3 h.2)]
   ·rw[Aaw (by rw[Af];simp;omega),Af1 (λh=>h1 h.2) (λh=>h2 h.1)]
 ·rw[Aaw (by rw[Ay];simp;omega)];by_cases h2:k<24
  ·rw[Aa1 (by rw[Af];simp;omega)];by_cases h3:2^(k+5)<s.toNat
   ·rw[Aa1 (by simp[h3]),Ar6 (λh=>h0 h.1) h2 h3,Aj];rfl
   ·rw[Aaw (by simp;omega),Af1 (λh=>h0 h.1) (λh=>h3 h.2)]
  ·rw[Aaw (by rw[Af];simp;omega),Af1 (λh=>h0 h.1) (λh=>h2 h.1)]
theorem Afv(k:Nat)(hk:k<=24)(s n:UInt64):Ur (k:Int) s n=some (((kS k (GC s n):Nat):Int),GC s n):=by
 have g1:Ad (k:Int) 4=((k+4:Nat):Int):=by rw[Aj];omega
 have g2:Ad (k:Int) 5=((k+5:Nat):Int):=by rw[Aj];omega
 have hp:Wb (k:Int) s n=some (if k<24/\2^(k+5)<(GC s n).toNat then((k+1:Nat):Int)else(k:Int),GC s n):=by
  rw[Wb,MW,g2,LK _ (by omega),Aa,Agw,VD,VC (by omega)];by_cases h2:k<24
  ·rw[Aa1 (by rw[Af];simp;omega)];by_cases h3:2^(k+5)<(GC s n).toNat
   ·rw[Aa1 (by simp[h3]),Aa1 ⟨h2,h3⟩,Aj];rfl
   ·rw[Aaw (by simp;omega),Aaw (λh=>h3 h.2)]
  ·rw[Aaw (by rw[Af];simp;omega),Aaw (λh=>h2 h.1)]
 rw[Ur,MQ,g1,LK _ (by omega),Aa,Agw,yZ,VC (by omega),hp];by_cases h0:0<k
 ·rw[Aa1 (by rw[Ay];simp;omega)];by_cases h1:(GC s n).toNat<2^(k+4)
  ·rw[Aa1 (by simp[h1]),Ary h0 h1,Bu];congr 2;omega
  ·rw[Aaw (by simp;omega),Ae3 (λh=>h1 h.2)]
 ·rw[Aaw (by rw[Ay];simp;omega),Ae3 (λh=>h0 h.1)]
def qp(v:UInt32):UInt64:=UInt64.ofNat v.toNat
theorem Am4(v:UInt32):(qp v).toNat<=4294967295:=by have:=v.toNat_lt;rw[qp,Aee,Abw (by omega)];omega
def wH(k:Nat)(v:UInt32):UInt32:=UInt32.ofNat (v.toNat-2^k)
def lK(l:Nat)(t:UInt64)(k:Nat)(v:UInt32):Nat:=if v.toNat<2^k then l else kS l (GC t (qp (wH k v)))
def lT(t:UInt64)(k:Nat)(v:UInt32):UInt64:=if v.toNat<2^k then t else GC t (qp (wH k v))
theorem Anf{k l:Nat}{s t:UInt64}(h:okD k l s t)(v:UInt32):okD (kS k (GC s (qp v))) (lK l t k v) (GC s (qp v)) (lT t k v):=by
 obtain⟨h1,h2,h3,h4⟩:=h;refine⟨Ar7 h1 _,?_,Aeo h3 (Am4 v),?_⟩
 ·unfold lK;split; · exact h2
  exact Ar7 h2 _
 ·unfold lT;split; · exact h4
  exact Aeo h4 (Am4 _)
theorem Asn(k l:Nat)(s t:UInt64)(hk:k<=24)(v:UInt32):ID (k:Int) (l:Int) s t v=some (decide (v.toNat<2^k)):=by
 have:=v.toNat_lt;rw[ID,LK k (by omega),Aa,yZ,VC (by omega),Jf,Aee,Abw (by omega)]
theorem left_eq(k l:Nat)(s t:UInt64)(hk:k<=24)(v:UInt32)(h:¬v.toNat<2^k):FO (k:Int) (l:Int) s t v=some (wH k v):=by
 have:=v.toNat_lt;have e2:∀x:UInt64,(Ae x:UInt32)=UInt32.ofNat x.toNat:=λx=>by simp only[Ae,Jl,Ex]
 have e3:(UInt64.ofNat v.toNat).toNat=v.toNat:=by rw[Aee,Abw (by omega)]
 rw[FO,LK k (by omega),Aa,e2,zW,Jf,UInt64.toNat_sub_of_le _ _ (by rw[UInt64.le_iff_toNat_le,VC (by omega),e3];omega),VC (by omega),e3,wH]
theorem Aja{k l:Nat}{s t:UInt64}(h:okD k l s t)(v:UInt32):Yn (k:Int) (l:Int) s t v=some (((kS k (GC s (qp v)):Nat):Int),((lK l t k v:Nat):Int),GC s (qp v),lT t k v):=by
 obtain⟨h1,h2,h3,h4⟩:=h;have hp:∀(r1:Int) (r2:UInt64),Sm v (k:Int) (l:Int) s t r1 r2=some (((kS k (GC s (qp v)):Nat):Int),r1,GC s (qp v),r2):=by
  intro r1 r2;rw[Sm,FE,Jf,Afv k h1,Aa];rfl
 rw[Yn,DR,Asn k l s t h1,Aa];by_cases hv:v.toNat<2^k
 ·rw[Aaw (by simp[hv]),hp,lK,Aa1 hv,lT,Aa1 hv]
 ·rw[Aa1 (by simp;omega),left_eq k l s t h1 v hv,Aa,Jf,Afv l h2,Aa];simp only;rw[hp,lK,Aaw hv,lT,Aaw hv];rfl
theorem Akk(k l:Nat)(s t:UInt64)(hk:k<=24)(v:UInt32):IK (k:Int) (l:Int) s t v=some (if v.toNat<2^k then(0,v)else(1,wH k v)):=by
 have hp:2^k<=2^24:=Ac8 (by omega) hk;have hpos:0<2^k:=Aww (by omega);have hl:=v.toNat_lt;have z:(GI.toZ (k:Int)).toNat=k:=rfl;have e1:geq (Ce v k) (0:UInt32)=decide (v.toNat<2^k):=by
  rw[mf,Agx];simp only[Atw,<-UInt32.toNat_inj,YJ,Aby]
  show _/_=0↔_;rw[Nat.div_eq_zero_iff];omega
 have e2:¬v.toNat<2^k->Ak v (Du (1:UInt32) k)=wH k v:=by
  intro h;have e3:(Du (1:UInt32) k).toNat=2^k:=by rw[M4];show 1*2^k %_=_;rw[Abw (by omega),Nat.one_mul]
  apply UInt32.toNat_inj.1;rw[uf,UInt32.toNat_sub_of_le _ _ (by rw[UInt32.le_iff_toNat_le,e3];omega),e3,wH,dU (by omega)]
 rw[IK,Dk (by rw[En];simp),Aa,Aa,z,e1];by_cases h:v.toNat<2^k
 ·rw[Aa1 (by simp[h]),Aa1 h]
 ·rw[Aaw (by simp;omega),Aaw h,e2 h]
abbrev Rd:=UInt32×Int×Int×Int×UInt64×UInt64×Int
theorem zJ{k l:Nat}{s t:UInt64}(h:okD k l s t)(v:UInt32)(r:Int):QI (k:Int) (l:Int) s t v r=some (v,r,((kS k (GC s (qp v)):Nat):Int),((lK l t k v:Nat):Int),GC s (qp v),lT t k v,0):=by
 obtain⟨h1,h2,h3,h4⟩:=h;have hp:∀(x:Int) (y:UInt64),ES v r (k:Int) s x y=some (v,r,((kS k (GC s (qp v)):Nat):Int),x,GC s (qp v),y,0):=by
  intro x y;rw[ES,dQ,Jf,K5,Arn k h1];rw[bY,cR,XI,oP,Jf,K5];rfl
 rw[QI,bG,Akk k l s t h1,Aa];by_cases hv:v.toNat<2^k
 ·rw[Aa1 hv];simp only;rw[Aaw (by rw[Bb];simp),hp,lK,Aa1 hv,lT,Aa1 hv]
 ·rw[Aaw hv];simp only;rw[Aa1 (by rw[Bb];rfl),Jf,K5,Arn l h2 _ (λx=>ES v r (k:Int) s x (GC t (UInt64.ofNat (wH k v).toNat))),hp,lK,Aaw hv,lT,Aaw hv];rfl
def dZ(p:List UInt8)(N a k l:Nat):UInt32×Int×Int:=
 if N<=a then(0,0,24)else
 if Lf p a=0 then(if N<a+1+k then(0,0,24)else(UInt32.ofNat (Cr p (a+1) k),((a+1+k:Nat):Int),0))else
 if(WR p N (a+1) l).2.2≠0 then(0,0,(WR p N (a+1) l).2.2)else
 if 4294967295<(WR p N (a+1) l).1.toNat+2^k then(0,0,12)else(UInt32.ofNat ((WR p N (a+1) l).1.toNat+2^k),(WR p N (a+1) l).2.1,0)
theorem Atn{p:List UInt8}{N a k l:Nat}(h:(dZ p N a k l).2.2=0):(a:Int)<(dZ p N a k l).2.1/\ (dZ p N a k l).2.1<=N:=by
 revert h
 unfold dZ;split
 ·simp
 split
 ·split
  ·simp
  ·simp only;omega
 ·split
  ·intro h;contradiction
  ·rename_i h1;split
   ·simp
   ·intro _;have:=At1 (p:=p) (N:=N) (a:=a+1) (k:=l) (v:=(WR p N (a+1) l).1) (n:=(WR p N (a+1) l).2.1) (by
     have e:(WR p N (a+1) l).2.2=0:=by simpa using h1
     rw[<-e])
    simp only;omega
theorem Apv{p:List UInt8}{N:Nat}(h:okB p N)(a:Nat){k l:Nat}{s t:UInt64}(hd:okD k l s t):IY p (N:Int) (a:Int) (k:Int) (l:Int) s t=
  some (if(dZ p N a k l).2.2≠0 then(0,0,0,0,0,0,(dZ p N a k l).2.2)else((dZ p N a k l).1,(dZ p N a k l).2.1,((kS k (GC s (qp (dZ p N a k l).1)):Nat):Int),((lK l t k (dZ p N a k l).1:Nat):Int),GC s (qp (dZ p N a k l).1),lT t k (dZ p N a k l).1,0)):=by
 obtain⟨h1,h2,h3,h4⟩:=hd;have hd:okD k l s t:=⟨h1,h2,h3,h4⟩;have hN:=h.1;have hg:=uE h a 1 (by omega);have hb:=Zd p a;rw[IY,cW,RF h,Aa,Aaw (by rw[Ao];simp),Asi hd,Aa,Aaw (by rw[Ao];simp),dE,dD];refine Awu (congrArg (λo=>Option.bind o _) hg) ?_;rw[Aa];by_cases ha:N<=a
 ·have hS:dZ p N a k l=(0,0,24):=by rw[dZ,Aa1 ha]
  rw[Aa1 (by omega),hS];rfl
 rw[Aaw (by omega)];simp only;have e0:geq (Wa p a 1) (0:UInt64)=decide (Lf p a=0):=by
  rw[tU,Agx];simp only[Atw,<-Ayc,Aby,GK p a 1 (by omega),wy];rfl
 have e1:Ad (a:Int) 1=((a+1:Nat):Int):=by rw[Aj];omega
 rw[Aaw (by rw[Ao];simp),e0,e1];by_cases hz:Lf p a=0
 ·rw[Aa1 (by simp[hz]),uE h (a+1) k (by omega),Aa];by_cases h5:N<a+1+k
  ·have hS:dZ p N a k l=(0,0,24):=by rw[dZ,Aaw ha,Aa1 hz,Aa1 h5]
   rw[Aa1 h5,hS];rfl
  ·have hS:dZ p N a k l=(UInt32.ofNat (Cr p (a+1) k),((a+1+k:Nat):Int),0):=by rw[dZ,Aaw ha,Aa1 hz,Aaw h5]
   rw[Aaw h5,hS];simp only;rw[Aaw (by rw[Ao];simp),zJ hd,rW (by omega),Aj];rfl
 ·rw[Aaw (by simp[hz]),Aoy h (a+1) l h2,Aa];have hp:2^k<=2^24:=Ac8 (by omega) h1;by_cases h5:(WR p N (a+1) l).2.2≠0
  ·have hS:dZ p N a k l=(0,0,(WR p N (a+1) l).2.2):=by rw[dZ,Aaw ha,Aaw hz,Aa1 h5]
   rw[hS];generalize WR p N (a+1) l=R at*
   obtain⟨v,n,e⟩:=R;simp only at*
   rw[Aa1 (by rw[Ao];simpa using h5),Aa1 h5]
  ·have hv:=(WR p N (a+1) l).1.toNat_lt;have z:(GI.toZ (k:Int)).toNat=k:=rfl;have e3:(Du (1:UInt32) k).toNat=2^k:=by rw[M4];show 1*2^k %_=_;rw[Abw (by omega),Nat.one_mul]
   by_cases h6:4294967295<(WR p N (a+1) l).1.toNat+2^k
   ·have hS:dZ p N a k l=(0,0,12):=by rw[dZ,Aaw ha,Aaw hz,Aaw h5,Aa1 h6]
    rw[hS];generalize WR p N (a+1) l=R at*
    obtain⟨v,n,e⟩:=R;simp only at*
    rw[Aaw (by rw[Ao];simpa using h5),Dk (by rw[En];simp),Aa,z,Aa1 (by rw[Aev,zM,UInt32.toNat_add,e3];simp;omega),Aa1 (by decide)]
   ·have hS:dZ p N a k l=(UInt32.ofNat ((WR p N (a+1) l).1.toNat+2^k),(WR p N (a+1) l).2.1,0):=by rw[dZ,Aaw ha,Aaw hz,Aaw h5,Aaw h6]
    rw[hS];generalize WR p N (a+1) l=R at*
    obtain⟨v,n,e⟩:=R;simp only at*
    have e4:Ad v (Du (1:UInt32) k)=UInt32.ofNat (v.toNat+2^k):=by
     apply UInt32.toNat_inj.1;rw[zM,UInt32.toNat_add,e3,dU (by omega),Abw (by omega)]
    rw[Aaw (by rw[Ao];simpa using h5),Dk (by rw[En];simp),Aa,z,Aaw (by rw[Aev,zM,UInt32.toNat_add,e3];simp;omega),e4,zJ hd];rfl
theorem Akc{p:List UInt8}{N:Nat}(h:okB p N)(a:Nat)(k l:Nat)(s t:UInt64)(h1:k<=24)(h2:l<=24):JU p (N:Int) (a:Int) (k:Int) (l:Int) s t=some (dZ p N a k l):=by
 have hN:=h.1;have hl:=h.2.1;have hb:=Zd p a;rw[JU];by_cases ha:N<=a
 ·rw[Aa1 (by rw[En];simp;omega),dZ,Aa1 ha]
 rw[Aaw (by rw[En];simp;omega),uO p _ a (by omega) (by omega),Aa,Bu (a:=(N:Int)) (b:=(a:Int)) (by omega) (by omega),Bu];have e1:Ad (a:Int) 1=((a+1:Nat):Int):=by rw[Aj];omega
 rw[e1];by_cases hz:Lf p a=0
 ·rw[Aa1 (by rw[Bb];simp[hz])];by_cases h5:N<a+1+k
  ·rw[Aa1 (by rw[Af];simp;omega),dZ,Aaw ha,Aa1 hz,Aa1 h5]
  ·rw[Aaw (by rw[Af];simp;omega),pS p _ (a+1) k (by omega) (by omega),Aa,dZ,Aaw ha,Aa1 hz,Aaw h5,rW (by omega),Aj];rfl
 ·rw[Aaw (by rw[Bb];simp;omega),Amb h (a+1) l h2,Aa];have hp:2^k<=2^24:=Ac8 (by omega) h1;have hv:=(WR p N (a+1) l).1.toNat_lt;have e2:∀x:UInt64,(Ae x:UInt32)=UInt32.ofNat x.toNat:=λx=>by simp only[Ae,Jl,Ex]
  by_cases h5:(WR p N (a+1) l).2.2≠0
  ·have hS:dZ p N a k l=(0,0,(WR p N (a+1) l).2.2):=by rw[dZ,Aaw ha,Aaw hz,Aa1 h5]
   rw[hS];generalize WR p N (a+1) l=R at*
   obtain⟨v,n,e⟩:=R;simp only at*
   rw[Aa1 (by rw[Ao];simpa using h5)]
  ·have hsum:∀v:UInt32,(Ad (Ae v:UInt64) (UInt64.ofNat (2^k))).toNat=v.toNat+2^k:=by
    intro v;have:=v.toNat_lt;have:=Aww (n:=k) (show 0<2 by omega);rw[LR,UInt64.toNat_add,Jf,VC (by omega),Aee];omega
   by_cases h6:4294967295<(WR p N (a+1) l).1.toNat+2^k
   ·have hS:dZ p N a k l=(0,0,12):=by rw[dZ,Aaw ha,Aaw hz,Aaw h5,Aa1 h6]
    rw[hS];generalize WR p N (a+1) l=R at*
    obtain⟨v,n,e⟩:=R;simp only at*
    rw[Aaw (by rw[Ao];simpa using h5),LK k (by omega),Aa,Aa1 (by rw[VD,hsum];simpa using h6)]
   ·have hS:dZ p N a k l=(UInt32.ofNat ((WR p N (a+1) l).1.toNat+2^k),(WR p N (a+1) l).2.1,0):=by rw[dZ,Aaw ha,Aaw hz,Aaw h5,Aaw h6]
    rw[hS];generalize WR p N (a+1) l=R at*
    obtain⟨v,n,e⟩:=R;simp only at*
    rw[Aaw (by rw[Ao];simpa using h5),LK k (by omega),Aa,Aaw (by rw[VD,hsum];simpa using h6),e2,hsum]
abbrev DuN:=Nat×Nat×UInt64×UInt64
def okN(d:DuN):Prop:=okD d.1 d.2.1 d.2.2.1 d.2.2.2
def nxt(d:DuN)(v:UInt32):DuN:=(kS d.1 (GC d.2.2.1 (qp v)),lK d.2.1 d.2.2.2 d.1 v,GC d.2.2.1 (qp v),lT d.2.2.2 d.1 v)
def jg:DuN:=(10,10,16384,16384)
theorem Alo:okN jg:=⟨by decide,by decide,by decide,by decide⟩
theorem Aso{d:DuN}(h:okN d)(v:UInt32):okN (nxt d v):=Anf h v
abbrev DuL:=Int×Int×UInt64×UInt64×Unit
def toI(d:DuN):DuL:=((d.1:Int),(d.2.1:Int),d.2.2.1,d.2.2.2,())
def kO(ch:Nat)(v:List UInt32)(c:Nat):Nat->DuN
 |0=>jg
 |m+1=>if m %ch=c then nxt (kO ch v c m) (v.getD m 0)else kO ch v c m
theorem uW(ch:Nat)(v:List UInt32)(c:Nat):∀m,okN (kO ch v c m)
 |0=>Alo
 |m+1=>by rw[kO];split;exact Aso (uW ch v c m) _;exact uW ch v c m
theorem Aeq(ch:Nat)(v w:List UInt32)(c:Nat):∀m,m<=v.length->kO ch (v++w) c m=kO ch v c m
 |0,_=>rfl
 |m+1,h=>by
  have e:(v++w).getD m 0=v.getD m 0:=by simp[List.getD_eq_getElem?_getD,List.getElem?_append_left (show m<v.length by omega)]
  rw[kO,kO,Aeq ch v w c m (by omega),e]
theorem qf(ch:Nat)(v:List UInt32)(c:Nat):∀m,m<=c->c<ch->kO ch v c m=jg
 |0,_,_=>rfl
 |m+1,h,h2=>by rw[kO,Aaw (by rw[Abw (by omega)];omega),qf ch v c m (by omega) h2]
theorem vz(ch:Nat)(v:List UInt32)(c i:Nat)(hi:i %ch=c)(hc:c<ch):∀j,j<ch->kO ch v c (i+1+j)=kO ch v c (i+1)
 |0,_=>rfl
 |j+1,h=>by
  have hne:(i+1+j) %ch≠c:=by
   intro e;have h1:(i+(1+j)) %ch=i %ch:=by rw[hi,<-e];congr 1;omega
   have h2:(1+j) %ch=0:=by
    have h3:=Nat.sub_mod_eq_zero_of_mod_eq h1;rwa [Awv]at h3
   rw[Abw (by omega)]at h2;omega
  rw[show i+1+(j+1)=(i+1+j)+1 by omega,kO,Aaw hne,vz ch v c i hi hc j (by omega)]
theorem Amc(ch:Nat)(v:List UInt32)(c i:Nat)(hi:i %ch=c)(hc:c<ch):kO ch v c (i+ch)=nxt (kO ch v c i) (v.getD i 0):=by
 have h:=vz ch v c i hi hc (ch-1) (by omega);rw[show i+1+(ch-1)=i+ch by omega]at h;rw[h,kO,Aa1 hi]
theorem zK{l:List UInt32}{k:Nat}(h:k<l.length):Am l (k:Int)=some (l.getD k 0):=by
 rw[Cw h];simp[List.getD_eq_getElem?_getD,h]
theorem B2(a b:Nat):Fl (a:Int) (b:Int)=((a %b:Nat):Int):=by rw[Fl,Auo (by omega)];omega
theorem xD(ch:Nat)(v:List UInt32)(hch:1<=ch)(Auh:ch<=6)(hv:v.length<=4000):∀(j i q:Nat),i %ch=v.length %ch->i<=v.length->v.length-i<=j->j<q->
  Me (ch:Int) v q (i:Int) ((kO ch v (v.length %ch) i).1:Int) ((kO ch v (v.length %ch) i).2.1:Int) (kO ch v (v.length %ch) i).2.2.1 (kO ch v (v.length %ch) i).2.2.2=
   some (((kO ch v (v.length %ch) v.length).1:Int),((kO ch v (v.length %ch) v.length).2.1:Int),(kO ch v (v.length %ch) v.length).2.2.1,(kO ch v (v.length %ch) v.length).2.2.2)
 |j,i,q+1,hi,hl,hj,hq=>by
  have hc:v.length %ch<ch:=Aws _ (by omega);rw[Me,FN];by_cases h:i<v.length
  ·have h1:=Aja (uW ch v (v.length %ch) i) (v.getD i 0);rw[Aa1 (by rw[Af,Ac];simp;omega),zK h,Aa,h1,Aa];have hle:i+ch<=v.length:=by
    have h2:=Nat.div_add_mod i ch;have h3:=Nat.div_add_mod v.length ch;rw[hi]at h2;have h4:ch*(i/ch)<ch*(v.length/ch):=by omega
    have h5:=Nat.lt_of_mul_lt_mul_left h4;have h6:ch*(i/ch+1)<=ch*(v.length/ch):=Nat.mul_le_mul_left _ h5;rw[Nat.mul_add]at h6;omega
   have ih:=xD ch v hch Auh hv (j-ch) (i+ch) q (by rw[Ayu];exact hi) hle (by omega) (by omega);rw[Amc ch v _ i hi hc]at ih;simp only;rw[Aj];exact ih
  ·rw[Aaw (by rw[Af,Ac];simp;omega),show i=v.length by omega];rfl
theorem Aii(ch:Nat)(v:List UInt32)(hch:1<=ch)(Auh:ch<=6)(hv:v.length<=4000):Qc (ch:Int) v=some (((kO ch v (v.length %ch) v.length).1:Int),((kO ch v (v.length %ch) v.length).2.1:Int),(kO ch v (v.length %ch) v.length).2.2.1,(kO ch v (v.length %ch) v.length).2.2.2):=by
 have hc:v.length %ch<ch:=Aws _ (by omega);have hle:v.length %ch<=v.length:=Nat.mod_le _ _;have h:=xD ch v hch Auh hv v.length (v.length %ch) Ar (by rw[Nat.mod_mod]) hle (by omega) (by have:=As;omega);rw[qf ch v _ _ (Al1 _) hc]at h;rw[Qc,EE,Na,Aa];simp only;rw[Dk (by rw[Ao];simp;omega),Aa,Ac,B2];exact h
def now(ch:Nat)(v:List UInt32):DuN:=kO ch v (v.length %ch) v.length
def D4(N a:Nat):Nat:=min 81 (N-a)
def Mh(ch:Nat)(p:List UInt8)(N a:Nat)(out:List UInt32):UInt32×Int×Int:=dZ (JJ p a (D4 N a)) (D4 N a) 0 (now ch out).1 (now ch out).2.1
def Xs(ch:Nat)(p:List UInt8)(N:Nat):Nat->Nat->List UInt32->List UInt32×Nat×Int
 |0,a,out=>(out,a,0)
 |j+1,a,out=>if(Mh ch p N a out).2.2≠0 then(out,a,(Mh ch p N a out).2.2)else Xs ch p N j (a+(Mh ch p N a out).2.1.toNat) (out++[(Mh ch p N a out).1])
theorem mB{ch:Nat}{p:List UInt8}{N a:Nat}{out:List UInt32}(h:(Mh ch p N a out).2.2=0):0<(Mh ch p N a out).2.1/\ (Mh ch p N a out).2.1<=D4 N a:=by
 have:=Atn h;exact⟨this.1,this.2⟩
theorem Y6{ch:Nat}{p:List UInt8}{N a:Nat}{out:List UInt32}(h:(Mh ch p N a out).2.2=0):((a:Int)+(Mh ch p N a out).2.1)=((a+(Mh ch p N a out).2.1.toNat:Nat):Int):=by
 have:=mB h;omega
def sts(ch:Nat)(v:List UInt32):List DuL:=(List.range 6).map λc=>toI (kO ch v c v.length)
theorem Agr{ch:Nat}{v:List UInt32}{c:Nat}(h:c<6):Am (sts ch v) (c:Int)=some (toI (kO ch v c v.length)):=by
 rw[Cw (by simp[sts];exact h)];simp[sts]
theorem Ao1{ch:Nat}{v:List UInt32}{c:Nat}(x:UInt32)(h:c<6)(hc:c=v.length %ch):Le (sts ch v) (c:Int) (toI (nxt (kO ch v c v.length) x))=some (sts ch (v++[x])):=by
 rw[Ye _ (by simp[sts];exact h)];congr 1;apply Aul (by simp[sts]);intro i h1 h2;rw[Ayq];simp only[sts,Ayg,Aya];have e:(v++[x]).getD v.length 0=x:=by simp
 rw[Abz,List.length_singleton,kO,e,Aeq ch v [x] i v.length (Al1 _)];by_cases hi:c=i
 ·subst hi;rw[Aa1 rfl,Aa1 hc.symm]
 ·rw[Aaw hi,Aaw (by omega)]
section
variable {p:List UInt8} {N ch n:Nat}
theorem zh(hp:okB p N)(h1:1<=ch)(h6:ch<=6)(hn:n*ch<=4000):∀(j a q:Nat) (out:List UInt32),out.length+j=n*ch->j<q->a<=N->
  Nc (ch:Int) (n:Int) p (N:Int) q (a:Int) (out.length:Int) (sts ch out) out=
   some (if(Xs ch p N j a out).2.2≠0 then([],0,(Xs ch p N j a out).2.2)else((Xs ch p N j a out).1,((Xs ch p N j a out).2.1:Int),0))
 |j,a,q+1,out,hj,hq,ha=>by
  have hN:=hp.1;have hnn:n<=n*ch:=Nat.le_mul_of_pos_right n (by omega);have em:Bj (n:Int) (ch:Int)=((n*ch:Nat):Int):=by rw[Jh (by rw[<-As3];omega) (by rw[<-As3];omega),As3]
  rw[Nc,Rr,em];cases j with
  |zero=>
   rw[Aaw (by rw[Af];simp;omega)];rfl
  |succ j=>
   have hc:out.length %ch<6:=Ak6 (Aws _ (by omega)) h6;have ew:Eo (Ad (a:Int) 81) (N:Int)=((a+D4 N a:Nat):Int):=by rw[XZ,Aj];unfold D4;omega
   have hw:a+D4 N a<=N:=by unfold D4;omega
   have hw2:D4 N a<=81:=by unfold D4;omega
   have hd:=Apv (Aek p a (D4 N a) (by omega)) 0 (uW ch out (out.length %ch) out.length);have Anx:dZ (JJ p a (D4 N a)) (D4 N a) 0 (kO ch out (out.length %ch) out.length).1 (kO ch out (out.length %ch) out.length).2.1=Mh ch p N a out:=rfl;rw[Aa1 (by rw[Af];simp;omega),ew,Atj hp a _ hw (by omega),Aa];simp only;rw[Aaw (by rw[Ao];simp),Dk (by rw[Ao];simp;omega),Aa,B2,Agr hc,Aa,Aa];refine Awu (congrArg (λo=>Option.bind o _) hd) ?_;rw[Aa,Anx,Xs];by_cases he:(Mh ch p N a out).2.2≠0
   ·rw[Aa1 he,Aa1 he];simp only;rw[Sk,Tc,Aa1 (by rw[Ao];simpa using he),Aa1 he]
   ·have he0:(Mh ch p N a out).2.2=0:=by simpa using he
    have hok:=mB he0;have hset:=Ao1 (ch:=ch) (v:=out) (Mh ch p N a out).1 hc rfl;rw[Aaw he,Aaw he];simp only;rw[Sk,Tc,Aaw (by rw[Ao];simp),Dk (by rw[Ao];simp;omega),Aa,B2,Agr hc,Aa];refine Awu (congrArg (λo=>Option.bind o _) hset) ?_;rw[Aa,AQ,RW,Cv (by simp;omega),Aa,Aj,Aj,Y6 he0];have ih:=zh hp h1 h6 hn j (a+(Mh ch p N a out).2.1.toNat) q (out++[(Mh ch p N a out).1]) (by simp;omega) (by omega) (by omega);rw[Abz,List.length_singleton]at ih;exact ih
theorem Age{p:List UInt8}(hN:N=8*p.length)(hN2:N<=330000)(h1:1<=ch)(h6:ch<=6)(hn:n*ch<=4000):∀(j a q:Nat) (out:List UInt32),out.length+j=n*ch->j<q->a<=N->
  Fb (ch:Int) (n:Int) p q (a:Int) (out.length:Int) out=
   if(Xs ch p N j a out).2.2≠0 then some ((Xs ch p N j a out).1,(Xs ch p N j a out).2.2)else Uj ((Xs ch p N j a out).2.1:Int) p (Xs ch p N j a out).1
 |j,a,q+1,out,hj,hq,ha=>by
  have hnn:n<=n*ch:=Nat.le_mul_of_pos_right n (by omega);have em:Bj (n:Int) (ch:Int)=((n*ch:Nat):Int):=by rw[Jh (by rw[<-As3];omega) (by rw[<-As3];omega),As3]
  have e8:Bj (8:Int) (Ac p)=(N:Int):=by rw[Ac,Jh];omega
  rw[Fb,HJ,em];cases j with
  |zero=>
   rw[Aaw (by rw[Af];simp;omega)];rfl
  |succ j=>
   have ew:Eo (Ad (a:Int) 81) (N:Int)=((a+D4 N a:Nat):Int):=by rw[XZ,Aj];unfold D4;omega
   have hw:a+D4 N a<=N:=by unfold D4;omega
   have hw2:D4 N a<=81:=by unfold D4;omega
   have hpre:(Option.bind Na λ(r_4,r_5,r_6,r_7)=>
     if(Je (out.length:Int) (ch:Int))=true then(
     Option.bind (Qc (ch:Int) out) λ(r_8,r_9,r_10,r_11)=>
     Ka (Fb (ch:Int) (n:Int) p q) (ch:Int) (n:Int) p (a:Int) (out.length:Int) out r_8 r_9 r_10 r_11)
     else Ka (Fb (ch:Int) (n:Int) p q) (ch:Int) (n:Int) p (a:Int) (out.length:Int) out r_4 r_5 r_6 r_7)=
     Ka (Fb (ch:Int) (n:Int) p q) (ch:Int) (n:Int) p (a:Int) (out.length:Int) out ((now ch out).1:Int) ((now ch out).2.1:Int) (now ch out).2.2.1 (now ch out).2.2.2:=by
    rw[Na,Aa];by_cases hc:ch<=out.length
    ·simp only;rw[Aa1 (by rw[En];simp;omega),Aii ch out h1 h6 (by omega),Aa];rfl
    ·have e:now ch out=jg:=by rw[now,Abw (by omega),qf ch out _ _ (Al1 _) (by omega)]
     simp only;rw[Aaw (by rw[En];simp;omega),e];rfl
   have hd:=Akc (Aek p a (D4 N a) (by omega)) 0 (now ch out).1 (now ch out).2.1 (now ch out).2.2.1 (now ch out).2.2.2 (uW ch out _ _).1 (uW ch out _ _).2.1;have Anx:dZ (JJ p a (D4 N a)) (D4 N a) 0 (now ch out).1 (now ch out).2.1=Mh ch p N a out:=rfl;rw[Aa1 (by rw[Af];simp;omega),hpre,Ka,HY,e8,ew,wu p (N:Int) a _ (by omega) (by omega) (by omega),Aa];simp only;refine Awu (congrArg (λo=>Option.bind o _) hd) ?_;rw[Aa,Anx,Xs];by_cases he:(Mh ch p N a out).2.2≠0
   ·rw[Aa1 he,Aa1 (by rw[Ao];simpa using he),Aa1 he]
   ·have he0:(Mh ch p N a out).2.2=0:=by simpa using he
    have hok:=mB he0;have ih:=Age hN hN2 h1 h6 hn j (a+(Mh ch p N a out).2.1.toNat) q (out++[(Mh ch p N a out).1]) (by simp;omega) (by omega) (by omega);have hx:=Y6 he0;rw[Abz,List.length_singleton]at ih;rw[Aaw he];generalize Mh ch p N a out=R at*
    obtain⟨v,nx,e⟩:=R;simp only at*
    rw[Aaw (by rw[Ao];simpa using he),Cv (by simp;omega),Aa,Aj,Aj,hx];exact ih
end
theorem zD{ch:Nat}{p:List UInt8}{N:Nat}:∀(j a:Nat) (out:List UInt32),a<=N-> (Xs ch p N j a out).2.1<=N/\ (Xs ch p N j a out).1.length<=out.length+j/\ ((Xs ch p N j a out).2.2=0-> (Xs ch p N j a out).1.length=out.length+j)
 |0,a,out,h=>⟨h,Al1 _,λ_=>rfl⟩
 |j+1,a,out,h=>by
  rw[Xs];split
  ·rename_i he;exact⟨h,by simp,λe=>absurd e he⟩
  ·rename_i he;have hok:=mB (ch:=ch) (p:=p) (N:=N) (a:=a) (out:=out) (by simpa using he);have hw:a+D4 N a<=N:=by unfold D4;omega
   have ih:=zD (ch:=ch) (p:=p) (N:=N) j (a+(Mh ch p N a out).2.1.toNat) (out++[(Mh ch p N a out).1]) (by omega);rw[Abz,List.length_singleton]at ih;exact⟨ih.1,by omega,λe=>by have:=ih.2.2 e;omega⟩
theorem Aao(ch n:Int)(b:List UInt8)(N:Int):Td ch n b N 0 (List.replicate 6 ((0:Int),(0:Int),(0:UInt64),(0:UInt64),()))=AS ch n b N (List.replicate 6 ((10:Int),(10:Int),(16384:UInt64),(16384:UInt64),())):=by
 have e:Ar=(Ar-7)+1+1+1+1+1+1+1:=by have:=As;omega
 rw[Td,e];rfl
theorem values_eq{p:List UInt8}{N ch n:Nat}(hp:okB p N)(h1:1<=ch)(h6:ch<=6)(hn:n*ch<=4000):EF (ch:Int) (n:Int) p (N:Int)=
  some (if(Xs ch p N (n*ch) 0 []).2.2≠0 then([],0,(Xs ch p N (n*ch) 0 []).2.2)else((Xs ch p N (n*ch) 0 []).1,((Xs ch p N (n*ch) 0 []).2.1:Int),0)):=by
 have h:=zh hp h1 h6 hn (n*ch) 0 Ar [] (by simp) (by have:=As;omega) (by omega);rw[EF,DC,Aao];exact h
theorem Z4(p:List UInt8)(x:List UInt32)(N:Nat)(hN:N=8*p.length)(hN2:N<=330000):∀(j a q:Nat),a+j=N->j<q->Jv p x q (a:Int)=some (x,if Cr p a j=0 then 0 else 12)
 |0,a,q+1,ha,_=>by
  have e8:Bj (8:Int) (Ac p)=(N:Int):=by rw[Ac,Jh];omega
  rw[Jv,Uh,e8,Aaw (by rw[Af];simp;omega),Cr,Aa1 rfl];rfl
 |j+1,a,q+1,ha,hq=>by
  have e8:Bj (8:Int) (Ac p)=(N:Int):=by rw[Ac,Jh];omega
  have hb:=Zd p a;rw[Jv,Uh,e8,Aa1 (by rw[Af];simp;omega),uO p _ a (by omega) (by omega),Aa,Cr];by_cases h:Lf p a=0
  ·rw[Aaw (by rw[Ao];simp[h]),Aj,h];have ih:=Z4 p x N hN hN2 j (a+1) q (by omega) (by omega);rw[show((a:Int)+1)=((a+1:Nat):Int) by omega,ih];congr 2;by_cases hv:Cr p (a+1) j=0
   ·rw[Aa1 hv,Aa1 (by omega)]
   ·rw[Aaw hv,Aaw (by omega)]
  ·rw[Aa1 (by rw[Ao];simp;omega),Aaw (by omega)]
theorem Aga{p:List UInt8}{N ch n:Nat}(hN:N=8*p.length)(hN2:N<=330000)(h1:1<=ch)(h6:ch<=6)(hn:n*ch<=4000):FR (ch:Int) (n:Int) p=
  some (if(Xs ch p N (n*ch) 0 []).2.2≠0 then((Xs ch p N (n*ch) 0 []).1,(Xs ch p N (n*ch) 0 []).2.2)else
   ((Xs ch p N (n*ch) 0 []).1,if 7<N-(Xs ch p N (n*ch) 0 []).2.1\/Cr p (Xs ch p N (n*ch) 0 []).2.1 (N-(Xs ch p N (n*ch) 0 []).2.1)≠0 then 12 else 0)):=by
 have h:=Age hN hN2 h1 h6 hn (n*ch) 0 Ar [] (by simp) (by have:=As;omega) (by omega);have hat:=(zD (ch:=ch) (p:=p) (N:=N) (n*ch) 0 [] (by omega)).1;have e8:Bj (8:Int) (Ac p)=(N:Int):=by rw[Ac,Jh];omega
 rw[FR,MC];refine Awu h ?_;generalize Xs ch p N (n*ch) 0 []=V at*
 obtain⟨v,a,e⟩:=V;simp only at*
 by_cases he:e≠0
 ·rw[Aa1 he,Aa1 he]
 ·rw[Aaw he,Aaw he,Uj,IB,e8,Bu];by_cases h7:7<N-a
  ·rw[Aa1 (by rw[Ay];simp;omega),Aa1 (.inl h7)]
  ·rw[Aaw (by rw[Ay];simp;omega),HO,Z4 p v N hN hN2 (N-a) a Ar (by omega) (by have:=As;omega)];by_cases hv:Cr p a (N-a)=0
   ·rw[Aa1 hv,Aaw (by omega)]
   ·rw[Aaw hv,Aa1 (.inr hv)]
theorem ik(n:Int):(GI.ofZ n:Int32)=Int32.ofInt n:=rfl
theorem WS(a:Int32):GI.toZ a=a.toInt:=rfl
theorem ZP(a b:Int32):Ad a b=a+b:=by
 rw[Ad,WS,WS,ik,Int32.ofInt_add,Asz,Asz]
theorem O1(a b:Int32):Ak a b=a-b:=by
 rw[Ak,WS,WS,ik,Int32.ofInt_sub,Asz,Asz]
theorem Aff(a b:Int32):geq a b=(a==b):=by
 rw[geq,WS,WS,Agx];simp[Int32.toInt_inj]
def jM(p:Nat->Bool)(a b:List Int32):List Int32:=(List.range a.length).map λk=>if p k=true then a.getD k 0 else b.getD k 0
section
variable {p q:Nat->Bool} {a b:List Int32}
theorem dP:(jM p a b).length=a.length:=by simp[jM]
theorem Ns{k:Nat}(h:k<a.length):a.getD k 0=a[k]:=by simp[List.getD_eq_getElem?_getD,h]
theorem CT{k:Nat}(h:k<(jM p a b).length):(jM p a b)[k]=if p k=true then a.getD k 0 else b.getD k 0:=by simp[jM]
theorem VV{k:Nat}(h:k<a.length):Am (jM p a b) (k:Int)=some (if p k=true then a.getD k 0 else b.getD k 0):=by
 rw[Cw (by rw[dP];exact h),CT]
theorem BT(h:∀k,k<a.length->p k=q k):jM p a b=jM q a b:=by
 apply Ayo;intro k hk;rw[h k (List.mem_range.1 hk)]
theorem tL{k:Nat}(h:k<a.length):Le (jM p a b) (k:Int) (a.getD k 0)=some (jM (λj=>p j||decide (j=k)) a b):=by
 rw[Ye _ (by rw[dP];exact h)];congr 1;apply Aul (by simp[dP]);intro i h1 h2;rw[Ayq,CT,CT];by_cases hi:k=i
 ·subst hi;simp
 ·have:¬i=k:=λe=>hi e.symm;simp[hi,this]
theorem rO(h:∀k,k<a.length->p k=true):jM p a b=a:=by
 apply Aul (by simp[dP]);intro i h1 h2;rw[CT,Aa1 (h i h2),Ns h2]
theorem sP(hl:b.length=a.length)(h:∀k,k<a.length->p k=false):jM p a b=b:=by
 apply Aul (by simp[dP,hl]);intro i h1 h2;rw[CT,h i (by omega)];simp[List.getD_eq_getElem?_getD,h2]
end
theorem N8(a b:Int32):Bj a b=a*b:=by
 rw[Bj,WS,WS,ik,Int32.ofInt_mul,Asz,Asz]
theorem DD(a:Int32): -2147483648<=a.toInt/\a.toInt<2147483648:=⟨a.le_toInt,a.toInt_lt⟩
theorem Fp(a:Int32):(Ae a:Int)=a.toInt:=by
 have:=DD a
 show wrap64 a.toInt=_;rw[Cm]<;>omega
theorem QZ(n:Int):(Ae n:Int32)=Int32.ofInt n:=rfl
theorem Agz(x:Int):Int32.ofInt (x %4294967296)=Int32.ofInt x:=by
 apply Int32.toInt_inj.1;rw[Axm,Axm];exact Int.emod_bmod x 4294967296
theorem yO(x:Int):Cy x=some (Int32.ofInt x):=by
 have e1:(Ae x:UInt64).toNat=(x %18446744073709551616).toNat:=by
  rw[vg,Aee,Abw (by omega)]
 have e2:(Ae (Ae x:UInt64):UInt32).toNat=(x %4294967296).toNat:=by
  have e:(Ae (Ae x:UInt64):UInt32)=UInt32.ofNat (Ae x:UInt64).toNat:=by simp only[Ae,Jl,Ex]
  rw[e,All,e1];show(x %18446744073709551616).toNat %4294967296=_;omega
 have e3:(Ae (Ae (Ae x:UInt64):UInt32):Int32)=Int32.ofInt ((Ae (Ae x:UInt64):UInt32).toNat:Int):=rfl;rw[Cy,e3,e2,<-Agz x];congr 2;omega
theorem sQ(a b:Int32):Cy (Ad (Ae a:Int) (Ae b:Int))=some (a+b):=by
 have:=DD a;have:=DD b;rw[Fp,Fp,Aj,yO,Int32.ofInt_add,Asz,Asz]
theorem Ams(a b:Int32):Cy (Bj (Ae a:Int) (Ae b:Int))=some (a*b):=by
 have ha:=DD a;have hb:=DD b;have h1: -9223372036854775808<=a.toInt*b.toInt/\a.toInt*b.toInt<=9223372036854775807:=by
  have h2:(a.toInt*b.toInt).natAbs<=2147483648*2147483648:=by
   rw[Int.natAbs_mul];exact Aum (by omega) (by omega)
  omega
 rw[Fp,Fp,Jh h1.1 h1.2,yO,Int32.ofInt_mul,Asz,Asz]
def OkF(s:Int)(t p:List Int32):Prop:=(s=9\/s=10)/\t.length=16/\p.length=16
theorem vN{s:Int}{t p:List Int32}(h:OkF s t p):IN s t p=some 0:=by
 obtain⟨rfl|rfl,_,_⟩:=h<;>rfl
theorem g32{l:List Int32}{k:Nat}(h:k<l.length):Am l (k:Int)=some (l.getD k 0):=by
 rw[Cw h];simp[List.getD_eq_getElem?_getD,h]
def jE(t p:List Int32):Nat->Int32
 |0=>0
 |i+1=>jE t p i+t.getD i 0*p.getD i 0
def half(s:Int):Int32:=if s=9 then 256 else 512
def gF(s:Int)(t p:List Int32):Int32:=Int32.ofInt ((half s+jE t p 16).toInt.fdiv (if s=9 then 512 else 1024))
theorem U6{s:Int}{t p:List Int32}(h:OkF s t p):∀(j i q:Nat),i+j=16->j<q->Tn t s p q (half s+jE t p i) (i:Int)=some (gF s t p,0)
 |0,i,q+1,hi,_=>by
  obtain rfl:i=16:=by omega
  have hs:=h.1;rw[Tn,KE,Aaw (by rw[Af];simp),XJ,nL,Dk (by rw[En];simp;omega),Aa];obtain rfl|rfl:=hs<;>rfl
 |j+1,i,q+1,hi,hq=>by
  obtain⟨hs,ht,hp⟩:=h;rw[Tn,KE,Aa1 (by rw[Af];simp;omega),g32 (by omega),Aa,g32 (by omega),Aa,Aa,Aj (b:=1) (by omega) (by omega),ZP,N8,Int32.add_assoc];exact U6 ⟨hs,ht,hp⟩ j (i+1) q (by omega) (by omega)
theorem Amv{s:Int}{t p:List Int32}(h:OkF s t p):TE s t p=some (gF s t p,0):=by
 have hs:=h.1;have h1:=U6 h 16 0 Ar (by omega) (by have:=As;omega);have e:Du (1:Int32) (GI.toZ (Ak s (1:Int))).toNat=half s+jE t p 0:=by
  obtain rfl|rfl:=hs<;>rfl
 rw[TE,XS,vN h,Aa,Aaw (by rw[Ao];simp),Dk (by rw[En,Bu];simp;omega),Aa,XQ,e];exact h1
theorem G6{s:Int}{t p:List Int32}(ht:t.length=16)(hp:p.length=16){g:Int32}(hg:jE t p 16=g):∀(j i q:Nat),i+j=16->j<q->Lz s t p q (jE t p i).toInt (i:Int)=some g
 |0,i,q+1,hi,_=>by
  obtain rfl:i=16:=by omega
  rw[Lz,Ym,Aaw (by rw[Af];simp),OO,PO,QZ,Asz,hg]
 |j+1,i,q+1,hi,hq=>by
  have ih:=G6 (s:=s) ht hp hg j (i+1) q (by omega) (by omega);rw[jE]at ih;rw[Lz,Ym,Aa1 (by rw[Af];simp;omega),g32 (by omega),g32 (by omega),Aa,Aa,Aa,Aa,Ams,Aa,<-Fp (jE t p i),sQ,Aa,Fp,Aj];exact ih
theorem Aka{s:Int}{t p:List Int32}(h:OkF s t p):aK s t p=some (jE t p 16):=
 G6 h.2.1 h.2.2 rfl 16 0 Ar (by omega) (by have:=As;omega)
theorem Ahg(x n:Int)(hn:n=512\/n=1024\/n=16\/n=32):(if x.tmod n<0 then x.tdiv n-1 else x.tdiv n)=x.fdiv n:=by
 have hs:n.sign=1:=by obtain rfl|rfl|rfl|rfl:=hn<;>rfl
 rw[Int.tdiv_eq_ediv,Int.tmod_eq_emod,hs,Ap7 _ (by omega)];by_cases h:0<=x\/n∣x
 ·rw[Aa1 h,Aa1 h];obtain rfl|rfl|rfl|rfl:=hn<;>(rw[Aaw (by omega)];omega)
 ·rw[Aaw h,Aaw h];obtain rfl|rfl|rfl|rfl:=hn<;>(rw[Aa1 (by omega)];omega)
theorem I2(x n:Int)(hn:n=512\/n=1024\/n=16\/n=32)(h: -1000000000000<=x)(h':x<=1000000000000): -1000000000000<=x.tdiv n/\x.tdiv n<=1000000000000:=by
 have hs:n.sign=1:=by obtain rfl|rfl|rfl|rfl:=hn<;>rfl
 rw[Int.tdiv_eq_ediv,hs];by_cases h:0<=x\/n∣x
 ·rw[Aa1 h];obtain rfl|rfl|rfl|rfl:=hn<;>omega
 ·rw[Aaw h];obtain rfl|rfl|rfl|rfl:=hn<;>omega
theorem Au3(x n:Int)(hn:n=512\/n=1024\/n=16\/n=32)(h: -1000000000000<=x)(h':x<=1000000000000):By x n=x.tdiv n:=by
 have:=I2 x n hn h h';rw[NM,Cm (by omega) (by omega)]
theorem Aaq(x n:Int)(hn:n=512\/n=1024\/n=16\/n=32)(h: -1000000000000<=x)(h':x<=1000000000000):
  (if(Bt (Fl x n) (0:Int))=true then some (Ae (Ak (By x n) (1:Int)):Int32)else some (Ae (By x n):Int32))=some (Int32.ofInt (x.fdiv n)):=by
 have hb:=I2 x n hn h h';rw[Af,Fl,Au3 x n hn h h',Bu,QZ,QZ,<-Ahg x n hn];by_cases hx:x.tmod n<0
 ·rw[Aa1 (by simpa using hx),Aa1 hx]
 ·rw[Aaw (by simpa using hx),Aaw hx]
theorem Aqb{s:Int}{t p:List Int32}(h:OkF s t p):FT s t p=some (gF s t p):=by
 obtain⟨hs,ht,hp⟩:=h;have h:OkF s t p:=⟨hs,ht,hp⟩;have hx:=DD (jE t p 16+half s);have key:∀n:Int,(n=512\/n=1024)-> (half s).toInt=n/2->gF s t p=Int32.ofInt ((half s+jE t p 16).toInt.fdiv n)->Wj s t p n=some (gF s t p):=by
  intro n hn hh hg;have e2:By n (2:Int)=(half s).toInt:=by rw[hh];obtain rfl|rfl:=hn<;>rfl
  rw[Wj,MT,Aka h,Aa,e2,<-Fp (half s),sQ,Aa,Dk (by rw[Ao];simp;omega),Aa,Aa,Fp,Aaq _ n (by omega) (by omega) (by omega),hg,Int32.add_comm]
 rw[FT,MO];obtain rfl|rfl:=hs
 ·rw[Aa1 (by rw[Bb];rfl)];exact key 512 (.inl rfl) rfl rfl
 ·rw[Aaw (by rw[Bb];decide)];exact key 1024 (.inr rfl) rfl rfl
def qw(i:Nat):Int32:=if i=0 then 4 else if i<4 then 2 else 1
def sg(x:Int32):Int32:=if x.toInt<0 then -1 else if 0<x.toInt then 1 else 0
def U5(t p:List Int32)(w:Int32):List Int32:=(List.range 16).map λi=>t.getD i 0+qw i*sg (p.getD i 0)*sg w
theorem KA(t p:List Int32)(w:Int32):(U5 t p w).length=16:=by simp[U5]
theorem ku(t p:List Int32)(w:Int32){i:Nat}(h:i<16):(U5 t p w).getD i 0=t.getD i 0+qw i*sg (p.getD i 0)*sg w:=by
 rw[Ns (by rw[KA];exact h)];simp[U5]
theorem step_eq(i:Nat):ZY (i:Int)=some (qw i):=by
 rw[ZY,qw];by_cases h:i=0
 ·rw[Aa1 (by rw[Bb];simp[h]),Aa1 h]
 ·rw[Aaw (by rw[Bb];simp;omega),Aaw h];by_cases h2:i<4
  ·rw[Aa1 (by rw[Af];simp;omega),Aa1 h2]
  ·rw[Aaw (by rw[Af];simp;omega),Aaw h2]
theorem Ajf(i:Nat):FC (i:Int)=some (qw i):=by
 rw[FC,qw];by_cases h:i=0
 ·rw[Aa1 (by rw[Bb];simp[h]),Aa1 h]
 ·rw[Aaw (by rw[Bb];simp;omega),Aaw h];by_cases h2:i<4
  ·rw[Aa1 (by rw[eS];simp;omega),Aa1 h2]
  ·rw[Aaw (by rw[eS];simp;omega),Aaw h2]
theorem ou(a b:Int32):Bt a b=decide (a.toInt<b.toInt):=rfl
theorem Ab3(a b:Int32):Dx a b=decide (b.toInt<a.toInt):=rfl
theorem sign_eq(x:Int32):Ut x=some (sg x):=by
 rw[Ut,sg,ou,Ab3,show(0:Int32).toInt=0 from rfl];by_cases h:x.toInt<0
 ·rw[Aa1 (by simpa using h),Aa1 h]
 ·rw[Aaw (by simpa using h),Aaw h];by_cases h2:0<x.toInt
  ·rw[Aa1 (by simpa using h2),Aa1 h2]
  ·rw[Aaw (by simpa using h2),Aaw h2]
theorem Aew:sg 0=0:=rfl
theorem toInt_ne{x:Int32}(h:x≠0):x.toInt≠0:=λe=>h (Int32.toInt_inj.1 (by rw[e];rfl))
theorem qm{x:Int32}(h:x.toInt<0):sg x= -1:=by rw[sg,Aa1 h]
theorem kv{x:Int32}(h:x≠0)(h2:¬x.toInt<0):sg x=1:=by
 have:=toInt_ne h;rw[sg,Aaw h2,Aa1 (by omega)]
theorem lV(i:Nat):qw i=4\/qw i=2\/qw i=1:=by
 unfold qw;by_cases h:i=0
 ·rw[Aa1 h];exact .inl rfl
 ·rw[Aaw h];split;exact .inr (.inl rfl);exact .inr (.inr rfl)
theorem Ahk{x w:Int32}(hx:x≠0)(hw:w≠0)(h:(x.toInt<0)=(w.toInt<0))(i:Nat):qw i*sg x*sg w=qw i:=by
 by_cases h1:x.toInt<0
 ·rw[qm h1,qm (by rw[<-h];exact h1)];obtain e|e|e:=lV i<;>rw[e]<;>decide
 ·rw[kv hx h1,kv hw (by rw[<-h];exact h1)];obtain e|e|e:=lV i<;>rw[e]<;>decide
theorem Adz{x w:Int32}(hx:x≠0)(hw:w≠0)(h:¬(x.toInt<0)=(w.toInt<0))(i:Nat)(a:Int32):a+qw i*sg x*sg w=a-qw i:=by
 have key:qw i*sg x*sg w=-qw i:=by
  by_cases h1:x.toInt<0
  ·have h2:¬w.toInt<0:=λh2=>h (propext ⟨λ_=>h2,λ_=>h1⟩);rw[qm h1,kv hw h2];obtain e|e|e:=lV i<;>rw[e]<;>decide
  ·have h2:w.toInt<0:=Decidable.by_contra λh2=>h (propext ⟨λh3=>absurd h3 h1,λh3=>absurd h3 h2⟩);rw[kv hx h1,qm h2];obtain e|e|e:=lV i<;>rw[e]<;>decide
 rw[key,Int32.sub_eq_add_neg]
def sJ(i:Nat):Nat->Bool:=λj=>decide (j<i)
theorem zO{a b:List Int32}{i:Nat}(h:i<a.length):Le (jM (sJ i) a b) (i:Int) (a.getD i 0)=some (jM (sJ (i+1)) a b):=by
 rw[tL h];congr 1;apply BT;intro k _;rw[Agx];simp only[sJ,Ash,Aby];omega
theorem Ag3{a b:List Int32}{i:Nat}(e:a.getD i 0=b.getD i 0):jM (sJ i) a b=jM (sJ (i+1)) a b:=by
 apply Ayo;intro k _;simp only[sJ,Aby];by_cases h1:k<i
 ·rw[Aa1 h1,Aa1 (by omega)]
 ·by_cases h2:k=i
  ·subst h2;rw[Aaw h1,Aa1 (by omega),e]
  ·rw[Aaw h1,Aaw (by omega)]
theorem Aai{a b:List Int32}{i:Nat}(h:i<a.length):Am (jM (sJ i) a b) (i:Int)=some (b.getD i 0):=by
 rw[VV h,Aaw (by simp[sJ])]
theorem U9{s:Int}{t p:List Int32}{w:Int32}(hw:w≠0)(ht:t.length=16)(hp:p.length=16):∀(j i q:Nat),i+j=16->j<q->Tj w p s q (i:Int) (jM (sJ i) (U5 t p w) t)=some (s,U5 t p w,p,0)
 |0,i,q+1,hi,_=>by
  obtain rfl:i=16:=by omega
  rw[Tj,KM,Aaw (by rw[Af];simp),rO (λk hk=>by rw[KA]at hk;simpa [sJ]using hk)];rfl
 |j+1,i,q+1,hi,hq=>by
  have hl:=KA t p w;have hg:=ku t p w (i:=i) (by omega);rw[Tj,KM,Aa1 (by rw[Af];simp;omega),g32 (by omega),Aa,Aj (b:=1) (by omega) (by omega),Aai (by omega),step_eq];simp only[Aa];rw[ZP,O1,Aff,ou,ou,show(0:Int32).toInt=0 from rfl];have ih:=U9 (s:=s) hw ht hp j (i+1) q (by omega) (by omega);by_cases hx:p.getD i 0=0
  ·rw[Aa1 (by rw[hx];rfl),Ag3 (by rw[hg,hx,Aew,Int32.mul_zero,Int32.zero_mul,Int32.add_zero])];exact ih
  ·rw[Aaw (by simpa using hx)];by_cases hs:((p.getD i 0).toInt<0)=(w.toInt<0)
   ·rw[Aa1 (by rw[Atw];simp only[hs]),show t.getD i 0+qw i=(U5 t p w).getD i 0 by rw[hg,Ahk hx hw hs],zO (by omega),Aa];exact ih
   ·rw[Aaw (by rw[Atw,decide_eq_decide];exact λh=>hs (propext h)),show t.getD i 0-qw i=(U5 t p w).getD i 0 by rw[hg,Adz hx hw hs],zO (by omega),Aa];exact ih
theorem Akl{t:List Int32}(p:List Int32)(ht:t.length=16):U5 t p 0=t:=by
 apply Aul (by rw[KA,ht]);intro i h1 h2;have:=ku t p 0 (i:=i) (by omega);rw[Ns h1,Ns h2]at this;rw[this,Aew,Int32.mul_zero,Int32.add_zero]
theorem Aly{s:Int}{t p:List Int32}(h:OkF s t p)(w:Int32):bR s t p w=some (s,U5 t p w,p,0):=by
 rw[bR,WW,vN h,Aa,Aaw (by rw[Ao];simp),Aff];by_cases hw:w=0
 ·rw[Aa1 (by simpa using hw),hw,Akl p h.2.1]
 ·have h1:=U9 (s:=s) hw h.2.1 h.2.2 16 0 Ar (by omega) (by have:=As;omega);rw[sP (by rw[KA,h.2.1]) (λk _=>by simp[sJ])]at h1;rw[Aaw (by simpa using hw)];exact h1
theorem tG{s:Int}{t p:List Int32}{w:Int32}(ht:t.length=16)(hp:p.length=16):∀(j i q:Nat),i+j=16->j<q->Ht w s p q (i:Int) (jM (sJ i) (U5 t p w) t)=some (s,U5 t p w,p)
 |0,i,q+1,hi,_=>by
  obtain rfl:i=16:=by omega
  rw[Ht,Qy,Aaw (by rw[Af];simp),rO (λk hk=>by rw[KA]at hk;simpa [sJ]using hk)];rfl
 |j+1,i,q+1,hi,hq=>by
  have hl:=KA t p w;have hg:=ku t p w (i:=i) (by omega);rw[Ht,Qy,Aa1 (by rw[Af];simp;omega),g32 (l:=p) (by omega),Aj (b:=1) (by omega) (by omega),Aai (by omega),Ajf,sign_eq w,Aa,Aa,Aa,Aa,Aa,sign_eq,Aa,Aa,Aa,ZP,N8,N8,<-hg,zO (by omega),Aa];exact tG ht hp j (i+1) q (by omega) (by omega)
theorem Ace{s:Int}{t p:List Int32}(h:OkF s t p)(w:Int32):MI s t p w=some (s,U5 t p w,p):=by
 have h1:=tG (s:=s) (w:=w) h.2.1 h.2.2 16 0 Ar (by omega) (by have:=As;omega);rw[sP (by rw[KA,h.2.1]) (λk _=>by simp[sJ])]at h1;exact h1
theorem Aqu{p:List Int32}(h:p.length=16):∃a0 a1 a2 a3 a4 a5 a6 a7 a8 a9 b0 b1 b2 b3 b4 b5,p=[a0,a1,a2,a3,a4,a5,a6,a7,a8,a9,b0,b1,b2,b3,b4,b5]:=by
 match p,h with
 |[a0,a1,a2,a3,a4,a5,a6,a7,a8,a9,b0,b1,b2,b3,b4,b5],_=>exact⟨a0,a1,a2,a3,a4,a5,a6,a7,a8,a9,b0,b1,b2,b3,b4,b5,rfl⟩
theorem Aog{s:Int}{t p:List Int32}(h:OkF s t p)(x:Int32):lX s t p x=some (s,t,x::p.take 15,0):=by
 obtain⟨hs,ht,hp⟩:=h;rw[lX,QT,vN ⟨hs,ht,hp⟩,Aa,Aaw (by rw[Ao];simp),show nC (16:Int) 1 16=some ()from rfl,Aa,show nC (16:Int) 0 16=some ()from rfl,Aa,cH,tF];obtain⟨a0,a1,a2,a3,a4,a5,a6,a7,a8,a9,b0,b1,b2,b3,b4,b5,rfl⟩:=Aqu hp;rfl
def jq(p:List Int32)(i:Nat):List Int32:=(List.range 16).map λk=>if k<=i then p.getD k 0 else p.getD (k-1) 0
theorem AF(p:List Int32)(i:Nat):(jq p i).length=16:=by simp[jq]
theorem Aq9(p:List Int32)(i k:Nat)(h:k<16):(jq p i).getD k 0=if k<=i then p.getD k 0 else p.getD (k-1) 0:=by
 rw[Ns (by rw[AF];exact h)];simp[jq]
theorem Ao2(p:List Int32)(i:Nat)(h:i+1<16):Le (jq p (i+1)) ((i+1:Nat):Int) (p.getD i 0)=some (jq p i):=by
 rw[Ye _ (by rw[AF];exact h)];congr 1;apply Aul (by simp[AF]);intro k h1 h2;rw[AF]at h2;rw[Ayq];simp only[jq,Ayg,Aya];by_cases hk:i+1=k
 ·subst hk;rw[Aa1 rfl,Aaw (by omega)];rfl
 ·rw[Aaw hk];by_cases h3:k<=i
  ·rw[Aa1 (by omega),Aa1 h3]
  ·rw[Aaw (by omega),Aaw h3]
theorem xN(s:Int)(t p:List Int32)(x:Int32)(hp:p.length=16):∀(i q:Nat),i<16->i<q->Iq x s t q (i:Int) (jq p i)=some (s,t,x::p.take 15)
 |0,q+1,_,_=>by
  have hg:Am (jq p 0) (0:Int)=some ((jq p 0).getD 0 0):=g32 (l:=jq p 0) (k:=0) (by rw[AF];omega);have hset:Le (jq p 0) (0:Int) x=some ((jq p 0).set 0 x):=Ye (l:=jq p 0) (n:=0) x (by rw[AF];omega);rw[Iq,Rt,Aaw (by rw[Ay];simp),EJ,DZ,hg,Aa,hset,Aa];congr 3;apply Aul (by simp[AF,hp]);intro k h1 h2;rw[Awl,AF]at h1;rw[Ayq];cases k with
  |zero=>rw[Aa1 rfl];rfl
  |succ k=>
   rw[Aaw (by omega)];simp only[jq,Ayg,Aya,List.getElem_cons_succ,List.getElem_take];rw[Aaw (by omega),Nat.add_sub_cancel,Ns (by omega)]
 |i+1,q+1,hi,hq=>by
  have hg:=g32 (l:=jq p (i+1)) (k:=i) (by rw[AF];omega);rw[Aq9 p (i+1) i (by omega),Aa1 (by omega)]at hg;have e1:Ak ((i+1:Nat):Int) (1:Int)=(i:Int):=by rw[Bu];omega
  have hg2:=g32 (l:=jq p (i+1)) (k:=i+1) (by rw[AF];omega);rw[Iq,Rt,Aa1 (by rw[Ay];simp),e1,hg,Aa,Aa,hg2,Aa,Ao2 p i hi,Aa];exact xN s t p x hp i q (by omega) (by omega)
theorem Ahr{s:Int}{t p:List Int32}(hp:p.length=16)(x:Int32):PQ s t p x=some (s,t,x::p.take 15):=by
 have h:=xN s t p x hp 15 Ar (by omega) (by have:=As;omega);have e:jq p 15=p:=by
  apply Aul (by rw[AF,hp]);intro k h1 h2;rw[AF]at h1;simp only[jq,Ayg,Aya];rw[Aa1 (by omega),Ns h2]
 rw[e]at h;exact h
theorem Ale{s:Int}{t p:List Int32}(h:OkF s t p)(w x:Int32):OkF s (U5 t p w) (x::p.take 15):=⟨h.1,KA _ _ _,by simp[h.2.2]⟩
theorem Aqf{s:Int}{t p:List Int32}(h:OkF s t p)(y:Int32):lI s t p y=some (y+gF s t p,s,U5 t p y,(y+gF s t p)::p.take 15,0):=by
 rw[lI,Amv h,Aa];simp only;rw[Aaw (by rw[Ao];simp),ZP,dI,Aly h,Aa];simp only;rw[Aog (s:=s) (t:=U5 t p y) (p:=p) ⟨h.1,KA _ _ _,h.2.2⟩,Aa];rfl
theorem Ai0{s:Int}{t p:List Int32}(h:OkF s t p)(y:Int32):We s t p y=some (y+gF s t p,s,U5 t p y,(y+gF s t p)::p.take 15):=by
 rw[We,Aqb h,Aa,sQ,Aa,Ace h,Aa];simp only;rw[Ahr h.2.2,Aa]
def sB(bits:Int):Int:=if bits=16 then 9 else 10
def shB(bits:Int):Int:=if bits=8 then 4 else 5
def Ct(bits:Int):Prop:=bits=8\/bits=16\/bits=24
def gs(sh:Int)(last:Int32):Int32:=Ae (yC (Ak (Du (Ae last:Int) sh.toNat) (Ae last)) sh.toNat)
theorem Aus(bits:Int):sB bits=9\/sB bits=10:=by unfold sB;split<;>simp
theorem Ap0(bits:Int):0<=shB bits:=by unfold shB;split<;>omega
theorem Aw6{bits:Int}(h:Ct bits)(t:List Int32):rL bits t=some (sB bits,t,List.replicate 16 0,0):=by
 obtain rfl|rfl|rfl:=h<;>rfl
theorem Atq{bits:Int}(h:Ct bits):iR bits=some (shB bits,0):=by
 obtain rfl|rfl|rfl:=h<;>rfl
theorem Atv{sh:Int}(h:0<=sh)(last:Int32):VJ sh last=some (gs sh last):=by
 rw[VJ,Dk (by rw[En];simpa using h),Aa,Aa];rfl
theorem At6{bits:Int}(h:Ct bits)(last:Int32):Wo bits last=some (gs (shB bits) last,0):=by
 rw[Wo,Atq h,Aa];simp only;rw[Aaw (by rw[Ao];simp),Atv (Ap0 bits),Aa]
theorem Ad0{bits:Int}(h:Ct bits)(last:Int32)(t p:List Int32):Wf bits last (sB bits) t p=some 0:=by
 rw[Wf,Aw6 h,Aa];simp only;rw[Aaw (by rw[Ao,Ao];simp)]
theorem Ag8{bits:Int}(h:Ct bits){t p:List Int32}(hF:OkF (sB bits) t p)(last y:Int32):
  Lm bits last (sB bits) t p y=some (y+gF (sB bits) t p+gs (shB bits) last,bits,y+gF (sB bits) t p+gs (shB bits) last,sB bits,U5 t p y,(y+gF (sB bits) t p)::p.take 15,0):=by
 rw[Lm,Ad0 h,Aa,Aaw (by rw[Ao];simp),At6 h,Aa];simp only;rw[Aqf hF,Aa];simp only;rw[ZP]
theorem vC(sh:Int)(hs:sh=4\/sh=5)(last:Int32):Qg sh last=some (gs sh last):=by
 have hl:=DD last;have key:∀n:Int,n=16\/n=32->gs sh last=Int32.ofInt (((n-1)*last.toInt).fdiv n)->Sa last n=some (gs sh last):=by
  intro n hn hg;have e:Bj (Ak n (1:Int)) (Ae last:Int)=(n-1)*last.toInt:=by
   obtain rfl|rfl:=hn<;>(rw[Fp,Bu,Jh])
  rw[Sa,FX,Dk (by rw[Ao];simp;omega),Aa,Aa,e,Aaq _ n (by omega) (by obtain rfl|rfl:=hn<;>omega) (by obtain rfl|rfl:=hn<;>omega),hg]
 rw[Qg,EX];obtain rfl|rfl:=hs
 ·rw[Aaw (by rw[Bb];decide)];refine key 16 (.inl rfl) ?_;have e:Du (Ae last:Int) (4:Int).toNat=last.toInt*16:=by
   rw[Fp];show wrap64 (last.toInt*2^4)=_;rw[Cm]<;>omega
  rw[gs,e,Fp,Bu,QZ]
  show Int32.ofInt ((last.toInt*16-last.toInt).fdiv 16)=_;congr 2;omega
 ·rw[Aa1 (by rw[Bb];rfl)];refine key 32 (.inr rfl) ?_;have e:Du (Ae last:Int) (5:Int).toNat=last.toInt*32:=by
   rw[Fp];show wrap64 (last.toInt*2^5)=_;rw[Cm]<;>omega
  rw[gs,e,Fp,Bu,QZ]
  show Int32.ofInt ((last.toInt*32-last.toInt).fdiv 32)=_;congr 2;omega
theorem Ahq{bits:Int}(h:Ct bits){t p:List Int32}(hF:OkF (sB bits) t p)(last y:Int32):
  Wy bits last (sB bits) t p y=some (y+gF (sB bits) t p+gs (shB bits) last,bits,y+gF (sB bits) t p+gs (shB bits) last,sB bits,U5 t p y,(y+gF (sB bits) t p)::p.take 15):=by
 have hb:Yv bits last (sB bits) t p=some (Ae (gs (shB bits) last):Int):=by
  rw[Yv];obtain rfl|rfl|rfl:=h
  ·rw[Aa1 (by rw[Bb];rfl),vC 4 (.inl rfl),Aa];rfl
  ·rw[Aaw (by rw[Bb];decide),vC 5 (.inr rfl),Aa];rfl
  ·rw[Aaw (by rw[Bb];decide),vC 5 (.inr rfl),Aa];rfl
 rw[Wy,Ai0 hF,Aa];simp only;rw[hb,Aa,sQ,Aa]
theorem Avj{bits:Int}(h:Ct bits)(t:List Int32):YN bits t=some (bits,0,sB bits,t,List.replicate 16 0,0):=by
 obtain rfl|rfl|rfl:=h<;>rfl
def eN(n:UInt32):Int32:=if n.toNat %2=0 then Int32.ofInt ((n.toNat/2:Nat):Int)else Int32.ofInt (-((n.toNat/2:Nat):Int)-1)
theorem Aav(a b:Int32):(Xq a b).toBitVec=a.toBitVec^^^b.toBitVec:=by
 show(Int32.ofInt ((BitVec.ofInt 32 a.toBitVec.toInt^^^BitVec.ofInt 32 b.toBitVec.toInt).toNat:Int)).toBitVec=_;rw[BitVec.ofInt_toInt,BitVec.ofInt_toInt,Int32.toBitVec_ofInt,BitVec.ofInt_natCast,BitVec.ofNat_toNat,BitVec.setWidth_eq]
theorem Av0(m:Nat)(h:m<2147483648):Xq (Int32.ofInt (m:Int)) (Int32.ofInt (-1))=Int32.ofInt (-(m:Int)-1):=by
 apply Int32.toBitVec_inj.1;have e1:(Int32.ofInt (-1)).toBitVec=BitVec.allOnes 32:=by decide
 rw[Aav,e1,BitVec.xor_allOnes,Int32.toBitVec_ofInt,Int32.toBitVec_ofInt];apply BitVec.eq_of_toNat_eq;rw[BitVec.toNat_not,Awe,Awe];omega
theorem Al8(n:UInt32):Xr n=some (eN n):=by
 have hn:=n.toNat_lt;have e1:(Ae (Ce n (GI.toZ (1:UInt64)).toNat):Int32)=Int32.ofInt ((n.toNat/2:Nat):Int):=by
  show Int32.ofInt ((Ce n 1).toNat:Int)=_;rw[YJ]
 have e2:(Ae (Eb n (1:UInt32)):Int32)=Int32.ofInt ((n.toNat %2:Nat):Int):=by
  show Int32.ofInt ((Eb n (1:UInt32)).toNat:Int)=_;rw[wo,UInt32.toNat_and]
  show Int32.ofInt ((n.toNat&&&1:Nat):Int)=_;rw[Nat.and_one_is_mod]
 rw[Xr,e1,e2,eN];congr 1;by_cases h:n.toNat %2=0
 ·have e3:rF (Int32.ofInt ((n.toNat %2:Nat):Int))=Int32.ofInt 0:=by rw[h];decide
  rw[Aa1 h,e3];apply Int32.toBitVec_inj.1;rw[Aav,show(Int32.ofInt 0).toBitVec=0#32 from rfl,BitVec.xor_zero]
 ·have e3:rF (Int32.ofInt ((n.toNat %2:Nat):Int))=Int32.ofInt (-1):=by rw[show n.toNat %2=1 by omega];decide
  rw[Aaw h,e3,Av0 _ (by omega)]
theorem Apl(n:UInt32):FM n=some (eN n):=by
 have hn:=n.toNat_lt;have e1:geq (CY n (2:UInt32)) (0:UInt32)=decide (n.toNat %2=0):=by
  rw[mf,tu,Agx];simp only[Atw,<-UInt32.toNat_inj,UInt32.toNat_mod,Aby];rfl
 rw[FM,e1,eN];by_cases h:n.toNat %2=0
 ·rw[Aa1 (by simpa using h),Aa1 h,Abq];rfl
 ·have e2:(Ae n:Int)=(n.toNat:Int):=Ach n;rw[Aaw (by simpa using h),Aaw h,e2,Aj,Adm,Cm (by omega) (by omega),NM,Int.tdiv_eq_ediv,QZ];congr 2;rw[Aa1 (.inr (by omega)),Cm (by omega) (by omega)];omega
theorem Abu{c:Prop} [Decidable c](h:c):Hj (decide c)=some ():=by rw[Aun h];rfl
def unV(f:Nat->Int32)(ch:Nat):Nat->Int32
 |0=>if 1<ch then f (ch-1)+By (f (ch-2)) (2:Int32)else f (ch-1)
 |j+1=>unV f ch j-f (ch-2-j)
def E1(ch:Nat)(m:List Int32):List Int32:=(List.range m.length).map λk=>unV (λi=>m.getD (k-k %ch+i) 0) ch (ch-1-k %ch)
theorem mK(ch:Nat)(m:List Int32):(E1 ch m).length=m.length:=by simp[E1]
theorem zE{ch:Nat}{m:List Int32}{a i:Nat}(ha:a %ch=0)(hi:i<ch)(h:a+i<m.length):(E1 ch m).getD (a+i) 0=unV (λi=>m.getD (a+i) 0) ch (ch-1-i):=by
 have hb:(a+i) %ch=i:=by rw[Nat.add_mod,ha,Avk,Nat.mod_mod,Abw hi]
 rw[Ns (by rw[mK];exact h)];simp only[E1,Ayg,Aya,hb];rw[show a+i-i=a by omega]
section
variable (ch:Nat) (m:List Int32)
theorem Akd(h1:1<=ch)(h6:ch<=6)(hm:m.length %ch=0)(hl2:m.length<=4000):aV (ch:Int) m=some 0:=by
 rw[aV,Aaw (by simp[Af,Ay];omega),Aaw (by rw[Ay,Ac];simp;omega),Dk (by rw[Ao];simp;omega),Aa,Aaw];rw[Ao,Fl,Ac,<-Int.ofNat_tmod,hm];simp
theorem zY(bk:Int->List Int32->Option (List Int32×Int))(at':Nat)(h1:1<=ch)(h6:ch<=6)(hm:at' %ch=0)(hl:at'+ch<=m.length)(hl2:m.length<=4000):∀(i q:Nat),i<=ch-1->i<q->
  Xx bk (ch:Int) (at':Int) q ((i:Int)-1) (jM (λk=>decide (k<at'\/ (at'+i<=k/\k<at'+ch))) (E1 ch m) m)=bk ((at'+ch:Nat):Int) (jM (λk=>decide (k<at'+ch)) (E1 ch m) m)
 |0,q+1,hi,_=>by
  have e4:Ad (at':Int) (ch:Int)=((at'+ch:Nat):Int):=by rw[Aj];omega
  rw[Xx,QP,Aaw (by rw[En];simp),dB,tB,e4];congr 1;apply BT;intro k _;rw[Agx];simp;omega
 |i+1,q+1,hi,hq=>by
  have hlen:=mK ch m;have e2:Ad (at':Int) (ch:Int)-(at':Int)=(ch:Int):=by rw[Aj];omega
  have e3:Ad (i:Int) 1=((i+1:Nat):Int):=by rw[Aj];omega
  have hv:((E1 ch m).getD (at'+(i+1)) 0-m.getD (at'+i) 0)=(E1 ch m).getD (at'+i) 0:=by
   rw[zE hm (by omega) (by omega),zE hm (by omega) (by omega),show ch-1-i=(ch-1-(i+1))+1 by omega,unV,show ch-2-(ch-1-(i+1))=i by omega]
  rw[Xx,QP,show((i+1:Nat):Int)-1=(i:Int) by omega,Aa1 (by rw[En];simp),e2,e3,Abu (by omega),Aa,Abu (by omega),Aa,
   show(at':Int)+((i+1:Nat):Int)=((at'+(i+1):Nat):Int) by omega,show(at':Int)+(i:Int)=((at'+i:Nat):Int) by omega,
   VV (by omega),Aa,VV (by omega),Aa,Aa,Aa1 (by simp;omega),Aaw (by simp;omega),O1,hv,tL (by omega),Aa,Bu]
  have ih:=zY bk at' h1 h6 hm hl hl2 i q (by omega) (by omega);rw[<-ih];congr 1;apply BT;intro k _;rw[Agx];simp;omega
theorem Aa7{at' ch n:Nat}(ha:at' %ch=0)(hm:n %ch=0)(h:at'<n):at'+ch<=n:=by
 have d1:=Nat.div_add_mod at' ch;have d2:=Nat.div_add_mod n ch;rw[ha,Awr]at d1;rw[hm,Awr]at d2;have hlt:at'/ch<n/ch:=by
  rcases Ayd (at'/ch) (n/ch)with h'|h'
  ·exact h'
  ·have:=Nat.mul_le_mul_left ch h';omega
 have:=Nat.mul_le_mul_left ch (show at'/ch+1<=n/ch from hlt);rw[Nat.mul_add]at this;omega
theorem X4(h1:1<=ch)(h6:ch<=6)(hm:m.length %ch=0)(hl2:m.length<=4000):∀(j at' q:Nat),at' %ch=0->at'<=m.length->m.length-at'<=j->j<q->
  So (ch:Int) q (at':Int) (jM (λk=>decide (k<at')) (E1 ch m) m)=some (E1 ch m,0)
 |j,at',q+1,ha,hle,hj,hq=>by
  have hlen:=mK ch m;have hl:Ac (jM (λk=>decide (k<at')) (E1 ch m) m)=(m.length:Int):=by rw[Ac,dP,hlen]
  rw[So,dM,hl];by_cases h:at'<m.length
  ·have hb:=Aa7 ha hm h;obtain⟨j,rfl⟩:∃k,j=k+1:=⟨j-1,by omega⟩;have e1:Ak (Ad (at':Int) (ch:Int)-(at':Int)) 1=((ch-1:Nat):Int):=by rw[Aj,Bu];omega
   have e2:Ad (at':Int) (ch:Int)-(at':Int)=(ch:Int):=by rw[Aj];omega
   have e4:Ad (at':Int) (ch:Int)=((at'+ch:Nat):Int):=by rw[Aj];omega
   have hi:=zY ch m (So (ch:Int) q) at' h1 h6 ha hb hl2 (ch-1) Ar (by omega) (by have:=As;omega);have hrest:=X4 h1 h6 hm hl2 j (at'+ch) q (by rw[Ayu,ha]) hb (by omega) (by omega);have hstart:QS (So (ch:Int) q) (ch:Int) (at':Int) (jM (λk=>decide (k<at'\/ (at'+(ch-1)<=k/\k<at'+ch))) (E1 ch m) m)=some (E1 ch m,0):=by
    have e6:Ak ((ch-1:Nat):Int) 1=((ch-1:Nat):Int)-1:=Bu;rw[QS,cV,cS,e1,e6];exact Awu hi hrest
   rw[Aa1 (by rw[Af];simp;omega),show nC (m.length:Int) (at':Int) (Ad (at':Int) (ch:Int))=some () by rw[e4,nC,Abu];omega,Aa,e1,e2];have hlast:=zE (m:=m) ha (show ch-1<ch by omega) (by omega);rw[show ch-1-(ch-1)=0 by omega,unV]at hlast;by_cases hc:1<ch
   ·have e5:Ak ((ch-1:Nat):Int) 1=((ch-2:Nat):Int):=by rw[Bu];omega
    rw[Aa1 hc]at hlast;rw[Aa1 (by rw[Ay];simp;omega),Abu (by omega),Aa,e5,Abu (by omega),Aa,show(at':Int)+((ch-1:Nat):Int)=((at'+(ch-1):Nat):Int) by omega,show(at':Int)+((ch-2:Nat):Int)=((at'+(ch-2):Nat):Int) by omega,
     VV (by omega),Aa,VV (by omega),Aa,Aa,Aaw (by simp),Aaw (by simp),ZP,<-hlast,tL (by omega),Aa]
    rw[<-hstart];congr 1;apply BT;intro k _;rw[Agx];simp;omega
   ·have hc1:ch=1:=by omega
    rw[Aaw (by rw[Ay];simp;omega),<-hstart];congr 1;rw[Aaw hc]at hlast;apply Ayo;intro k hk;by_cases hk2:k=at'
    ·subst hk2;rw[Aaw (by simp),Aa1 (by simp;omega)];rw[show k+(ch-1)=k by omega]at hlast;exact hlast.symm
    ·by_cases hk3:k<at'
     ·rw[Aa1 (by simp;omega),Aa1 (by simp;omega)]
     ·rw[Aaw (by simp;omega),Aaw (by simp;omega)]
  ·rw[Aaw (by rw[Af];simp;omega),rO (λk hk=>by simp;omega)];rfl
theorem An5(h1:1<=ch)(h6:ch<=6)(hm:m.length %ch=0)(hl2:m.length<=4000):rP (ch:Int) m=some (E1 ch m,0):=by
 have hlen:=mK ch m;have h:=X4 ch m h1 h6 hm hl2 m.length 0 Ar (by simp) (by omega) (by omega) (by have:=As;omega);rw[rP,lM,Akd ch m h1 h6 hm hl2,Aa,Aaw (by rw[Ao];simp),Dw,Cv (by simp;omega),Aa,Aa,Asc,bK];rw[sP hlen.symm (λk _=>by simp)]at h;exact h
end
def vM(f:Nat->Int32)(ch:Nat):List Int32:=(List.range ch).map λi=>unV f ch (ch-1-i)
theorem ZR(f:Nat->Int32)(ch:Nat):(vM f ch).length=ch:=by simp[vM]
theorem tK(f:Nat->Int32){ch i:Nat}(h:i<ch):(vM f ch).getD i 0=unV f ch (ch-1-i):=by
 rw[Ns (by rw[ZR];exact h)];simp[vM]
theorem Anm(a b:Int32):Cy (Ak (Ae a:Int) (Ae b:Int))=some (a-b):=by
 have:=DD a;have:=DD b;rw[Fp,Fp,Bu,yO,Int32.ofInt_sub,Asz,Asz]
theorem Ag5(a b:Int32):Cy (Ad (Ae a:Int) (By (Ae b:Int) (2:Int)))=some (a+By b (2:Int32)):=by
 have:=DD a;have hb:=DD b;have hd: -2147483648<=b.toInt.tdiv 2/\b.toInt.tdiv 2<=2147483648:=by
  rw[Int.tdiv_eq_ediv,show Int.sign 2=1 from rfl];by_cases h:0<=b.toInt\/2∣b.toInt
  ·rw[Aa1 h];omega
  ·rw[Aaw h];omega
 have e:By b (2:Int32)=Int32.ofInt (b.toInt.tdiv 2):=rfl;rw[Fp,Fp,NM,Cm (by omega) (by omega),Aj,yO,Int32.ofInt_add,Asz,e]
theorem sZ(tV z:List Int32)(ch:Nat)(h6:ch<=6)(hs:tV.length=ch)(hz:z.length=ch):∀(i q:Nat),i+1<=ch->i<q->
  Hr tV q ((i:Int)-1) (jM (λk=>decide (i<=k)) (vM (λi=>tV.getD i 0) ch) z)=some (vM (λi=>tV.getD i 0) ch)
 |0,q+1,hi,_=>by
  rw[Hr,Rh,Aaw (by rw[En];simp),rO (λk hk=>by simp)];rfl
 |i+1,q+1,hi,hq=>by
  have hlen:=ZR (λi=>tV.getD i 0) ch;have e3:Ad (i:Int) 1=((i+1:Nat):Int):=by rw[Aj];omega
  have hv:(vM (λi=>tV.getD i 0) ch).getD (i+1) 0-tV.getD i 0=(vM (λi=>tV.getD i 0) ch).getD i 0:=by
   rw[tK _ (by omega),tK _ (by omega),show ch-1-i=(ch-1-(i+1))+1 by omega,unV,show ch-2-(ch-1-(i+1))=i by omega]
  rw[Hr,Rh,show((i+1:Nat):Int)-1=(i:Int) by omega,Aa1 (by rw[En];simp),e3,VV (by omega),Aa,g32 (by omega),Aa,Aa,Aa1 (by simp),Anm,Aa,VV (by omega),Aa,hv,tL (by omega),Aa,Bu];have ih:=sZ tV z ch h6 hs hz i q (by omega) (by omega);rw[<-ih];congr 1;apply BT;intro k _;rw[Agx];simp;omega
theorem xu{l:List Int32}{i:Nat}(v:Int32)(h:i<l.length):(l.set i v).getD i 0=v:=by
 rw[Ns (by rw[Awl];exact h)];simp
theorem Adi(tV:List Int32)(ch:Nat)(h1:1<=ch)(h6:ch<=6)(hs:tV.length=ch):Wp tV=some (vM (λi=>tV.getD i 0) ch):=by
 have hlen:=ZR (λi=>tV.getD i 0) ch;have hzl:(List.replicate ch (0:Int32)).length=ch:=by simp
 have e1:Ak (Ac tV) 1=((ch-1:Nat):Int):=by rw[Ac,hs,Bu];omega
 have e2:Ak (Ac tV) 2=((ch-1:Nat):Int)-1:=by rw[Ac,hs,Bu];omega
 have hlast:=tK (λi=>tV.getD i 0) (show ch-1<ch by omega);rw[show ch-1-(ch-1)=0 by omega,unV]at hlast;have hend:∀z:List Int32,z.length=ch->z.getD (ch-1) 0=(vM (λi=>tV.getD i 0) ch).getD (ch-1) 0->Qz tV z=some (vM (λi=>tV.getD i 0) ch):=by
  intro z hz hzl;have h:=sZ tV z ch h6 hs hz (ch-1) Ar (by omega) (by have:=As;omega);have e:jM (λk=>decide (ch-1<=k)) (vM (λi=>tV.getD i 0) ch) z=z:=by
   apply Aul (by rw[dP,hlen,hz]);intro k k1 k2;rw[CT];by_cases hk:ch-1<=k
   ·obtain rfl:k=ch-1:=by omega
    rw[Aa1 (by simp),<-hzl,Ns k2]
   ·rw[Aaw (by simpa using hk),Ns k2]
  rw[e]at h;rw[Qz,CH,e2];exact h
 rw[Wp,CA,Ac,hs,xM,Aa,Dk (by rw[Bb];simp),Aa];rw[Ac,hs]at e1;rw[Ac,hs]at e2;have hz1:(List.replicate (Int.toNat (ch:Int)) (0:Int32)).length=ch:=by simp
 have hs1:=g32 (l:=tV) (k:=ch-1) (by omega);rw[e1,hs1,Aa,g32 (by omega),Aa,Ye _ (by omega),Aa];by_cases hc:1<ch
 ·rw[Aa1 hc]at hlast;have e3:((ch-1:Nat):Int)-1=((ch-2:Nat):Int):=by omega
  have hs2:=g32 (l:=tV) (k:=ch-2) (by omega);rw[Aa1 (by rw[Ay];simp;omega),Aa,e2,e3,hs2,Aa,Ag5,Aa,g32 (by rw[Awl];omega),Aa,Ye _ (by rw[Awl];omega),Aa];refine hend _ (by simp) ?_;rw[hlast,xu _ (by rw[Awl];omega)]
 ·rw[Aaw hc]at hlast;rw[Aaw (by rw[Ay];simp;omega)];refine hend _ (by simp) ?_;rw[hlast,xu _ (by omega)]
theorem Apq(ch:Nat)(m:List Int32)(h1:1<=ch)(h6:ch<=6)(hm:m.length %ch=0)(hl2:m.length<=4000):Rz (ch:Int) m=some 0:=by
 rw[Rz,Aaw (by simp[Af,Ay];omega),Aaw (by rw[Ay,Ac];simp;omega),Dk (by rw[Ao];simp;omega),Aa,Aaw];rw[Ay,Fl,Ac,<-Int.ofNat_tmod,hm];simp
theorem wT(ch:Nat)(m:List Int32)(h1:1<=ch)(h6:ch<=6)(hm:m.length %ch=0)(hl2:m.length<=4000):∀(j at' q:Nat),at' %ch=0->at'<=m.length->m.length-at'<=j->j<q->
  Pc (ch:Int) m q (at':Int) ((E1 ch m).take at')=some (E1 ch m,0)
 |j,at',q+1,ha,hle,hj,hq=>by
  have hlen:=mK ch m;rw[Pc,KQ];by_cases h:at'<m.length
  ·have hb:=Aa7 ha hm h;have e4:Ad (at':Int) (ch:Int)=((at'+ch:Nat):Int):=by rw[Aj];omega
   have hrest:=wT ch m h1 h6 hm hl2 (j-1) (at'+ch) q (by rw[Ayu,ha]) hb (by omega) (by omega);have hseg:((m.take (at'+ch)).drop at').length=ch:=by simp;omega
   have htl:((E1 ch m).take at').length=at':=by simp[hlen];omega
   rw[Aa1 (by rw[Af,Ac];simp;omega),e4,BB,Aa,show((at'+ch:Nat):Int).toNat=at'+ch from rfl,show(at':Int).toNat=at' from rfl,Adi _ ch h1 h6 hseg,Aa,Cv (by rw[htl,ZR];omega),Aa];have e:(E1 ch m).take at'++vM (λi=>((m.take (at'+ch)).drop at').getD i 0) ch=(E1 ch m).take (at'+ch):=by
    apply Aul (by rw[Abz,htl,ZR,Ae5,hlen];omega);intro k k1 k2;rw[Ae5,hlen]at k2;rw[List.getElem_append,List.getElem_take];by_cases hk:k<at'
    ·rw[dif_pos (by rw[htl];exact hk),List.getElem_take]
    ·rw[dif_neg (by rw[htl];exact hk)];have hu:=zE (m:=m) ha (show k-at'<ch by omega) (by omega);rw[show at'+(k-at')=k by omega,Ns (by omega)]at hu;have hx:∀n,n<=ch->unV (λi=>((m.take (at'+ch)).drop at').getD i 0) ch n=unV (λi=>m.getD (at'+i) 0) ch n:=by
      have hf:∀i,i<ch-> ((m.take (at'+ch)).drop at').getD i 0=m.getD (at'+i) 0:=by
       intro i hi;rw[Ns (by omega),Ns (by omega)];simp
      intro n
      induction n with
      |zero=>
       intro _;rw[unV,unV,hf _ (by omega)];split
       ·rw[hf _ (by omega)]
       ·rfl
      |succ n ih=>intro hn;rw[unV,unV,ih (by omega),hf _ (by omega)]
     have hy:=tK (λi=>((m.take (at'+ch)).drop at').getD i 0) (show k-at'<ch by omega);rw[Ns (by rw[ZR];omega)]at hy;rw[hu,<-hx _ (by omega),<-hy];congr 1;rw[htl]
   rw[e];exact hrest
  ·rw[Aaw (by rw[Af,Ac];simp;omega),Awi (by omega)];rfl
theorem Aij(ch:Nat)(m:List Int32)(h1:1<=ch)(h6:ch<=6)(hm:m.length %ch=0)(hl2:m.length<=4000):DF (ch:Int) m=some (E1 ch m,0):=by
 have h:=wT ch m h1 h6 hm hl2 m.length 0 Ar (by simp) (by omega) (by omega) (by have:=As;omega);rw[DF,KW,Apq ch m h1 h6 hm hl2,Aa,Aaw (by rw[Ao];simp)];exact h
def pre{α:Type}(ch c:Nat)(f:α->Nat->α)(a0:α):Nat->α
 |0=>a0
 |m+1=>if m %ch=c then f (pre ch c f a0 m) m else pre ch c f a0 m
theorem Af9{α:Type}(ch c:Nat)(f:α->Nat->α)(a0:α):∀m,m<=c->c<ch->pre ch c f a0 m=a0
 |0,_,_=>rfl
 |m+1,h,h2=>by rw[pre,Aaw (by rw[Abw (by omega)];omega),Af9 ch c f a0 m (by omega) h2]
theorem zm{α:Type}(ch c i:Nat)(f:α->Nat->α)(a0:α)(hi:i %ch=c)(hc:c<ch):∀j,j<ch->pre ch c f a0 (i+1+j)=pre ch c f a0 (i+1)
 |0,_=>rfl
 |j+1,h=>by
  have hne:(i+1+j) %ch≠c:=by
   intro e;have h1:(i+(1+j)) %ch=i %ch:=by rw[hi,<-e];congr 1;omega
   have h2:(1+j) %ch=0:=by
    have h3:=Nat.sub_mod_eq_zero_of_mod_eq h1;rwa [Awv]at h3
   rw[Abw (by omega)]at h2;omega
  rw[show i+1+(j+1)=(i+1+j)+1 by omega,pre,Aaw hne,zm ch c i f a0 hi hc j (by omega)]
theorem Amz{α:Type}(ch c i:Nat)(f:α->Nat->α)(a0:α)(hi:i %ch=c)(hc:c<ch):pre ch c f a0 (i+ch)=f (pre ch c f a0 i) i:=by
 have h:=zm ch c i f a0 hi hc (ch-1) (by omega);rw[show i+1+(ch-1)=i+ch by omega]at h;rw[h,pre,Aa1 hi]
abbrev CS:=Int32×List Int32×List Int32
def Ali(bits:Int)(s:CS)(y:Int32):Int32:=y+gF (sB bits) s.2.1 s.2.2+gs (shB bits) s.1
def Afn(bits:Int)(s:CS)(y:Int32):CS:=(Ali bits s y,U5 s.2.1 s.2.2 y,(y+gF (sB bits) s.2.1 s.2.2)::s.2.2.take 15)
def cst(bits:Int)(ch:Nat)(t:List Int32)(v:List UInt32)(c:Nat):Nat->CS:=pre ch c (λs i=>Afn bits s (eN (v.getD i 0))) (0,t,List.replicate 16 0)
def OkC(bits:Int)(s:CS):Prop:=OkF (sB bits) s.2.1 s.2.2
theorem Ac2(bits:Int)(ch:Nat){t:List Int32}(ht:t.length=16)(v:List UInt32)(c:Nat):∀m,OkC bits (cst bits ch t v c m)
 |0=>⟨Aus bits,ht,by simp[cst,pre]⟩
 |m+1=>by
  have ih:=Ac2 bits ch ht v c m;rw[cst,pre];split
  ·exact Ale ih _ _
  ·exact ih
def yN(bits:Int)(ch:Nat)(t:List Int32)(v:List UInt32):List Int32:=(List.range v.length).map λi=>Ali bits (cst bits ch t v (i %ch) i) (eN (v.getD i 0))
theorem mP(bits:Int)(ch:Nat)(t:List Int32)(v:List UInt32):(yN bits ch t v).length=v.length:=by simp[yN]
theorem Agq(bits:Int)(ch:Nat)(t:List Int32)(v:List UInt32){i:Nat}(h:i<v.length):(yN bits ch t v).getD i 0=Ali bits (cst bits ch t v (i %ch) i) (eN (v.getD i 0)):=by
 rw[Ns (by rw[mP];exact h)];simp[yN]
abbrev CL:=Int×Int32×(Int×(List Int32)×(List Int32)×Unit)×Unit
def toC(bits:Int)(s:CS):CL:=(bits,s.1,(sB bits,s.2.1,s.2.2,()),())
def cts(bits:Int)(ch:Nat)(t:List Int32)(v:List UInt32)(i:Nat):List CL:=(List.range 6).map λc=>toC bits (cst bits ch t v c i)
theorem Aqe{bits:Int}{ch:Nat}{t:List Int32}{v:List UInt32}{i c:Nat}(h:c<6):Am (cts bits ch t v i) (c:Int)=some (toC bits (cst bits ch t v c i)):=by
 rw[Cw (by simp[cts];exact h)];simp[cts]
theorem Aab(bits:Int)(ch:Nat)(t:List Int32)(v:List UInt32)(c m:Nat):cst bits ch t v c (m+1)=if m %ch=c then Afn bits (cst bits ch t v c m) (eN (v.getD m 0))else cst bits ch t v c m:=rfl
theorem Aox{bits:Int}{ch:Nat}{t:List Int32}{v:List UInt32}{i c:Nat}(h:c<6)(hc:i %ch=c):Le (cts bits ch t v i) (c:Int) (toC bits (Afn bits (cst bits ch t v c i) (eN (v.getD i 0))))=some (cts bits ch t v (i+1)):=by
 rw[Ye _ (by simp[cts];exact h)];congr 1;apply Aul (by simp[cts]);intro k h1 h2;rw[Ayq];simp only[cts,Ayg,Aya];by_cases hk:c=k
 ·subst hk;rw[Aa1 rfl,Aab,Aa1 hc]
 ·rw[Aaw hk,Aab,Aaw (by omega)]
section
variable {bits:Int} {ch:Nat} {t:List Int32} {v:List UInt32}
theorem zu(hb:Ct bits)(ht:t.length=16)(h1:1<=ch)(h6:ch<=6)(hv:v.length<=4000):∀(j i q:Nat),i+j=v.length->j<q->
  Iz v (ch:Int) bits q (i:Int) (cts bits ch t v i) ((yN bits ch t v).take i)=Mc (ch:Int) bits (yN bits ch t v)
 |0,i,q+1,hi,_=>by
  rw[Iz,Md,Aaw (by rw[Af,Ac];simp;omega),Awi (by rw[mP];omega)]
 |j+1,i,q+1,hi,hq=>by
  have hlen:=mP bits ch t v;have hc:i %ch<6:=Ak6 (Aws _ (by omega)) h6;have hok:=Ac2 bits ch ht v (i %ch) i;have hs:=Aox (bits:=bits) (ch:=ch) (t:=t) (v:=v) (i:=i) hc rfl;have hx:=Agq bits ch t v (i:=i) (by omega);have hcb:=Ag8 hb hok (cst bits ch t v (i %ch) i).1 (eN (v.getD i 0));have ih:=zu hb ht h1 h6 hv j (i+1) q (by omega) (by omega);rw[RE (by omega),<-Ns (by omega),hx]at ih;rw[Iz,Md,Aa1 (by rw[Af,Ac];simp;omega),zK (by omega),Aa,Dk (by rw[Ao];simp;omega),Aa,B2,Aqe hc,Aa,Aa,Al8,Aa];refine Awu (congrArg (λo=>Option.bind o _) hcb) ?_;rw[Aa];simp only;rw[Yx,PU,Aaw (by rw[Ao];simp),B2];refine Awu (congrArg (λo=>Option.bind o _) hs) ?_;rw[Aa,Cv (by simp;omega),Aa,Aj];exact ih
theorem Ahs(hb:Ct bits)(ht:t.length=16)(h1:1<=ch)(h6:ch<=6)(hv:v.length<=4000):Th (ch:Int) bits t v=Mc (ch:Int) bits (yN bits ch t v):=by
 have h:=zu hb ht h1 h6 hv v.length 0 Ar (by omega) (by have:=As;omega);have e:Ar=(Ar-7)+1+1+1+1+1+1+1:=by have:=As;omega
 have hs:Qe v (ch:Int) bits t 0 (List.replicate 6 ((0:Int),(0:Int32),((0:Int),(List.replicate 16 (0:Int32)),(List.replicate 16 (0:Int32)),()),()))=Yd v (ch:Int) bits (cts bits ch t v 0):=by
  rw[Qe,e];obtain rfl|rfl|rfl:=hb<;>rfl
 rw[Th,AM,hs];exact h
theorem Z6(bk:Int->List Int32->Option (List Int32))(hb:Ct bits)(ht:t.length=16)(h1:1<=ch)(h6:ch<=6)(hv:v.length<=4000)(z:List Int32)(c:Nat)(hc:c<ch):∀(j i q:Nat),i %ch=c->v.length-i<=j->i<=5000->j<q->
  Li bk v (ch:Int) bits t (c:Int) q (i:Int) (jM (λk=>decide (k %ch<c\/ (k %ch=c/\k<i))) (yN bits ch t v) z) bits (cst bits ch t v c i).1 (sB bits) (cst bits ch t v c i).2.1 (cst bits ch t v c i).2.2=
   bk ((c+1:Nat):Int) (jM (λk=>decide (k %ch<c+1)) (yN bits ch t v) z)
 |j,i,q+1,hi,hj,hi5,hq=>by
  have hlen:=mP bits ch t v;rw[Li,BW];by_cases h:i<v.length
  ·have hok:=Ac2 bits ch ht v c i;have hst:=Ahq hb hok (cst bits ch t v c i).1 (eN (v.getD i 0));have hx:=Agq bits ch t v (i:=i) h;rw[hi]at hx;have ih:=Z6 bk hb ht h1 h6 hv z c hc (j-1) (i+ch) q (by rw[Ayu];exact hi) (by omega) (by omega) (by omega);have hstep:cst bits ch t v c (i+ch)=Afn bits (cst bits ch t v c i) (eN (v.getD i 0)):=Amz ch c i _ _ hi hc;rw[hstep]at ih;have hset:=tL (p:=λk=>decide (k %ch<c\/ (k %ch=c/\k<i))) (a:=yN bits ch t v) (b:=z) (k:=i) (by omega);rw[hx]at hset;have Abx:jM (λj=>decide (j %ch<c\/ (j %ch=c/\j<i))||decide (j=i)) (yN bits ch t v) z=jM (λk=>decide (k %ch<c\/ (k %ch=c/\k<i+ch))) (yN bits ch t v) z:=by
    apply BT;intro k _;rw[Agx];simp only[Ash,Aby];constructor
    ·rintro((h1|h1)|h1)
     ·exact .inl h1
     ·exact .inr ⟨h1.1,by omega⟩
     ·subst h1;exact .inr ⟨hi,by omega⟩
    ·rintro(h1|⟨h1,h2⟩)
     ·exact .inl (.inl h1)
     ·by_cases h3:k<i
      ·exact .inl (.inr ⟨h1,h3⟩)
      ·refine .inr ?_;have h4:(i+(k-i)) %ch=i %ch:=by rw[show i+(k-i)=k by omega,h1,hi]
       have h5:=Nat.sub_mod_eq_zero_of_mod_eq h4;rw[Awv,Abw (by omega)]at h5;omega
   rw[Abx]at hset;rw[Aa1 (by rw[Af,Ac];simp;omega),zK h,Aa,Apl,Aa];refine Awu (congrArg (λo=>Option.bind o _) hst) ?_;rw[Aa];simp only;rw[BP,CB,VV (by omega),Aa];refine Awu (congrArg (λo=>Option.bind o _) hset) ?_;rw[Aa,CD,CQ,Aj];exact ih
  ·rw[Aaw (by rw[Af,Ac];simp;omega),BQ,CE,Aj];have Abx:jM (λk=>decide (k %ch<c\/ (k %ch=c/\k<i))) (yN bits ch t v) z=jM (λk=>decide (k %ch<c+1)) (yN bits ch t v) z:=by
    apply BT;intro k hk;rw[Agx];simp only[Aby];omega
   rw[Abx];rfl
theorem Y1(hb:Ct bits)(ht:t.length=16)(h1:1<=ch)(h6:ch<=6)(hv:v.length<=4000)(z:List Int32):∀(j c q:Nat),c+j=ch->j<q->
  Fo v (ch:Int) bits t q (c:Int) (jM (λk=>decide (k %ch<c)) (yN bits ch t v) z)=Ql (ch:Int) bits (yN bits ch t v)
 |0,c,q+1,hc,_=>by
  rw[Fo,Qq,Aaw (by rw[Af];simp;omega),rO (λk hk=>by have:=Aws k (show 0<ch by omega);simp;omega)]
 |j+1,c,q+1,hc,hq=>by
  have ih:=Y1 hb ht h1 h6 hv z j (c+1) q (by omega) (by omega);have hin:=Z6 (Fo v (ch:Int) bits t q) hb ht h1 h6 hv z c (by omega) v.length c Ar (Abw (by omega)) (by omega) (by omega) (by have:=As;omega);have h0:cst bits ch t v c c=(0,t,List.replicate 16 0):=Af9 ch c _ _ c (Al1 _) (by omega);rw[h0]at hin;have Abx:jM (λk=>decide (k %ch<c\/ (k %ch=c/\k<c))) (yN bits ch t v) z=jM (λk=>decide (k %ch<c)) (yN bits ch t v) z:=by
   apply BT;intro k hk;have:=Nat.mod_le k ch;rw[Agx];simp only[Aby];omega
  rw[Abx]at hin;rw[Fo,Qq,Aa1 (by rw[Af];simp;omega),Avj hb,Aa];simp only;rw[CN];exact Awu hin ih
theorem Aje(hb:Ct bits)(ht:t.length=16)(h1:1<=ch)(h6:ch<=6)(hv:v.length<=4000)(hm:v.length %ch=0):Qf (ch:Int) bits t v=some (E1 ch (yN bits ch t v)):=by
 have hlen:=mP bits ch t v;have h:=Y1 hb ht h1 h6 hv (List.replicate v.length 0) ch 0 Ar (by omega) (by have:=As;omega);rw[sP (by rw[hlen];simp) (λk _=>by simp)]at h;rw[Qf,GU,Ac,xM,Aa,Dk (by rw[Bb];simp),Aa,CC];refine Awu h ?_;rw[Ql,CR,Aij ch _ h1 h6 (by rw[hlen];exact hm) (by omega),Aa]
end
def hB(bits:Int):Int:=if bits=8 then 128 else if bits=16 then 32768 else 8388608
theorem Amp{bits:Int}(h:Ct bits):CV bits=some (Int32.ofInt (-(hB bits)),Int32.ofInt (hB bits-1),0):=by
 obtain rfl|rfl|rfl:=h<;>decide
theorem xU{bits:Int}(h:Ct bits):Vi bits=some (hB bits):=by
 obtain rfl|rfl|rfl:=h<;>rfl
theorem qF(bits:Int):0<hB bits/\hB bits<=8388608:=by
 unfold hB;split; · omega
 ·split<;>omega
theorem zX{bits:Int}(h:Ct bits)(l:List Int32)(hl:l.length<=4000):∀(j i q:Nat),i+j=l.length->j<q->
  Qn (Int32.ofInt (-(hB bits))) (Int32.ofInt (hB bits-1)) l q (i:Int)=Bp l (hB bits) q (i:Int)
 |0,i,q+1,hi,_=>by
  rw[Qn,GR,Bp,Fc,Aaw (by rw[Af,Ac];simp;omega),Aaw (by rw[Af,Ac];simp;omega)];rfl
 |j+1,i,q+1,hi,hq=>by
  have hh:=qF bits;have ih:=zX h l hl j (i+1) q (by omega) (by omega);have e1:(Int32.ofInt (-(hB bits))).toInt= -(hB bits):=by rw[Axm,Ayv (by show -(4294967296/2:Int)<= _;omega) (by show _<(4294967296+1)/2;omega)]
  have e2:(Int32.ofInt (hB bits-1)).toInt=hB bits-1:=by rw[Axm,Ayv (by show -(4294967296/2:Int)<= _;omega) (by show _<(4294967296+1)/2;omega)]
  rw[Qn,GR,Bp,Fc,Aa1 (by rw[Af,Ac];simp;omega),Aa1 (by rw[Af,Ac];simp;omega),g32 (by omega),Aa,Aa,Aa,Fp,Adm,Cm (by omega) (by omega),Aj,ou,Ab3,e1,e2,Af,En];generalize(l.getD i 0).toInt=X;by_cases h1:X< -(hB bits)
  ·rw[Aa1 (by simp;omega),Aa1 (by simp;omega)]
  ·rw[Aaw (c:=decide (X<0-hB bits)=true) (by simp;omega)];by_cases h2:hB bits<=X
   ·rw[Aa1 (by simp;omega),Aa1 (by simp;omega)]
   ·rw[Aaw (by simp;omega),Aaw (by simp;omega)];exact ih
theorem B5{bits:Int}(h:Ct bits)(l:List Int32)(hl:l.length<=4000):Rk bits l=Bn bits l:=by
 have hh:=qF bits;rw[Rk,TP,Amp h,Aa,Bn,Jz,xU h,Aa];simp only;rw[Aaw (by rw[Ao];simp),Aaw (by rw[Ay,Ac];simp;omega),Aaw (by rw[Bb];simp;omega),Aaw (by rw[Ay,Ac];simp;omega)];exact zX h l hl l.length 0 Ar (by omega) (by have:=As;omega)
theorem Ab8{bits:Int}(h:Ct bits)(l:List Int32)(hl:l.length<=4000):∃e,Bn bits l=some e:=by
 have hh:=qF bits;have key:∀(j i q:Nat),i+j=l.length->j<q->∃e,Bp l (hB bits) q (i:Int)=some e:=by
  intro j
  induction j with
  |zero=>
   intro i q hi hq;obtain⟨q,rfl⟩:∃k,q=k+1:=⟨q-1,by omega⟩;rw[Bp,Fc,Aaw (by rw[Af,Ac];simp;omega)];exact⟨_,rfl⟩
  |succ j ih=>
   intro i q hi hq;obtain⟨q,rfl⟩:∃k,q=k+1:=⟨q-1,by omega⟩;rw[Bp,Fc,Aa1 (by rw[Af,Ac];simp;omega),g32 (by omega),Aa,Aa,Aj];split
   ·exact⟨_,rfl⟩
   ·split
    ·exact⟨_,rfl⟩
    ·exact ih (i+1) q (by omega) (by omega)
 obtain⟨e,he⟩:=key l.length 0 Ar (by omega) (by have:=As;omega);rw[Bn,Jz,xU h,Aa,Aaw (by rw[Bb];simp;omega),Aaw (by rw[Ay,Ac];simp;omega)];exact⟨e,he⟩
theorem tM{bits:Int}{ch:Nat}{t:List Int32}{v:List UInt32}(hb:Ct bits)(ht:t.length=16)(h1:1<=ch)(h6:ch<=6)(hv:v.length<=4000)(hm:v.length %ch=0):
  ∃l e,Qf (ch:Int) bits t v=some l/\Yt (ch:Int) bits l=some (if e≠0 then([],e)else(l,0))/\Th (ch:Int) bits t v=some (if e≠0 then([],e)else(l,0))/\Bn bits l=some e/\l.length=v.length:=by
 have hlen:=mP bits ch t v;have hul:=mK ch (yN bits ch t v);obtain⟨e,he⟩:=Ab8 hb (E1 ch (yN bits ch t v)) (by omega);refine⟨E1 ch (yN bits ch t v),e,Aje hb ht h1 h6 hv hm,?_,?_,he,by omega⟩
 ·rw[Yt,he,Aa];by_cases h:e=0
  ·rw[Aaw (by rw[Ao];simpa using h),Aaw (by simpa using h)]
  ·rw[Aa1 (by rw[Ao];simpa using h),Aa1 h]
 ·rw[Ahs hb ht h1 h6 hv,Mc,PC,An5 ch _ h1 h6 (by rw[hlen];exact hm) (by omega),Aa];simp only;rw[Aaw (by rw[Ao];simp),B5 hb _ (by omega),he,Aa];by_cases h:e=0
  ·rw[Aaw (by rw[Ao];simpa using h),Aaw (by simpa using h)]
  ·rw[Aa1 (by rw[Ao];simpa using h),Aa1 h]
def kK(s:Nat):Nat:=(s/2)^^^ (if s %2=1 then 3988292384 else 0)
theorem H9{s:Nat}(h:s<4294967296):kK s<4294967296:=by
 unfold kK;exact As0 (n:=32) (by simp;omega) (by split<;>decide)
theorem yl(x y:Nat):(x^^^y)/2=(x/2)^^^ (y/2):=by
 have:=Nat.shiftRight_xor_distrib (a:=x) (b:=y) (i:=1);simpa [Nat.shiftRight_eq_div_pow]using this
theorem Ahp(x y:Nat):kK (x^^^y)=kK x^^^kK y:=by
 have h:(x^^^y) %2=(x %2+y %2) %2:=by
  have:=Nat.xor_mod_two_eq_one (a:=x) (b:=y);have h1:(x^^^y) %2<2:=Aws _ (by omega);omega
 simp only[kK,yl,h];have hx:x %2=0\/x %2=1:=by omega
 have hy:y %2=0\/y %2=1:=by omega
 rcases hx with hx|hx<;>rcases hy with hy|hy<;>simp only[hx,hy]<;>simp
 ·rw[Avh]
 ·rw[Avh,Ay0 (y/2),Avh,Ay0 3988292384 (y/2)]
 ·rw[Avh,Ay0 3988292384,Avh,Nat.xor_self];simp
def Yb:Nat->Nat->Nat
 |0,s=>s
 |k+1,s=>Yb k (kK s)
theorem X6:∀(k x y:Nat),Yb k (x^^^y)=Yb k x^^^Yb k y
 |0,_,_=>rfl
 |k+1,x,y=>by rw[Yb,Ahp,X6 k];rfl
theorem Y3:∀(k h:Nat),Yb k (2^k*h)=h
 |0,h=>by simp[Yb]
 |k+1,h=>by
  have:kK (2^(k+1)*h)=2^k*h:=by
   rw[Aro,Aom (2^k) 2,Avz,kK,Aaw (by omega),Nat.mul_div_cancel_left _ (by omega)];simp
  rw[Yb,this,Y3 k]
theorem N4:∀(k:Nat) {s:Nat},s<4294967296->Yb k s<4294967296
 |0,_,h=>h
 |k+1,_,h=>N4 k (H9 h)
def xO(s c:Nat):Nat:=Yb 8 (s^^^c)
theorem M9{s c:Nat}(h:s<4294967296)(hc:c<256):xO s c<4294967296:=N4 8 (As0 (n:=32) (by simpa using h) (by simp;omega))
theorem zq{s c:Nat}(hc:c<256):xO s c=(s/256)^^^Yb 8 ((s %256)^^^c):=by
 have h:s=(2^8*(s/256))^^^ (s %256):=by
  have h1:s %256<2^8:=by simpa using Aws s (by omega:256>0)
  have:=As6 h1 (s/256);have h2:2^8*(s/256)|||s %256=(2^8*(s/256))^^^ (s %256):=by
   apply Nat.eq_of_testBit_eq;intro i;rw[Nat.testBit_or,Nat.testBit_xor];by_cases hi:i<8
   ·have:(2^8*(s/256)).testBit i=false:=by rw[Nat.testBit_two_pow_mul];simp;omega
    rw[this];simp
   ·have:(s %256).testBit i=false:=Nat.testBit_lt_two_pow (Ak6 h1 (Ac8 (by omega) (by omega)));rw[this];simp
  omega
 rw[xO]
 conv=>lhs;rw[h]
 rw[Avh,X6,Y3]
def Aho(s:Nat)(l:List UInt8):Nat:=l.foldl (λs c=>xO s c.toNat) s
def Ik(b:List UInt8):UInt32:=4294967295-UInt32.ofNat (Aho 4294967295 b)
theorem Aqk(s:UInt32)(c:Nat)(hc:c<256):DX s (Ae (CY (UInt8.ofNat c) (2:UInt8)):Int)=some (UInt32.ofNat (s.toNat/2^^^ (if(s.toNat^^^c) %2=1 then 3988292384 else 0))):=by
 have h1:(Ae (CY (UInt8.ofNat c) (2:UInt8)):Int)=((c %2:Nat):Int):=by
  rw[RD,Aqq,UInt8.toNat_mod,Anz];show((c %256 %2:Nat):Int)=_;omega
 have h2:geq (CY s (2:UInt32)) (1:UInt32)=decide (s.toNat %2=1):=by
  rw[mf,tu,Agx];simp only[Atw,Aby];rw[<-UInt32.toNat_inj,UInt32.toNat_mod];rfl
 have h3:By s (2:UInt32)=UInt32.ofNat (s.toNat/2):=by
  apply UInt32.toNat_inj.1;rw[Abq,UInt32.toNat_div,All]
  show s.toNat/2=_;have:=s.toNat_lt;omega
 have h4:Xq (By s (2:UInt32)) (3988292384:UInt32)=UInt32.ofNat (s.toNat/2^^^3988292384):=by
  apply UInt32.toNat_inj.1;rw[h3,tQ,UInt32.toNat_xor,All,All];have:=s.toNat_lt;rw[Abw (a:=s.toNat/2) (by omega),Abw]
  ·rfl
  ·exact As0 (n:=32) (by omega) (by decide)
 have hx:(s.toNat^^^c) %2=(s.toNat %2+c %2) %2:=by
  have:=Nat.xor_mod_two_eq_one (a:=s.toNat) (b:=c);have h1:(s.toNat^^^c) %2<2:=Aws _ (by omega);omega
 have hs:s.toNat %2=0\/s.toNat %2=1:=by omega
 have hc2:c %2=0\/c %2=1:=by omega
 rw[DX,MU,h1,h2,hx];rcases hs with hs|hs<;>rcases hc2 with hc2|hc2<;>simp[hs,hc2,Bb,LM,KY,tQ,h3]
theorem wK:∀(j i q:Nat) (s:UInt32) (c:Nat),i+j=8->j<q->c<2^j->Kw q s (UInt8.ofNat c) (i:Int)=some (UInt32.ofNat (Yb j (s.toNat^^^c)))
 |0,i,q+1,s,c,hi,_,hc=>by
  obtain rfl:i=8:=by omega
  obtain rfl:c=0:=by simpa using hc
  rw[Kw,Xf,Aaw (by rw[Af];simp),NC,NB,Yb];simp
 |j+1,i,q+1,s,c,hi,hq,hc=>by
  have hc8:c<256:=Ak6 hc (show 2^(j+1)<=2^8 from Ac8 (by omega) (by omega));rw[Kw,Xf,Aa1 (by rw[Af];simp;omega),Aqk s c hc8,Aa,Aj];have e:By (UInt8.ofNat c) (2:UInt8)=UInt8.ofNat (c/2):=by
   apply UInt8.toNat_inj.1;rw[Aoz,UInt8.toNat_div,Anz,Anz]
   show c %256/2=_;omega
  rw[e];have h:=wK j (i+1) q (UInt32.ofNat (s.toNat/2^^^ (if(s.toNat^^^c) %2=1 then 3988292384 else 0))) (c/2) (by omega) (by omega) (by rw[Aro]at hc;omega);rw[show((i:Int)+1)=((i+1:Nat):Int) by omega,h,All,Yb];congr 3;have:=s.toNat_lt;rw[Abw,kK,yl,Avh,Avh,Ay0 (c/2)];exact As0 (n:=32) (by omega) (by split<;>decide)
theorem Apg(s:UInt32)(c:UInt8):VZ s c=some (UInt32.ofNat (xO s.toNat c.toNat)):=by
 have h:=wK 8 0 Ar s c.toNat (by omega) (by have:=As;omega) (by simpa using c.toNat_lt);rw[UInt8.ofNat_toNat]at h;exact h
theorem oN(b:List UInt8)(hb:b.length<4611686018427387904):∀(j i q:Nat) (s:UInt32),i+j=b.length->j<q->Im b q s (i:Int)=some (UInt32.ofNat (Aho s.toNat (b.drop i)))
 |0,i,q+1,s,hi,_=>by
  rw[Im,Sn,Aaw (by rw[Af,Ac];simp;omega),show i=b.length by omega,Awp];simp[DY,EY,Aho]
 |j+1,i,q+1,s,hi,hq=>by
  have hlt:i<b.length:=by omega
  rw[Im,Sn,Aa1 (by rw[Af,Ac];simp;omega),Cw hlt,Aa,Apg,Aa,Aj];have h:=oN b hb j (i+1) q (UInt32.ofNat (xO s.toNat b[i].toNat)) (by omega) (by omega);rw[show((i:Int)+1)=((i+1:Nat):Int) by omega,h,drop_cons hlt,All,Abw (M9 s.toNat_lt b[i].toNat_lt)];rfl
theorem Alz(b:List UInt8)(hb:b.length<4611686018427387904):Tf b=some (Ik b):=by
 have h:=oN b hb b.length 0 Ar 4294967295 (by omega) (by have:=As;omega);rw[Tf,PZ,EV,DN,show((0:Int))=((0:Nat):Int)from rfl,h,Aa,uf];rfl
theorem Ao0(c:UInt32):Xq (Ce c (GI.toZ (1:UInt64)).toNat) (Bj (3988292384:UInt32) (Eb c (1:UInt32)))=UInt32.ofNat (kK c.toNat):=by
 apply UInt32.toNat_inj.1;have e:(GI.toZ (1:UInt64)).toNat=1:=rfl;have h1:(Ce c 1).toNat=c.toNat/2:=by rw[YJ]
 have h2:(Bj (3988292384:UInt32) (Eb c (1:UInt32))).toNat=if c.toNat %2=1 then 3988292384 else 0:=by
  rw[Alq,wo,UInt32.toNat_mul,UInt32.toNat_and]
  show 3988292384*(c.toNat&&&1) %4294967296=_;rw[Nat.and_one_is_mod];have:c.toNat %2=0\/c.toNat %2=1:=by omega
  rcases this with h|h<;>simp[h]
 rw[e,tQ,UInt32.toNat_xor,h1,h2,All,Abw (H9 c.toNat_lt)];rfl
theorem ry(Hg:Int->List UInt32->Option (UInt32×Int))(s:UInt32)(b:List UInt8)(x:Int)(t:List UInt32):∀(j i q:Nat) (c:UInt32),i+j=8->j<q->
  Re Hg s b x t q c (i:Int)=FL Hg s b x (UInt32.ofNat (Yb j c.toNat)) t
 |0,i,q+1,c,hi,_=>by
  obtain rfl:i=8:=by omega
  rw[Re,DS,Aaw (by rw[Af];simp),Yb,UInt32.ofNat_toNat]
 |j+1,i,q+1,c,hi,hq=>by
  rw[Re,DS,Aa1 (by rw[Af];simp;omega),Ao0,Aj,show((i:Int)+1)=((i+1:Nat):Int) by omega,ry Hg s b x t j (i+1) q _ (by omega) (by omega),All,Abw (H9 c.toNat_lt)];rfl
def tbl(n:Nat):List UInt32:=(List.range n).map λi=>UInt32.ofNat (Yb 8 i)
theorem Agi(s:UInt32)(b:List UInt8):∀(j i q:Nat),i+j=256->j<q->Nk s b q (i:Int) (tbl i++List.replicate j 0)=FI s b (tbl 256)
 |0,i,q+1,hi,_=>by
  obtain rfl:i=256:=by omega
  rw[Nk,GV,Aaw (by rw[Af];simp)];simp
 |j+1,i,q+1,hi,hq=>by
  have hlen:(tbl i++List.replicate (j+1) 0).length=i+(j+1):=by simp[tbl]
  rw[Nk,GV,Aa1 (by rw[Af];simp;omega),TW];have h:=ry (Nk s b q) s b (i:Int) (tbl i++List.replicate (j+1) 0) 8 0 Ar (Ae (i:Int)) (by omega) (by have:=As;omega);rw[show((0:Int))=((0:Nat):Int)from rfl,h,FL,UJ,Cw (by rw[hlen];omega),Aa,Ye _ (by rw[hlen];omega),Aa,SR,lQ,Aj];have e:(Ae (i:Int):UInt32).toNat=i:=by rw[U0,All,Abw (by omega)]
  rw[e,Avq,mR (by simp[tbl])];have h2:=Agi s b j (i+1) q (by omega) (by omega);have h3:tbl (i+1)=tbl i++[UInt32.ofNat (Yb 8 i)]:=by simp[tbl,List.range_succ]
  rw[h3]at h2;rw[show((i:Int)+1)=((i+1:Nat):Int) by omega,<-h2];simp
theorem Ap8{i:Nat}(h:i<256):Am (tbl 256) (i:Int)=some (UInt32.ofNat (Yb 8 i)):=by
 rw[Cw (by simpa [tbl]using h)];simp[tbl]
theorem Ank(s:UInt32)(c:UInt8):Am (tbl 256) (GI.toZ (Xq (Ae s:UInt8) c))=some (UInt32.ofNat (Yb 8 ((s.toNat %256)^^^c.toNat))):=by
 have e:GI.toZ (Xq (Ae s:UInt8) c)=(((s.toNat %256)^^^c.toNat:Nat):Int):=by
  rw[BF,Af4,UInt8.toNat_xor,qB,Anz]
 rw[e,Ap8];exact As0 (n:=8) (by simp;omega) (by simpa using c.toNat_lt)
theorem Ai6(s:UInt32)(c:UInt8):Xq (Ce s (GI.toZ (8:UInt64)).toNat) (UInt32.ofNat (Yb 8 ((s.toNat %256)^^^c.toNat)))=UInt32.ofNat (xO s.toNat c.toNat):=by
 apply UInt32.toNat_inj.1;have hlt:Yb 8 ((s.toNat %256)^^^c.toNat)<4294967296:=N4 8 (As0 (n:=32) (by simp;omega) (by have:=c.toNat_lt;simp;omega));have e:(GI.toZ (8:UInt64)).toNat=8:=rfl;rw[e,tQ,UInt32.toNat_xor,YJ,All,All,Abw hlt,Abw (M9 s.toNat_lt c.toNat_lt),zq c.toNat_lt]
theorem Abm(b:List UInt8)(hb:b.length<4611686018427387904):∀(j i q:Nat) (s:UInt32),i+j=b.length->j<q->Qw b (tbl 256) q s (i:Int)=some (UInt32.ofNat (Aho s.toNat (b.drop i)),0)
 |0,i,q+1,s,hi,_=>by
  rw[Qw,DK,Aaw (by rw[Af,Ac];simp;omega),show i=b.length by omega,Awp];simp[SJ,lP,Aho]
 |j+1,i,q+1,s,hi,hq=>by
  have hlt:i<b.length:=by omega
  rw[Qw,DK,Aa1 (by rw[Af,Ac];simp;omega),Cw hlt,Aa,Ank,Aa,Aa,Ai6,Aj];have h:=Abm b hb j (i+1) q (UInt32.ofNat (xO s.toNat b[i].toNat)) (by omega) (by omega);rw[show((i:Int)+1)=((i+1:Nat):Int) by omega,h,drop_cons hlt,All,Abw (M9 s.toNat_lt b[i].toNat_lt)];rfl
theorem Ap2(s:UInt32)(b:List UInt8)(hb:b.length<=100000):cN s b=some (UInt32.ofNat (Aho s.toNat b),0):=by
 have h:=Agi s b 256 0 Ar (by omega) (by have:=As;omega);have h2:=Abm b (by omega) b.length 0 Ar s (by omega) (by have:=As;omega);rw[cN,XN,Aaw (by rw[Ay,Ac];simp;omega),UP];refine Awu h ?_;rw[FI,RJ,UL,RH,TZ];exact h2
theorem Am6(a:UInt32):I3 a=4294967295-a:=by
 have h:=a.toNat_lt;have e:I3 a=UInt32.ofNat (BitVec.ofInt 32 4294967295^^^BitVec.ofInt 32 (a.toNat:Int)).toNat:=Ex _;apply UInt32.toNat_inj.1;rw[e,All,UInt32.toNat_sub_of_le _ _ (by rw[UInt32.le_iff_toNat_le];show a.toNat<=4294967295;omega)];have h1:BitVec.ofInt 32 (a.toNat:Int)=a.toBitVec:=pg a;have h2:(BitVec.ofInt 32 4294967295:BitVec 32)=BitVec.allOnes 32:=by decide
 rw[h1,h2,BitVec.allOnes_xor,BitVec.toNat_not];show(4294967296-1-a.toNat) %4294967296=4294967295-a.toNat;omega
theorem Adw(b:List UInt8)(hb:b.length<=100000):Xo b=some (Ik b,0):=by
 rw[Xo,Ap2 _ _ hb,Aa];simp only[Ao,Am6];rfl
theorem Af8:∀{l m:List UInt8},l.length=m.length->Er l=Er m->l=m
 |[],[],_,_=>rfl
 |x::l,y::m,h,e=>by
  simp only[Er]at e;have hx:=x.toNat_lt;have hy:=y.toNat_lt;have h1:x=y:=UInt8.toNat_inj.1 (by omega);rw[h1,Af8 (l:=l) (m:=m) (by simpa using h) (by omega)]
theorem mq:∀(w n:Nat),Er (RS n w)=n %256^w
 |0,n=>by simp[RS,Er,Nat.mod_one]
 |w+1,n=>by
  rw[RS,Er,mq w (n/256),Anz,show(256:Nat)^(w+1)=256*256^w by rw[Aro,Aom],Nat.mod_mul]
def Vt(b:List UInt8):Int:=
 if b.length<5 then 24 else if 41254<b.length then 4 else if(Ik (b.take (b.length-4))).toNat≠Er (b.drop (b.length-4))then 22 else 0
theorem ze(b:List UInt8):DM b=some (if Vt b≠0 then([],Vt b)else(b.take (b.length-4),0)):=by
 rw[DM];by_cases h1:b.length<5
 ·have hS:Vt b=24:=by rw[Vt,Aa1 h1]
  rw[Aa1 (by rw[Af,Ac];simp;omega),hS];rfl
 rw[Aaw (by rw[Af,Ac];simp;omega)];by_cases h2:41254<b.length
 ·have hS:Vt b=4:=by rw[Vt,Aaw h1,Aa1 h2]
  rw[Aa1 (by rw[Ay,Ac];simp;omega),hS];rfl
 have e4:Ak (Ac b) 4=((b.length-4:Nat):Int):=by rw[Ac,Bu];omega
 have hd:(b.drop (b.length-4)).length=4:=by simp;omega
 rw[Aaw (by rw[Ay,Ac];simp;omega),e4,Da,Aa,show((b.length-4:Nat):Int).toNat=b.length-4 from rfl,Adw _ (by simp;omega),Aa];simp only;rw[Aaw (by rw[Ao];simp),Dg,Aa,show((b.length-4:Nat):Int).toNat=b.length-4 from rfl,yu _ (by omega) (by omega),Aa];have hne:Bd (oT (b.drop (b.length-4))) (Ae (Ik (b.take (b.length-4))):UInt64)=decide ((Ik (b.take (b.length-4))).toNat≠Er (b.drop (b.length-4))):=by
  have hlt:=(Ik (b.take (b.length-4))).toNat_lt;rw[QD,Agx];simp only[Ayr,ne_eq,<-Ayc,Aby];rw[UU (by omega),Jf,Aee,Abw (by omega)];exact⟨λh e=>h e.symm,λh e=>h e.symm⟩
 simp only;rw[hne,Aa];by_cases h3:(Ik (b.take (b.length-4))).toNat≠Er (b.drop (b.length-4))
 ·have hS:Vt b=22:=by rw[Vt,Aaw h1,Aaw h2,Aa1 h3]
  rw[Aa1 (by simp[h3]),hS];rfl
 ·have hS:Vt b=0:=by rw[Vt,Aaw h1,Aaw h2,Aaw h3]
  rw[Aaw (by rw[Auj h3];decide),hS];rfl
theorem Ahl(b:List UInt8)(hb:b.length<=1000000):Yf b=some (b++RS (Ik b).toNat 4):=by
 have h:∀k:Nat,(Ae (Ce (Ik b) k):UInt8)=UInt8.ofNat ((Ik b).toNat/2^k):=by
  intro k;rw[qB,YJ]
 have h0:(Ae (Ik b):UInt8)=UInt8.ofNat (Ik b).toNat:=qB _;have h1:=h 8;have h2:=h 16;have h3:=h 24;rw[Yf,Alz b (by omega),Aa,Cv (by simp;omega),Aa,Cv (by simp;omega),Aa,h0,show(GI.toZ (8:UInt64)).toNat=8 from rfl,show(GI.toZ (16:UInt64)).toNat=16 from rfl,show(GI.toZ (24:UInt64)).toNat=24 from rfl,h1,h2,h3];simp only[RS,Axe,Asc]
theorem M3(b:List UInt8):Qd b=some (Vt b):=by
 rw[Qd];by_cases h1:b.length<5
 ·rw[Aa1 (by rw[Af,Ac];simp;omega),Vt,Aa1 h1]
 rw[Aaw (by rw[Af,Ac];simp;omega)];by_cases h2:41254<b.length
 ·rw[Aa1 (by rw[Ay,Ac];simp;omega),Vt,Aaw h1,Aa1 h2]
 have e4:Ak (Ac b) 4=((b.length-4:Nat):Int):=by rw[Ac,Bu];omega
 have hd:(b.drop (b.length-4)).length=4:=by simp;omega
 rw[Aaw (by rw[Ay,Ac];simp;omega),e4,Da,Aa,show((b.length-4:Nat):Int).toNat=b.length-4 from rfl,Ahl _ (by simp;omega),Aa];have hlt:=(Ik (b.take (b.length-4))).toNat_lt;have hiff:(b.take (b.length-4)++RS (Ik (b.take (b.length-4))).toNat 4 !=b)=decide ((Ik (b.take (b.length-4))).toNat≠Er (b.drop (b.length-4))):=by
  rw[Agx];simp only[Ayr,ne_eq,Aby];constructor
  ·intro h e;apply h;have:RS (Ik (b.take (b.length-4))).toNat 4=b.drop (b.length-4):=Af8 (by rw[Qi,hd]) (by rw[mq,Abw (by omega),e]);rw[this,Ax8]
  ·intro h e;apply h;have hx:RS (Ik (b.take (b.length-4))).toNat 4=b.drop (b.length-4):=by
    have e2:b.take (b.length-4)++RS (Ik (b.take (b.length-4))).toNat 4=b.take (b.length-4)++b.drop (b.length-4):=by rw[e,Ax8]
    exact List.append_cancel_left e2
   rw[<-hx,mq,Abw (by omega)]
 rw[hiff];by_cases h3:(Ik (b.take (b.length-4))).toNat≠Er (b.drop (b.length-4))
 ·rw[Aa1 (by simp[h3]),Vt,Aaw h1,Aaw h2,Aa1 h3]
 ·rw[Aaw (by rw[Auj h3];decide),Vt,Aaw h1,Aaw h2,Aaw h3]
theorem Aa8{b:List UInt8}(h:Vt b=0):5<=b.length/\b.length<=41254:=by
 unfold Vt at h;split at h
 ·simp at h
 ·split at h
  ·simp at h
  ·omega
theorem Agt{c:Nat}(h1:1<=c)(h6:c<=6):By (4000:Int) (c:Int)=((4000/c:Nat):Int):=by
 have:c=1\/c=2\/c=3\/c=4\/c=5\/c=6:=by omega
 rcases this with rfl|rfl|rfl|rfl|rfl|rfl<;>rfl
theorem Aqi(p:List UInt8)(h:p.length<=41250):okB p (8*p.length):=⟨by omega,by omega,λk h1 h2=>by omega⟩
theorem KZ{bits:Int}{ch n:Nat}{t:List Int32}(b:List UInt8)(hb:Ct bits)(ht:t.length=16)(h1:1<=ch)(h6:ch<=6)(n1:1<=n)(n2:n<=4000/ch):
  ∃l e,Nq (ch:Int) bits t (n:Int) b=some (l,e)/\Ez (ch:Int) bits t (n:Int) b=some (l,e)/\ (e=0->Bn bits l=some 0/\l.length<=4000/\l.length=n*ch)/\ (e≠0->l=[]):=by
 have hn:n*ch<=4000:=by
  have:=Ac1 ch n2;have h2:=Awq 4000 ch;omega
 have hq4:=Agt h1 h6;generalize 4000/ch=mm at*
 have hck:Pq (ch:Int) bits=some 0:=by
  have hr:∃x y,CV bits=some (x,y,0):=⟨_,_,Amp hb⟩;obtain⟨x,y,hr⟩:=hr;rw[Pq,hr,Aa];simp only;rw[Aaw (by simp[Ao,Af,Ay];omega)]
 have hh:=qF bits;have Aef:Nd (ch:Int) bits (n:Int)=some 0:=by
  rw[Nd,AJ,Aaw (by simp[Af,Ay];omega),xU hb,Aa,Aaw (by rw[Bb];simp;omega),Aa,Aaw (by simp[Ao,Af];omega),Dk (by rw[Ao];simp;omega),Aa,hq4,Aaw (by rw[Ay];simp;omega)]
 rw[Nq,Ez,Rw,hck,Aef,Aa,Aa,Aaw (by rw[Ao];simp),Aaw (by rw[Af];simp;omega),Dk (by rw[Ao];simp;omega),Aa,hq4,Aaw (by rw[Ay];simp;omega),Aaw (by rw[Ao];simp),ze,M3];by_cases hs:Vt b≠0
 ·rw[Aa1 hs];simp only[Aa];rw[Aa1 (by rw[Ao];simpa using hs),Aa1 (by rw[Ao];simpa using hs)];exact⟨[],Vt b,rfl,rfl,λe=>absurd e hs,λ_=>rfl⟩
 have hs0:Vt b=0:=by simpa using hs
 have hlen:=Aa8 hs0;have e4:Ak (Ac b) 4=((b.length-4:Nat):Int):=by rw[Ac,Bu];omega
 rw[Aaw hs,hs0];simp only[Aa];rw[Aaw (by rw[Ao];simp),Aaw (by rw[Ao];simp),e4,Da,Aa,show((b.length-4:Nat):Int).toNat=b.length-4 from rfl];have hpl:(b.take (b.length-4)).length=b.length-4:=by simp
 generalize b.take (b.length-4)=p at*
 have e8:Bj (8:Int) (Ac p)=((8*p.length:Nat):Int):=by rw[Ac,Jh];omega
 have hp:=Aqi p (by omega);have hv:=values_eq hp h1 h6 hn;have hr:=Aga (N:=8*p.length) (p:=p) rfl (by omega) h1 h6 hn;have hat:=zD (ch:=ch) (p:=p) (N:=8*p.length) (n*ch) 0 [] (by omega);rw[ig,Aaw (by rw[Ay,Ac];simp;omega),Cq,Cv (by simp;omega),Aa,Aa,Aa,Asc,e8];simp only;rw[Aaw (by rw[Ao];simp),hv,hr,Aa,Aa];generalize Xs ch p (8*p.length) (n*ch) 0 []=V at*
 obtain⟨v,at',e⟩:=V;simp only at*
 by_cases he:e≠0
 ·rw[Aa1 he,Aa1 he];simp only;rw[Aa1 (by rw[Ao];simpa using he),Iw,Ir,Aa1 (by rw[Ao];simpa using he)];exact⟨[],e,rfl,rfl,λh=>absurd h he,λ_=>rfl⟩
 have he0:e=0:=by simpa using he
 have hvl:=hat.2.2 he0;simp only[List.length_nil,Avk]at hvl;rw[Aaw he,Aaw he];simp only;rw[Aaw (by rw[Ao];simp),Bu,show((8*p.length:Nat):Int)-(at':Int)=((8*p.length-at':Nat):Int) by omega,Iw,Ir];by_cases h7:7<8*p.length-at'
 ·have hE:(if 7<8*p.length-at'\/Cr p at' (8*p.length-at')≠0 then(12:Int)else 0)=12:=Aa1 (.inl h7);rw[Aa1 (by rw[En];simp;omega),hE,Aa1 (by decide)];exact⟨[],12,rfl,rfl,λh=>absurd h (by decide),λ_=>rfl⟩
 rw[Aaw (by rw[En];simp;omega),uE hp at' _ (by omega),Aaw (by omega),Aa];have hz:Bd (Wa p at' (8*p.length-at')) (0:UInt64)=decide (Cr p at' (8*p.length-at')≠0):=by
  rw[QD,Agx];simp only[Ayr,ne_eq,<-Ayc,Aby];rw[GK p _ _ (by omega)];rfl
 simp only;rw[hz];by_cases hv0:Cr p at' (8*p.length-at')≠0
 ·have hE:(if 7<8*p.length-at'\/Cr p at' (8*p.length-at')≠0 then(12:Int)else 0)=12:=Aa1 (.inr hv0);rw[Aa1 (by simp[hv0]),hE,Aa1 (by decide)];exact⟨[],12,rfl,rfl,λh=>absurd h (by decide),λ_=>rfl⟩
 have hm:v.length %ch=0:=by rw[hvl];exact Ayb n ch
 obtain⟨l,e,g1,g2,g3,g4,g5⟩:=tM (v:=v) hb ht h1 h6 (by omega) hm;have hE:(if 7<8*p.length-at'\/Cr p at' (8*p.length-at')≠0 then(12:Int)else 0)=0:=Aaw (by omega);rw[Aaw (by rw[Auj hv0];decide),hE,Aaw (by decide),g1,g3,Aa,Aa,g2];by_cases hl:e≠0
 ·rw[Aa1 hl];exact⟨[],e,rfl,rfl,λh=>absurd h hl,λ_=>rfl⟩
 ·rw[Aaw hl];have hl0:e=0:=by simpa using hl
  exact⟨l,0,rfl,rfl,λ_=>⟨by rw[g4,hl0],by omega,by omega⟩,λe=>absurd rfl e⟩
def P64:Nat:=4823603603198064275
def OG(s:Nat):Nat:=(2*s %18446744073709551616)^^^ (s/9223372036854775808*P64)
theorem ZE{s:Nat}(h:s<18446744073709551616):OG s<18446744073709551616:=by
 have h1:s/9223372036854775808=0\/s/9223372036854775808=1:=by omega
 exact As0 (n:=64) (Aws _ (by decide)) (by rcases h1 with e|e<;>rw[e]<;>decide)
theorem Ags(x y:Nat):(x^^^y)/9223372036854775808=(x/9223372036854775808)^^^ (y/9223372036854775808):=by
 have:=Nat.shiftRight_xor_distrib (a:=x) (b:=y) (i:=63);simpa [Nat.shiftRight_eq_div_pow]using this
theorem Afc(x y:Nat):2*(x^^^y) %18446744073709551616=(2*x %18446744073709551616)^^^ (2*y %18446744073709551616):=by
 have h1:=Nat.shiftLeft_xor_distrib (a:=x) (b:=y) (i:=1);have h2:=Nat.xor_mod_two_pow (a:=2*x) (b:=2*y) (n:=64);have e:2*(x^^^y)=(2*x)^^^ (2*y):=by simpa [Nat.shiftLeft_eq,Aom]using h1
 rw[e];exact h2
theorem Aq3{a b:Nat}(ha:a=0\/a=1)(hb:b=0\/b=1)(p:Nat):(a^^^b)*p=(a*p)^^^ (b*p):=by
 rcases ha with rfl|rfl<;>rcases hb with rfl|rfl<;>simp
theorem Axb(a b c d:Nat):(a^^^b)^^^ (c^^^d)=(a^^^c)^^^ (b^^^d):=by
 rw[Avh,Avh,<-Avh b c d,Ay0 b c,Avh c b d]
theorem Ab2{x y:Nat}(hx:x<18446744073709551616)(hy:y<18446744073709551616):OG (x^^^y)=OG x^^^OG y:=by
 rw[OG,OG,OG,Afc,Ags,Aq3 (by omega) (by omega),Axb]
def Om:Nat->Nat->Nat
 |0,s=>s
 |k+1,s=>Om k (OG s)
theorem uF:∀(k:Nat) {s:Nat},s<18446744073709551616->Om k s<18446744073709551616
 |0,_,h=>h
 |k+1,_,h=>uF k (ZE h)
theorem O4:∀(k:Nat) {x y:Nat},x<18446744073709551616->y<18446744073709551616->Om k (x^^^y)=Om k x^^^Om k y
 |0,_,_,_,_=>rfl
 |k+1,x,y,hx,hy=>by rw[Om,Ab2 hx hy,O4 k (ZE hx) (ZE hy)];rfl
theorem D3:∀(k h:Nat),2^k*h<18446744073709551616->Om k h=2^k*h
 |0,h,_=>by simp[Om]
 |k+1,h,hl=>by
  have hpos:0<2^k:=Aww (by omega);rw[Aro,Avz]at hl;have h2:2*h<18446744073709551616:=Avg (Nat.le_mul_of_pos_left _ hpos) hl;have:OG h=2*h:=by rw[OG,Abw h2,show h/9223372036854775808=0 by omega];simp
  rw[Om,this,D3 k _ hl,Aro,Avz]
def lH(s c:Nat):Nat:=Om 8 (s^^^ (c*72057594037927936))
theorem c56{c:Nat}(hc:c<256):c*72057594037927936<18446744073709551616:=by omega
theorem vA{s c:Nat}(h:s<18446744073709551616)(hc:c<256):lH s c<18446744073709551616:=uF 8 (As0 (n:=64) h (c56 hc))
theorem Aqh(s:Nat):s=(s/72057594037927936*72057594037927936)^^^ (s %72057594037927936):=by
 have h1:s %72057594037927936<2^56:=Aws _ (by decide);have:=As6 h1 (s/72057594037927936);have h2:2^56*(s/72057594037927936)|||s %72057594037927936=(2^56*(s/72057594037927936))^^^ (s %72057594037927936):=by
  apply Nat.eq_of_testBit_eq;intro i;rw[Nat.testBit_or,Nat.testBit_xor];by_cases hi:i<56
  ·have:(2^56*(s/72057594037927936)).testBit i=false:=by rw[Nat.testBit_two_pow_mul];simp;omega
   rw[this];simp
  ·have:(s %72057594037927936).testBit i=false:=Nat.testBit_lt_two_pow (Ak6 h1 (Ac8 (by omega) (by omega)));rw[this];simp
 rw[Aom (s/72057594037927936)]
 show s=(2^56*(s/72057594037927936))^^^ _;rw[<-h2,<-this];have:=Nat.div_add_mod s 72057594037927936
 show s=72057594037927936*_+_;omega
theorem Ag4(a c:Nat):(a^^^c)*72057594037927936=(a*72057594037927936)^^^ (c*72057594037927936):=by
 have h1:=Nat.shiftLeft_xor_distrib (a:=a) (b:=c) (i:=56);simpa [Nat.shiftLeft_eq]using h1
theorem ni{s c:Nat}(h:s<18446744073709551616)(hc:c<256):lH s c=(256*s %18446744073709551616)^^^Om 8 (((s/72057594037927936)^^^c)*72057594037927936):=by
 have hs:s/72057594037927936<2^8:=by show _<256;omega
 have hx:(s/72057594037927936)^^^c<256:=As0 (n:=8) hs (by simpa using hc);have hl:s %72057594037927936<72057594037927936:=Aws _ (by decide);rw[lH]
 conv=>lhs;rw[Aqh s]
 rw[Ay0 (s/72057594037927936*72057594037927936),Avh,<-Ag4,O4 8 (by omega) (c56 hx),D3 8 _ (by show 256*_<_;omega)];congr 1
 show 256*(s %72057594037927936)=_;omega
def P7(s:Nat)(l:List UInt8):Nat:=l.foldl (λs c=>lH s c.toNat) s
theorem Q4{n:Nat}(h:n<18446744073709551616):(UInt64.ofNat n).toNat=n:=by rw[Aee];exact Abw h
theorem Ast(s:UInt64)(bit:Nat)(hb:bit=0\/bit=1):EB s (bit:Int)=some (UInt64.ofNat ((2*s.toNat %18446744073709551616)^^^ (((s.toNat/9223372036854775808)^^^bit)*P64))):=by
 have hs:=s.toNat_lt;have ht:s.toNat/9223372036854775808=0\/s.toNat/9223372036854775808=1:=by omega
 have e1:(Bj s (2:UInt64)).toNat=2*s.toNat %18446744073709551616:=by
  rw[MS,UInt64.toNat_mul];show s.toNat*2 %_=_;rw[Aom]
 have hlt:2*s.toNat %18446744073709551616<18446744073709551616:=Aws _ (by decide);have ey:Xq (Bj s (2:UInt64)) (4823603603198064275:UInt64)=UInt64.ofNat ((2*s.toNat %18446744073709551616)^^^P64):=by
  apply UInt64.toNat_inj.1;rw[O9,UInt64.toNat_xor,e1,Q4 (As0 (n:=64) hlt (by decide))];rfl
 have en:Bj s (2:UInt64)=UInt64.ofNat (2*s.toNat %18446744073709551616):=by
  apply UInt64.toNat_inj.1;rw[e1,Q4 hlt]
 have eg:Je s (9223372036854775808:UInt64)=decide (s.toNat/9223372036854775808=1):=by
  rw[Aqj,decide_eq_decide]
  show 9223372036854775808<=s.toNat↔_;omega
 have hp:∀b:Bool,Wk s b=some (if b=true then UInt64.ofNat ((2*s.toNat %18446744073709551616)^^^P64)else UInt64.ofNat (2*s.toNat %18446744073709551616)):=by
  intro b;rw[Wk,MN,ey,en];cases b<;>rfl
 rw[EB,MX,hp,hp,eg];rcases hb with rfl|rfl<;>rcases ht with h|h<;>rw[h]<;>simp[Bb]
theorem xT(c:UInt8):∀(j q:Nat) (s:UInt64),j<=8->j<q->Kx c q s ((2^j/2:Nat):Int)=some (UInt64.ofNat (Om j (s.toNat^^^ (c.toNat %2^j*2^(64-j)))))
 |0,q+1,s,_,_=>by
  rw[Kx,Wv,Aaw (by rw[Ay];simp),ME,MV];simp[Om,Nat.mod_one]
 |j+1,q+1,s,hj,hq=>by
  have hc:=c.toNat_lt;have hs:=s.toNat_lt;have hj2:2^j<=2^7:=Ac8 (by omega) (by omega);have hpos:0<2^j:=Aww (by omega);have e1:2^(j+1)/2=2^j:=by rw[Aro];omega
  have e2:By ((2^j:Nat):Int) 2=((2^j/2:Nat):Int):=by
   generalize 2^j=K at*
   rw[NM,Auf (by omega),Cm (by omega) (by omega)];omega
  have e3:Fl (By (Ae c:Int) ((2^j:Nat):Int)) (2:Int)=((c.toNat/2^j %2:Nat):Int):=by
   have hX:=Ar5 c.toNat (2^j);rw[RD,NM,<-Int.ofNat_tdiv];generalize c.toNat/2^j=X at*
   rw[Cm (by omega) (by omega),Fl,Auo (by omega)];omega
  have hbit:c.toNat/2^j %2=0\/c.toNat/2^j %2=1:=by omega
  rw[Kx,Wv,e1,Aa1 (by rw[Ay,Aby];omega),Dk (by rw[Ao,Ayr];omega),Aa,e3,Ast s _ hbit,Aa,e2,xT c j q _ (by omega) (by omega)];congr 2;rw[Om];congr 1;have hx:c.toNat %2^(j+1)*2^(64-(j+1))=(c.toNat/2^j %2)*9223372036854775808+c.toNat %2^j*2^(63-j):=by
   have h63:(9223372036854775808:Nat)=2^j*2^(63-j):=by rw[<-Ayn,show j+(63-j)=63 by omega]
   rw[Nat.mod_pow_succ,h63,show 64-(j+1)=63-j by omega,Arr,Ayy,Avz,Nat.mul_left_comm]
  have hr:c.toNat %2^j<2^j:=Aws _ hpos;have Az9:c.toNat %2^j*2^(63-j)<9223372036854775808:=by
   have h63:(9223372036854775808:Nat)=2^j*2^(63-j):=by rw[<-Ayn,show j+(63-j)=63 by omega]
   rw[h63];exact Nat.mul_lt_mul_of_pos_right hr (Aww (by omega))
  have h64:c.toNat %2^j*2^(64-j)=2*(c.toNat %2^j*2^(63-j)):=by
   rw[show 64-j=(63-j)+1 by omega,Aro,<-Avz,Aom]
  rw[hx,h64];generalize c.toNat %2^j*2^(63-j)=R at*
  generalize c.toNat/2^j %2=b at*
  have ht:s.toNat/9223372036854775808=0\/s.toNat/9223372036854775808=1:=by omega
  have hp:((s.toNat/9223372036854775808^^^b)*P64)<18446744073709551616:=by
   rcases ht with h|h<;>rcases hbit with h2|h2<;>rw[h,h2]<;>decide
  rw[Q4 (As0 (n:=64) (Aws _ (by decide)) hp),OG,Afc,Ags,show(b*9223372036854775808+R)/9223372036854775808=b by omega,show 2*(b*9223372036854775808+R) %18446744073709551616=2*R by omega,Avh,Avh,Ay0 (2*R)]
theorem Asl(c:UInt8)(s:UInt64):WI s c=some (UInt64.ofNat (lH s.toNat c.toNat)):=by
 have h:=xT c 8 Ar s (Al1 _) (by have:=As;omega);have hc:=c.toNat_lt;rw[Abw (show c.toNat<2^8 by simpa using hc)]at h;exact h
theorem oK(b:List UInt8)(hb:b.length<4611686018427387904):∀(j i q:Nat) (s:UInt64),i+j=b.length->j<q->If b q s (i:Int)=some (UInt64.ofNat (P7 s.toNat (b.drop i)))
 |0,i,q+1,s,hi,_=>by
  rw[If,Sf,Aaw (by rw[Af,Ac];simp;omega),show i=b.length by omega,Awp];simp[EC,EW,P7]
 |j+1,i,q+1,s,hi,hq=>by
  have hlt:i<b.length:=by omega
  have hc:=b[i].toNat_lt;rw[If,Sf,Aa1 (by rw[Af,Ac];simp;omega),Cw hlt,Aa,Asl,Aa,Aj];have h:=oK b hb j (i+1) q (UInt64.ofNat (lH s.toNat b[i].toNat)) (by omega) (by omega);rw[show((i:Int)+1)=((i+1:Nat):Int) by omega,h,drop_cons hlt,Q4 (vA s.toNat_lt (by simpa using hc))];rfl
def DU(b:List UInt8):UInt64:=UInt64.ofNat (P7 0 b)
theorem xw(b:List UInt8)(hb:b.length<=100000):Zb 0 b=some (DU b):=
 oK b (by omega) b.length 0 Ar 0 (by omega) (by have:=As;omega)
theorem Acx(c:UInt64):Xq (Du c (GI.toZ (1:UInt64)).toNat) (Bj (4823603603198064275:UInt64) (Ce c (GI.toZ (63:UInt64)).toNat))=UInt64.ofNat (OG c.toNat):=by
 have hc:=c.toNat_lt;apply UInt64.toNat_inj.1;have h1:(Du c (GI.toZ (1:UInt64)).toNat).toNat=2*c.toNat %18446744073709551616:=by
  rw[show(GI.toZ (1:UInt64)).toNat=1 from rfl,ZK,Aom]
 have h2:(Bj (4823603603198064275:UInt64) (Ce c (GI.toZ (63:UInt64)).toNat)).toNat=c.toNat/9223372036854775808*P64:=by
  rw[show(GI.toZ (63:UInt64)).toNat=63 from rfl,MS,UInt64.toNat_mul,FJ]
  show 4823603603198064275*(c.toNat/9223372036854775808) %18446744073709551616=_;have h1:c.toNat/9223372036854775808=0\/c.toNat/9223372036854775808=1:=by omega
  rcases h1 with e|e<;>rw[e]<;>decide
 rw[O9,UInt64.toNat_xor,h1,h2,Q4 (ZE hc)];rfl
theorem xK(Hg:Int->List UInt64->Option (UInt64×Int))(s:UInt64)(b:List UInt8)(x:Int)(t:List UInt64):∀(j i q:Nat) (c:UInt64),i+j=8->j<q->
  Rb Hg s b x t q c (i:Int)=GP Hg s b x (UInt64.ofNat (Om j c.toNat)) t
 |0,i,q+1,c,hi,_=>by
  obtain rfl:i=8:=by omega
  rw[Rb,GY,Aaw (by rw[Af];simp),Om,UInt64.ofNat_toNat]
 |j+1,i,q+1,c,hi,hq=>by
  rw[Rb,GY,Aa1 (by rw[Af];simp;omega),Acx,Aj,show((i:Int)+1)=((i+1:Nat):Int) by omega,xK Hg s b x t j (i+1) q _ (by omega) (by omega),Q4 (ZE c.toNat_lt)];rfl
def VW(n:Nat):List UInt64:=(List.range n).map λi=>UInt64.ofNat (Om 8 (i*72057594037927936))
theorem I1(s:UInt64)(b:List UInt8):∀(j i q:Nat),i+j=256->j<q->Ni s b q (i:Int) (VW i++List.replicate j 0)=EK s b (VW 256)
 |0,i,q+1,hi,_=>by
  obtain rfl:i=256:=by omega
  rw[Ni,GD,Aaw (by rw[Af];simp)];simp
 |j+1,i,q+1,hi,hq=>by
  have hlen:(VW i++List.replicate (j+1) 0).length=i+(j+1):=by simp[VW]
  rw[Ni,GD,Aa1 (by rw[Af];simp;omega),RO];have h:=xK (Ni s b q) s b (i:Int) (VW i++List.replicate (j+1) 0) 8 0 Ar (Du (Ae (i:Int):UInt64) (GI.toZ (56:UInt64)).toNat) (by omega) (by have:=As;omega);rw[show((0:Int))=((0:Nat):Int)from rfl,h,GP,SZ,Cw (by rw[hlen];omega),Aa,Ye _ (by rw[hlen];omega),Aa,TR,jK,Aj];have e:(Du (Ae (i:Int):UInt64) (GI.toZ (56:UInt64)).toNat).toNat=i*72057594037927936:=by
   rw[ZK,CI,Q4 (by omega)]
   show i*72057594037927936 %18446744073709551616=_;omega
  rw[e,Avq,mR (by simp[VW])];have h2:=I1 s b j (i+1) q (by omega) (by omega);have h3:VW (i+1)=VW i++[UInt64.ofNat (Om 8 (i*72057594037927936))]:=by simp[VW,List.range_succ]
  rw[h3]at h2;rw[show((i:Int)+1)=((i+1:Nat):Int) by omega,<-h2];simp
theorem Ahi{i:Nat}(h:i<256):Am (VW 256) (i:Int)=some (UInt64.ofNat (Om 8 (i*72057594037927936))):=by
 rw[Cw (by simpa [VW]using h)];simp[VW]
theorem Abb(s:UInt64)(c:UInt8):Am (VW 256) (GI.toZ (Xq (Ae (Ce s (GI.toZ (56:UInt64)).toNat):UInt8) c))=some (UInt64.ofNat (Om 8 (((s.toNat/72057594037927936)^^^c.toNat)*72057594037927936))):=by
 have hs:=s.toNat_lt;have e:GI.toZ (Xq (Ae (Ce s (GI.toZ (56:UInt64)).toNat):UInt8) c)=(((s.toNat/72057594037927936)^^^c.toNat:Nat):Int):=by
  have e2:((Ae (Ce s (GI.toZ (56:UInt64)).toNat):UInt8)).toNat=s.toNat/72057594037927936:=by
   rw[bC,Anz,FJ]
   show s.toNat/72057594037927936 %256=_;omega
  rw[BF,Af4,UInt8.toNat_xor,e2]
 rw[e,Ahi];exact As0 (n:=8) (by show _<256;omega) (by simpa using c.toNat_lt)
theorem nk(s:UInt64)(c:UInt8):Xq (Du s (GI.toZ (8:UInt64)).toNat) (UInt64.ofNat (Om 8 (((s.toNat/72057594037927936)^^^c.toNat)*72057594037927936)))=UInt64.ofNat (lH s.toNat c.toNat):=by
 have hs:=s.toNat_lt;have hc:c.toNat<256:=by simpa using c.toNat_lt
 apply UInt64.toNat_inj.1;have hlt:Om 8 (((s.toNat/72057594037927936)^^^c.toNat)*72057594037927936)<18446744073709551616:=uF 8 (c56 (As0 (n:=8) (by show _<256;omega) (by simpa using c.toNat_lt)));have e:(GI.toZ (8:UInt64)).toNat=8:=rfl;rw[e,O9,UInt64.toNat_xor,ZK,Q4 hlt,Q4 (vA hs hc),ni hs hc,Aom s.toNat]
theorem xH(b:List UInt8)(s0:UInt64)(hb:b.length<4611686018427387904):∀(j i q:Nat) (s:UInt64),i+j=b.length->j<q->Qr b s0 (VW 256) q s (i:Int)=some (UInt64.ofNat (P7 s.toNat (b.drop i)),0)
 |0,i,q+1,s,hi,_=>by
  rw[Qr,FD,Aaw (by rw[Af,Ac];simp;omega),show i=b.length by omega,Awp];simp[TO,TC,TD,jI,P7]
 |j+1,i,q+1,s,hi,hq=>by
  have hlt:i<b.length:=by omega
  have hc:=b[i].toNat_lt;rw[Qr,FD,Aa1 (by rw[Af,Ac];simp;omega),Cw hlt,Aa,Abb,Aa,Aa,nk,Aj];have h:=xH b s0 hb j (i+1) q (UInt64.ofNat (lH s.toNat b[i].toNat)) (by omega) (by omega);rw[show((i:Int)+1)=((i+1:Nat):Int) by omega,h,drop_cons hlt,Q4 (vA s.toNat_lt (by simpa using hc))];rfl
theorem Aaj(b:List UInt8)(hb:b.length<=100000):aE b=some (DU b,0):=by
 have h:=I1 0 b 256 0 Ar (by omega) (by have:=As;omega);have h2:=xH b 0 (by omega) b.length 0 Ar 0 (by omega) (by have:=As;omega);have hn:bT 0 b=some (DU b,0):=by
  rw[bT,YC,Aaw (by rw[Ay,Ac];simp;omega),UK];refine Awu h ?_;rw[EK,UI,RX];exact h2
 rw[aE,hn,Aa]
theorem Aib(p:List UInt8)(hp:p.length<=64):Xv p=some (RS (DU p).toNat 8,0):=by
 rw[Xv,tZ,Aaw (by rw[Ay,Ac];simp;omega),Aaj p (by omega),Aa,Aa];simp only;have h:=ug (DU p) 8 (by omega) (by omega) (by simpa using(DU p).toNat_lt);rw[Aaw (by rw[Ao];simp)];exact congrArg (λo=>Option.bind o λx:List UInt8×Int=>some (x.1,x.2)) h
theorem T9(p:List UInt8)(hp:p.length<=64):Ph p=some (RS (DU p).toNat 8):=by
 have h:=A7 (DU p) 8 (by omega);rw[Ph,VI,xw p (by omega),Aa,Aa];exact congrArg (λo=>Option.bind o λl=>some l) h
def s8(n:Nat):Int32:=Int32.ofInt (if n<128 then(n:Int)else(n:Int)-256)
def VM(d:UInt64)(n:Nat):List Int32:=(List.range n).map λi=>s8 (d.toNat/256^i %256)
theorem YV(d:UInt64)(n:Nat):(VM d n).length=n:=by simp[VM]
theorem zQ(d:UInt64)(n:Nat):VM d (n+1)=VM d n++[s8 (d.toNat/256^n %256)]:=by simp[VM,List.range_succ]
theorem bm8(z:Nat):(z:Int).bmod Int8.size=if z %256<128 then((z %256:Nat):Int)else((z %256:Nat):Int)-256:=by
 rw[show Int8.size=256 from rfl,Int.bmod_def];split<;>split<;>omega
theorem Afl(d:UInt64):∀(j i q:Nat),i+j=8->j<q->JV d q (i:Int) (VM d i++List.replicate (16-i) 0)=some (VM d 8++List.replicate 8 0)
 |0,i,q+1,hi,_=>by
  obtain rfl:i=8:=by omega
  rw[JV,dA,Aaw (by rw[Af];simp)];rfl
 |j+1,i,q+1,hi,hq=>by
  have hlen:(VM d i++List.replicate (16-i) 0).length=16:=by simp[YV];omega
  have ih:=Afl d j (i+1) q (by omega) (by omega);have e8:Bj (8:Int) (i:Int)=((8*i:Nat):Int):=by rw[Jh];omega
  have ev:(Ae (Ae (Ce d (GI.toZ (((8*i:Nat):Int))).toNat):Int8):Int32)=s8 (d.toNat/256^i %256):=by
   have e1:(Ce d (GI.toZ (((8*i:Nat):Int))).toNat).toNat=d.toNat/256^i:=by
    rw[show(GI.toZ (((8*i:Nat):Int))).toNat=8*i from rfl,FJ,Nat.pow_mul]
   show Int32.ofInt (Int8.ofInt ((Ce d (GI.toZ (((8*i:Nat):Int))).toNat).toNat:Int)).toInt=_;rw[e1,s8,Int8.toInt_ofInt,bm8]
  rw[JV,dA,Aa1 (by rw[Af];simp;omega),e8,Dk (by rw[En];simp;omega),Aa,ev,Cw,Aa,Ye _ (by omega),Aa,Aj,show 16-i=(15-i)+1 by omega,Avq,mR (YV d i)];rw[zQ,show 16-(i+1)=15-i by omega,Aji]at ih;exact ih
theorem Alv(d:UInt64):∀(j i q:Nat) (e:UInt64),i+j=8->j<q->e.toNat=d.toNat/256^i->Kl q e (i:Int) (VM d i++List.replicate (16-i) 0)=some (VM d 8++List.replicate 8 0)
 |0,i,q+1,e,hi,_,he=>by
  obtain rfl:i=8:=by omega
  rw[Kl,BA,Aaw (by rw[Af];simp)];rfl
 |j+1,i,q+1,e,hi,hq,he=>by
  have hlen:(VM d i++List.replicate (16-i) 0).length=16:=by simp[YV];omega
  have hq2:(By e (256:UInt64)).toNat=d.toNat/256^(i+1):=by
   rw[sD,Ayp,he,Aro,<-Axe];rfl
  have ih:=Alv d j (i+1) q (By e (256:UInt64)) (by omega) (by omega) hq2;have ev:(Ae (CY e (256:UInt64)):Int32)=Int32.ofInt ((d.toNat/256^i %256:Nat):Int):=by
   show Int32.ofInt ((CY e (256:UInt64)).toNat:Int)=_;rw[yz,UInt64.toNat_mod,he];rfl
  have hz:d.toNat/256^i %256<256:=Aws _ (by omega);have et:(Int32.ofInt ((d.toNat/256^i %256:Nat):Int)).toInt=((d.toNat/256^i %256:Nat):Int):=by
   rw[Axm,Ayv (by show -(4294967296/2:Int)<= _;omega) (by show _<(4294967296+1)/2;omega)]
  have hp8:∀x:Int32,x=s8 (d.toNat/256^i %256)->AO (Kl q) e (i:Int) (VM d i++List.replicate (16-i) 0) x=some (VM d 8++List.replicate 8 0):=by
   intro x hx;rw[AO,UF,hx,Cw,Aa,Ye _ (by omega),Aa,Aj,show 16-i=(15-i)+1 by omega,Avq,mR (YV d i)];rw[zQ,show 16-(i+1)=15-i by omega,Aji]at ih;exact ih
  rw[Kl,BA,Aa1 (by rw[Af];simp;omega),ev,Ab3,et,show(127:Int32).toInt=127 from rfl];by_cases h:d.toNat/256^i %256<128
  ·rw[Aaw (by simp only[Aby];omega)];exact hp8 _ (by rw[s8,Aa1 h])
  ·rw[Aa1 (by simp only[Aby];omega)];refine hp8 _ ?_;rw[s8,Aaw h,O1,Int32.ofInt_sub];rfl
def FB(p:List UInt8):List Int32:=VM (DU p) 8++List.replicate 8 0
theorem Wh(p:List UInt8):(FB p).length=16:=by simp[FB,YV]
theorem U8(p:List UInt8)(hp:p.length<=64):Ms p=some (FB p,0):=by
 have h:=Afl (DU p) 8 0 Ar (by omega) (by have:=As;omega);have h2:ny (DU p)=some (FB p):=h;rw[Ms,Aaw (by rw[Ay,Ac];simp;omega),Aaj p (by omega),Aa];simp only;rw[Aaw (by rw[Ao];simp),h2,Aa]
theorem jU(p:List UInt8)(hp:p.length<=64):Uy p=some (FB p,0):=by
 have h:=Alv (DU p) 8 0 Ar (DU p) (by omega) (by have:=As;omega) (by simp);have h2:fM (DU p)=some (FB p):=h;rw[Uy,Aaw (by rw[Ay,Ac];simp;omega),ZT,UT,Aaw (by rw[Ay,Ac];simp;omega),xw p (by omega),Aa,Aa,Aa];simp only;rw[h2,Aa]
def u8(z:Int):UInt8:=UInt8.ofNat (z %256).toNat
theorem jv(z:Int):u8 (z %256)=u8 z:=by rw[u8,u8];congr 2;omega
def wB(bits:Int):Nat:=if bits=8 then 1 else if bits=16 then 2 else 3
theorem Alb{bits:Int}(h:Ct bits):By bits 8=(wB bits:Int):=by obtain rfl|rfl|rfl:=h<;>rfl
theorem ek(bits:Int):1<=wB bits/\wB bits<=3:=by
 unfold wB;split; · omega
 ·split<;>omega
def JW(bits:Int)(x:Int):List UInt8:=if bits=8 then [u8 (x+128)]else if bits=16 then [u8 x,u8 (x/256)]else [u8 x,u8 (x/256),u8 (x/65536)]
theorem sj(bits x:Int):(JW bits x).length<=3:=by
 unfold JW;split; · simp
 ·split<;>simp
theorem Aj1(x:Int32)(k:Nat)(hk:k<=32):(Ae (Ce x k):UInt8)=u8 (x.toInt.fdiv (2^k)):=by
 have h:=DD x;have e:Ce x k=Int32.ofInt (x.toInt.fdiv (2^k)):=by
  show Int32.ofInt (x.toInt.fdiv (2^min k 32))=_;rw[Asa hk]
 have hb: -2147483648<=x.toInt.fdiv (2^k)/\x.toInt.fdiv (2^k)<2147483648:=by
  have hpos:(0:Int)<2^k:=Int.pow_pos (by omega);rw[Ap7 _ (by omega)];constructor
  ·refine(Int.le_ediv_iff_mul_le hpos).2 ?_;have:(1:Int)<=2^k:=by omega
   have h2: -2147483648*(2^k:Int)<= -2147483648*1:=Int.mul_le_mul_of_nonpos_left (by omega) this;omega
  ·refine Int.ediv_lt_of_lt_mul hpos ?_;have:(1:Int)<=2^k:=by omega
   have h2:(2147483648:Int)*1<=2147483648*2^k:=Int.mul_le_mul_of_nonneg_left this (by omega);omega
 show UInt8.ofNat ((Ce x k).toInt %256).toNat=_;rw[e,Axm,Ayv (by show -(4294967296/2:Int)<= _;omega) (by show _<(4294967296+1)/2;omega)];rfl
section
variable (bk:Int->List UInt8->Option (List UInt8×Int)) (l:List Int32)
theorem yV{bits:Int}(h:Ct bits)(c:Int32)(x:Int)(i q:Nat)(acc:List UInt8)(hi:i<wB bits)(ha:acc.length<=100000):
  Jb bk bits l c x (q+1) (i:Int) acc=Jb bk bits l c x q ((i+1:Nat):Int) (acc++[u8 (c.toInt.fdiv (2^(8*i)))]):=by
 have hw:=ek bits;have e8:Bj (8:Int) (i:Int)=((8*i:Nat):Int):=by rw[Jh];omega
 rw[Jb,AA,Alb h,Aa1 (by rw[Af];simp;omega),e8,Dk (by rw[En];simp;omega),Aa,show(GI.toZ (((8*i:Nat):Int))).toNat=8*i from rfl,Aj1 _ _ (by omega),Cv (by simp;omega),Aa,Aj];rfl
theorem Ad6{bits:Int}(h:Ct bits)(c:Int32)(x:Int)(q:Nat)(acc:List UInt8):Jb bk bits l c x (q+1) ((wB bits:Nat):Int) acc=bk (Ad x 1) acc:=by
 rw[Jb,AA,Alb h,Aaw (by rw[Af];simp),OH,eG]
theorem Atp{bits:Int}(h:Ct bits)(c:Int32)(x:Int)(acc:List UInt8)(ha:acc.length<=90000)(hr: -(hB bits)<=c.toInt/\c.toInt<hB bits):
  Ll bk bits l x acc (if bits=8 then Ad c (128:Int32)else c)=bk (Ad x 1) (acc++JW bits c.toInt):=by
 have e:Ar=(Ar-4)+1+1+1+1:=by have:=As;omega
 have hc:=DD c;rw[Ll,NY,NT,e];have g0:=λ(c:Int32) q acc ha=>yV bk l h c x 0 q acc (by have:=ek bits;omega) ha;obtain rfl|rfl|rfl:=h
 ·have hh:hB 8=128:=rfl;rw[hh]at hr;have e1:(Ad c (128:Int32)).toInt=c.toInt+128:=by
   show(Int32.ofInt (c.toInt+(128:Int32).toInt)).toInt=_;rw[show(128:Int32).toInt=128 from rfl,Axm,Ayv (by show -(4294967296/2:Int)<= _;omega) (by show _<(4294967296+1)/2;omega)]
  have g1:=Ad6 bk l (bits:=8) (.inl rfl) (Ad c (128:Int32)) x (Ar-4+1+1);rw[Aa1 rfl,show(0:Int)=((0:Nat):Int)from rfl,g0 _ _ _ (by omega)];refine Awu (g1 _) ?_;rw[e1,JW,Aa1 rfl]
  show bk _ (acc++[u8 ((c.toInt+128).fdiv 1)])=_;rw[Int.fdiv_one]
 ·have g1:=λq acc ha=>yV bk l (bits:=16) (.inr (.inl rfl)) c x 1 q acc (by decide) ha;have g2:=Ad6 bk l (bits:=16) (.inr (.inl rfl)) c x (Ar-4+1);rw[Aaw (by decide),show(0:Int)=((0:Nat):Int)from rfl,g0 _ _ _ (by omega),g1 _ _ (by simp;omega)];refine Awu (g2 _) ?_;rw[JW,Aaw (by decide),Aa1 rfl,Aji]
  show bk _ (acc++[u8 (c.toInt.fdiv 1),u8 (c.toInt.fdiv 256)])=_;rw[Int.fdiv_one,Ap7 _ (by omega)]
 ·have g1:=λq acc ha=>yV bk l (bits:=24) (.inr (.inr rfl)) c x 1 q acc (by decide) ha;have g2:=λq acc ha=>yV bk l (bits:=24) (.inr (.inr rfl)) c x 2 q acc (by decide) ha;have g3:=Ad6 bk l (bits:=24) (.inr (.inr rfl)) c x (Ar-4);rw[Aaw (by decide),show(0:Int)=((0:Nat):Int)from rfl,g0 _ _ _ (by omega),g1 _ _ (by simp;omega),g2 _ _ (by simp;omega)];refine Awu (g3 _) ?_;rw[JW,Aaw (by decide),Aaw (by decide),Aji,Aji]
  show bk _ (acc++[u8 (c.toInt.fdiv 1),u8 (c.toInt.fdiv 256),u8 (c.toInt.fdiv 65536)])=_;rw[Int.fdiv_one,Ap7 _ (by omega),Ap7 _ (by omega)]
end
def Gl(bits:Int)(l:List Int32):List UInt8:=l.flatMap λx=>JW bits x.toInt
theorem JI(bits:Int):∀l:List Int32,(Gl bits l).length<=3*l.length
 |[]=>by simp[Gl]
 |x::l=>by
  have h1:=JI bits l;have h2:=sj bits x.toInt;simp only[Gl,List.flatMap_cons,Abz,Ars]at*
  omega
def inR(bits:Int)(l:List Int32):Prop:=∀x∈l, -(hB bits)<=x.toInt/\x.toInt<hB bits
theorem Agp{bits:Int}(h:Ct bits)(l:List Int32)(hl:l.length<=4000)(hr:inR bits l):∀(j i q:Nat),i+j=l.length->j<q->Gd bits l q (i:Int) (Gl bits (l.take i))=some (Gl bits l,0)
 |0,i,q+1,hi,_=>by
  rw[Gd,Zz,Aaw (by rw[Af,Ac];simp;omega),Awi (by omega)];rfl
 |j+1,i,q+1,hi,hq=>by
  have hlt:i<l.length:=by omega
  have ih:=Agp h l hl hr j (i+1) q (by omega) (by omega);have hlen:=JI bits (l.take i);have hx:=hr l[i] (Ar0 _);have h1:=Atp (Gd bits l q) l h l[i] (i:Int) (Gl bits (l.take i)) (by rw[Ae5]at hlen;omega) hx;rw[Gd,Zz,Aa1 (by rw[Af,Ac];simp;omega),Cw hlt,Aa];have e:(if(geq bits (8:Int))=true then Ll (Gd bits l q) bits l (i:Int) (Gl bits (l.take i)) (Ad l[i] (128:Int32))else Ll (Gd bits l q) bits l (i:Int) (Gl bits (l.take i)) l[i])=Ll (Gd bits l q) bits l (i:Int) (Gl bits (l.take i)) (if bits=8 then Ad l[i] (128:Int32)else l[i]):=by
   by_cases h8:bits=8
   ·rw[Aa1 (by rw[Bb];simpa using h8),Aa1 h8]
   ·rw[Aaw (by rw[Bb];simpa using h8),Aaw h8]
  rw[e,h1,Aj];rw[RE hlt]at ih;have e2:Gl bits (l.take i++[l[i]])=Gl bits (l.take i)++JW bits l[i].toInt:=by unfold Gl;rw[List.flatMap_append,List.flatMap_singleton]
  rw[e2]at ih;exact ih
theorem uB{bits:Int}(h:Ct bits){l:List Int32}(hl:l.length<=4000)(hc:Bn bits l=some 0):inR bits l:=by
 have hh:=qF bits;have key:∀(j i q:Nat),i+j=l.length->j<q->Bp l (hB bits) q (i:Int)=some 0->∀k,i<=k-> (hk:k<l.length)-> -(hB bits)<=l[k].toInt/\l[k].toInt<hB bits:=by
  intro j
  induction j with
  |zero=>intro i q hi hq _ k h1 h2;omega
  |succ j ih=>
   intro i q hi hq hs k h1 h2;obtain⟨q,rfl⟩:∃k,q=k+1:=⟨q-1,by omega⟩;rw[Bp,Fc,Aa1 (by rw[Af,Ac];simp;omega),Cw,Aa,Aa,Fp,Adm,Cm (by omega) (by omega),Aj,Af,En]at hs;by_cases g1:l[i].toInt<0-hB bits
   ·rw[Aa1 (by simpa using g1)]at hs;simp at hs
   ·rw[Aaw (by simpa using g1)]at hs;by_cases g2:hB bits<=l[i].toInt
    ·rw[Aa1 (by simpa using g2)]at hs;simp at hs
    ·rw[Aaw (by simpa using g2)]at hs;by_cases hk:k=i
     ·subst hk;omega
     ·exact ih (i+1) q (by omega) (by omega) hs k (by omega) h2
 rw[Bn,Jz,xU h,Aa,Aaw (by rw[Bb];simp;omega),Aaw (by rw[Ay,Ac];simp;omega)]at hc;have:=key l.length 0 Ar (by omega) (by have:=As;omega) hc;intro x hx;obtain⟨k,hk,rfl⟩:=List.getElem_of_mem hx;exact this k (by omega) hk
theorem pP{bits:Int}(h:Ct bits){l:List Int32}(hl:l.length<=4000)(hc:Bn bits l=some 0):Rj bits l=some (Gl bits l,0):=by
 have h1:=Agp h l hl (uB h hl hc) l.length 0 Ar (by omega) (by have:=As;omega);rw[Rj,UB,B5 h l hl,hc,Aa,Aaw (by rw[Ao];simp)];exact h1
theorem Ao7{bits:Int}(h:Ct bits)(x:Int32)(hr: -(hB bits)<=x.toInt/\x.toInt<hB bits):IS bits x=some (JW bits x.toInt):=by
 have hx:=DD x;have gu:∀z:Int,(Ae z:UInt8)=u8 z:=λz=>rfl;have hq:∀n:Int,0<=n->n<=20000000->By n (256:Int)=n/256/\By n (65536:Int)=n/65536:=by
  intro n h1 h2;constructor<;>(rw[NM,Auf h1,Cm (by omega) (by omega)])
 have hm:∀n:Int,0<=n->Fl n (256:Int)=n %256:=λn h1=>by rw[Fl,Auo h1]
 rw[IS,PG,Fp];obtain rfl|rfl|rfl:=h
 ·rw[Aa1 (by rw[Bb];rfl),Aj,gu,JW,Aa1 rfl]
 ·have hh:hB 16=32768:=rfl;rw[hh]at hr;have hp:∀n:Int,0<=n->n<=70000->u8 n=u8 x.toInt->u8 (n/256)=u8 (x.toInt/256)->Ly 16 n=some (JW 16 x.toInt):=by
   intro n h1 h2 h3 h4;rw[Ly,Yj,Aaw (by rw[Bb];decide),hm n h1,(hq n h1 (by omega)).1,hm _ (by omega),gu,gu,jv,jv,h3,h4,JW,Aaw (by decide),Aa1 rfl]
  rw[Aaw (by rw[Bb];decide)];by_cases hn:x.toInt<0
  ·rw[Aa1 (by rw[Af];simpa using hn),xU (.inr (.inl rfl)),Aa,hh,Jh,Aj];refine hp _ (by omega) (by omega) ?_ ?_
   ·rw[u8,u8];congr 2;omega
   ·rw[u8,u8];congr 2;omega
  ·rw[Aaw (by rw[Af];simpa using hn)];exact hp _ (by omega) (by omega) rfl rfl
 ·have hh:hB 24=8388608:=rfl;rw[hh]at hr;have hp:∀n:Int,0<=n->n<=16777215->u8 n=u8 x.toInt->u8 (n/256)=u8 (x.toInt/256)->u8 (n/65536)=u8 (x.toInt/65536)->Ly 24 n=some (JW 24 x.toInt):=by
   intro n h1 h2 h3 h4 h5;rw[Ly,Yj,Aa1 (by rw[Bb];rfl),hm n h1,(hq n h1 (by omega)).1,(hq n h1 (by omega)).2,hm _ (by omega),gu,gu,gu,jv,jv,h3,h4,h5,Cv (by simp),Aa,JW,Aaw (by decide),Aaw (by decide)];rfl
  rw[Aaw (by rw[Bb];decide)];by_cases hn:x.toInt<0
  ·rw[Aa1 (by rw[Af];simpa using hn),xU (.inr (.inr rfl)),Aa,hh,Jh,Aj];refine hp _ (by omega) (by omega) ?_ ?_ ?_
   ·rw[u8,u8];congr 2;omega
   ·rw[u8,u8];congr 2;omega
   ·rw[u8,u8];congr 2;omega
  ·rw[Aaw (by rw[Af];simpa using hn)];exact hp _ (by omega) (by omega) rfl rfl rfl
theorem Af7{bits:Int}(h:Ct bits)(l:List Int32)(hl:l.length<=4000)(hr:inR bits l):∀(j i q:Nat),i+j=l.length->j<q->Jo bits l q (i:Int) (Gl bits (l.take i))=some (Gl bits l,0)
 |0,i,q+1,hi,_=>by
  rw[Jo,Tu,Aaw (by rw[Af,Ac];simp;omega),Awi (by omega)];rfl
 |j+1,i,q+1,hi,hq=>by
  have hlt:i<l.length:=by omega
  have ih:=Af7 h l hl hr j (i+1) q (by omega) (by omega);have hlen:=JI bits (l.take i);have hol:=sj bits l[i].toInt;rw[Ae5]at hlen;have e2:Gl bits (l.take i++[l[i]])=Gl bits (l.take i)++JW bits l[i].toInt:=by unfold Gl;rw[List.flatMap_append,List.flatMap_singleton]
  rw[RE hlt,e2]at ih;rw[Jo,Tu,Aa1 (by rw[Af,Ac];simp;omega),Cw hlt,Aa,Ao7 h _ (hr l[i] (Ar0 _)),Aa,Cv,Aa,Aj];exact ih
theorem aR{bits:Int}(h:Ct bits){l:List Int32}(hl:l.length<=4000)(hc:Bn bits l=some 0):Sc bits l=some (Gl bits l,0):=by
 have h1:=Af7 h l hl (uB h hl hc) l.length 0 Ar (by omega) (by have:=As;omega);rw[Sc,HV,hc,Aa,Aaw (by rw[Ao];simp)];exact h1
def XH:List UInt8->Nat->Int×Int
 |[],n=>((n:Int),0)
 |c::r,n=>if 128<=c.toNat then(0,12)else XH r (128*n+c.toNat)
theorem Agg:∀(l:List UInt8) (n k:Nat),n<128^k->0<= (XH l n).1/\ (XH l n).1<((128^(k+l.length):Nat):Int)
 |[],n,k,h=>by simp[XH];exact_mod_cast h
 |c::r,n,k,h=>by
  rw[XH];split
  ·have:0<128^(k+(c::r).length):=Aww (by omega);exact⟨Int.le_refl _,by simp only;exact_mod_cast this⟩
  ·have:=Agg r (128*n+c.toNat) (k+1) (by rw[Aro];omega);rw[Ars,show k+(r.length+1)=k+1+r.length by omega];exact this
theorem or7(n c:Nat)(hn:n<268435456)(hc:c<128):xL (Du (n:Int) (GI.toZ (7:UInt64)).toNat) (c:Int)=((128*n+c:Nat):Int):=by
 have e:(GI.toZ (7:UInt64)).toNat=7:=rfl;have h1:Du (n:Int) 7=((2^7*n:Nat):Int):=by
  have:Du (n:Int) 7=wrap64 ((n:Int)*2^7):=rfl;rw[this,Cm (by omega) (by omega)];omega
 rw[e,h1];have h2:xL ((2^7*n:Nat):Int) (c:Int)=wrap64 ((BitVec.ofInt 64 ((2^7*n:Nat):Int)|||BitVec.ofInt 64 (c:Int)).toNat:Int):=rfl;rw[h2,BitVec.toNat_or,Awe,Awe];have h3:(((2^7*n:Nat):Int) %((2^64:Nat):Int)).toNat=2^7*n:=by omega
 have h4:((c:Int) %((2^64:Nat):Int)).toNat=c:=by omega
 rw[h3,h4,<-As6 (by simpa using hc),Cm (by omega) (by omega)]
theorem Afo(b:List UInt8)(hb:b.length=4):∀(j i q n:Nat),i+j=4->j<q->n<128^i->Mv b q (n:Int) (i:Int)=some (XH (b.drop i) n)
 |0,i,q+1,n,hi,_,_=>by
  rw[Mv,Xu,Aaw (by rw[Af,Ac];simp;omega),show b.drop i=[] by simp;omega];rfl
 |j+1,i,q+1,n,hi,hq,hn=>by
  have hlt:i<b.length:=by omega
  have hn2:n<268435456:=Ak6 hn (show 128^i<=128^4 from Ac8 (by omega) (by omega));rw[Mv,Xu,Aa1 (by rw[Af,Ac];simp;omega),Cw hlt,Aa,drop_cons hlt,XH,Ak7];by_cases hc:128<=b[i].toNat
  ·rw[Aa1 (by simp;omega),Aa1 hc]
  ·rw[Aaw (by simp;omega),Aaw hc,RD,or7 n _ hn2 (by omega),Aj];exact Afo b hb j (i+1) q _ (by omega) (by omega) (by rw[Aro];omega)
theorem Aj6(b:List UInt8)(hb:b.length=4):∀(j i q n:Nat),i+j=4->j<q->n<128^i->Jy b q (n:Int) (i:Int)=some (XH (b.drop i) n)
 |0,i,q+1,n,hi,_,_=>by
  rw[Jy,Ts,Aaw (by rw[Af];simp;omega),show b.drop i=[] by simp;omega];rfl
 |j+1,i,q+1,n,hi,hq,hn=>by
  have hlt:i<b.length:=by omega
  have hn2:n<268435456:=Ak6 hn (show 128^i<=128^4 from Ac8 (by omega) (by omega));rw[Jy,Ts,Aa1 (by rw[Af];simp;omega),Cw hlt,Aa,drop_cons hlt,XH,Amg];have h128:(128:UInt8).toNat=128:=rfl;by_cases hc:128<=b[i].toNat
  ·rw[Aa1 (by simpa using hc),Aa1 hc]
  ·have h3:=b[i].toNat_lt;rw[Aaw (by simpa using hc),Aaw hc,Aa,RD,Jh,Aj,Aj];have:=Aj6 b hb j (i+1) q (128*n+b[i].toNat) (by omega) (by omega) (by rw[Aro];omega);rw[<-this];rfl
theorem Acy(b:List UInt8)(hb:b.length=4):KF b=some (XH b 0):=by
 have h:=Afo b hb 4 0 Ar 0 (by omega) (by have:=As;omega) (by simp);rw[KF,IQ,Aaw (by rw[Ao,Ac];simp;omega),IE];exact h
theorem Ahy(b:List UInt8)(hb:b.length=4):AX b=some (XH b 0):=by
 have h:=Aj6 b hb 4 0 Ar 0 (by omega) (by have:=As;omega) (by simp);rw[AX,HN,Aaw (by rw[Ao,Ac];simp;omega),HT];exact h
theorem Adn{b:List UInt8}(hb:b.length=4):0<= (XH b 0).1/\ (XH b 0).1<268435456:=by
 have:=Agg b 0 0 (by simp);rw[hb]at this;simpa using this
theorem cT(s p:List UInt8):Lp s p=some (decide (p.length<=s.length/\s.take p.length=p)):=by
 rw[Lp];by_cases h:p.length<=s.length
 ·rw[Aa1 (by rw[En,Ac,Ac];simp;omega),show Ac p=(p.length:Int)from rfl,Da,Aa,Fy,Aa,Ajk];congr 1;rw[Agx];simp[h]
 ·rw[Aaw (by rw[En,Ac,Ac];simp;omega)];simp[h]
def ZX(b:List UInt8)(n:Int):Int×Int:=
 if 4000<n then(0,4)else if(b.length:Int)<n then(0,24)else
 if b.getD 5 0=16/\ (b.take n.toNat).drop (n-10).toNat≠ [51,68,73]++part b 3 7 then(0,12)else(n,0)
def wI(b:List UInt8)(r:Int):Int×Int:=ZX b (r+10+(if b.getD 5 0=16 then 10 else 0))
def Ya(b:List UInt8):Int×Int:=
 if ¬(3<=b.length/\b.take 3=[73,68,51])then(0,6)else if b.length<10 then(0,24)else
 if(XH (part b 6 4) 0).2≠0\/b.getD 4 0≠0\/ ¬((b.getD 5 0=0/\2<= (b.getD 3 0).toNat/\ (b.getD 3 0).toNat<=4)\/ (b.getD 5 0=16/\b.getD 3 0=4))then(0,12)else
 wI b (XH (part b 6 4) 0).1
theorem qG{b:List UInt8}{i:Nat}(h:i<b.length):Am b (i:Int)=some (b.getD i 0):=by
 rw[Cw h];simp[List.getD_eq_getElem?_getD,h]
theorem Pg{b:List UInt8}(a w:Nat)(h:a+w<=b.length:=by omega):Bf b (a:Int) ((a+w:Nat):Int)=some (part b a w):=by
 rw[BB];rfl
theorem Aqm(b:List UInt8)(r:Int)(h10:10<=b.length)(h0:0<=r)(h1:r<268435456):Xd b r=some (wI b r):=by
 have g5:Am b (5:Int)=some (b.getD 5 0):=qG (i:=5) (by omega);have key:∀n:Int,10<=n->n<268435500->Wn b n=some (ZX b n):=by
  intro n hn hn2;rw[Wn,LD,ZX];by_cases c1:4000<n
  ·rw[Aa1 (by rw[Ay];simpa using c1),Aa1 c1]
  ·rw[Aaw (by rw[Ay];simpa using c1),Aaw c1];by_cases c2:(b.length:Int)<n
   ·rw[Aa1 (by rw[Af,Ac];simpa using c2),Aa1 c2]
   ·have e3:Bf b (3:Int) (10:Int)=some (part b 3 7):=Pg 3 7;rw[Aaw (by rw[Af,Ac];simpa using c2),Aaw c2,g5,Aa];by_cases c3:b.getD 5 0=16
    ·rw[Aa1 (by rw[cU];simpa using c3),Bu,BB,Aa,e3,Aa,Cv (by rw[Ea];simp),Aa];by_cases c4:(b.take n.toNat).drop (n-10).toNat=[51,68,73]++part b 3 7
     ·rw[Aaw (by simpa using c4),Aaw (by intro h;exact h.2 c4)]
     ·rw[Aa1 (by simpa using c4),Aa1 ⟨c3,c4⟩]
    ·rw[Aaw (by rw[cU];simpa using c3),Aaw (λh=>c3 h.1)]
 rw[Xd,LW,g5,Aa,wI];by_cases c3:b.getD 5 0=16
 ·rw[Aa1 (by rw[cU];simpa using c3),Aj (by rw[Aj]<;>omega) (by rw[Aj]<;>omega),Aj,key _ (by omega) (by omega),Aa1 c3,show 10+r+10=r+10+10 by omega]
 ·rw[Aaw (by rw[cU];simpa using c3),Aj,key _ (by omega) (by omega),Aaw c3,show 10+r=r+10+0 by omega]
theorem Ajp(b:List UInt8)(hb:b.length<4611686018427387904):EM b=some (Ya b):=by
 rw[EM,LZ,Ya];by_cases h3:3<=b.length
 ·rw[Aaw (by rw[Af,Ac];simp;omega),Da,Aa];by_cases hp:b.take 3=[73,68,51]
  ·rw[Aaw (by simpa using hp),Aaw (by simp[h3,hp]),KX,KV];by_cases h10:b.length<10
   ·rw[Aa1 (by rw[Af,Ac];simp;omega),Aa1 h10]
   ·have e6:Bf b (6:Int) (10:Int)=some (part b 6 4):=Pg 6 4;have g3:Am b (3:Int)=some (b.getD 3 0):=qG (i:=3) (by omega);have g4:Am b (4:Int)=some (b.getD 4 0):=qG (i:=4) (by omega);have g5:Am b (5:Int)=some (b.getD 5 0):=qG (i:=5) (by omega);obtain⟨v1,v2⟩:=Adn (b:=part b 6 4) (Ea);rw[Aaw (by rw[Af,Ac];simp;omega),Aaw h10,e6,Aa,Ahy _ (Ea),Aa];have ht:=Aqm b (XH (part b 6 4) 0).1 (by omega) v1 v2;generalize XH (part b 6 4) 0=v at*
    obtain⟨v,e⟩:=v;simp only at ht v1 v2⊢;simp only[Aa,g3,g4,g5,ht];generalize b.getD 3 0=x at*
    generalize b.getD 4 0=y at*
    generalize b.getD 5 0=z at*
    simp only[Adv,At4,Ak7,Ao];by_cases he:e=0<;>by_cases hy:y=0<;>by_cases hz:z=0<;>by_cases hz2:z=16<;>by_cases hx:x=4<;>by_cases hx2:x.toNat<2<;>by_cases hx4:4<x.toNat<;>simp_all<;>(rw[Aaw (by omega),Aaw (by omega)])
  ·rw[Aa1 (by simpa using hp),Aa1 (by simp[hp])]
 ·rw[Aa1 (by rw[Af,Ac];simp;omega),Aa1 (by simp[h3])]
theorem Y7(b:List UInt8)(n:Int)(h10:10<=b.length)(hn:10<=n)(hn2:n<268435500):Zw b (b.getD 5 0) n=some (ZX b n):=by
 rw[Zw,fU];by_cases c1:4000<n
 ·rw[Aa1 (by rw[Ay];simpa using c1),ZX,Aa1 c1]
 ·rw[Aaw (by rw[Ay];simpa using c1)];by_cases c2:(b.length:Int)<n
  ·rw[Aa1 (by rw[Af,Ac];simpa using c2),ZX,Aaw c1,Aa1 c2]
  ·have e3:Bf b (3:Int) (10:Int)=some (part b 3 7):=Pg 3 7;rw[Aaw (by rw[Af,Ac];simpa using c2)];by_cases c3:b.getD 5 0=16
   ·have hl:((b.take n.toNat).drop (n-10).toNat).length=10:=by simp;omega
    have ht:ZX b n=if(b.take n.toNat).drop (n-10).toNat≠ [51,68,73]++part b 3 7 then(0,12)else(n,0):=by rw[ZX,Aaw c1,Aaw c2];simp only[c3,true_and]
    rw[Aa1 (by rw[cU];simpa using c3),Bu,BB,Aa,ht];generalize(b.take n.toNat).drop (n-10).toNat=f at*
    rw[Da,Aa,Dg,Aa,e3,Aa,Fy,Aa];have hf:f=f.take 3++f.drop 3:=(Ax8 3 f).symm;by_cases c4:f=[51,68,73]++part b 3 7
    ·subst c4;simp
    ·by_cases c5:f.take 3=[51,68,73]
     ·have:f.drop 3≠part b 3 7:=λh=>c4 (by rw[hf,c5,h]);simp only[Awx,Asc]at c4;simp[c4,c5,this]
     ·simp only[Awx,Asc]at c4;simp[c4,c5]
   ·rw[Aaw (by rw[cU];simpa using c3),ZX,Aaw c1,Aaw c2,Aaw (λh=>c3 h.1)]
theorem Amj(b:List UInt8)(r:Int)(h10:10<=b.length)(h0:0<=r)(h1:r<268435456):Zx b r (b.getD 5 0)=some (wI b r):=by
 rw[Zx,NH,wI];by_cases c3:b.getD 5 0=16
 ·rw[Aa1 (by rw[cU];simpa using c3),Aj (by rw[Aj]<;>omega) (by rw[Aj]<;>omega),Aj,Y7 b _ h10 (by omega) (by omega),Aa1 c3]
 ·rw[Aaw (by rw[cU];simpa using c3),Aj,Y7 b _ h10 (by omega) (by omega),Aaw c3];simp
theorem Ahm(b:List UInt8)(hb:b.length<4611686018427387904):QE b=some (Ya b):=by
 rw[QE,AG,cT,Aa];by_cases hp:3<=b.length/\b.take 3=[73,68,51]
 ·rw[Aaw (by simpa using hp)];by_cases h10:b.length<10
  ·rw[Aa1 (by rw[Af,Ac];simp;omega),Ya,Aaw (λh=>h hp),Aa1 h10]
  ·have e6:Bf b (6:Int) (10:Int)=some (part b 6 4):=Pg 6 4;have g3:Am b (3:Int)=some (b.getD 3 0):=qG (i:=3) (by omega);have g4:Am b (4:Int)=some (b.getD 4 0):=qG (i:=4) (by omega);have g5:Am b (5:Int)=some (b.getD 5 0):=qG (i:=5) (by omega);obtain⟨v1,v2⟩:=Adn (b:=part b 6 4) (Ea);have ht:=Amj b (XH (part b 6 4) 0).1 (by omega) v1 v2;rw[Aaw (by rw[Af,Ac];simp;omega),g3,Aa,g5,Aa,OD,NO,e6,Aa,Acy _ (Ea),Aa,Ya,Aaw (λh=>h hp),Aaw h10];generalize XH (part b 6 4) 0=v at*
   obtain⟨v,e⟩:=v;simp only at ht v1 v2⊢;simp only[Aa,g4,OJ,NK];generalize b.getD 3 0=x at*
   generalize b.getD 4 0=y at*
   generalize b.getD 5 0=z at*
   simp only[Adv,Atf,cU,Amg,Ao];have e2:(2:UInt8).toNat=2:=rfl;have e4:(4:UInt8).toNat=4:=rfl;by_cases he:e=0<;>by_cases hy:y=0<;>by_cases hz:z=0<;>by_cases hz2:z=16<;>by_cases hx:x=4<;>by_cases hx2:2<=x.toNat<;>by_cases hx4:x.toNat<=4<;>simp_all
 ·rw[Aa1 (by rw[Aqs,Auk];exact hp),Ya,Aa1 hp]
theorem Ajs{b:List UInt8}{n:Int}(h:Ya b=(n,0)):10<=n/\n<=b.length/\n<=4000:=by
 unfold Ya at h;split at h; · simp at h
 split at h; · simp at h
 split at h; · simp at h
 rename_i h10 _;obtain⟨v1,v2⟩:=Adn (b:=part b 6 4) (Ea);unfold wI at h;generalize hm:(XH (part b 6 4) 0).1+10+(if b.getD 5 0=16 then 10 else 0)=m at h;unfold ZX at h;split at h; · simp at h
 split at h; · simp at h
 split at h; · simp at h
 simp only[Ajg,Ay3]at h;subst h;refine⟨?_,by omega,by omega⟩;rw[<-hm];split<;>omega
def yX:List UInt8:=[65,80,69,84,65,71,69,88]
def Od(n m fl:Nat):List UInt8:=yX++RS 2000 4++RS (n+32) 4++RS m 4++RS fl 4++List.replicate 8 0
theorem WK{n:Nat}(h:n<18446744073709551616):(UInt64.ofNat n).toNat=n:=by rw[Aee,Abw h]
theorem mI(n m:Int)(fl:UInt64)(c:UInt64)(i q:Nat)(acc:List UInt8)(hi:i<6)(hc:Am ([(2000:UInt64),(Ae (Ad n (32:Int)):UInt64),(Ae m:UInt64),fl,(0:UInt64),(0:UInt64)]:List UInt64) (i:Int)=some c)(h:c.toNat<4294967296)(ha:acc.length<=1000000):
  AL n m fl (q+1) (i:Int) acc=AL n m fl q ((i+1:Nat):Int) (acc++RS c.toNat 4):=by
 have hb:=ug c 4 (by omega) (by omega) (by simpa using h);rw[AL,bI,Aa1 (by rw[Af,Ac];simp;omega),hc,Aa,Aa,show((4:Int))=((4:Nat):Int)from rfl,hb,Aa];simp only;rw[Cv (by rw[Qi];omega),Aa,Aj];rfl
theorem zP(n m:Nat)(fl:UInt64)(hn:n<=3000)(hm:m<=1000)(hf:fl.toNat<4294967296):lY (n:Int) (m:Int) fl=some (Od n m fl.toNat):=by
 have e1:(Ae (Ad (n:Int) (32:Int)):UInt64).toNat=n+32:=by rw[Aj,show(n:Int)+32=((n+32:Nat):Int) by omega,CI,WK (by omega)]
 have e2:(Ae (m:Int):UInt64).toNat=m:=by rw[CI,WK (by omega)]
 have hF:Ar=(Ar-7)+1+1+1+1+1+1+1:=by have:=As;omega
 rw[lY,oX,pD,hF];rw[show((0:Int))=((0:Nat):Int)from rfl,mI n m fl 2000 0 _ _ (by omega) rfl (by decide) (by simp),mI n m fl _ 1 _ _ (by omega) rfl (by rw[e1];omega) (by simp[Qi]),mI n m fl _ 2 _ _ (by omega) rfl (by rw[e2];omega) (by simp[Qi]),
  mI n m fl fl 3 _ _ (by omega) rfl hf (by simp[Qi]),mI n m fl 0 4 _ _ (by omega) rfl (by decide) (by simp[Qi]),mI n m fl 0 5 _ _ (by omega) rfl (by decide) (by simp[Qi]),e1,e2]
 rw[AL,bI,Aaw (by rw[Af,Ac];simp),pN,L8,Od];have z:RS (0:UInt64).toNat 4++RS (0:UInt64).toNat 4=List.replicate 8 0:=by decide
 have z2:RS (2000:UInt64).toNat 4=RS 2000 4:=rfl;rw[Aji _ (RS (0:UInt64).toNat 4),z,z2];rfl
theorem tJ(n m:Nat)(fl:UInt64)(hn:n<=3000)(hm:m<=1000)(hf:fl.toNat<4294967296):Qo (n:Int) (m:Int) fl=some (Od n m fl.toNat):=by
 have e1:(Ae (Ad (n:Int) (32:Int)):UInt64).toNat=n+32:=by rw[Aj,show(n:Int)+32=((n+32:Nat):Int) by omega,CI,WK (by omega)]
 have e2:(Ae (m:Int):UInt64).toNat=m:=by rw[CI,WK (by omega)]
 have w:∀c:UInt64,Ef c 4=some (RS c.toNat 4):=λc=>A7 c 4 (by omega);have z2:RS (2000:UInt64).toNat 4=RS 2000 4:=rfl;rw[Qo];simp only[w,e1,e2,Aa];rw[Cv (by simp[Qi]),Aa,Cv (by simp[Qi]),Aa,Cv (by simp[Qi]),Aa,Cv (by simp[Qi]),Aa,xM,Aa,Cv (by simp[Qi]),Aa,z2];rfl
theorem RA{b:List UInt8}{a w k:Nat}(h:a+w<=k):part (b.take k) a w=part b a w:=by rw[part,part,List.take_take,Asa h]
def CX(b:List UInt8):Bool:=decide (Er (part b 12 4)<32\/3032<Er (part b 12 4)\/1000<Er (part b 16 4))
theorem Akw(b:List UInt8)(h:20<=b.length):(((Bt (oT (part b 12 4)) (32:UInt64))||(Dx (oT (part b 12 4)) (3032:UInt64)))||(Dx (oT (part b 16 4)) (1000:UInt64)))=CX b:=by
 rw[yZ,VD,VD,UU (by rw[Ea];omega),UU (by rw[Ea];omega),CX];show((decide (Er (part b 12 4)<32)||decide (3032<Er (part b 12 4)))||decide (1000<Er (part b 16 4)))=_;simp[Bool.or_assoc]
theorem tY(b:List UInt8)(h:20<=b.length)(hb:CX b=false):Ak (Ae (oT (part b 12 4)):Int) (32:Int)=((Er (part b 12 4)-32:Nat):Int)/\ (Ae (oT (part b 16 4)):Int)=((Er (part b 16 4):Nat):Int)/\Er (part b 12 4)-32<=3000/\Er (part b 16 4)<=1000:=by
 simp only[CX,Auk]at hb;refine⟨?_,KH (by rw[Ea];omega),by omega,by omega⟩;rw[KH (by rw[Ea];omega),Bu];omega
theorem bJ(b:List UInt8)(fl:UInt64)(h:20<=b.length)(hl:b.length<4611686018427387904)(hf:fl.toNat<4294967296):
  QY b fl=some (if CX b=true then(0,0,false)else(((Er (part b 12 4)-32:Nat):Int),((Er (part b 16 4):Nat):Int),b==Od (Er (part b 12 4)-32) (Er (part b 16 4)) fl.toNat)):=by
 have a1:YO b 12 4=some (oT (part b 12 4),0):=S7 b 12 4 (by omega) (by omega) (by omega) hl;have a2:YO b 16 4=some (oT (part b 16 4),0):=S7 b 16 4 (by omega) (by omega) (by omega) hl;rw[QY,a1,Aa];simp only;rw[a2,Aa];simp only;rw[Akw b h];cases hb:CX b with
 |true=>rfl
 |false=>
  obtain⟨i1,i2,i3,i4⟩:=tY b h hb;rw[i1,i2,zP _ _ _ i3 i4 hf];rfl
theorem ve(b:List UInt8)(h:20<=b.length)(hl:b.length<4611686018427387904):
  Vg b=some (if CX b=true then(0,0,false)else(((Er (part b 12 4)-32:Nat):Int),((Er (part b 16 4):Nat):Int),true)):=by
 have a1:Bf b 12 16=some (part b 12 4):=Pg 12 4;have a2:Bf b 16 20=some (part b 16 4):=Pg 16 4;rw[Vg,a1,Aa,yo _ (by rw[Ea];omega),Aa,a2,Aa,yo _ (by rw[Ea];omega),Aa,Akw b h];cases hb:CX b with
 |true=>rfl
 |false=>
  obtain⟨i1,i2,i3,i4⟩:=tY b h hb;rw[i1,i2];rfl
def Jj(b:List UInt8):Int×Int:=
 if ¬(8<=b.length/\b.take 8=yX)then(0,6)else if b.length<32 then(0,24)else
 if CX b=true\/b.take 32≠Od (Er (part b 12 4)-32) (Er (part b 16 4)) 2684354560 then(0,12)else
 if b.length<Er (part b 12 4)+32 then(0,24)else
 if(b.take (Er (part b 12 4)+32)).drop (Er (part b 12 4))≠Od (Er (part b 12 4)-32) (Er (part b 16 4)) 2147483648 then(0,12)else(((Er (part b 12 4)+32:Nat):Int),0)
theorem xx(b:List UInt8):CX (b.take 32)=CX b:=by rw[CX,CX,RA (by omega),RA (by omega)]
section
variable {b:List UInt8}
theorem fa1(h:¬(8<=b.length/\b.take 8=yX)):Jj b=(0,6):=by rw[Jj,Aa1 h]
theorem fa2(h:8<=b.length/\b.take 8=yX)(h2:b.length<32):Jj b=(0,24):=by rw[Jj,Aaw (λh'=>h' h),Aa1 h2]
variable (h:8<=b.length/\b.take 8=yX) (h2:¬b.length<32)
include h h2
theorem fa3(h3:CX b=true):Jj b=(0,12):=by rw[Jj,Aaw (λh'=>h' h),Aaw h2,Aa1 (.inl h3)]
theorem fa4(h4:b.take 32≠Od (Er (part b 12 4)-32) (Er (part b 16 4)) 2684354560):Jj b=(0,12):=by rw[Jj,Aaw (λh'=>h' h),Aaw h2,Aa1 (.inr h4)]
variable (h3:CX b=false) (h4:b.take 32=Od (Er (part b 12 4)-32) (Er (part b 16 4)) 2684354560)
include h3 h4
theorem fa5(h5:b.length<Er (part b 12 4)+32):Jj b=(0,24):=by
 rw[Jj,Aaw (λh'=>h' h),Aaw h2,Aaw (λh'=>h'.elim (λe=>by rw[h3]at e;cases e) λe=>e h4),Aa1 h5]
theorem fa6(h5:¬b.length<Er (part b 12 4)+32)(h6:(b.take (Er (part b 12 4)+32)).drop (Er (part b 12 4))≠Od (Er (part b 12 4)-32) (Er (part b 16 4)) 2147483648):Jj b=(0,12):=by
 rw[Jj,Aaw (λh'=>h' h),Aaw h2,Aaw (λh'=>h'.elim (λe=>by rw[h3]at e;cases e) λe=>e h4),Aaw h5,Aa1 h6]
theorem fa7(h5:¬b.length<Er (part b 12 4)+32)(h6:(b.take (Er (part b 12 4)+32)).drop (Er (part b 12 4))=Od (Er (part b 12 4)-32) (Er (part b 16 4)) 2147483648):Jj b=(((Er (part b 12 4)+32:Nat):Int),0):=by
 rw[Jj,Aaw (λh'=>h' h),Aaw h2,Aaw (λh'=>h'.elim (λe=>by rw[h3]at e;cases e) λe=>e h4),Aaw h5,Aaw (λh'=>h' h6)]
end
theorem Ack(b:List UInt8)(hl:b.length<4611686018427387904):lW b=some (Jj b):=by
 rw[lW,cT,Aa];by_cases hp:8<=b.length/\b.take 8=yX
 ·rw[Aaw (by simpa [yX]using hp)];by_cases h32:b.length<32
  ·rw[Aa1 (by rw[Af,Ac];simp;omega),fa2 hp h32]
  ·have t:=bJ (b.take 32) 2684354560 (by simp;omega) (by simp;omega) (by decide);rw[xx,RA (by omega),RA (by omega)]at t;rw[Aaw (by rw[Af,Ac];simp;omega),Da,Aa,show(32:Int).toNat=32 from rfl,t,Aa];cases hb:CX b with
   |true=>rw[fa3 hp h32 hb];simp
   |false=>
    obtain⟨i1,i2,i3,i4⟩:=tY b (by omega) hb;have i5:32<=Er (part b 12 4):=by simp only[CX,Auk]at hb;omega
    simp only[An2,Awt,false_or];by_cases c1:b.take 32=Od (Er (part b 12 4)-32) (Er (part b 16 4)) 2684354560
    ·have c1':b.take 32=Od (Er (part b 12 4)-32) (Er (part b 16 4)) (2684354560:UInt64).toNat:=c1;rw[Aaw (by simpa using c1'),Aj];have e1:((Er (part b 12 4)-32:Nat):Int)+64=((Er (part b 12 4)+32:Nat):Int):=by omega
     rw[e1];by_cases c2:b.length<Er (part b 12 4)+32
     ·rw[Aa1 (by rw[Af,Ac];simp;omega),fa5 hp h32 hb c1 c2]
     ·rw[Aaw (by rw[Af,Ac];simp;omega),Bu,BB,Aa,zP _ _ _ i3 i4 (by decide),Aa,Fy,Aa];rw[show(((Er (part b 12 4)+32:Nat):Int)).toNat=Er (part b 12 4)+32 by omega,show(((Er (part b 12 4)+32:Nat):Int)-32).toNat=Er (part b 12 4) by omega];by_cases c3:(b.take (Er (part b 12 4)+32)).drop (Er (part b 12 4))=Od (Er (part b 12 4)-32) (Er (part b 16 4)) 2147483648
      ·have c3':(b.take (Er (part b 12 4)+32)).drop (Er (part b 12 4))=Od (Er (part b 12 4)-32) (Er (part b 16 4)) (2147483648:UInt64).toNat:=c3;rw[Aaw (by simpa using c3'),fa7 hp h32 hb c1 c2 c3]
      ·have c3':¬(b.take (Er (part b 12 4)+32)).drop (Er (part b 12 4))=Od (Er (part b 12 4)-32) (Er (part b 16 4)) (2147483648:UInt64).toNat:=c3;rw[Aa1 (by simpa using c3'),fa6 hp h32 hb c1 c2 c3]
    ·have c1':¬b.take 32=Od (Er (part b 12 4)-32) (Er (part b 16 4)) (2684354560:UInt64).toNat:=c1;rw[Aa1 (by simpa using c1'),fa4 hp h32 c1]
 ·rw[Aa1 (by rw[Aqs,Auk];exact hp),fa1 hp]
theorem Ai7(b:List UInt8)(hl:b.length<4611686018427387904):AU b=some (Jj b):=by
 rw[AU,HD];by_cases h8:8<=b.length
 ·rw[Aaw (by rw[Af,Ac];simp;omega),Da,Aa,show(8:Int).toNat=8 from rfl];by_cases ha:b.take 8=yX
  ·have hp:=And.intro h8 ha;rw[Aaw (by simpa [yX]using ha),HF,HX];by_cases h32:b.length<32
   ·rw[Aa1 (by rw[Af,Ac];simp;omega),fa2 hp h32]
   ·have t:=ve (b.take 32) (by simp;omega) (by simp;omega);rw[xx,RA (by omega),RA (by omega)]at t;rw[Aaw (by rw[Af,Ac];simp;omega),Da,Aa,show(32:Int).toNat=32 from rfl,t,Aa];cases hb:CX b with
    |true=>rw[fa3 hp h32 hb];simp
    |false=>
     obtain⟨i1,i2,i3,i4⟩:=tY b (by omega) hb;have i5:32<=Er (part b 12 4):=by simp only[CX,Auk]at hb;omega
     simp only[An2,Awt,false_or,Aa,Ayh];rw[Us,tJ _ _ _ i3 i4 (by decide),Aa,Aa];by_cases c1:b.take 32=Od (Er (part b 12 4)-32) (Er (part b 16 4)) 2684354560
     ·have c1':b.take 32=Od (Er (part b 12 4)-32) (Er (part b 16 4)) (2684354560:UInt64).toNat:=c1;rw[Aaw (by simpa using c1'),IA,HS,Aj];have e1:64+((Er (part b 12 4)-32:Nat):Int)=((Er (part b 12 4)+32:Nat):Int):=by omega
      rw[e1];by_cases c2:b.length<Er (part b 12 4)+32
      ·rw[Aa1 (by rw[Af,Ac];simp;omega),fa5 hp h32 hb c1 c2]
      ·rw[Aaw (by rw[Af,Ac];simp;omega),Bu,BB,Aa,Lj,Aa1 rfl,tJ _ _ _ i3 i4 (by decide),Aa,Aa];rw[show(((Er (part b 12 4)+32:Nat):Int)).toNat=Er (part b 12 4)+32 by omega,show(((Er (part b 12 4)+32:Nat):Int)-32).toNat=Er (part b 12 4) by omega];by_cases c3:(b.take (Er (part b 12 4)+32)).drop (Er (part b 12 4))=Od (Er (part b 12 4)-32) (Er (part b 16 4)) 2147483648
       ·have c3':(b.take (Er (part b 12 4)+32)).drop (Er (part b 12 4))=Od (Er (part b 12 4)-32) (Er (part b 16 4)) (2147483648:UInt64).toNat:=c3;rw[Aaw (by simpa using c3'),fa7 hp h32 hb c1 c2 c3]
       ·have c3':¬(b.take (Er (part b 12 4)+32)).drop (Er (part b 12 4))=Od (Er (part b 12 4)-32) (Er (part b 16 4)) (2147483648:UInt64).toNat:=c3;rw[Aa1 (by simpa using c3'),fa6 hp h32 hb c1 c2 c3]
     ·have c1':¬b.take 32=Od (Er (part b 12 4)-32) (Er (part b 16 4)) (2684354560:UInt64).toNat:=c1;rw[Aa1 (by simpa using c1'),fa4 hp h32 c1]
  ·rw[Aa1 (by simpa [yX]using ha),fa1 (λh=>ha h.2)]
 ·rw[Aa1 (by rw[Af,Ac];simp;omega),fa1 (λh=>h8 h.1)]
theorem Ahd{b:List UInt8}{n:Int}(h:Jj b=(n,0)):64<=n/\n<=b.length:=by
 unfold Jj at h;split at h; · simp at h
 split at h; · simp at h
 split at h; · simp at h
 rename_i hb;split at h; · simp at h
 split at h; · simp at h
 simp only[Ajg,Ay3]at h;have hb':¬CX b=true:=λe=>hb (.inl e);simp only[CX,Aby]at hb';omega
def Ck(b:List UInt8):Int×Int:=if(Ya b).2≠6 then Ya b else Jj b
theorem size_eq(b:List UInt8)(hl:b.length<4611686018427387904):Vx b=some (Ck b):=by
 rw[Vx,Ahm b hl,Aa,Ack b hl];by_cases h:(Ya b).2=6
 ·simp[Ck,h,Ao]
 ·simp[Ck,h,Ao]
theorem lS{b:List UInt8}{n:Int}(h:Ck b=(n,0)):10<=n/\n<=b.length:=by
 unfold Ck at h;split at h
 ·have:=Ajs h;omega
 ·have:=Ahd h;omega
def Cb(b:List UInt8):Nat->Nat->List Int×Int
 |0,_=>([],6)
 |j+1,p=>if(Ck (b.drop p)).2=6 then([],0)else if(Ck (b.drop p)).2≠0 then([],(Ck (b.drop p)).2)else
  if 4000<(p:Int)+(Ck (b.drop p)).1 then([],4)else
  if(Cb b j (p+(Ck (b.drop p)).1.toNat)).2=0 then((Ck (b.drop p)).1::(Cb b j (p+(Ck (b.drop p)).1.toNat)).1,0)else([],(Cb b j (p+(Ck (b.drop p)).1.toNat)).2)
theorem mH(b:List UInt8):∀(j p:Nat),p<=b.length->p<=4000-> (Cb b j p).2=0-> (∀x∈(Cb b j p).1,10<=x)/\ (p:Int)+(Cb b j p).1.sum<=b.length/\ (p:Int)+(Cb b j p).1.sum<=4000
 |0,p,_,_,h=>by simp[Cb]at h
 |j+1,p,hp,hq,h=>by
  rw[Cb]at h⊢;split at h
  ·rename_i h6;rw[Aa1 h6];simp;omega
  ·rename_i h6;split at h
   ·rename_i h0;exact absurd h h0
   ·rename_i h0;rw[Aaw h6,Aaw h0];have hz:Ck (b.drop p)=((Ck (b.drop p)).1,0):=by rw[Prod.ext_iff];exact⟨rfl,Classical.not_not.1 h0⟩
    have hs:=lS hz;rw[Anr]at hs;split at h
    ·simp at h
    ·rename_i h4;rw[Aaw h4];split at h
     ·rename_i h00;rw[Aa1 h00];obtain⟨i1,i2,i3⟩:=mH b j _ (by omega) (by omega) h00;refine⟨λx hx=>?_,?_,?_⟩
      ·rcases List.mem_cons.1 hx with rfl|hx
       ·exact hs.1
       ·exact i1 x hx
      ·simp only[Au6];omega
      ·simp only[Au6];omega
     ·rename_i h00;exact absurd h h00
def Q7(b:List UInt8)(j p:Nat):Int×Int:=if(Cb b j p).2=0 then((p:Int)+(Cb b j p).1.sum,0)else(0,(Cb b j p).2)
theorem N3(b:List UInt8)(hl:b.length<4611686018427387904):∀(j p q:Nat),p<=b.length->p<=4000->b.length-p<j->j<=q->Tp b q (p:Int)=some (Q7 b j p)
 |0,p,q,_,_,h,_=>by omega
 |j+1,p,q,hp,hp4,hj,hq=>by
  obtain⟨q,rfl⟩:∃k,q=k+1:=⟨q-1,by omega⟩;rw[Tp,Dg,Aa,Ajk,size_eq _ (by simp;omega),Aa,Bb,Bb,Ao,Q7];by_cases h6:(Ck (b.drop p)).2=6
  ·rw[Aa1 (by simpa using h6)];have:Cb b (j+1) p=([],0):=by rw[Cb,Aa1 h6]
   rw[this];simp
  ·rw[Aaw (by simpa using h6)];by_cases h0:(Ck (b.drop p)).2=0
   ·have hz:Ck (b.drop p)=((Ck (b.drop p)).1,0):=by rw[Prod.ext_iff];exact⟨rfl,h0⟩
    have hs:=lS hz;rw[Anr]at hs;rw[Aj,Ay];by_cases h4:4000<(p:Int)+(Ck (b.drop p)).1
    ·rw[Aa1 (by simp[h0];omega)];have:Cb b (j+1) p=([],4):=by rw[Cb,Aaw h6,Aaw (λh=>h h0),Aa1 h4]
     rw[this];simp
    ·rw[Aaw (by simp[h0];omega),Aaw (by simpa using h0)];have ih:=N3 b hl j (p+(Ck (b.drop p)).1.toNat) q (by omega) (by omega) (by omega) (by omega);rw[show(p:Int)+(Ck (b.drop p)).1=((p+(Ck (b.drop p)).1.toNat:Nat):Int) by omega,ih,Q7];have:Cb b (j+1) p=if(Cb b j (p+(Ck (b.drop p)).1.toNat)).2=0 then((Ck (b.drop p)).1::(Cb b j (p+(Ck (b.drop p)).1.toNat)).1,0)else([],(Cb b j (p+(Ck (b.drop p)).1.toNat)).2):=by
      rw[Cb,Aaw h6,Aaw (λh=>h h0),Aaw h4]
     rw[this];by_cases hr:(Cb b j (p+(Ck (b.drop p)).1.toNat)).2=0
     ·simp only[hr,Ay2,Au6];congr 2;omega
     ·simp only[hr,Awt]
   ·rw[Aaw (by simp[h0]),Aa1 (by simpa using h0)];have:Cb b (j+1) p=([],(Ck (b.drop p)).2):=by rw[Cb,Aaw h6,Aa1 h0]
    rw[this];simp[h0]
def Akr(b:List UInt8)(j p:Nat)(xs:List Int):List Int×Int:=if(Cb b j p).2=0 then(xs++(Cb b j p).1,0)else([],(Cb b j p).2)
theorem Ana(bk:Int->List Int->Option (List Int×Int))(b:List UInt8)(p:Nat)(hp:p<=b.length)(xs:List Int)(hx:xs.length<=4000)(hl:b.length<4611686018427387904):Uc (Nt bk b) b (p:Int) xs=Nt bk b (p:Int) xs (Ck (b.drop p)).1 (Ck (b.drop p)).2:=by
 have hf:=Ai7 (b.drop p) (by simp;omega);rw[Uc,Dg,Aa,Ajk,Ajp _ (by simp;omega),Aa];by_cases h:(Ya (b.drop p)).2=6
 ·simp[Ck,h,Bb,hf]
 ·simp[Ck,h,Bb]
theorem X5(b:List UInt8)(hl:b.length<4611686018427387904):∀(j p q:Nat) (xs:List Int),p<=b.length->p<=4000->b.length-p<j->j<=q->xs.length<=p->Nr b q (p:Int) xs=some (Akr b j p xs)
 |0,p,q,_,_,_,h,_,_=>by omega
 |j+1,p,q,xs,hp,hp4,hj,hq,hx=>by
  obtain⟨q,rfl⟩:∃k,q=k+1:=⟨q-1,by omega⟩;rw[Nr,Ana _ b p hp xs (by omega) hl,Nt,HE,Bb,Ao,Akr];by_cases h6:(Ck (b.drop p)).2=6
  ·rw[Aa1 (by simpa using h6)];have:Cb b (j+1) p=([],0):=by rw[Cb,Aa1 h6]
   rw[this];simp
  ·rw[Aaw (by simpa using h6)];by_cases h0:(Ck (b.drop p)).2=0
   ·have hz:Ck (b.drop p)=((Ck (b.drop p)).1,0):=by rw[Prod.ext_iff];exact⟨rfl,h0⟩
    have hs:=lS hz;rw[Anr]at hs;rw[Aaw (by simpa using h0),Aj,Ay];by_cases h4:4000<(p:Int)+(Ck (b.drop p)).1
    ·rw[Aa1 (by simp;omega)];have:Cb b (j+1) p=([],4):=by rw[Cb,Aaw h6,Aaw (λh=>h h0),Aa1 h4]
     rw[this];simp
    ·rw[Aaw (by simp;omega),Cv (by simp;omega),Aa];have ih:=X5 b hl j (p+(Ck (b.drop p)).1.toNat) q (xs++[(Ck (b.drop p)).1]) (by omega) (by omega) (by omega) (by omega) (by simp;omega);rw[show(p:Int)+(Ck (b.drop p)).1=((p+(Ck (b.drop p)).1.toNat:Nat):Int) by omega,ih,Akr];have:Cb b (j+1) p=if(Cb b j (p+(Ck (b.drop p)).1.toNat)).2=0 then((Ck (b.drop p)).1::(Cb b j (p+(Ck (b.drop p)).1.toNat)).1,0)else([],(Cb b j (p+(Ck (b.drop p)).1.toNat)).2):=by
      rw[Cb,Aaw h6,Aaw (λh=>h h0),Aaw h4]
     rw[this];by_cases hr:(Cb b j (p+(Ck (b.drop p)).1.toNat)).2=0
     ·simp only[hr,Ay2];simp
     ·simp only[hr,Awt]
   ·rw[Aa1 (by simpa using h0)];have:Cb b (j+1) p=([],(Ck (b.drop p)).2):=by rw[Cb,Aaw h6,Aa1 h0]
    rw[this];simp[h0]
theorem yY:∀{l:List Int},(∀x∈l,10<=x)->0<=l.sum/\ (l.length:Int)<=l.sum
 |[],_=>by simp
 |x::l,h=>by
  have h1:=h x Av1;have h2:=yY (l:=l) λy hy=>h y (Atx _ hy);simp only[Au6,Ars];omega
theorem C1(r:Int)(l:List Int)(hl:l.length<=4000)(hx:∀x∈l,10<=x):∀(j i q:Nat) (n:Int),i+j=l.length->j<q->0<=n->n+(l.drop i).sum<=4000->Jq r l q n (i:Int)=some (n+(l.drop i).sum,r)
 |0,i,q+1,n,hi,_,_,_=>by
  rw[Jq,Tx,Aaw (by rw[Af,Ac];simp;omega),show i=l.length by omega,Awp];simp[HK,HW]
 |j+1,i,q+1,n,hi,hq,hn,hs=>by
  have hlt:i<l.length:=by omega
  rw[drop_cons hlt,Au6]at hs⊢;have h1:=hx l[i] (Ar0 hlt);have h2:=yY (l:=l.drop (i+1)) λy hy=>hx y (List.mem_of_mem_drop hy);rw[Jq,Tx,Aa1 (by rw[Af,Ac];simp;omega),Cw hlt,Aa,Aa,Aj,Aj];have ih:=C1 r l hl hx j (i+1) q (n+l[i]) (by omega) (by omega) (by omega) (by omega);rw[show((i:Int)+1)=((i+1:Nat):Int) by omega,ih];congr 2;omega
def Di(b:List UInt8):Int×Int:=Q7 b (b.length+1) 0
theorem SW(b:List UInt8)(hl:b.length<4611686018427387904):Jd b=some (Di b):=by
 have:=N3 b hl (b.length+1) 0 Ar (by omega) (by omega) (by omega) (by have:=As;omega);exact this
theorem sU(b:List UInt8)(hl:b.length<4611686018427387904):Nl b=some (Di b):=by
 have h:=X5 b hl (b.length+1) 0 Ar [] (by omega) (by omega) (by omega) (by have:=As;omega) (by simp);have h':TL b=some (Akr b (b.length+1) 0 []):=h;rw[Nl,HG,h',Aa,Di,Q7,Akr];have ho:=mH b (b.length+1) 0 (by omega) (by omega);by_cases h0:(Cb b (b.length+1) 0).2=0
 ·obtain⟨i1,i2,i3⟩:=ho h0;have hp:=yY i1;simp only[h0,Ay2,Asc];have:=C1 0 (Cb b (b.length+1) 0).1 (by omega) i1 (Cb b (b.length+1) 0).1.length 0 Ar 0 (by omega) (by have:=As;omega) (by omega) (by simpa using i3);simpa [Tt]using this
 ·simp only[h0,Awt];have:=C1 (Cb b (b.length+1) 0).2 [] (by simp) (by simp) 0 0 Ar 0 (by simp) (by have:=As;omega) (by omega) (by simp);simpa [Tt]using this
theorem aH{b:List UInt8}(h:(Di b).2=0):0<= (Di b).1/\ (Di b).1<=b.length/\ (Di b).1<=4000:=by
 unfold Di Q7 at h⊢;split at h
 ·rename_i h0;rw[Aa1 h0];obtain⟨i1,i2,i3⟩:=mH b (b.length+1) 0 (by omega) (by omega) h0;have hp:=yY i1;exact⟨by simp;omega,i2,i3⟩
 ·rename_i h0;exact absurd h h0
def Ba(r:Nat):Nat:=max 1 (256*r/245)
theorem Tl(r:Nat):1<=Ba r:=Nat.le_max_left _ _
theorem G9{r:Nat}(h:r<=1048576):Ba r<=1100000:=by unfold Ba;omega
theorem uw{r:Nat}(h:r<=1048576):nJ (1:Int) (By (Bj (256:Int) (r:Int)) (245:Int))=(Ba r:Int):=by
 rw[Jh,NM,Auf (by omega),Cm (by omega) (by omega),Adg,Ba];omega
def Aq(g n:Nat):List Int:=List.replicate ((n-1)/g) (g:Int)++[((n-(n-1)/g*g:Nat):Int)]
theorem wF(g n:Nat):(Aq g n).length=(n-1)/g+1:=by simp[Aq]
theorem Q6{g n:Nat}(h:n<=g)(h1:1<=n):Aq g n=[(n:Int)]:=by
 rw[Aq,Avr (by omega)];simp
theorem qz{g n:Nat}(hg:1<=g)(h:g<n):Aq g n=(g:Int)::Aq g (n-g):=by
 have e:(n-1)/g=(n-g-1)/g+1:=by rw[<-Nat.add_div_right _ (by omega)];congr 1;omega
 rw[Aq,Aq,e,Avq,Awx];congr 4;have:=Awq (n-g-1) g;rw[Arr,Nat.one_mul];omega
theorem rX{g n:Nat}(hg:1<=g)(h1:1<=n):(n+g-1)/g=(n-1)/g+1:=by
 rw[<-Nat.add_div_right _ (by omega)];congr 1;omega
theorem S5{r:Nat}(h1:1<=r)(h:r<=1048576):Rm (r:Int)=some ((Ba r:Int),0):=by
 rw[Rm,Aaw (by simp[Af,Ay];omega),uw h]
theorem Ak8{r:Nat}(h:r<=1048576):Ux (r:Int)=some (Ba r:Int):=by rw[Ux,uw h]
theorem J0{r n:Nat}(h1:1<=r)(h:r<=1048576)(n1:1<=n)(n2:n<=4000):Tq (r:Int) (n:Int)=some (if 1000<(n-1)/Ba r+1 then(0,4)else((((n-1)/Ba r+1:Nat):Int),0)):=by
 have hp:=Tl r;have hl:=G9 h;have e:By (Ak (Ad (n:Int) (Ba r:Int)) (1:Int)) (Ba r:Int)=(((n-1)/Ba r+1:Nat):Int):=by
  have:(n+Ba r-1)/Ba r<=n+Ba r-1:=Ar5 _ _;rw[Aj,Bu,NM,Auf (by omega),show(n:Int)+(Ba r:Int)-1=((n+Ba r-1:Nat):Int) by omega,<-Int.natCast_ediv,rX hp n1];rw[rX hp n1]at this;generalize(n-1)/Ba r=k at*
  exact Cm (by omega) (by omega)
 rw[Tq,S5 h1 h,Aa];simp only;rw[Aaw (by rw[Ao];simp),Aaw (by simp[Af,Ay];omega),Dk (by rw[Ao];simp;omega),Aa,e];by_cases hk:1000<(n-1)/Ba r+1
 ·rw[Aa1 (by rw[Ay];simp;omega),Aa1 hk]
 ·rw[Aaw (by rw[Ay];simp;omega),Aaw hk]
theorem K4{r:Nat}(h:r<=1048576):∀(j n q:Nat) (acc:List Int),n<=4000->n<=j->j<q->acc.length+n<=10000->Fa (r:Int) q (n:Int) acc=some (acc++(if n=0 then []else Aq (Ba r) n))
 |0,n,q+1,acc,hn,hj,hq,ha=>by
  obtain rfl:n=0:=by omega
  rw[Fa,Jp,Aaw (by rw[Ay];simp)];simp[Nu,Ny]
 |j+1,n,q+1,acc,hn,hj,hq,ha=>by
  have hp:=Tl r;have hl:=G9 h;by_cases h0:n=0
  ·subst h0;rw[Fa,Jp,Aaw (by rw[Ay];simp)];simp[Nu,Ny]
  ·rw[Fa,Jp,Aa1 (by rw[Ay];simp;omega),Ak8 h,Aa,Cv (by simp;omega),Aa,Aa,Bu,XZ];by_cases hs:n<=Ba r
   ·rw[show min (n:Int) (Ba r:Int)=(n:Int) by omega,Aaw h0,Q6 hs (by omega)];have hz:∃k,q=k+1:=⟨q-1,by omega⟩;obtain⟨q,rfl⟩:=hz;rw[Fa,Jp,Aaw (by rw[Ay];simp;omega)];simp[Nu,Ny]
   ·rw[show min (n:Int) (Ba r:Int)=(Ba r:Int) by omega,show(n:Int)-(Ba r:Int)=((n-Ba r:Nat):Int) by omega,K4 h j (n-Ba r) q _ (by omega) (by omega) (by omega) (by simp;omega),Aaw (by omega),Aaw h0,qz hp (show Ba r<n by omega)];simp
theorem sW{r n:Nat}(h:r<=1048576)(n1:1<=n)(n2:n<=4000):Kj (r:Int) (n:Int)=some (Aq (Ba r) n):=by
 have:=K4 h n n Ar [] n2 (Al1 _) (by have:=As;omega) (by simp;omega);rw[Kj,HI,HR,this,Aaw (by omega)];rfl
theorem mul_one(m:Nat)(h:m<=100000):KD (1:UInt64) (UInt64.ofNat m)=some (0,UInt64.ofNat m):=by
 have y1:(UInt64.ofNat m).toNat=m:=WK (by omega);have s1:Ce (1:UInt64) (GI.toZ (32:UInt64)).toNat=0:=by decide
 have s2:Ce (UInt64.ofNat m) (GI.toZ (32:UInt64)).toNat=0:=by
  apply UInt64.toNat_inj.1;rw[FJ,y1];exact Avr (Avg h (by decide))
 have s0:Ce (0:UInt64) (GI.toZ (32:UInt64)).toNat=0:=by decide
 have a1:Eb (1:UInt64) (4294967295:UInt64)=1:=by decide
 have a0:Eb (0:UInt64) (4294967295:UInt64)=0:=by decide
 have a2:Eb (UInt64.ofNat m) (4294967295:UInt64)=UInt64.ofNat m:=by
  apply UInt64.toNat_inj.1;rw[rT,Ayw,y1]
  show m&&& (2^32-1)=m;rw[Axz,Abw (by omega)]
 have m1:∀x:UInt64,Bj 1 x=x:=λx=>by rw[MS,UInt64.one_mul]
 have m0:∀x:UInt64,Bj 0 x=0:=λx=>by rw[MS,UInt64.zero_mul]
 have p0:∀x:UInt64,Ad 0 x=x:=λx=>by rw[LR,UInt64.zero_add]
 have p1:∀x:UInt64,Ad x 0=x:=λx=>by rw[LR,UInt64.add_zero]
 rw[KD,NJ];simp only[s1,s2,a1,a2,m1,m0,p0,p1,s0,a0,Aa]
theorem xC(v:Int)(m:Nat)(hm:m<=100000):∀(j n q:Nat),1<=n->n<=m->m-n<=j->j<q->Ev q (n:Int) (List.replicate n v++List.replicate (m-n) 0)=some (List.replicate m v)
 |j,n,q+1,hn,hnm,hj,hq=>by
  have hlen:Ac (List.replicate n v++List.replicate (m-n) 0)=(m:Int):=by simp[Ac];omega
  rw[Ev,Ha,hlen];by_cases h:n<m
  ·obtain⟨j,rfl⟩:∃k,j=k+1:=⟨j-1,by omega⟩;rw[Aa1 (by rw[Af];simp;omega)];have v1:nC (m:Int) (n:Int) (m:Int)=some ():=by rw[nC,Dk];simp;omega
   have v2:nC (m:Int) (0:Int) (n:Int)=some ():=by rw[nC,Dk];simp;omega
   have e1:XM (List.replicate n v++List.replicate (m-n) 0) (0:Int) ((n:Int)-0)=List.replicate n v:=by
    simp[XM]
   rw[v1,Aa,v2,Aa,e1];have e2:RN ((m:Int)-(n:Int)) (List.replicate n v).length=((min n (m-n):Nat):Int):=by
    rw[RN,Axw];split<;>omega
   have e3:Ud (List.replicate n v++List.replicate (m-n) 0) (n:Int) ((m:Int)-(n:Int)) (List.replicate n v)=List.replicate (n+min n (m-n)) v++List.replicate (m-(n+min n (m-n))) 0:=by
    have t1:((m:Int)-(n:Int)).toNat=m-n:=by omega
    have t2:(List.replicate n v++List.replicate (m-n) (0:Int)).take n=List.replicate n v:=by simp
    rw[Ud,t1,Ajk,t2,List.take_replicate,Axw,<-Aji,List.replicate_append_replicate,List.drop_append,Axw,Nat.min_comm (m-n) n];simp only[List.drop_replicate];rw[show n-(n+min n (m-n))=0 by omega,List.replicate_zero,Asc,show m-n-(n+min n (m-n)-n)=m-(n+min n (m-n)) by omega]
   rw[e2,e3,Aj,show(n:Int)+((min n (m-n):Nat):Int)=((n+min n (m-n):Nat):Int) by omega];exact xC v m hm j (n+min n (m-n)) q (by omega) (by omega) (by omega) (by omega)
  ·rw[Aaw (by rw[Af];simp;omega)];obtain rfl:n=m:=by omega
   simp[Jm,Oi]
theorem Aha(v:Int)(m:Nat)(hm:m<=100000):Nz [v] (m:Int)=some (List.replicate m v):=by
 have y1:(UInt64.ofNat m).toNat=m:=WK (by omega);have c1:(Ae (Ac [v]):UInt64)=1:=by rfl
 have c2:(Ae (m:Int):UInt64)=UInt64.ofNat m:=CI m;have c3:(Ae (UInt64.ofNat m):Int)=(m:Int):=by rw[tX (by omega),y1]
 rw[Nz,Pr,Aaw (by rw[Af];simp),Pz,Po,c1,c2,mul_one m hm,Aa];simp only;rw[Aaw (by rw[VD,VD,y1];simp;show m<=9223372036854775807;omega),Pk,Pn,c3,xM,Aa,Dk (by rw[Bb];simp),Aa,Ps,Ajk];by_cases h0:m=0
 ·subst h0;have hF:Ar=(Ar-1)+1:=by have:=As;omega
  rw[hF,Ev,Ha];simp[Ac,oO,RN,Af,Jm,Oi]
 ·have:=xC v m hm m 1 Ar (by omega) (by omega) (by omega) (by have:=As;omega);have e1:RN (Ac (List.replicate m (0:Int))) [v].length=((1:Nat):Int):=by simp[RN,Ac];omega
  have e2:oO (List.replicate m (0:Int)) [v]=List.replicate 1 v++List.replicate (m-1) 0:=by
   obtain⟨k,rfl⟩:∃k,m=k+1:=⟨m-1,by omega⟩;simp[oO]
  rw[e1,e2,this]
theorem Ag6(l m:List Int)(h:l.length+m.length<=1000000):Nx [l,m]=some (l++m):=by
 have hF:Ar=(Ar-3)+1+1+1:=by have:=As;omega
 rw[Nx,Qb,Qa];have g0:Am [l,m] (0:Int)=some l:=rfl;have g1:Am [l,m] (1:Int)=some m:=rfl;have l2:Ac [l,m]=2:=rfl;have h3:Jn [l,m] []=some (l++m):=by
  rw[Jn,Oc,Og,hF,Eh,Gm,l2,Aa1 (by decide),g0,Aa,Cv (by simp;omega),Aa,Asc,show Ad (0:Int) 1=1 by decide,
   Eh,Gm,l2,Aa1 (by decide),g1,Aa,Cv,Aa,show Ad (1:Int) 1=2 by decide,Eh,Gm,l2,Aaw (by decide)]
  rfl
 rw[hF,Et,Gy,l2,Aa1 (by decide),g0,Aa,Aj (by unfold Ac;omega) (by unfold Ac;omega),Aaw (by rw[Af,Ac];simp),show Ad (0:Int) 1=1 by decide,
  Et,Gy,l2,Aa1 (by decide),g1,Aa,Aj (by unfold Ac;omega) (by unfold Ac;omega),Aaw (by rw[Af,Ac,Ac];simp;omega),show Ad (1:Int) 1=2 by decide,
  Et,Gy,l2,Aaw (by decide),Oa,Oh,Aaw (by rw[Af,Ac,Ac];simp;omega),Oe,Ok]
 have z:Ak (0:Int) 0=0:=by decide
 have n0:(0:Int)+Ac l+Ac m=((l.length+m.length:Nat):Int):=by simp[Ac]
 rw[z,n0,Bu,Int.sub_zero];by_cases hp:0<l.length+m.length
 ·rw[Aa1 (by rw[Ay];simp;omega),show nC (0:Int) 0 0=some ()from rfl,Aa,xM,Aa,Cv (by simp;omega),Aa];rw[show nC (Ac ([]++List.replicate ((l.length+m.length:Nat):Int).toNat (0:Int))) 0 0=some () by rw[nC,Dk];simp[Ac];omega,Aa];simp only[XM,Int.sub_self,Int.toNat_zero,Axp];exact h3
 ·rw[Aaw (by rw[Ay];simp;omega)];exact h3
theorem Ak0{r n:Nat}(h1:1<=r)(h:r<=1048576)(n1:1<=n)(n2:n<=4000)(hk:(n-1)/Ba r+1<=1000):Wx (r:Int) (n:Int)=some (Aq (Ba r) n,0):=by
 have hp:=Tl r;have hl:=G9 h;have hd:=Awq (n-1) (Ba r);rw[Wx,J0 h1 h n1 n2,Aaw (by omega),Aa];simp only;rw[Aaw (by rw[Ao];simp),S5 h1 h,Aa];simp only;rw[Aq];generalize(n-1)/Ba r=k at*
 have e1:Ak ((k+1:Nat):Int) 1=(k:Int):=by rw[Bu];omega
 have e2:(k:Int)*(Ba r:Int)=((k*Ba r:Nat):Int):=by simp
 rw[e1,Aha _ _ (by omega),Aa,Jh (by rw[e2];omega) (by rw[e2];omega),e2,Bu,RV,Ag6 _ _ (by simp;omega),Aa,Aa,show(n:Int)-((k*Ba r:Nat):Int)=((n-k*Ba r:Nat):Int) by omega]
def Ls(f c w r n:Nat):Bool:=decide ((f=1\/f=2)/\ (1<=c/\c<=6)/\ (w=8\/w=16\/w=24)/\ (1<=r/\r<=1048576)/\1<=n)
def SA(c r n:Nat):Bool:=decide (n<=4000/c/\ (n-1)/Ba r+1<=1000)
theorem iW(f c w r n:Nat):Pw (f:Int) (c:Int) (w:Int) (r:Int) (n:Int)=some (Ls f c w r n):=by
 have e2:Mu (f:Int) (c:Int) (w:Int) (r:Int) (n:Int)=some (decide ((f=1\/f=2)/\ (1<=c/\c<=6)/\ (1<=r/\r<=1048576)/\1<=n)):=by
  rw[Mu,JP];congr 1;rw[Agx];simp only[Bb,Ay,eS,Abv,Ash,Atw,Aby];omega
 have g:∀k:Nat,geq (w:Int) (k:Int)=decide (w=k):=λk=>by rw[Bb,Agx];simp;omega
 have g8:geq (w:Int) (8:Int)=decide (w=8):=g 8;have g16:geq (w:Int) (16:Int)=decide (w=16):=g 16;have g24:geq (w:Int) (24:Int)=decide (w=24):=g 24;rw[Pw,Xw,e2,g8,g16,g24,Ls];by_cases h8:w=8
 ·subst h8;simp
 ·by_cases h16:w=16
  ·subst h16;simp
  ·by_cases h24:w=24
   ·subst h24;simp
   ·simp[h8,h16,h24]
theorem pW(f c w r n:Nat):Ja (f:Int) (c:Int) (w:Int) (r:Int) (n:Int)=some (Ls f c w r n):=by
 rw[Ja,Ls];simp only[Bb,En,eS,Abv,Ash,Atw,Aby,Ayi];split
 ·rename_i h;congr 1;rw[Agx];simp only[Abv,Ash,Atw,Aby];omega
 ·rename_i h;congr 1;symm;rw[Auk];omega
theorem Ar3{c:Nat}(h:1<=c):By (4000:Int) (c:Int)=((4000/c:Nat):Int):=by
 have:4000/c<=4000:=Ar5 _ _;rw[NM,Auf (by omega),show(4000:Int)=((4000:Nat):Int)from rfl,<-Int.natCast_ediv];generalize 4000/c=k at*
 exact Cm (by omega) (by omega)
theorem uC{f c w r n:Nat}(h:Ls f c w r n=true):LH (f:Int) (c:Int) (w:Int) (r:Int) (n:Int)=some (SA c r n):=by
 simp only[Ls,Aby]at h;have hd:4000/c<=4000:=Ar5 _ _;rw[LH,Dk (by rw[Ao];simp;omega),Aa,Ar3 (by omega),SA];generalize 4000/c=m at*
 by_cases h1:n<=m
 ·rw[Aaw (by rw[Ay];simp;omega),J0 (by omega) (by omega) (by omega) (by omega),Aa];generalize(n-1)/Ba r+1=k;by_cases h2:1000<k
  ·rw[Aa1 h2];simp[Bb,eS];omega
  ·rw[Aaw h2];simp[Bb,eS,h1];omega
 ·rw[Aa1 (by rw[Ay];simp;omega)];simp[h1]
theorem J6{f c w r n:Nat}(h:Ls f c w r n=true):Um (f:Int) (c:Int) (w:Int) (r:Int) (n:Int)=some (!SA c r n):=by
 simp only[Ls,Aby]at h;have hd:4000/c<=4000:=Ar5 _ _;rw[Um,Dk (by rw[Ao];simp;omega),Aa,Ar3 (by omega),SA];generalize 4000/c=m at*
 by_cases h1:n<=m
 ·rw[Aaw (by rw[Ay];simp;omega),sW (by omega) (by omega) (by omega),Aa,Ac,wF];generalize(n-1)/Ba r+1=k;congr 1;rw[Ay,Agx];simp only[Aby,Aqs,Auk];omega
 ·rw[Aa1 (by rw[Ay];simp;omega)];simp[h1]
def gX:List UInt8:=[84,84,65,49]
def f0(b:List UInt8):Nat:=Er (part b 4 2)
def f1(b:List UInt8):Nat:=Er (part b 6 2)
def f2(b:List UInt8):Nat:=Er (part b 8 2)
def f3(b:List UInt8):Nat:=Er (part b 10 4)
def f4(b:List UInt8):Nat:=Er (part b 14 4)
abbrev H6:=Int×Int×Int×Int×Int×Int
def Ep(b:List UInt8):H6:=
 if b.take (min 4 b.length)≠gX.take (min 4 b.length)then(0,0,0,0,0,12)else if b.length<22 then(0,0,0,0,0,24)else
 if(Ik (b.take 18)).toNat≠Er (part b 18 4)then(0,0,0,0,0,22)else
 if Ls (f0 b) (f1 b) (f2 b) (f3 b) (f4 b)=false then(0,0,0,0,0,12)else
 if SA (f1 b) (f3 b) (f4 b)=false then(0,0,0,0,0,4)else((f0 b:Int),(f1 b:Int),(f2 b:Int),(f3 b:Int),(f4 b:Int),0)
section
variable {b:List UInt8}
theorem rs1(h:b.take (min 4 b.length)≠gX.take (min 4 b.length)):Ep b=(0,0,0,0,0,12):=by rw[Ep,Aa1 h]
variable (h:b.take (min 4 b.length)=gX.take (min 4 b.length))
include h
theorem rs2(h2:b.length<22):Ep b=(0,0,0,0,0,24):=by rw[Ep,Aaw (λe=>e h),Aa1 h2]
variable (h2:¬b.length<22)
include h2
theorem rs3(h3:(Ik (b.take 18)).toNat≠Er (part b 18 4)):Ep b=(0,0,0,0,0,22):=by rw[Ep,Aaw (λe=>e h),Aaw h2,Aa1 h3]
variable (h3:(Ik (b.take 18)).toNat=Er (part b 18 4))
include h3
theorem rs4(h4:Ls (f0 b) (f1 b) (f2 b) (f3 b) (f4 b)=false):Ep b=(0,0,0,0,0,12):=by rw[Ep,Aaw (λe=>e h),Aaw h2,Aaw (λe=>e h3),Aa1 h4]
variable (h4:Ls (f0 b) (f1 b) (f2 b) (f3 b) (f4 b)=true)
include h4
theorem rs5(h5:SA (f1 b) (f3 b) (f4 b)=false):Ep b=(0,0,0,0,0,4):=by rw[Ep,Aaw (λe=>e h),Aaw h2,Aaw (λe=>e h3),Aaw (by rw[h4];simp),Aa1 h5]
theorem rs6(h5:SA (f1 b) (f3 b) (f4 b)=true):Ep b=((f0 b:Int),(f1 b:Int),(f2 b:Int),(f3 b:Int),(f4 b:Int),0):=by rw[Ep,Aaw (λe=>e h),Aaw h2,Aaw (λe=>e h3),Aaw (by rw[h4];simp),Aaw (by rw[h5];simp)]
end
theorem Ani(b:List UInt8)(h2:¬b.length<22):Bd (Ae (Ik (b.take 18)):UInt64) (oT (part b 18 4))=decide ((Ik (b.take 18)).toNat≠Er (part b 18 4)):=by
 rw[QD,Jf,Agx];simp only[Ayr,ne_eq,Aby];rw[<-Ayc,WK (by have:=(Ik (b.take 18)).toNat_lt;omega),UU (by rw[Ea];omega)]
theorem kA(b:List UInt8)(a w:Nat)(i q:Nat)(l:List Int)(hi:i<5)(hl:l.length=5)(hw:Am ([2,2,2,4,4]:List Int) (i:Int)=some (w:Int))(h1:1<=w)(h4:w<=4)(ha:a+w<=b.length)(hb:b.length<4611686018427387904):
  Mz b (q+1) (a:Int) (i:Int) l=Mz b q ((a+w:Nat):Int) ((i+1:Nat):Int) (l.set i (Er (part b a w):Int)):=by
 rw[Mz,GN,Aa1 (by rw[Af];simp;omega),hw,Aa,S7 b a w h1 (by omega) ha hb,Aa];simp only;rw[Cw,Aa,Ye _ (by omega),Aa,KH (by rw[Ea ha];omega),Aj,Aj];rfl
theorem Am0(b:List UInt8)(h22:¬b.length<22)(hb:b.length<4611686018427387904):DT b 4 0 (List.replicate 5 0)=DE [(f0 b:Int),(f1 b:Int),(f2 b:Int),(f3 b:Int),(f4 b:Int)]:=by
 have hF:Ar=(Ar-6)+1+1+1+1+1+1:=by have:=As;omega
 rw[DT,hF,show(4:Int)=((4:Nat):Int)from rfl,show(0:Int)=((0:Nat):Int)from rfl];rw[kA b 4 2 0 _ _ (by omega) (by simp) rfl (by omega) (by omega) (by omega) hb,kA b 6 2 1 _ _ (by omega) (by simp) rfl (by omega) (by omega) (by omega) hb,kA b 8 2 2 _ _ (by omega) (by simp) rfl (by omega) (by omega) (by omega) hb,
  kA b 10 4 3 _ _ (by omega) (by simp) rfl (by omega) (by omega) (by omega) hb,kA b 14 4 4 _ _ (by omega) (by simp) rfl (by omega) (by omega) (by omega) hb,Mz,GN,Aaw (by rw[Af];simp)]
 rfl
theorem Aw7(b:List UInt8):Ih [84,84,65,49] (b.take (min 4 b.length))=some (decide (b.take (min 4 b.length)=gX.take (min 4 b.length))):=by
 have hl:(b.take (min 4 b.length)).length=min 4 b.length:=by rw[Ae5];omega
 rw[Ih,Gg,Aa1 (by rw[En,Ac,Ac,hl];simp;omega),Ac,hl,Da (by omega) (by simp;omega),Aa,Aa,Ajk];congr 1;rw[Agx];rw[Aby,Atw];exact eq_comm
theorem Avm(b:List UInt8):Eo (4:Int) (Ac b)=((min 4 b.length:Nat):Int):=by rw[XZ,Ac];omega
theorem uY(b:List UInt8)(hb:b.length<4611686018427387904):Mm b=some (Ep b):=by
 rw[Mm,TM,Avm,Da,Aa,Ajk,Aw7,Aa];by_cases h:b.take (min 4 b.length)=gX.take (min 4 b.length)
 ·rw[Aaw (by simpa using h)];by_cases h2:b.length<22
  ·rw[Aa1 (by rw[Af,Ac];simp;omega),rs2 h h2]
  ·have a1:YO b 18 4=some (oT (part b 18 4),0):=S7 b 18 4 (by omega) (by omega) (by omega) hb;rw[Aaw (by rw[Af,Ac];simp;omega),a1,Aa];simp only;rw[Da,Aa,show(18:Int).toNat=18 from rfl,Adw _ (by simp;omega),Aa];simp only;rw[Ani b h2];by_cases h3:(Ik (b.take 18)).toNat=Er (part b 18 4)
   ·rw[Aaw (by simpa using h3),Am0 b h2 hb,DE,lJ];rw[show Am [(f0 b:Int),(f1 b:Int),(f2 b:Int),(f3 b:Int),(f4 b:Int)] 0=some (f0 b:Int)from rfl,show Am [(f0 b:Int),(f1 b:Int),(f2 b:Int),(f3 b:Int),(f4 b:Int)] 1=some (f1 b:Int)from rfl,show Am [(f0 b:Int),(f1 b:Int),(f2 b:Int),(f3 b:Int),(f4 b:Int)] 2=some (f2 b:Int)from rfl,
     show Am [(f0 b:Int),(f1 b:Int),(f2 b:Int),(f3 b:Int),(f4 b:Int)] 3=some (f3 b:Int)from rfl,show Am [(f0 b:Int),(f1 b:Int),(f2 b:Int),(f3 b:Int),(f4 b:Int)] 4=some (f4 b:Int)from rfl]
    simp only[Aa,iW];cases h4:Ls (f0 b) (f1 b) (f2 b) (f3 b) (f4 b)with
    |false=>rw[rs4 h h2 h3 h4];rfl
    |true=>
     rw[uC h4,Aaw (by simp),Aa];cases h5:SA (f1 b) (f3 b) (f4 b)with
     |false=>rw[rs5 h h2 h3 h4 h5];rfl
     |true=>rw[rs6 h h2 h3 h4 h5];rfl
   ·rw[Aa1 (by simpa using h3),rs3 h h2 h3]
 ·rw[Aa1 (by simpa using h),rs1 h]
theorem zi(b:List UInt8)(hb:b.length<4611686018427387904):Pd b=some (Ep b):=by
 rw[Pd,LG,Avm,Da,Aa,Ajk,Da (by omega) (by simp;omega),Aa,Ajk];by_cases h:b.take (min 4 b.length)=gX.take (min 4 b.length)
 ·rw[Aaw (by rw[h];simp[gX]),MZ,KT];by_cases h2:b.length<22
  ·rw[Aa1 (by rw[Af,Ac];simp;omega),rs2 h h2]
  ·have a1:Bf b 18 22=some (part b 18 4):=Pg 18 4;have c1:Bf b 4 6=some (part b 4 2):=Pg 4 2;have c2:Bf b 6 8=some (part b 6 2):=Pg 6 2;have c3:Bf b 8 10=some (part b 8 2):=Pg 8 2;have c4:Bf b 10 14=some (part b 10 4):=Pg 10 4;have c5:Bf b 14 18=some (part b 14 4):=Pg 14 4;have hs:Bd (oT (part b 18 4)) (Ae (Ik (b.take 18)):UInt64)=decide ((Ik (b.take 18)).toNat≠Er (part b 18 4)):=by
    rw[<-Ani b h2,QD,QD,Agx];simp only[Ayr,ne_eq];exact not_congr eq_comm
   have lp:∀a w,a+w<=b.length->Dq (part b a w)=some (oT (part b a w)):=λa w h=>yo _ (by rw[Ea h];omega);rw[Aaw (by rw[Af,Ac];simp;omega),a1,Aa,Da,Aa,show(18:Int).toNat=18 from rfl,lp _ _ (by omega),Aa,Alz _ (by simp;omega),Aa,hs];by_cases h3:(Ik (b.take 18)).toNat=Er (part b 18 4)
   ·rw[Aaw (by simpa using h3),ML,KR,c1,Aa,c2,Aa,c3,Aa,c4,Aa,c5,Aa,lp _ _ (by omega),Aa,lp _ _ (by omega),Aa,lp _ _ (by omega),Aa,lp _ _ (by omega),Aa,lp _ _ (by omega),Aa,
     MM,MR,KH (by rw[Ea];omega),KH (by rw[Ea];omega),KH (by rw[Ea];omega),KH (by rw[Ea];omega),KH (by rw[Ea];omega)]
    rw[show Er (part b 4 2)=f0 b from rfl,show Er (part b 6 2)=f1 b from rfl,show Er (part b 8 2)=f2 b from rfl,show Er (part b 10 4)=f3 b from rfl,show Er (part b 14 4)=f4 b from rfl,pW,Aa];cases h4:Ls (f0 b) (f1 b) (f2 b) (f3 b) (f4 b)with
    |false=>rw[rs4 h h2 h3 h4];rfl
    |true=>
     rw[J6 h4,Aaw (by simp),Aa];cases h5:SA (f1 b) (f3 b) (f4 b)with
     |false=>rw[rs5 h h2 h3 h4 h5];rfl
     |true=>rw[rs6 h h2 h3 h4 h5];rfl
   ·rw[Aa1 (by simpa using h3),rs3 h h2 h3]
 ·rw[Aa1 (by simpa [gX]using h),rs1 h]
theorem yc{b:List UInt8}(h:(Ep b).2.2.2.2.2=0):Ep b=((f0 b:Int),(f1 b:Int),(f2 b:Int),(f3 b:Int),(f4 b:Int),0)/\22<=b.length/\Ls (f0 b) (f1 b) (f2 b) (f3 b) (f4 b)=true/\SA (f1 b) (f3 b) (f4 b)=true:=by
 unfold Ep at h⊢;split at h; · simp at h
 rename_i c1;rw[Aaw c1];split at h; · simp at h
 rename_i c2;rw[Aaw c2];split at h; · simp at h
 rename_i c3;rw[Aaw c3];split at h; · simp at h
 rename_i c4;rw[Aaw c4];split at h; · simp at h
 rename_i c5;rw[Aaw c5];exact⟨rfl,by omega,by simpa using c4,by simpa using c5⟩
theorem Aal{f c w r n:Nat}(h:Ls f c w r n=true)(h2:SA c r n=true):Dn (f:Int) (c:Int) (w:Int) (r:Int) (n:Int)=some (Aq (Ba r) n,0):=by
 have hc:Sy (f:Int) (c:Int) (w:Int) (r:Int) (n:Int)=some 0:=by
  rw[Sy,iW,Aa,h,Aaw (by simp),uC h,Aa,h2];rfl
 have hd:4000/c<=4000:=Ar5 _ _;simp only[Ls,Aby]at h;simp only[SA,Aby]at h2;rw[Dn,hc,Aa,Aaw (by rw[Ao];simp),Ak0 (by omega) (by omega) (by omega) (by omega) h2.2];rfl
def okL:List Int->Int->Bool
 |[],_=>true
 |x::l,left=>decide (5<=x/\x<=left)&&okL l (left-x)
theorem Ak3:∀l:List Int,(∀x∈l,5<=x)->0<=l.sum
 |[],_=>by simp
 |x::l,h=>by
  have h1:=h x Av1;have h2:=Ak3 l λy hy=>h y (Atx _ hy);rw[Au6];omega
theorem QF:∀(l:List Int) (left:Int),0<=left-> (okL l left=true↔(∀x∈l,5<=x)/\l.sum<=left)
 |[],left,h=>by simp[okL];exact h
 |x::l,left,h=>by
  rw[okL,Abv,Aby,Au6];by_cases hx:5<=x/\x<=left
  ·rw[QF l (left-x) (by omega)];constructor
   ·rintro⟨_,h1,h2⟩;exact⟨λy hy=>(List.mem_cons.1 hy).elim (λe=>e▸hx.1) (h1 y),by omega⟩
   ·rintro⟨h1,h2⟩;exact⟨hx,λy hy=>h1 y (Atx _ hy),by omega⟩
  ·constructor
   ·rintro⟨h1,_⟩;exact absurd h1 hx
   ·rintro⟨h1,h2⟩;have h3:=h1 x Av1;have:0<=l.sum:=Ak3 l λy hy=>h1 y (Atx _ hy);omega
theorem H3(l:List Int)(hl:l.length<=1000):∀(j i q:Nat) (left:Int),i+j=l.length->j<q->0<=left->left<=100000->Rf l q left (i:Int)=some (if okL (l.drop i) left=true then 0 else 8)
 |0,i,q+1,left,hi,_,_,_=>by
  rw[Rf,EH,Aaw (by rw[Af,Ac];simp;omega),show i=l.length by omega,Awp];rfl
 |j+1,i,q+1,left,hi,hq,h0,h1=>by
  have hlt:i<l.length:=by omega
  rw[Rf,EH,Aa1 (by rw[Af,Ac];simp;omega),Cw hlt,Aa,drop_cons hlt];by_cases h:5<=l[i]/\l[i]<=left
  ·rw[Aaw (by simp[Af,Ay];omega),Bu,Aj];have ih:=H3 l hl j (i+1) q (left-l[i]) (by omega) (by omega) (by omega) (by omega);rw[show((i:Int)+1)=((i+1:Nat):Int) by omega,ih];simp[okL,h]
  ·rw[Aa1 (by simp[Af,Ay];omega)];have:okL (l[i]::l.drop (i+1)) left=false:=by rw[okL,Auj h];rfl
   rw[this];rfl
def AR(l:List Int):Bool:=decide (1<=l.length/\l.length<=1000)&&okL l 100000
theorem ng(l:List Int)(hl:l.length<=1000):Pb l=some (if AR l=true then 0 else 8):=by
 rw[Pb,FV,AR];by_cases h:1<=l.length
 ·rw[Aaw (by rw[Bb,Ay,Ac];simp;constructor;(intro e;subst e;simp at h);omega),TB];have:=H3 l hl l.length 0 Ar 100000 (by omega) (by have:=As;omega) (by omega) (by omega);rw[List.drop_zero]at this;rw[Aun (show 1<=l.length/\l.length<=1000 from⟨h,hl⟩),Awm];exact this
 ·have:l=[]:=by
   cases l with
   |nil=>rfl
   |cons _ _=>simp at h
  subst this;rfl
theorem Z3(l:List Int)(hl:l.length<=1000):∀(j i q:Nat) (s:Int),i+j=l.length->j<q->0<=s->s<=100000*(i:Int)->Jw l q s (i:Int)=some (if(∀x∈l.drop i,5<=x/\x<=100000)/\s+(l.drop i).sum<=100000 then 0 else 8)
 |0,i,q+1,s,hi,_,_,_=>by
  rw[Jw,Uf,Aaw (by rw[Af,Ac];simp;omega),show i=l.length by omega,Awp,FU,FQ];by_cases h:s<=100000
  ·rw[Aaw (by rw[Ay];simp;omega),Aa1 (by simp;omega)]
  ·rw[Aa1 (by rw[Ay];simp;omega),Aaw (by simp;omega)]
 |j+1,i,q+1,s,hi,hq,h0,h1=>by
  have hlt:i<l.length:=by omega
  rw[Jw,Uf,Aa1 (by rw[Af,Ac];simp;omega),Cw hlt,Aa,drop_cons hlt];by_cases h5:l[i]<5
  ·rw[Aa1 (by rw[Af];simpa using h5),Aaw (λh=>by have:=(h.1 l[i] Av1).1;omega)]
  ·rw[Aaw (by rw[Af];simpa using h5),Aa];by_cases h6:100000<l[i]
   ·rw[Aa1 (by rw[Ay];simpa using h6),Aaw (λh=>by have:=(h.1 l[i] Av1).2;omega)]
   ·rw[Aaw (by rw[Ay];simpa using h6),HP,HL,Cw hlt,Aa,Aj,Aj];have ih:=Z3 l hl j (i+1) q (s+l[i]) (by omega) (by omega) (by omega) (by omega);rw[show((i:Int)+1)=((i+1:Nat):Int) by omega,ih];have e:((∀x∈l.drop (i+1),5<=x/\x<=100000)/\s+l[i]+(l.drop (i+1)).sum<=100000)↔((∀x∈l[i]::l.drop (i+1),5<=x/\x<=100000)/\s+(l[i]::l.drop (i+1)).sum<=100000):=by
     rw[Au6,List.forall_mem_cons,Int.add_assoc];constructor
     ·rintro⟨a,b⟩;exact⟨⟨by omega,a⟩,b⟩
     ·rintro⟨⟨_,a⟩,b⟩;exact⟨a,b⟩
    simp only[e]
theorem jh:∀{l:List Int},(∀x∈l,5<=x)->∀x∈l,x<=l.sum
 |[],_,x,hx=>by simp at hx
 |y::l,h,x,hx=>by
  have h1:=h y Av1;have h2:=Ak3 l λz hz=>h z (Atx _ hz);rw[Au6];rcases List.mem_cons.1 hx with rfl|hx
  ·omega
  ·have:=jh (l:=l) (λz hz=>h z (Atx _ hz)) x hx;omega
theorem vk(l:List Int)(hl:l.length<=1000):Hn l=some (if AR l=true then 0 else 8):=by
 rw[Hn,Tr,AR];by_cases h:1<=l.length
 ·have:=Z3 l hl l.length 0 Ar 0 (by omega) (by have:=As;omega) (by omega) (by omega);rw[Aaw (by rw[Af,Ay,Ac];simp;omega),HH];refine Awu this ?_;rw[List.drop_zero,Aun (show 1<=l.length/\l.length<=1000 from⟨h,hl⟩),Awm];have e:((∀x∈l,5<=x/\x<=100000)/\0+l.sum<=100000)↔okL l 100000=true:=by
   rw[QF l 100000 (by omega),Int.zero_add];constructor
   ·rintro⟨a,b⟩;exact⟨λx hx=>(a x hx).1,b⟩
   ·rintro⟨a,b⟩;exact⟨λx hx=>⟨a x hx,Int.le_trans (jh a x hx) b⟩,b⟩
  simp only[e]
 ·have:l=[]:=by
   cases l with
   |nil=>rfl
   |cons _ _=>simp at h
  subst this;rfl
theorem jS(l:List Int):Pb l=some (if AR l=true then 0 else 8):=by
 by_cases hl:l.length<=1000
 ·exact ng l hl
 ·rw[Pb,FV,Aa1 (by rw[Ay,Ac];simp;omega),AR,Auj (by omega)];rfl
theorem XB(l:List Int):Hn l=some (if AR l=true then 0 else 8):=by
 by_cases hl:l.length<=1000
 ·exact vk l hl
 ·rw[Hn,Tr,Aa1 (by rw[Ay,Ac];simp;omega),AR,Auj (by omega)];rfl
theorem Adt(l:List Int)(hl:l.length<=1000)(hx:∀x∈l,0<=x/\x<4294967296):Pb l=some (if AR l=true then 0 else 8):=jS l
theorem Ai1(l:List Int)(hl:l.length<=1000)(hx:∀x∈l,0<=x/\x<4294967296):Hn l=some (if AR l=true then 0 else 8):=XB l
def QG(b:List UInt8)(n:Nat):List Int:=(List.range n).map λi=>(Er (part b (4*i) 4):Int)
theorem MJ(b:List UInt8)(n:Nat):(QG b n).length=n:=by simp[QG]
theorem U2(b:List UInt8)(n:Nat):QG b (n+1)=QG b n++[(Er (part b (4*n) 4):Int)]:=by simp[QG,List.range_succ]
theorem Afe(b:List UInt8)(n:Nat)(h:4*n<=b.length):∀x∈QG b n,0<=x/\x<4294967296:=by
 intro x hx;simp only[QG,List.mem_map,List.mem_range]at hx;obtain⟨i,hi,rfl⟩:=hx;have:=Afu (l:=part b (4*i) 4) (by rw[Ea];omega);omega
def Ii(b:List UInt8)(n:Nat):List Int×Int:=
 if ¬(1<=n/\n<=1000)then([],2)else if b.length<4*n+4 then([],24)else if(Ik (b.take (4*n))).toNat≠Er (part b (4*n) 4)then([],22)else
 if AR (QG b n)=true then(QG b n,0)else([],12)
theorem Afh{b:List UInt8}{n:Nat}(h:1<=n/\n<=1000)(h2:¬b.length<4*n+4):Bd (Ae (Ik (b.take (4*n))):UInt64) (oT (part b (4*n) 4))=decide ((Ik (b.take (4*n))).toNat≠Er (part b (4*n) 4)):=by
 rw[QD,Jf,Agx];simp only[Ayr,ne_eq,Aby];rw[<-Ayc,WK (by have:=(Ik (b.take (4*n))).toNat_lt;omega),UU (by rw[Ea];omega)]
section
variable {b:List UInt8} {n:Nat}
theorem ss1(h:¬(1<=n/\n<=1000)):Ii b n=([],2):=by rw[Ii,Aa1 h]
variable (h:1<=n/\n<=1000)
include h
theorem ss2(h2:b.length<4*n+4):Ii b n=([],24):=by rw[Ii,Aaw (λe=>e h),Aa1 h2]
variable (h2:¬b.length<4*n+4)
include h2
theorem ss3(h3:(Ik (b.take (4*n))).toNat≠Er (part b (4*n) 4)):Ii b n=([],22):=by rw[Ii,Aaw (λe=>e h),Aaw h2,Aa1 h3]
theorem ss4(h3:(Ik (b.take (4*n))).toNat=Er (part b (4*n) 4)):Ii b n=if AR (QG b n)=true then(QG b n,0)else([],12):=by rw[Ii,Aaw (λe=>e h),Aaw h2,Aaw (λe=>e h3)]
end
theorem Z5(b:List UInt8)(l8:List Int)(n:Nat)(hn:n<=1000)(h8:l8.length=n)(hb:4*n+4<=b.length)(hb2:b.length<4611686018427387904):∀(j i q:Nat),i+j=n->j<q->Tk b l8 q (i:Int) (QG b i++List.replicate j 0)=JY (QG b n)
 |0,i,q+1,hi,_=>by
  obtain rfl:i=n:=by omega
  rw[Tk,KL,Aaw (by rw[Af,Ac];simp;omega)];simp
 |j+1,i,q+1,hi,hq=>by
  have hlen:(QG b i++List.replicate (j+1) 0).length=i+(j+1):=by simp[MJ]
  have ha:=S7 b (4*i) 4 (by omega) (by omega) (by omega) hb2;rw[Tk,KL,Aa1 (by rw[Af,Ac];simp;omega),Jh,show(4:Int)*(i:Int)=((4*i:Nat):Int) by omega,show(4:Int)=((4:Nat):Int)from rfl,ha,Aa];simp only;rw[Cw (by rw[hlen];omega),Aa,Ye _ (by rw[hlen];omega),Aa,KH (by rw[Ea];omega),Aj,Avq,mR (MJ _ _)];have ih:=Z5 b l8 n hn h8 hb hb2 j (i+1) q (by omega) (by omega);rw[U2]at ih;rw[show((i:Int)+1)=((i+1:Nat):Int) by omega,<-ih];simp
theorem cz(b:List UInt8)(n:Nat)(hb:b.length<=100100):JB b (n:Int)=some (Ii b n):=by
 rw[JB,XT];by_cases h:1<=n/\n<=1000
 ·rw[Aaw (by simp[Af,Ay];omega),Jh,Aj];by_cases h2:b.length<4*n+4
  ·rw[Aa1 (by rw[Af,Ac];simp;omega),ss2 h h2]
  ·have ha:YO b (4*(n:Int)) 4=some (oT (part b (4*n) 4),0):=by
    rw[show(4:Int)*(n:Int)=((4*n:Nat):Int) by omega];exact S7 b (4*n) 4 (by omega) (by omega) (by omega) (by omega)
   rw[Aaw (by rw[Af,Ac];simp;omega),ha,Aa];simp only;rw[Da,Aa,show(4*(n:Int)).toNat=4*n by omega,Adw _ (by simp;omega),Aa];simp only;rw[Afh h h2];by_cases h3:(Ik (b.take (4*n))).toNat=Er (part b (4*n) 4)
   ·have hlp:=Z5 b (List.replicate n 0) n (by omega) (by simp) (by omega) (by omega) n 0 Ar (by omega) (by have:=As;omega);rw[Aaw (by simpa using h3),xM,Aa,Dk (by rw[Bb];simp),Aa,XK,Ajk];refine Awu (hlp) ?_;rw[JY,oJ,Adt _ (by rw[MJ];omega) (Afe b n (by omega)),Aa,ss4 h h2 h3];cases AR (QG b n)<;>rfl
   ·rw[Aa1 (by simpa using h3),ss3 h h2 h3]
 ·rw[Aa1 (by simp[Af,Ay];omega),ss1 h]
theorem nT(b:List UInt8)(n:Nat)(hn:n<=1000)(hb:4*n+4<=b.length)(hb2:b.length<4611686018427387904):∀(j i q:Nat),i+j=n->j<q->Kz b (n:Int) q (i:Int) (QG b i)=Ww (QG b n)
 |0,i,q+1,hi,_=>by
  obtain rfl:i=n:=by omega
  rw[Kz,Xe,Aaw (by rw[Af];simp)]
 |j+1,i,q+1,hi,hq=>by
  have hc:Bf b ((4:Int)*(i:Int)) ((4:Int)*(i:Int)+4)=some (part b (4*i) 4):=by
   rw[show(4:Int)*(i:Int)=((4*i:Nat):Int) by omega];exact Pg (4*i) 4
  rw[Kz,Xe,Aa1 (by rw[Af];simp;omega),Jh,Aj,hc,Aa,yo _ (by rw[Ea];omega),Aa,Cv (by rw[MJ];simp;omega),Aa,
   KH (by rw[Ea];omega),Aj,<-U2]
  exact nT b n hn hb hb2 j (i+1) q (by omega) (by omega)
theorem Alp(b:List UInt8)(n:Nat)(hb:b.length<=100100):Vr b (n:Int)=some (Ii b n):=by
 rw[Vr,KP];by_cases h:1<=n/\n<=1000
 ·rw[Aaw (by simp[Af,Ay];omega),Jh,Aj];by_cases h2:b.length<4*n+4
  ·rw[Aa1 (by rw[Af,Ac];simp;omega),ss2 h h2]
  ·have hc:Bf b ((4:Int)*(n:Int)) ((4:Int)*(n:Int)+4)=some (part b (4*n) 4):=by
    rw[show(4:Int)*(n:Int)=((4*n:Nat):Int) by omega];exact Pg (4*n) 4
   have hs:Bd (oT (part b (4*n) 4)) (Ae (Ik (b.take (4*n))):UInt64)=decide ((Ik (b.take (4*n))).toNat≠Er (part b (4*n) 4)):=by
    rw[<-Afh h h2,QD,QD,Agx];simp only[Ayr,ne_eq];exact not_congr eq_comm
   rw[Aaw (by rw[Af,Ac];simp;omega),hc,Aa,Da,Aa,show(4*(n:Int)).toNat=4*n by omega,yo _ (by rw[Ea];omega),Aa,Alz _ (by simp;omega),Aa,hs];by_cases h3:(Ik (b.take (4*n))).toNat=Er (part b (4*n) 4)
   ·have hlp:=nT b n (by omega) (by omega) (by omega) n 0 Ar (by omega) (by have:=As;omega);rw[Aaw (by simpa using h3),KU,MK,LC];refine Awu hlp ?_;rw[Ww,MA,Ai1 _ (by rw[MJ];omega) (Afe b n (by omega)),Aa,ss4 h h2 h3];cases AR (QG b n)<;>rfl
   ·rw[Aa1 (by simpa using h3),ss3 h h2 h3]
 ·rw[Aa1 (by simp[Af,Ay];omega),ss1 h]
theorem xk{b:List UInt8}{n:Nat}(h:(Ii b n).2=0):Ii b n=(QG b n,0)/\1<=n/\n<=1000/\4*n+4<=b.length/\ (∀x∈QG b n,5<=x)/\ (QG b n).sum<=100000:=by
 unfold Ii at h⊢;split at h; · simp at h
 rename_i c1;rw[Aaw c1];split at h; · simp at h
 rename_i c2;rw[Aaw c2];split at h; · simp at h
 rename_i c3;rw[Aaw c3];split at h
 ·rename_i c4;rw[Aa1 c4];have c4':=c4;rw[AR,Abv,QF _ _ (by omega)]at c4';exact⟨rfl,by omega,by omega,by omega,c4'.2.1,c4'.2.2⟩
 ·simp at h
def Vu(b:List UInt8):List UInt8:=b.drop (Di b).1.toNat
theorem Aco(A K:Nat)(h:A<=200000)(hk:K<=1000):Ad (Ad (A:Int) (Bj 4 (K:Int))) 4=((A+4*K+4:Nat):Int):=by
 rw[Jh,Aj (a:=(A:Int)) (by omega) (by omega),Aj];omega
structure Opn (b p:List UInt8) (f c w r n A:Nat) (l:List Int):Prop where
 prog:yw b p=some ((f:Int),(c:Int),(w:Int),(r:Int),(n:Int),(A:Int),l,0)
 ref:nI b p=some ((f:Int),(c:Int),(w:Int),(r:Int),(n:Int),(A:Int),l,0)
 pass:p.length<=64
 file:b.length<=100000
 shape:Ls f c w r n=true
 fit:SA c r n=true
 len:l.length=(Aq (Ba r) n).length
 some1:1<=l.length/\l.length<=1000
 five:∀x∈l,5<=x
 sum:l.sum<=100000
 at':A<=b.length
 tag:(Di b).2=0
 head:Ep (Vu b)=((f:Int),(c:Int),(w:Int),(r:Int),(n:Int),0)
 tab:Ii (b.drop ((Di b).1.toNat+22+(if f=2 then 8 else 0))) l.length=(l,0)
 pos:A=(Di b).1.toNat+22+(if f=2 then 8 else 0)+4*l.length+4
theorem W6(l:List Int)(i:Nat):(l.take i).sum+(l.drop i).sum=l.sum:=by
 conv=>rhs;rw[<-Ax8 i l,List.sum_append]
theorem BE{l:List Int}(h5:∀x∈l,5<=x)(i:Nat):0<= (l.take i).sum/\ (l.take i).sum<=l.sum:=by
 have h1:=Ak3 (l.take i) λx hx=>h5 x (List.mem_of_mem_take hx);have h2:=Ak3 (l.drop i) λx hx=>h5 x (List.mem_of_mem_drop hx);have:=W6 l i;omega
theorem Zi{l:List Int}{i:Nat}(h:i<l.length):(l.take (i+1)).sum=(l.take i).sum+l[i]:=by
 rw[RE h,List.sum_append];simp
section
variable {l:List Int} (hl:l.length<=1000) (h5:∀x∈l,5<=x) (hs:l.sum<=100000)
include hl h5 hs
theorem P3(f c w r n A:Int)(hA:0<=A)(hA2:A<=200000)(k:Nat)(hk:k<=l.length):∀(j i q:Nat),i+j=k->j<q->Js (k:Int) f c w r n A l q (A+(l.take i).sum) (i:Int)=some (A+(l.take k).sum)
 |0,i,q+1,hi,_=>by
  rw[Js,Tw,Aaw (by rw[Af];simp;omega),show i=k by omega];rfl
 |j+1,i,q+1,hi,hq=>by
  have hlt:i<l.length:=by omega
  have ih:=P3 f c w r n A hA hA2 k hk j (i+1) q (by omega) (by omega);have b1:=BE h5 i;have b2:=BE h5 (i+1);have e:=Zi hlt;rw[e,<-Int.add_assoc]at ih;rw[Js,Tw,Aa1 (by rw[Af];simp;omega),Cw hlt,Aa,Aj,Aj];exact ih
theorem Ag1(f c w r n A:Int)(hA:0<=A)(hA2:A<=200000)(k:Nat)(hk:k<=l.length):SC f c w r n A l (k:Int)=some (A+(l.take k).sum):=by
 have h:=P3 hl h5 hs f c w r n A hA hA2 k hk k 0 Ar (by omega) (by have:=As;omega);rw[Axp,Ay1,Int.add_zero]at h;exact h
end
theorem AW{g n:Nat}(hg:1<=g)(hn:1<=n){x:Int}(h:x∈Aq g n):∃m:Nat,x=m/\1<=m/\m<=n:=by
 have hmul:=Awq (n-1) g;rw[Aq,List.mem_append]at h;rcases h with h|h
 ·rw[List.mem_replicate]at h;have h1:1<= (n-1)/g:=Nat.pos_of_ne_zero h.1;have:=Ac1 g h1;exact⟨g,h.2,hg,by omega⟩
 ·rw[List.mem_singleton]at h;exact⟨_,h,by omega,by omega⟩
theorem ZF{f c w r n:Nat}(h:Ls f c w r n=true):(1<=c/\c<=6)/\Ct (w:Int)/\ (1<=r/\r<=1048576)/\1<=n/\ (f=1\/f=2):=by
 simp only[Ls,Aby]at h;refine⟨h.2.1,?_,h.2.2.2.1,h.2.2.2.2,h.1⟩;rcases h.2.2.1 with rfl|rfl|rfl
 ·exact .inl rfl
 ·exact .inr (.inl rfl)
 ·exact .inr (.inr rfl)
theorem Asr(n m:Nat):Od n m 0≠Od n m 2147483648:=by
 intro h;simp[Od,RS,yX]at h
def Ci(b:List UInt8):List UInt8:=b.drop (b.length-32)
theorem Aag{b:List UInt8}(h:32<=b.length):(Ci b).length=32:=by rw[Ci,Anr];omega
def HM(t:List UInt8):Nat:=Er (part t 12 4)-32
def C9(t:List UInt8):Nat:=Er (part t 16 4)
def Wq(b:List UInt8):Int×Int:=
 if ¬(32<=b.length/\ (Ci b).take 8=yX)then(0,6)else if CX (Ci b)=true then(0,12)else
 if Ci b=Od (HM (Ci b)) (C9 (Ci b)) 0 then(if b.length<HM (Ci b)+32 then(0,24)else(((HM (Ci b)+32:Nat):Int),0))else
 if Ci b≠Od (HM (Ci b)) (C9 (Ci b)) 2147483648 then(0,12)else
 if b.length<HM (Ci b)+64 then(0,24)else
 if(b.take (b.length-(HM (Ci b)+64)+32)).drop (b.length-(HM (Ci b)+64))≠Od (HM (Ci b)) (C9 (Ci b)) 2684354560 then(0,12)else(((HM (Ci b)+64:Nat):Int),0)
section
variable {b:List UInt8}
theorem ba1(h:¬(32<=b.length/\ (Ci b).take 8=yX)):Wq b=(0,6):=by rw[Wq,Aa1 h]
variable (h:32<=b.length/\ (Ci b).take 8=yX)
include h
theorem ba2(h2:CX (Ci b)=true):Wq b=(0,12):=by rw[Wq,Aaw (λh'=>h' h),Aa1 h2]
variable (h2:CX (Ci b)=false)
include h2
theorem ba3(h3:Ci b=Od (HM (Ci b)) (C9 (Ci b)) 0):Wq b=if b.length<HM (Ci b)+32 then(0,24)else(((HM (Ci b)+32:Nat):Int),0):=by
 rw[Wq,Aaw (λh'=>h' h),Aaw (by rw[h2];simp),Aa1 h3]
variable (h3:Ci b≠Od (HM (Ci b)) (C9 (Ci b)) 0)
include h3
theorem ba4(h4:Ci b≠Od (HM (Ci b)) (C9 (Ci b)) 2147483648):Wq b=(0,12):=by
 rw[Wq,Aaw (λh'=>h' h),Aaw (by rw[h2];simp),Aaw h3,Aa1 h4]
variable (h4:Ci b=Od (HM (Ci b)) (C9 (Ci b)) 2147483648)
include h4
theorem ba5(h5:b.length<HM (Ci b)+64):Wq b=(0,24):=by
 rw[Wq,Aaw (λh'=>h' h),Aaw (by rw[h2];simp),Aaw h3,Aaw (λe=>e h4),Aa1 h5]
theorem ba6(h5:¬b.length<HM (Ci b)+64):Wq b=if(b.take (b.length-(HM (Ci b)+64)+32)).drop (b.length-(HM (Ci b)+64))≠Od (HM (Ci b)) (C9 (Ci b)) 2684354560 then(0,12)else(((HM (Ci b)+64:Nat):Int),0):=by
 rw[Wq,Aaw (λh'=>h' h),Aaw (by rw[h2];simp),Aaw h3,Aaw (λe=>e h4),Aaw h5]
end
theorem Abp{b:List UInt8}{n:Int}(h:Wq b=(n,0)):32<=n/\n<=b.length:=by
 unfold Wq at h;split at h; · simp at h
 rename_i h32;split at h; · simp at h
 split at h
 ·split at h; · simp at h
  simp only[Ajg,Ay3]at h;omega
 split at h; · simp at h
 split at h; · simp at h
 split at h; · simp at h
 simp only[Ajg,Ay3]at h;omega
theorem Aih{b:List UInt8}(h:(Wq b).2≠0):(Wq b).1=0:=by
 revert h
 unfold Wq;split; · simp
 split; · simp
 split
 ·split<;>simp
 split; · simp
 split; · simp
 split<;>simp
theorem Aln{b:List UInt8}(h:32<=b.length)(hl:b.length<4611686018427387904):Ak (Ac b) 32=((b.length-32:Nat):Int)/\Bf b ((b.length-32:Nat):Int) (Ac b)=some (Ci b):=by
 refine⟨by rw[Ac,Bu];omega,?_⟩;rw[Dg];rfl
theorem Aip(b:List UInt8)(hl:b.length<4611686018427387904):sR b=some (Wq b):=by
 rw[sR,gZ];by_cases h32:32<=b.length
 ·obtain⟨e1,e2⟩:=Aln h32 hl;have hl3:=Aag h32;rw[Aaw (by rw[e1,Af];simp),e1,e2,Aa,cT,Aa];by_cases hp:(Ci b).take 8=yX
  ·have h:=And.intro h32 hp;rw[Aaw (by simpa [yX,hl3]using hp),kB,wN,e1,e2,Aa,bJ _ 0 (by omega) (by omega) (by decide),Aa];cases hb:CX (Ci b)with
   |true=>
    rw[ba2 h hb];simp only[Ay2,An2,Awt];rw[Aa,bJ _ 2147483648 (by omega) (by omega) (by decide),Aa,hb];rfl
   |false=>
    obtain⟨i1,i2,i3,i4⟩:=tY (Ci b) (by omega) hb;have eI:Er (part (Ci b) 12 4)-32=HM (Ci b):=rfl;have eM:Er (part (Ci b) 16 4)=C9 (Ci b):=rfl;simp only[An2,Awt];rw[eI]at i3;rw[eM]at i4;rw[eI,eM];by_cases c1:Ci b=Od (HM (Ci b)) (C9 (Ci b)) 0
    ·have c1':Ci b=Od (HM (Ci b)) (C9 (Ci b)) (0:UInt64).toNat:=c1;rw[Aa1 (by simpa using c1'),ba3 h hb c1];by_cases c2:b.length<HM (Ci b)+32
     ·rw[Aa1 (by rw[Af];simp;omega),Aa1 c2]
     ·rw[Aaw (by rw[Af];simp;omega),Aaw c2,Aj];rfl
    ·have c1':¬Ci b=Od (HM (Ci b)) (C9 (Ci b)) (0:UInt64).toNat:=c1;rw[Aaw (by simpa using c1'),Aa,bJ _ 2147483648 (by omega) (by omega) (by decide),Aa,hb];simp only[An2,Awt];rw[eI,eM];by_cases c2:Ci b=Od (HM (Ci b)) (C9 (Ci b)) 2147483648
     ·have c2':Ci b=Od (HM (Ci b)) (C9 (Ci b)) (2147483648:UInt64).toNat:=c2;rw[Aaw (by simpa using c2'),Aj];by_cases c3:b.length<HM (Ci b)+64
      ·rw[Aa1 (by rw[Af,Ac];simp;omega),ba5 h hb c1 c2 c3]
      ·rw[Aaw (by rw[Af,Ac];simp;omega),Ac,Bu,Aj,BB,Aa,zP _ _ _ i3 i4 (by decide),Aa,Fy,Aa,ba6 h hb c1 c2 c3];rw[show((b.length:Int)-(((HM (Ci b):Nat):Int)+64)).toNat=b.length-(HM (Ci b)+64) by omega,show((b.length:Int)-(((HM (Ci b):Nat):Int)+64)+32).toNat=b.length-(HM (Ci b)+64)+32 by omega];have e7:(2684354560:UInt64).toNat=2684354560:=rfl;rw[e7];by_cases c4:(b.take (b.length-(HM (Ci b)+64)+32)).drop (b.length-(HM (Ci b)+64))=Od (HM (Ci b)) (C9 (Ci b)) 2684354560
       ·rw[Aaw (by simpa using c4),Aaw (λe=>e c4)];rfl
       ·rw[Aa1 (by simpa using c4),Aa1 c4]
     ·have c2':¬Ci b=Od (HM (Ci b)) (C9 (Ci b)) (2147483648:UInt64).toNat:=c2;rw[Aa1 (by simpa using c2'),ba4 h hb c1 c2]
  ·rw[Aa1 (by rw[Aqs,Auk];intro h;exact hp h.2),ba1 (λh=>hp h.2)]
 ·rw[Aa1 (by rw[Ac,Bu,Af];simp;omega),ba1 (λh=>h32 h.1)]
theorem Aq0{b:List UInt8}(h:32<=b.length):(b.take (b.length-32+8)).drop (b.length-32)=(Ci b).take 8:=by
 rw[Ci,List.take_drop]
theorem Akn(b:List UInt8)(hl:b.length<4611686018427387904):DO b=some (Wq b):=by
 rw[DO,MH];by_cases h32:32<=b.length
 ·obtain⟨e1,e2⟩:=Aln h32 hl;have hl3:=Aag h32;rw[Aaw (by rw[Af,Ac];simp;omega),e1,Aj,BB,Aa,show((b.length-32:Nat):Int).toNat=b.length-32 from rfl,show(((b.length-32:Nat):Int)+8).toNat=b.length-32+8 by omega,Aq0 h32];by_cases hp:(Ci b).take 8=yX
  ·have h:=And.intro h32 hp;rw[Aaw (by simpa [yX]using hp),KO,LO,e1,e2,Aa,ve _ (by omega) (by omega),Aa];cases hb:CX (Ci b)with
   |true=>rw[ba2 h hb];rfl
   |false=>
    obtain⟨i1,i2,i3,i4⟩:=tY (Ci b) (by omega) hb;have eI:Er (part (Ci b) 12 4)-32=HM (Ci b):=rfl;have eM:Er (part (Ci b) 16 4)=C9 (Ci b):=rfl;simp only[An2,Awt,Ayh];rw[eI]at i3;rw[eM]at i4;rw[eI,eM,Lj,Aa1 rfl,tJ _ _ _ i3 i4 (by decide),Aa,Aa];have e7:(2147483648:UInt64).toNat=2147483648:=rfl;have e8:(2684354560:UInt64).toNat=2684354560:=rfl;rw[e7];by_cases c2:Ci b=Od (HM (Ci b)) (C9 (Ci b)) 2147483648
    ·have c1:Ci b≠Od (HM (Ci b)) (C9 (Ci b)) 0:=λe=>Asr (HM (Ci b)) (C9 (Ci b)) (e.symm.trans c2);rw[Aaw (by simpa using c2),Wz,Wu,Aa1 (by simpa using c2),Xc,Xg,Aj (a:=32) (by omega) (by omega),Aj];by_cases c3:b.length<HM (Ci b)+64
     ·rw[Aa1 (by rw[Af,Ac];simp;omega),ba5 h hb c1 c2 c3]
     ·rw[Aaw (by rw[Af,Ac];simp;omega),Aa1 (by simpa using c2),Ac,Bu,Aj,BB,Aa,Us,tJ _ _ _ i3 i4 (by decide),Aa,Aa,ba6 h hb c1 c2 c3,e8];rw[show((b.length:Int)-(32+((HM (Ci b):Nat):Int)+32)).toNat=b.length-(HM (Ci b)+64) by omega,show((b.length:Int)-(32+((HM (Ci b):Nat):Int)+32)+32).toNat=b.length-(HM (Ci b)+64)+32 by omega];by_cases c4:(b.take (b.length-(HM (Ci b)+64)+32)).drop (b.length-(HM (Ci b)+64))=Od (HM (Ci b)) (C9 (Ci b)) 2684354560
      ·rw[Aaw (by simpa using c4),Aaw (λe=>e c4),show(32+((HM (Ci b):Nat):Int)+32)=((HM (Ci b)+64:Nat):Int) by omega]
      ·rw[Aa1 (by simpa using c4),Aa1 c4]
    ·rw[Aa1 (by simpa using c2),Lj,Aaw (by simp),tJ _ _ _ i3 i4 (by decide),Aa,Aa];have e9:(0:UInt64).toNat=0:=rfl;rw[e9];by_cases c1:Ci b=Od (HM (Ci b)) (C9 (Ci b)) 0
     ·rw[Aaw (by simpa using c1),Wz,Wu,Aaw (by simpa using c2),Xc,Xg,Aj,ba3 h hb c1,Aaw (c:=(Ci b==Od (HM (Ci b)) (C9 (Ci b)) 2147483648)=true) (by simpa using c2)];by_cases c3:b.length<HM (Ci b)+32
      ·rw[Aa1 (by rw[Af,Ac];simp;omega),Aa1 c3]
      ·rw[Aaw (by rw[Af,Ac];simp;omega),Aaw c3,show(32+((HM (Ci b):Nat):Int))=((HM (Ci b)+32:Nat):Int) by omega]
     ·rw[Aa1 (by simpa using c1),ba4 h hb c1 c2]
  ·rw[Aa1 (by simpa [yX]using hp),ba1 (λh=>hp h.2)]
 ·rw[Aa1 (by rw[Af,Ac];simp;omega),ba1 (λh=>h32 h.1)]
def om:Nat->List UInt8->Nat->Int×Int
 |0,_,_=>(0,38)
 |j+1,b,a=>if b=[]then((a:Int),0)else if(Wq b).2≠0 then(0,38)else om j (b.take (b.length-(Wq b).1.toNat)) (a+1)
theorem Aa9:∀(j q a:Nat) (b:List UInt8),b.length<j->j<=q->b.length<=4000->a+b.length<=4000->Tg q (a:Int) b=some (om j b a)
 |0,_,_,_,h,_,_,_=>by omega
 |j+1,q+1,a,b,h,hq,h4,ha=>by
  rw[Tg,NS,om];by_cases hb:b=[]
  ·subst hb;rw[Aaw (by decide),Aa1 rfl];rfl
  ·have hpos:0<b.length:=List.length_pos_iff.2 hb;rw[Aa1 (by rw[Ay,Ac];simp;omega),Aaw hb,Aip b (by omega),Aa];have hbad:=Aih (b:=b);have hok:=λn=>Abp (b:=b) (n:=n);generalize Wq b=v at*
   obtain⟨n,e⟩:=v;simp only at hbad⊢;rw[JL,IF];by_cases he:e≠0
   ·rw[Aa1 he,hbad he,Aa1 (by decide)]
   ·obtain⟨k1,k2⟩:=hok n (by rw[show e=0 by simpa using he]);rw[Aaw he,Aaw (by rw[Bb];simp;omega),Ac,Bu,Da,Aa,IP,aU,Aj];rw[show((b.length:Int)-n).toNat=b.length-n.toNat by omega];have ih:=Aa9 j q (a+1) (b.take (b.length-n.toNat)) (by rw[Ae5];omega) (by omega) (by rw[Ae5];omega) (by rw[Ae5];omega);rw[<-ih];rfl
theorem Aey:∀(j q a:Nat) (b:List UInt8),b.length<j->j<=q->b.length<=4000->a+b.length<=4000->Mi q b (a:Int)=some (om j b a)
 |0,_,_,_,h,_,_,_=>by omega
 |j+1,q+1,a,b,h,hq,h4,ha=>by
  rw[Mi,EN,om];by_cases hb:b=[]
  ·subst hb;rw[Aaw (by decide),Aa1 rfl];rfl
  ·have hpos:0<b.length:=List.length_pos_iff.2 hb;rw[Aa1 (by rw[Ay,Ac];simp;omega),Aaw hb,Akn b (by omega),Aa];have hok:=λn=>Abp (b:=b) (n:=n);generalize Wq b=v at*
   obtain⟨n,e⟩:=v;simp only;by_cases he:e≠0
   ·rw[Aa1 he,Aa1 (by rw[Ao];simpa using he)]
   ·obtain⟨k1,k2⟩:=hok n (by rw[show e=0 by simpa using he]);rw[Aaw he,Aaw (by rw[Ao];simpa using he),Ac,Bu,Da,Aa,Aj];rw[show((b.length:Int)-n).toNat=b.length-n.toNat by omega];have ih:=Aey j q (a+1) (b.take (b.length-n.toNat)) (by rw[Ae5];omega) (by omega) (by rw[Ae5];omega) (by rw[Ae5];omega);rw[<-ih];rfl
def KI(b:List UInt8):Int×Int:=if 4000<b.length then(0,38)else om (b.length+1) b 0
theorem wC(b:List UInt8)(hl:b.length<4611686018427387904):GQ b=some (KI b):=by
 rw[GQ,NI,KI];by_cases h:4000<b.length
 ·rw[Aa1 (by rw[Ay,Ac];simp;omega),Aa1 h]
 ·rw[Aaw (by rw[Ay,Ac];simp;omega),Aaw h];exact Aa9 _ Ar 0 b (by omega) (by have:=As;omega) (by omega) (by omega)
theorem Ad2(b:List UInt8)(hl:b.length<4611686018427387904):Za b=some (KI b):=by
 rw[Za,DQ,KI];by_cases h:4000<b.length
 ·rw[Aa1 (by rw[Ay,Ac];simp;omega),Aa1 h]
 ·rw[Aaw (by rw[Ay,Ac];simp;omega),Aaw h];exact Aey _ Ar 0 b (by omega) (by have:=As;omega) (by omega) (by omega)
theorem As4{a b:Nat}(h:a<9223372036854775808:=by omega):By (a:Int) (b:Int)=((a/b:Nat):Int):=by
 have:a/b<=a:=Ar5 _ _;rw[NM,Auf (by omega),<-Int.natCast_ediv];generalize a/b=k at*
 exact Cm (by omega) (by omega)
theorem vW{bits:Int}(h:Ct bits)(x:Int):(JW bits x).length=wB bits:=by
 obtain rfl|rfl|rfl:=h<;>rfl
theorem UZ{bits:Int}(h:Ct bits):∀l:List Int32,(Gl bits l).length=l.length*wB bits
 |[]=>by simp[Gl]
 |x::l=>by
  have h1:=UZ h l;have h2:=vW h x.toInt;simp only[Gl,List.flatMap_cons,Abz,Ars,Aye]at*
  omega
def Alr(b:List UInt8)(A:Nat)(l:List Int)(k:Nat):List UInt8:=(b.take ((A:Int)+(l.take (k+1)).sum).toNat).drop ((A:Int)+(l.take k).sum).toNat
structure Gts (b p:List UInt8) (f c w r n A:Nat) (l:List Int) (k m:Nat) (x:List Int32) (s:List UInt8) (e:Int):Prop where
 mom:Am (Aq (Ba r) n) (k:Int)=some (m:Int)
 pos:1<=m/\m*c<=4000
 got:Rc b p (f:Int) (c:Int) (w:Int) (r:Int) (n:Int) (A:Int) l (k:Int)=some (s,e)
 none':e≠0->s=[]/\x=[]
 some':e=0->s=Gl (w:Int) x/\x.length=m*c/\Bn (w:Int) x=some 0/\Rj (w:Int) x=some (s,0)/\ (A:Int)+(l.take (k+1)).sum<=b.length
 way:((b.length:Int)<(A:Int)+(l.take (k+1)).sum/\e=24)\/ ((A:Int)+(l.take (k+1)).sum<=b.length/\Nq (c:Int) (w:Int) (FB p) (m:Int) (Alr b A l k)=some (x,e)/\Ez (c:Int) (w:Int) (FB p) (m:Int) (Alr b A l k)=some (x,e))
theorem Ahe{b p:List UInt8}{f c w r n A:Nat}{l:List Int}(o:Opn b p f c w r n A l)(k:Nat)(hk:k<l.length):∃m x s e,Gts b p f c w r n A l k m x s e:=by
 obtain⟨hc,hw,hr,hn,_⟩:=ZF o.shape;have hfit:n<=4000/c:=by have:=o.fit;simp only[SA,Aby]at this;exact this.1
 have hn4:n<=4000:=by have:=Ar5 4000 c;omega
 have hA:=o.at';have Asf:=o.file;have hlen:=o.len;have b1:=BE o.five k;have b2:=BE o.five (k+1);have e:=Zi hk;have h5:=o.five l[k] (Ar0 _);have hsum:=o.sum;have hs1:=o.some1;have hkf:k<(Aq (Ba r) n).length:=by omega
 obtain⟨m,hm,m1,m2⟩:=AW (Tl r) hn (Ar0 hkf);have Arm:Am (Aq (Ba r) n) (k:Int)=some (m:Int):=by rw[Cw hkf,hm]
 have hpos:1<=m/\m*c<=4000:=by
  refine⟨m1,?_⟩;have:=Ac1 c (Nat.le_trans m2 hfit);have:=Awq 4000 c;omega
 have hR:Rc b p (f:Int) (c:Int) (w:Int) (r:Int) (n:Int) (A:Int) l (k:Int)=Rc b p (f:Int) (c:Int) (w:Int) (r:Int) (n:Int) (A:Int) l (k:Int):=rfl
 conv at hR=>rhs;rw[Rc,OQ,Ag1 hs1.2 o.five o.sum _ _ _ _ _ (A:Int) (by omega) (by omega) k (by omega),Aa,Cw hk,Aa,Bu (by rw[Ac];omega) (by rw[Ac];omega)]
 by_cases hto:(b.length:Int)<(A:Int)+(l.take (k+1)).sum
 ·rw[Aa1 (by rw[Af,Ac,Aby];omega)]at hR;exact⟨m,[],[],24,Arm,hpos,hR,λ_=>⟨rfl,rfl⟩,λh=>by simp at h, .inl ⟨hto,rfl⟩⟩
 ·rw[Aaw (by rw[Af,Ac,Aby];omega),jU p o.pass,sW hr.2 hn hn4]at hR;simp only[Aa]at hR;rw[Aj (a:=(A:Int)+(l.take k).sum) (b:=l[k]) (by omega) (by omega),Int.add_assoc,<-e,Arm]at hR;simp only[Aa]at hR;rw[BB,Aa]at hR;obtain⟨x,er,g1,g2,g3,g4⟩:=KZ (ch:=c) (n:=m) (t:=FB p) (Alr b A l k) hw (Wh p) hc.1 hc.2 m1 (by omega);rw[show(b.take ((A:Int)+(l.take (k+1)).sum).toNat).drop ((A:Int)+(l.take k).sum).toNat=Alr b A l k from rfl,g2,Aa]at hR;simp only at hR;rw[PX,QB]at hR;by_cases her:er=0
  ·obtain⟨g5,g6,g7⟩:=g3 her;rw[Aaw (by rw[Ao];simpa using her),aR hw g6 g5,Aa]at hR;subst her;exact⟨m,x,_,0,Arm,hpos,hR,λh=>absurd rfl h,λ_=>⟨rfl,g7,g5,pP hw g6 g5,by omega⟩, .inr ⟨by omega,g1,g2⟩⟩
  ·rw[Aa1 (by rw[Ao];simpa using her)]at hR;exact⟨m,x,_,er,Arm,hpos,hR,λh=>⟨rfl,g4 h⟩,λh=>absurd h her, .inr ⟨by omega,g1,g2⟩⟩
theorem Gts.lens{b p:List UInt8}{f c w r n A:Nat}{l:List Int}{k m:Nat}{x:List Int32}{s:List UInt8}{e:Int}(hw:Ct (w:Int))(g:Gts b p f c w r n A l k m x s e):s.length<=12000/\x.length<=4000/\ (e=0->s.length=m*c*wB (w:Int)):=by
 by_cases he:e=0
 ·obtain⟨h1,h2,_⟩:=g.some' he;have h3:=JI (w:Int) x;have h4:=UZ hw x;have h5:=g.pos;rw[<-h1]at h3 h4;refine⟨by omega,by omega,λ_=>by rw[h4,h2]⟩
 ·obtain⟨h1,h2⟩:=g.none' he;exact⟨by simp[h1],by simp[h2],λh=>absurd h he⟩
def Ara(b p:List UInt8)(f c w r n A:Nat)(l:List Int)(k:Nat):List UInt8×Int:=(Rc b p (f:Int) (c:Int) (w:Int) (r:Int) (n:Int) (A:Int) l (k:Int)).getD ([],0)
theorem Gts.eq{b p:List UInt8}{f c w r n A:Nat}{l:List Int}{k m:Nat}{x:List Int32}{s:List UInt8}{e:Int}(g:Gts b p f c w r n A l k m x s e):Ara b p f c w r n A l k=(s,e):=by rw[Ara,g.got];rfl
def Avl(b:List UInt8)(A:Nat)(l:List Int):Int:=(KI (b.drop ((A:Int)+l.sum).toNat)).2
def mX(b:List UInt8)(k:Nat):Nat:=(b.getD k 0).toNat
def sx(n:Nat)(b:List UInt8)(a:Nat):Int:=
 if n=1 then(mX b a:Int)-128 else
 if n=2 then(if mX b a+256*mX b (a+1)<32768 then(mX b a+256*mX b (a+1):Nat)else((mX b a+256*mX b (a+1):Nat):Int)-65536)else
 (if mX b a+256*mX b (a+1)+65536*mX b (a+2)<8388608 then(mX b a+256*mX b (a+1)+65536*mX b (a+2):Nat)else((mX b a+256*mX b (a+1)+65536*mX b (a+2):Nat):Int)-16777216)
def sxs(n m:Nat)(b:List UInt8):List Int32:=(List.range m).map λx=>Int32.ofInt (sx n b (x*n))
theorem Aot(n m:Nat)(b:List UInt8):(sxs n m b).length=m:=by simp[sxs]
theorem sx2(b:List UInt8)(a:Nat):sx 2 b a=if mX b a+256*mX b (a+1)<32768 then((mX b a+256*mX b (a+1):Nat):Int)else((mX b a+256*mX b (a+1):Nat):Int)-65536:=rfl
theorem sx3(b:List UInt8)(a:Nat):sx 3 b a=if mX b a+256*mX b (a+1)+65536*mX b (a+2)<8388608 then((mX b a+256*mX b (a+1)+65536*mX b (a+2):Nat):Int)else((mX b a+256*mX b (a+1)+65536*mX b (a+2):Nat):Int)-16777216:=rfl
variable (b:List UInt8)
end Go.Pl
namespace Go.Pl
open Go Go.Lv
theorem As8{c:Nat}{w:Nat}(hc:c<=6)(hw:Ct (w:Int)):By (Bj (c:Int) (w:Int)) 8=((c*wB (w:Int):Nat):Int):=by
 have h:w=8\/w=16\/w=24:=by unfold Ct at hw;omega
 have:c=0\/c=1\/c=2\/c=3\/c=4\/c=5\/c=6:=by omega
 rcases h with rfl|rfl|rfl<;>rcases this with rfl|rfl|rfl|rfl|rfl|rfl|rfl<;>rfl
theorem Aub{w:Nat}(hw:Ct (w:Int)):8*wB (w:Int)=w/\w<=24:=by
 have h:w=8\/w=16\/w=24:=by unfold Ct at hw;omega
 rcases h with rfl|rfl|rfl<;>exact⟨rfl,by omega⟩
theorem Ath{t c w:Nat}(ht:t<=4000)(hc:c<=6)(hw:Ct (w:Int)):By (Bj (Bj (t:Int) (c:Int)) (w:Int)) 8=((t*(c*wB (w:Int)):Nat):Int):=by
 obtain⟨h1,h2⟩:=Aub hw;have e1:(t:Int)*(c:Int)=((t*c:Nat):Int):=by simp
 have b1:t*c<=4000*6:=Aum ht hc;have b2:t*c*w<=24000*24:=Aum b1 h2;rw[Jh (a:=(t:Int)) (by rw[e1];omega) (by rw[e1];omega),e1,Jh (by rw[<-As3];omega) (by rw[<-As3];omega),<-As3,show(8:Int)=((8:Nat):Int)from rfl,As4];congr 1;generalize wB (w:Int)=W at*
 subst h1;rw[Nat.mul_left_comm,Nat.mul_div_cancel_left _ (by omega),Avz]
def smF(w:Nat)(y:List UInt8×Int):List Int32:=if y.2≠0 then []else sxs (wB (w:Int)) (y.1.length/wB (w:Int)) y.1
theorem uA(z:Int):(u8 z).toNat=(z %256).toNat:=by
 have:(z %256).toNat<256:=by omega
 rw[u8,Anz,Abw (by omega)]
theorem A8{bits:Int}(h:Ct bits):∀(l:List Int32) (i j:Nat),i<l.length->j<wB bits-> (Gl bits l).getD (i*wB bits+j) 0=(JW bits (l.getD i 0).toInt).getD j 0
 |[],i,j,hi,_=>by simp at hi
 |x::l,0,j,_,hj=>by
  have h1:=vW h x.toInt;have e:Gl bits (x::l)=JW bits x.toInt++Gl bits l:=by simp[Gl]
  rw[e,Nat.zero_mul,Avk,List.getD_eq_getElem?_getD,List.getD_eq_getElem?_getD,List.getElem?_append_left (by omega)];rfl
 |x::l,i+1,j,hi,hj=>by
  have h1:=vW h x.toInt;have e:Gl bits (x::l)=JW bits x.toInt++Gl bits l:=by simp[Gl]
  have ih:=A8 h l i j (by simpa using hi) hj;have e2:(i+1)*wB bits+j=(JW bits x.toInt).length+(i*wB bits+j):=by rw[Arr,Nat.one_mul,h1];omega
  rw[e,e2,List.getD_eq_getElem?_getD,List.getElem?_append_right (by omega),Awv,<-List.getD_eq_getElem?_getD,ih];rfl
theorem Aou{bits:Int}(h:Ct bits)(l:List Int32)(hr:inR bits l)(i:Nat)(hi:i<l.length):Int32.ofInt (sx (wB bits) (Gl bits l) (i*wB bits))=l.getD i 0:=by
 have hm:l.getD i 0∈l:=by rw[List.getD_eq_getElem?_getD,List.getElem?_eq_getElem hi];exact Ar0 hi
 have hv:=hr _ hm;have g:∀j,j<wB bits->mX (Gl bits l) (i*wB bits+j)=((JW bits (l.getD i 0).toInt).getD j 0).toNat:=λj hj=>by rw[mX,A8 h l i j hi hj]
 generalize l.getD i 0=x at*
 have key:sx (wB bits) (Gl bits l) (i*wB bits)=x.toInt:=by
  generalize hA:i*wB bits=a at*
  obtain rfl|rfl|rfl:=h
  ·have g0:=g 0 (by decide);have e1:(JW 8 x.toInt).getD 0 0=u8 (x.toInt+128):=rfl;rw[Awr,e1,uA]at g0;simp only[hB]at hv;simp at hv;have e2:wB 8=1:=rfl;rw[e2,sx,Aa1 rfl,g0];omega
  ·have g0:=g 0 (by decide);have g1:=g 1 (by decide);have e0:(JW 16 x.toInt).getD 0 0=u8 x.toInt:=rfl;have e1:(JW 16 x.toInt).getD 1 0=u8 (x.toInt/256):=rfl;rw[Awr,e0,uA]at g0;rw[e1,uA]at g1;simp only[hB]at hv;simp at hv;have e2:wB 16=2:=rfl;rw[e2,sx2,g0,g1];split<;>omega
  ·have g0:=g 0 (by decide);have g1:=g 1 (by decide);have g2:=g 2 (by decide);have e0:(JW 24 x.toInt).getD 0 0=u8 x.toInt:=rfl;have e1:(JW 24 x.toInt).getD 1 0=u8 (x.toInt/256):=rfl;have e3:(JW 24 x.toInt).getD 2 0=u8 (x.toInt/65536):=rfl;rw[Awr,e0,uA]at g0;rw[e1,uA]at g1;rw[e3,uA]at g2;simp only[hB]at hv;simp at hv;have e2:wB 24=3:=rfl;rw[e2,sx3,g0,g1,g2];split<;>omega
 rw[key];simp
theorem Alj{bits:Int}(h:Ct bits)(l:List Int32)(hr:inR bits l):sxs (wB bits) l.length (Gl bits l)=l:=by
 refine Aul (Aot _ _ _) λi h1 h2=>?_;have:=Aou h l hr i h2;simp only[sxs,Ayg,Aya];rw[this,List.getD_eq_getElem?_getD,List.getElem?_eq_getElem h2];rfl
theorem Gts.yN{b p:List UInt8}{f c w r n A:Nat}{l:List Int}{k m:Nat}{x:List Int32}{s:List UInt8}{e:Int}(hw:Ct (w:Int))(g:Gts b p f c w r n A l k m x s e):smF w (s,e)=x:=by
 have hwb:=ek (w:Int);by_cases he:e=0
 ·obtain⟨h1,h2,h3,_⟩:=g.some' he;have h4:=g.pos;have h5:=UZ hw x;rw[smF,Aaw (by simpa using he)];simp only;rw[h1,h5,Nat.mul_div_cancel _ (by omega)];exact Alj hw x (uB hw (by omega) h3)
 ·rw[smF,Aa1 he,(g.none' he).2]
abbrev C5:=Int×Int×Int×List Int32×Int
def Aw0(e:Int):C5:=(0,0,0,[],e)
theorem Abg{tV p:List UInt8}(hs:tV.length=8)(hp:p.length<=64):Xn tV p=some (tV==RS (DU p).toNat 8,0):=by
 rw[Xn,Aib p hp,Aa];simp only;rw[Aaw (by rw[Ao,Ao,Ac,Ac,Qi,hs];simp),Fy,Aa]
def Aof(X:Nat->List Int32)(E:Nat->Int)(be:Int):Nat->Nat->List Int32->List Int32×Int
 |0,_,acc=>if be≠0 then([],38)else(acc,0)
 |j+1,k,acc=>if E k≠0 then([],E k)else Aof X E be j (k+1) (acc++X k)
def Aar(c w r:Nat)(y:List Int32×Int):C5:=if y.2≠0 then Aw0 y.2 else((c:Int),(w:Int),(r:Int),y.1,0)
section
variable {b p:List UInt8} {f c w r n A:Nat} {l:List Int} (o:Opn b p f c w r n A l)
include o
theorem uM(a1 a2 a3 a4:Int):∀(j k q:Nat) (acc:List Int32),k+j=l.length->j<q-> (k=l.length-> (A:Int)+l.sum<=b.length)->acc.length<=4000*k->
  FH b l (f:Int) (c:Int) (w:Int) (r:Int) (n:Int) a1 a2 a3 (A:Int) a4 (FB p) (Aq (Ba r) n) q ((A:Int)+(l.take k).sum) (k:Int) acc=
   some (Aar c w r (Aof (λk=>smF w (Ara b p f c w r n A l k)) (λk=>(Ara b p f c w r n A l k).2) (Avl b A l) j k acc))
 |0,k,q+1,acc,hk,_,hfit,_=>by
  have hA:=o.at';have Asf:=o.file;have hs1:=o.some1;have hsum:=o.sum;have b1:=BE o.five l.length;have hf:=hfit (by omega);obtain rfl:k=l.length:=by omega
  rw[Aw3]at b1⊢;rw[FH,TY,Aaw (by rw[Af,Ac];simp),iS,iD,Dg,Aa,wC _ (by rw[Anr];omega),Aa,Aof,Avl];generalize KI (b.drop ((A:Int)+l.sum).toNat)=v;obtain⟨v1,v2⟩:=v;simp only;by_cases hv:v2≠0
  ·rw[Aa1 hv,Aa1 (by rw[Ao];simpa using hv),Aar,Aa1 (by simp)];rfl
  ·rw[Aaw hv,Aaw (by rw[Ao];simpa using hv),Aar,Aaw (by simp)]
 |j+1,k,q+1,acc,hk,hq,hfit,hacc=>by
  have hA:=o.at';have Asf:=o.file;have hs1:=o.some1;have hsum:=o.sum;have b1:=BE o.five k;have b2:=BE o.five (k+1);have hkl:k<l.length:=by omega
  have e2:=Zi hkl;have h5:=o.five l[k] (Ar0 _);obtain⟨m,x,s,e,g⟩:=Ahe o k hkl;obtain⟨hc,hw,hr,hn,_⟩:=ZF o.shape;have hl:=g.lens hw;rw[FH,TY,Aa1 (by rw[Af,Ac];simp;omega),Cw hkl,Aa,Aa,Aj (a:=(A:Int)+(l.take k).sum) (by omega) (by omega),Int.add_assoc,<-e2,Ac,Aof,g.eq];simp only;rcases g.way with⟨h1,h2⟩|⟨h1,h2,_⟩
  ·rw[Aa1 (by rw[Af,Aby];omega),Aa1 (by rw[h2];simp),h2,Aar,Aa1 (by simp)];rfl
  ·rw[Aaw (by rw[Af,Aby];omega),g.mom];simp only[Aa];rw[BB,Aa,show(b.take ((A:Int)+(l.take (k+1)).sum).toNat).drop ((A:Int)+(l.take k).sum).toNat=Alr b A l k from rfl,h2,Aa];simp only;rw[jO,lD];by_cases he:e≠0
   ·rw[Aa1 (by rw[Ao];simpa using he),Aa1 he,Aar,Aa1 he];rfl
   ·have he0:e=0:=by simpa using he
    have Asg:=(g.some' he0).2.2.2.2;rw[Aaw (by rw[Ao];simpa using he),Aaw he,g.yN hw,Cv,Aa,Aj (a:=(A:Int)+(l.take k).sum) (by omega) (by omega),Int.add_assoc,<-e2,Aj];exact uM a1 a2 a3 a4 j (k+1) q (acc++x) (by omega) (by omega) (λh=>by rw[h,Aw3]at Asg;exact Asg) (by rw[Abz];omega)
end
def uQ(b:List UInt8):List Int:=Aq (Ba (f3 (Vu b))) (f4 (Vu b))
theorem H4{c r n:Nat}(h:SA c r n=true):1<= (Aq (Ba r) n).length/\ (Aq (Ba r) n).length<=1000:=by
 simp only[SA,Aby]at h;rw[wF];exact⟨Nat.le_add_left _ _,h.2⟩
theorem Afr(g:Nat):∀K:Nat,(List.replicate K (g:Int)).sum=((K*g:Nat):Int)
 |0=>by simp
 |K+1=>by
  rw[Avq,Au6,Afr g K,Aye];omega
theorem uh{g n:Nat}(hn:1<=n):(Aq g n).sum=(n:Int):=by
 have h:=Awq (n-1) g;rw[Aq,List.sum_append,Afr];simp only[Au6,Ay1];omega
theorem Ab9:∀{l:List Int},(∀x∈l,0<=x)->0<=l.sum
 |[],_=>by simp
 |x::l,h=>by
  have h1:=h x Av1;have h2:=Ab9 (l:=l) λy hy=>h y (Atx _ hy);rw[Au6];omega
theorem mS{l:List Int}(h:∀x∈l,0<=x)(i:Nat):0<= (l.take i).sum/\ (l.take i).sum<=l.sum:=by
 have h1:=Ab9 (l:=l.take i) λx hx=>h x (List.mem_of_mem_take hx);have h2:=Ab9 (l:=l.drop i) λx hx=>h x (List.mem_of_mem_drop hx);have:=W6 l i;omega
def CU(c w:Nat)(fr:List Int)(k:Nat):Int:=(((fr.take k).sum.toNat*(c*wB (w:Int)):Nat):Int)
section
variable {f c w r n:Nat} (h1:Ls f c w r n=true) (h2:SA c r n=true)
include h1 h2
theorem SO:(∀x∈Aq (Ba r) n,0<=x)/\ (Aq (Ba r) n).sum=(n:Int)/\n<=4000:=by
 obtain⟨hc,hw,hr,hn,_⟩:=ZF h1;have hfit:n<=4000/c:=by simp only[SA,Aby]at h2;exact h2.1
 have hn4:n<=4000:=by have:=Ar5 4000 c;omega
 refine⟨λx hx=>?_,uh hn,hn4⟩;obtain⟨m,rfl,_⟩:=AW (Tl r) hn hx;omega
end
theorem Adr(C W:Nat)(fr:List Int):CU C W fr 0=0:=by rw[CU,Axp,Ay1];simp
theorem Aci(C W:Nat){fr:List Int}(hp:∀z∈fr,0<=z){A m:Nat}(hA:A<fr.length)(hm:fr[A]=(m:Int)):CU C W fr (A+1)=CU C W fr A+((m*C*wB (W:Int):Nat):Int):=by
 have hs:0<= (fr.take A).sum:=by
  have:∀l:List Int,(∀z∈l,0<=z)->0<=l.sum:=by
   intro l
   induction l with
   |nil=>intro _;simp
   |cons a l ih=>intro h;rw[Au6];have:=h a (by simp);have:=ih (λz hz=>h z (by simp[hz]));omega
  exact this _ λz hz=>hp z (List.mem_of_mem_take hz)
 have e:(fr.take (A+1)).sum=(fr.take A).sum+m:=by rw[RE hA,List.sum_append,Au6,Ay1,hm];omega
 rw[CU,CU,e];have:((fr.take A).sum+(m:Int)).toNat=(fr.take A).sum.toNat+m:=by omega
 rw[this,Arr,Avz m];omega
def Cd(e:Int):Prop:=e=0\/e=4\/e=12\/e=16\/e=22\/e=24\/e=26\/e=38
instance(e:Int):Decidable (Cd e):=by unfold Cd;infer_instance
theorem Cd.nn{e:Int}(h:Cd e):0<=e:=by unfold Cd at h;omega
theorem Atl(p:List UInt8)(N a k:Nat):Cd (WR p N a k).2.2:=by
 unfold WR
 repeat' split
 all_goals first|decide|exact .inl rfl
theorem Ass(p:List UInt8)(N a k l:Nat):Cd (dZ p N a k l).2.2:=by
 have h:=Atl p N (a+1) l;unfold dZ
 repeat' split
 all_goals first|exact h|decide|exact .inl rfl
theorem Aeg(ch:Nat)(p:List UInt8)(N:Nat):∀(j a:Nat) (out:List UInt32),Cd (Xs ch p N j a out).2.2
 |0,a,out=>by rw[Xs];exact .inl rfl
 |j+1,a,out=>by
  rw[Xs];split
  ·exact Ass ..
  ·exact Aeg ch p N j _ _
theorem Anc(b:List UInt8):Cd (Vt b):=by
 unfold Vt
 repeat' split
 all_goals first|decide|exact .inl rfl
theorem V9(a:List Int32)(b:Int):∀(q:Nat) (i e:Int),Bp a b q i=some e->Cd e
 |0,_,_,h=>by rw[Bp]at h;cases h
 |q+1,i,e,h=>by
  rw[Bp,Fc]at h;split at h
  ·cases hg:Am a i with
   |none=>rw[hg]at h;cases h
   |some g=>
    rw[hg,Aa]at h;split at h
    ·cases h;decide
    ·rw[Aa]at h;split at h
     ·cases h;decide
     ·exact V9 a b q _ e h
  ·cases h;decide
theorem Acp{bits:Int}{a:List Int32}{e:Int}(hb:Ct bits)(h:Bn bits a=some e):Cd e:=by
 rw[Bn,Jz]at h;rw[xU hb,Aa,Aaw (by have:=qF bits;rw[Bb];simp;omega)]at h;split at h
 ·cases h;decide
 ·exact V9 a _ _ _ e h
theorem Z8{bits:Int}{ch n:Nat}{t:List Int32}{b:List UInt8}(hb:Ct bits)(ht:t.length=16)(h1:1<=ch)(h6:ch<=6)(n1:1<=n)(n2:n<=4000/ch){l:List Int32}{e:Int}
  (h:Ez (ch:Int) bits t (n:Int) b=some (l,e)):Cd e:=by
 have hn:n*ch<=4000:=by
  have:=Ac1 ch n2;have h2:=Awq 4000 ch;omega
 have hq4:=Agt h1 h6;generalize 4000/ch=mm at*
 have hh:=qF bits;have Aef:Nd (ch:Int) bits (n:Int)=some 0:=by
  rw[Nd,AJ,Aaw (by simp[Af,Ay];omega),xU hb,Aa,Aaw (by rw[Bb];simp;omega),Aa,Aaw (by simp[Ao,Af];omega),Dk (by rw[Ao];simp;omega),Aa,hq4,Aaw (by rw[Ay];simp;omega)]
 rw[Ez,Rw,Aef,Aa,Aaw (by rw[Ao];simp),M3,Aa]at h;by_cases hs:Vt b≠0
 ·rw[Aa1 (by rw[Ao];simpa using hs)]at h;simp only[Aa]at h;cases h;exact Anc b
 have hs0:Vt b=0:=by simpa using hs
 have hlen:=Aa8 hs0;have e4:Ak (Ac b) 4=((b.length-4:Nat):Int):=by rw[Ac,Bu];omega
 rw[Aaw (by rw[Ao,hs0];simp),e4,Da,Aa,show((b.length-4:Nat):Int).toNat=b.length-4 from rfl]at h;have hpl:(b.take (b.length-4)).length=b.length-4:=by simp
 generalize b.take (b.length-4)=p at*
 have hr:=Aga (N:=8*p.length) (p:=p) rfl (by omega) h1 h6 hn;have hV:=Aeg ch p (8*p.length) (n*ch) 0 [];have hat:=zD (ch:=ch) (p:=p) (N:=8*p.length) (n*ch) 0 [] (by omega);rw[hr,Aa]at h;generalize Xs ch p (8*p.length) (n*ch) 0 []=V at*
 obtain⟨v,at',er⟩:=V;simp only at*
 by_cases he:er≠0
 ·rw[Aa1 he]at h;simp only at h;rw[Iw,Ir,Aa1 (by rw[Ao];simpa using he)]at h;cases h;exact hV
 have he0:er=0:=by simpa using he
 have hvl:=hat.2.2 he0;simp only[List.length_nil,Avk]at hvl;rw[Aaw he]at h;simp only at h;rw[Iw,Ir]at h;split at h
 ·cases h;decide
 ·rw[Aaw (by decide)]at h;have hm:v.length %ch=0:=by rw[hvl];exact Ayb n ch
  obtain⟨l',e',g1,g2,g3,g4,g5⟩:=tM (v:=v) hb ht h1 h6 (by omega) hm;rw[g1,Aa,g2,Aa]at h;have:=Acp hb g4;by_cases hl:e'≠0
  ·rw[Aa1 hl]at h;cases h;exact this
  ·rw[Aaw hl]at h;cases h;decide
theorem Y2{bits:Int}{ch n:Nat}{t:List Int32}{b:List UInt8}(hb:Ct bits)(ht:t.length=16)(h1:1<=ch)(h6:ch<=6)(n1:1<=n)(n2:n<=4000/ch){l:List Int32}{e:Int}
  (h:Ez (ch:Int) bits t (n:Int) b=some (l,e)):0<=e:=(Z8 hb ht h1 h6 n1 n2 h).nn
def shI(f c w r n:Int):Bool:=decide ((f=1\/f=2)/\ (1<=c/\c<=6)/\ (w=8\/w=16\/w=24)/\ (1<=r/\r<=1048576)/\1<=n)
theorem Am5(f c w r n:Int):Pw f c w r n=some (shI f c w r n):=by
 have e2:Mu f c w r n=some (decide ((f=1\/f=2)/\ (1<=c/\c<=6)/\ (1<=r/\r<=1048576)/\1<=n)):=by
  rw[Mu,JP];congr 1;rw[Agx];simp only[Bb,Ay,eS,Abv,Ash,Atw,Aby];omega
 have g:∀k:Int,geq w k=decide (w=k):=λk=>by rw[Bb,Agx];simp
 rw[Pw,Xw,e2,g,g,g,shI];by_cases h8:w=8
 ·subst h8;simp
 ·by_cases h16:w=16
  ·subst h16;simp
  ·by_cases h24:w=24
   ·subst h24;simp
   ·simp[h8,h16,h24]
theorem Ao8(f c w r n:Int):Ja f c w r n=some (shI f c w r n):=by
 rw[Ja,shI];simp only[Bb,En,eS,Abv,Ash,Atw,Aby,Ayi];split
 ·rename_i h;congr 1;rw[Agx];simp only[Abv,Ash,Atw,Aby];omega
 ·rename_i h;congr 1;symm;rw[Auk];omega
structure HdI (f c w r n:Int) (F C W R N:Nat):Prop where
 ef:f=F
 ec:c=C
 ew:w=W
 er:r=R
 en:n=N
 shape:Ls F C W R N=true
 fit:SA C R N=true
theorem Aix(f c w r n:Int):(∃F C W R N:Nat,HdI f c w r n F C W R N)\/ (Kn f c w r n=some 8/\Dn f c w r n=some ([],8)):=by
 by_cases h:shI f c w r n=true
 ·have h':=h;simp only[shI,Aby]at h';obtain⟨F,rfl⟩:=Ajj (show 0<=f by omega);obtain⟨C,rfl⟩:=Ajj (show 0<=c by omega);obtain⟨W,rfl⟩:=Ajj (show 0<=w by omega);obtain⟨R,rfl⟩:=Ajj (show 0<=r by omega);obtain⟨N,rfl⟩:=Ajj (show 0<=n by omega);have hs:Ls F C W R N=true:=by simp only[Ls,Aby];omega
  by_cases hf:SA C R N=true
  ·exact .inl ⟨F,C,W,R,N,rfl,rfl,rfl,rfl,rfl,hs,hf⟩
  ·have hf':SA C R N=false:=by simpa using hf
   refine .inr ⟨?_,?_⟩
   ·rw[Kn,pW,Aa,hs,Aaw (by simp),J6 hs,Aa,hf'];rfl
   ·rw[Dn,Sy,iW,Aa,hs,Aaw (by simp),uC hs,Aa,hf'];rfl
 ·have h':shI f c w r n=false:=by simpa using h
  refine .inr ⟨?_,?_⟩
  ·rw[Kn,Ao8,Aa,h'];rfl
  ·rw[Dn,Sy,Am5,Aa,h'];rfl
theorem HdI.check{f c w r n:Int}{F C W R N:Nat}(h:HdI f c w r n F C W R N):Kn f c w r n=some 0:=by
 obtain⟨rfl,rfl,rfl,rfl,rfl,hs,hf⟩:=h;rw[Kn,pW,Aa,hs,Aaw (by simp),J6 hs,Aa,hf];rfl
theorem HdI.uQ{f c w r n:Int}{F C W R N:Nat}(h:HdI f c w r n F C W R N):Dn f c w r n=some (Aq (Ba R) N,0):=by
 obtain⟨rfl,rfl,rfl,rfl,rfl,hs,hf⟩:=h;exact Aal hs hf
theorem HdI.num{f c w r n:Int}{F C W R N:Nat}(h:HdI f c w r n F C W R N):(F=1\/F=2)/\ (1<=C/\C<=6)/\ (W=8\/W=16\/W=24)/\ (1<=R/\R<=1048576)/\1<=N/\N<=4000/C/\N<=4000/\ (N-1)/Ba R+1<=1000:=by
 obtain⟨rfl,rfl,rfl,rfl,rfl,hs,hf⟩:=h;simp only[Ls,Aby]at hs;simp only[SA,Aby]at hf;have hd:4000/C<=4000:=Ar5 _ _;omega
theorem HdI.Ac9{f c w r n:Int}{F C W R N:Nat}(h:HdI f c w r n F C W R N):Fs f c w r n=some (Aq (Ba R) N):=by
 have hn:=h.num;obtain⟨rfl,rfl,rfl,rfl,rfl,hs,hf⟩:=h;rw[Fs,sW (by omega) (by omega) (by omega)];rfl
section
variable {f c w r n:Nat} (h1:Ls f c w r n=true) (h2:SA c r n=true)
include h1 h2
theorem X7(k:Nat)(hk:k<= (Aq (Ba r) n).length):∀(j i q:Nat),i+j=k->j<q->Ky (k:Int) (f:Int) (c:Int) (w:Int) (r:Int) (n:Int) (Aq (Ba r) n) q (((Aq (Ba r) n).take i).sum) (i:Int)=some (CU c w (Aq (Ba r) n) k)
 |0,i,q+1,hi,_=>by
  obtain⟨hc,hw,hr,hn,_⟩:=ZF h1;obtain⟨g1,g2,g3⟩:=SO h1 h2;have b:=mS g1 i;obtain rfl:i=k:=by omega
  have hb:((Aq (Ba r) n).take i).sum.toNat*(c*wB (w:Int))<=4000*(6*3):=Aum (by omega) (Aum hc.2 (ek (w:Int)).2);rw[Ky,Wl,Aaw (by rw[Af];simp),MP,KS,Hq,Aa];simp only;rw[OS,As8 hc.2 hw,Aa,CU];have e:((Aq (Ba r) n).take i).sum=((((Aq (Ba r) n).take i).sum.toNat:Nat):Int):=by omega
  rw[e,Jh (by rw[<-As3];omega) (by rw[<-As3];omega),<-As3];rfl
 |j+1,i,q+1,hi,hq=>by
  obtain⟨g1,g2,g3⟩:=SO h1 h2;have hK:=H4 h2;have hlt:i<(Aq (Ba r) n).length:=by omega
  have b1:=mS g1 i;have b2:=mS g1 (i+1);have e:=Zi hlt;have ih:=X7 k hk j (i+1) q (by omega) (by omega);rw[e]at ih;rw[Ky,Wl,Aa1 (by rw[Af];simp;omega),Cw hlt,Aa,Aa,Aj,Aj];exact ih
theorem xc(k:Nat)(hk:k<= (Aq (Ba r) n).length):Vh (f:Int) (c:Int) (w:Int) (r:Int) (n:Int) (k:Int)=some (CU c w (Aq (Ba r) n) k):=by
 have hK:=H4 h2;obtain⟨g1,g2,g3⟩:=SO h1 h2;obtain⟨hc,hw,hr,hn,_⟩:=ZF h1;have h:=X7 h1 h2 k hk k 0 Ar (by omega) (by have:=As;omega);rw[Axp,Ay1]at h;rw[Vh,MG,Fs,sW hr.2 hn g3,Aa,Aa];exact h
theorem Ac0{i:Nat}(hlt:i<(Aq (Ba r) n).length):Ad (CU c w (Aq (Ba r) n) i) (By (Bj (Bj ((Aq (Ba r) n)[i]) (c:Int)) (w:Int)) 8)=CU c w (Aq (Ba r) n) (i+1):=by
 obtain⟨hc,hw,hr,hn,_⟩:=ZF h1;obtain⟨g1,g2,g3⟩:=SO h1 h2;have b1:=mS g1 i;have b2:=mS g1 (i+1);have e:=Zi hlt;have h0:=g1 _ (Ar0 hlt);have e2:(Aq (Ba r) n)[i]=(((Aq (Ba r) n)[i].toNat:Nat):Int):=by omega
 have hb:((Aq (Ba r) n).take (i+1)).sum.toNat*(c*wB (w:Int))<=4000*(6*3):=Aum (by omega) (Aum hc.2 (ek (w:Int)).2);rw[e2,Ath (by omega) hc.2 hw,CU,CU];have e3:((Aq (Ba r) n).take (i+1)).sum.toNat=((Aq (Ba r) n).take i).sum.toNat+(Aq (Ba r) n)[i].toNat:=by omega
 rw[e3,Arr]at hb⊢;rw[Aj];omega
theorem Y9(a:Nat)(ha:a<= (Aq (Ba r) n).length)(o p:LB)(m:LI)(a':Int)(N:LB)(u:Bool)(v:Int):∀(j i q:Nat),i+j=a->j<q->
  Oq ((Aq (Ba r) n).take a) o p (f:Int) (c:Int) (w:Int) (r:Int) (n:Int) m a' N u v q (CU c w (Aq (Ba r) n) i) (i:Int)=some (xZ (Ac N) (CU c w (Aq (Ba r) n) a))
 |0,i,q+1,hi,_=>by
  obtain rfl:i=a:=by omega
  rw[Oq,AE,Aaw (by rw[Af,Ac,Ae5];simp;omega),OB,eL]
 |j+1,i,q+1,hi,hq=>by
  have hK:=H4 h2;have hlt:i<(Aq (Ba r) n).length:=by omega
  have hlt2:i<((Aq (Ba r) n).take a).length:=by rw[Ae5];omega
  have ih:=Y9 a ha o p m a' N u v j (i+1) q (by omega) (by omega);rw[Oq,AE,Aa1 (by rw[Af,Ac];simp;omega),Cw hlt2,Aa,List.getElem_take,Ac0 h1 h2 hlt,Aj];exact ih
end
theorem yS{α:Type}(l:List α):geq (Ac l) 0=decide (l=[]):=by
 cases l with
 |nil=>rfl
 |cons x l=>rw[Bb,Ac,Ars,Auj (by simp),beq_eq_false_iff_ne];omega
theorem kg{α:Type}(l:List α):Dx (Ac l) 0=decide (l≠ []):=by
 cases l with
 |nil=>rfl
 |cons x l=>rw[Ay,Ac,Ars,Aun (by simp)];simp
inductive FitD (o:LB) (f c w r n:Int) (g:LI) (a:Int) (x:LB):Prop
 |new:f=0->c=0->w=0->r=0->n=0->g=[]->a=0->x=[]->FitD o f c w r n g a x
 |head (F C W R N:Nat):HdI f c w r n F C W R N-> (o==([]:LB))=decide (F=1)->g=[]->a=0->x=[]->FitD o f c w r n g a x
 |tab (F C W R N A:Nat):HdI f c w r n F C W R N-> (o==([]:LB))=decide (F=1)->AR g=true->g.length=(Aq (Ba R) N).length->a=A->A<=g.length->FitD o f c w r n g a x
theorem Acn(f c w r n:Int)(o:LB):Nb f c w r n o=Ei f c w r n o:=rfl
theorem Ady(o p:LB)(f c w r n:Int)(g:LI)(a:Int)(x:LB)(u:Bool)(v:Int):
  (Xk o p f c w r n g a x u v=some false/\Kk o p f c w r n g a x u v=some false)\/
  (Xk o p f c w r n g a x u v=some true/\Kk o p f c w r n g a x u v=Cc o p f c w r n g a x u v/\FitD o f c w r n g a x):=by
 rw[Xk,NW,Kk,Ui];by_cases hz:f=0/\c=0/\w=0/\r=0/\n=0
 ·obtain⟨rfl,rfl,rfl,rfl,rfl⟩:=hz;rw[Aa1 (by decide),Aa1 (by decide),yS,yS,kg,kg];by_cases h:g=[]/\a=0/\x=[]
  ·obtain⟨rfl,rfl,rfl⟩:=h;exact .inr ⟨rfl,by rw[Aaw (by decide)], .new rfl rfl rfl rfl rfl rfl rfl rfl⟩
  ·refine .inl ⟨?_,?_⟩
   ·congr 1;rw[Bool.eq_false_iff];intro e;simp only[Abv,Aby,Bb,Atw]at e;exact h ⟨e.1.1,e.1.2,e.2⟩
   ·rw[Aa1];simp only[Ash,Aby,Ao,Ayr];by_cases e1:g=[]
    ·by_cases e2:a=0
     ·exact .inr λe3=>h ⟨e1,e2,e3⟩
     ·exact .inl (.inr e2)
    ·exact .inl (.inl e1)
 ·have hz2:¬(((geq f 0)&&((geq c 0)&&((geq w 0)&&((geq r 0)&&((geq n 0)&&true)))))=true):=by
   simp only[Abv,Bb,Atw,Ay3];exact hz
  rw[Aaw hz2,Aaw hz2];rcases Aix f c w r n with⟨F,C,W,R,N,h⟩|⟨e1,e2⟩
  ·rw[h.uQ,h.check,Aa,Aa,Acn];simp only;rw[Aaw (by decide),Aaw (by decide),Ei];have hf:geq f 1=decide (F=1):=by rw[h.ef,Bb,Agx];simp;omega
   rw[hf];by_cases hp:(o==([]:LB))=decide (F=1)
   ·rw[Aaw (by rw[hp];simp),Aa,Aa,Aaw (by decide),Aaw (by decide),OM,NG,Nv,Nw,yS,yS,kg];by_cases hg:g=[]
    ·subst hg;rw[Aa1 (by simp),Aa1 (by simp)];by_cases h':a=0/\x=[]
     ·obtain⟨rfl,rfl⟩:=h';exact .inr ⟨rfl,by rw[Aaw (by decide)], .head F C W R N h hp rfl rfl rfl⟩
     ·refine .inl ⟨?_,?_⟩
      ·congr 1;rw[Bool.eq_false_iff];intro e;simp only[Abv,Aby,Bb,Atw]at e;exact h' e
      ·rw[Aa1];simp only[Ash,Aby,Ao,Ayr];by_cases e2:a=0
       ·exact .inr λe3=>h' ⟨e2,e3⟩
       ·exact .inl e2
    ·rw[Aaw (by simpa using hg),Aaw (by simpa using hg),jS,XB,Aa,Aa];by_cases ht:AR g=true
     ·rw[Aa1 ht,h.Ac9];simp only[Aa];by_cases hl:g.length=(Aq (Ba R) N).length/\0<=a/\a<=g.length
      ·obtain⟨hl,ha0,ha1⟩:=hl;obtain⟨A,rfl⟩:=Ajj ha0;have hA:A<= (Aq (Ba R) N).length:=by omega
       rw[Aaw (by simp[Ao,Af,Ay,Ac];omega),Aaw (by decide),Aaw (by simp[Ao,Af,Ay,Ac];omega),Da,Aa,NN];have hh:=h;clear hf;obtain⟨rfl,rfl,rfl,rfl,rfl,hs,hf⟩:=hh;have hlp:=Y9 hs hf A hA o p g (A:Int) x u v A 0 Ar (by omega) (by have:=As;have:=H4 hf;omega);have h0:CU C W (Aq (Ba R) N) 0=0:=by rw[CU,Axp,Ay1];simp
       rw[h0,show((0:Nat):Int)=0 from rfl]at hlp;rw[show((A:Int)).toNat=A from rfl,hlp,xc hs hf A hA,Aa];by_cases hx:(x.length:Int)<=CU C W (Aq (Ba R) N) A
       ·refine .inr ⟨?_,?_, .tab F C W R N A h hp ht hl rfl (by omega)⟩
        ·rw[eS,Ac,Aun hx]
        ·rw[Aaw (by rw[Ay,Ac];simp;omega)]
       ·refine .inl ⟨?_,?_⟩
        ·rw[eS,Ac,Auj hx]
        ·rw[Aa1 (by rw[Ay,Ac];simp;omega)]
      ·refine .inl ⟨?_,?_⟩
       ·rw[Aa1 (by simp[Ao,Af,Ay,Ac];omega)]
       ·rw[Aaw (by decide),Aa1 (by simp[Ao,Af,Ay,Ac];omega)]
     ·refine .inl ⟨?_,?_⟩
      ·rw[Aaw ht,Aa1 (by simp[Ao])]
      ·rw[Aaw ht,Aa1 (by decide),Aa1 (by simp)]
   ·rw[Aa1 (by simpa using hp),Aa,Aa,Aa1 (by decide),Aa1 (by decide)];exact .inl ⟨rfl,rfl⟩
  ·rw[e1,e2,Aa,Aa];simp only;rw[Aa1 (by decide),Aa1 (by decide)];exact .inl ⟨rfl,rfl⟩
theorem Amu(b:List UInt8)(n:Int):Cd (ZX b n).2:=by
 unfold ZX
 repeat' split
 all_goals first|decide|exact .inl rfl
theorem Ak9(b:List UInt8):(Ya b).2=6\/Cd (Ya b).2:=by
 unfold Ya wI
 repeat' split
 all_goals first|exact .inl rfl|exact .inr (Amu _ _)|exact .inr (by decide)
theorem Aiz(b:List UInt8):(Jj b).2=6\/Cd (Jj b).2:=by
 unfold Jj
 repeat' split
 all_goals first|exact .inl rfl|exact .inr (.inl rfl)|exact .inr (by decide)
theorem Al7(b:List UInt8):(Ck b).2=6\/Cd (Ck b).2:=by
 unfold Ck;split
 ·exact Ak9 b
 ·exact Aiz b
theorem X8(b:List UInt8):∀(j p:Nat),p<=b.length->b.length<j+p->Cd (Cb b j p).2
 |0,p,h1,h2=>by omega
 |j+1,p,h1,h2=>by
  rw[Cb];split
  ·exact .inl rfl
  ·rename_i h6;split
   ·exact(Al7 _).resolve_left h6
   ·rename_i h0;split
    ·exact(by decide:Cd 4)
    ·have hz:Ck (b.drop p)=((Ck (b.drop p)).1,0):=by rw[Prod.ext_iff];exact⟨rfl,by simpa using h0⟩
     obtain⟨k1,k2⟩:=lS hz;rw[Anr]at k2;split
     ·exact .inl rfl
     ·exact X8 b j _ (by omega) (by omega)
theorem X9(b:List UInt8):Cd (Di b).2:=by
 unfold Di Q7;split
 ·exact .inl rfl
 ·exact X8 b _ _ (by omega) (by omega)
theorem T7(b:List UInt8):0<= (Di b).2:=(X9 b).nn
theorem Aas(b:List UInt8):Cd (Ep b).2.2.2.2.2:=by
 unfold Ep
 repeat' split
 all_goals first|decide|exact .inl rfl
theorem qy(b:List UInt8):0<= (Ep b).2.2.2.2.2:=(Aas b).nn
theorem Ajn(b:List UInt8){n:Nat}(h:1<=n/\n<=1000):Cd (Ii b n).2:=by
 unfold Ii;rw[Aaw (λe=>e h)]
 repeat' split
 all_goals first|decide|exact .inl rfl
theorem Abi(b:List UInt8)(n:Nat):0<= (Ii b n).2:=by
 unfold Ii
 repeat' split
 all_goals simp
def Q3:List UInt8:=[73,68,51]
def Q8:List UInt8:=[65,80,69,84,65,71,69,88]
def Qs(b s:List UInt8):Bool:=decide (b.length<s.length)&&(b==s.take b.length)
theorem Y0(b s:List UInt8):Qj b s=some (Qs b s):=by
 rw[Qj,Qs];by_cases h:b.length<s.length
 ·rw[Aa1 (by rw[Af,Ac,Ac];simp;omega),Ac,Da,Aa,Aun h,Awm];rfl
 ·rw[Aaw (by rw[Af,Ac,Ac];simp;omega),Auj h];rfl
theorem Ajo(b s:List UInt8)(h:b.length<s.length):Ih s b=some (Qs b s):=by
 rw[Ih,Gg,Aa1 (by rw[En,Ac,Ac];simp;omega),Ac,Da,Aa,Aa,Qs,Aun h,Awm,Ajk];congr 1;rw[Agx,Atw,Atw];exact eq_comm
theorem mF{b s:List UInt8}(h:¬b.length<s.length):Qs b s=false:=by rw[Qs,Auj h];rfl
theorem Al4(b:List UInt8):Pf b=some (Qs b Q3||Qs b Q8):=by
 obtain⟨q,hq⟩:∃q,Ar=q+3:=⟨Ar-3,by have:=As;omega⟩;have l3:Jg b (q+1) 2=some false:=by rw[Jg,Ti,Aaw (by decide)];rfl
 have l2:Jg b (q+2) 1=some (Qs b Q8):=by
  rw[Jg,Ti,Aa1 (by decide),show Am ([([73,68,51]:LB),([65,80,69,84,65,71,69,88]:LB)]:List LB) 1=some Q8 from rfl,Aa,show Ad (1:Int) 1=2 from rfl];by_cases h:b.length<Q8.length
  ·rw[Aa1 (by rw[Af,Ac,Ac];simp;omega),Ajo b Q8 h,Aa];by_cases hb:Qs b Q8=true
   ·rw[Aa1 hb,hb]
   ·rw[Aaw hb,l3];simpa using hb
  ·rw[Aaw (by rw[Af,Ac,Ac];simp;omega),l3,mF h]
 rw[Pf,NV,NZ,hq,Jg,Ti,Aa1 (by decide),show Am ([([73,68,51]:LB),([65,80,69,84,65,71,69,88]:LB)]:List LB) 0=some Q3 from rfl,Aa,show Ad (0:Int) 1=1 from rfl];by_cases h:b.length<Q3.length
 ·rw[Aa1 (by rw[Af,Ac,Ac];simp;omega),Ajo b Q3 h,Aa];by_cases hb:Qs b Q3=true
  ·rw[Aa1 hb,hb];rfl
  ·rw[Aaw hb,l2,Bool.eq_false_iff.2 hb];rfl
 ·rw[Aaw (by rw[Af,Ac,Ac];simp;omega),l2,mF h];rfl
def rf(b:List UInt8):Int×Int×Int×Int×Int×Int×Int:=
 if(Di b).2=24 then(0,0,0,0,0,0, -1)else if(Di b).2≠0 then(0,0,0,0,0,0,(Di b).2)else
 if(Qs (Vu b) Q3||Qs (Vu b) Q8)=true then(0,0,0,0,0,0, -1)else
 if(Ep (Vu b)).2.2.2.2.2=24 then(0,0,0,0,0,0, -1)else((Di b).1+22,(Ep (Vu b)).1,(Ep (Vu b)).2.1,(Ep (Vu b)).2.2.1,(Ep (Vu b)).2.2.2.1,(Ep (Vu b)).2.2.2.2.1,(Ep (Vu b)).2.2.2.2.2)
theorem BJ(b:List UInt8)(hb:b.length<=100000):Vz b=some (rf b):=by
 rw[Vz,CO,sU b (by omega),Aa,rf];have hok:=aH (b:=b);simp only;by_cases h1:(Di b).2=24
 ·rw[Aa1 (by rw[Bb];simpa using h1),Aa1 h1]
 rw[Aaw (by rw[Bb];simpa using h1),Aaw h1];by_cases h2:(Di b).2≠0
 ·rw[Aa1 (by rw[Ao];simpa using h2),Aa1 h2]
 have h0:(Di b).2=0:=by simpa using h2
 obtain⟨k1,k2,k3⟩:=hok h0;rw[Aaw (by rw[Ao,h0];simp),Aaw h2,Dg,Aa,Y0,Aa,show b.drop (Di b).1.toNat=Vu b from rfl,show([73,68,51]:LB)=Q3 from rfl,show([65,80,69,84,65,71,69,88]:LB)=Q8 from rfl];by_cases h3:Qs (Vu b) Q3=true
 ·rw[Aa1 h3,h3,Bool.true_or,Aa1 rfl]
 rw[Aaw h3,Y0,Aa,Bool.eq_false_iff.2 h3,Bool.false_or];by_cases h4:Qs (Vu b) Q8=true
 ·rw[Aa1 h4,Aa1 h4]
 have hl:(Vu b).length<=b.length:=by rw[Vu,Anr];omega
 rw[Aaw h4,Aaw h4,CP,CF,zi _ (by omega),Aa];simp only;by_cases h5:(Ep (Vu b)).2.2.2.2.2=24
 ·rw[Aa1 (by rw[Bb];simpa using h5),Aa1 h5]
 ·rw[Aaw (by rw[Bb];simpa using h5),Aaw h5,Aj]
theorem Lt{p q:LB}{n:Nat}(h:n<=p.length):(p++q).take n=p.take n:=by rw[List.take_append_of_le_length h]
theorem rG{p q:LB}{i:Nat}(h:i<p.length):(p++q).getD i 0=p.getD i 0:=by
 rw[List.getD_eq_getElem?_getD,List.getElem?_append_left h,<-List.getD_eq_getElem?_getD]
theorem Pj{p q:LB}{a w:Nat}(h:a+w<=p.length:=by omega):part (p++q) a w=part p a w:=by rw[part,Lt h,part]
theorem Am9{p q s:LB}(h:Qs p s=false)(hl:p.length<s.length):(p++q).take s.length≠s:=by
 intro e;rw[Qs,Aun hl,Awm]at h;have h1:p=s.take p.length:=by
  have:=congrArg (List.take p.length) e;rw[List.take_take,Asa (by omega),Lt (Al1 _),Aw3]at this;exact this
 rw[<-h1]at h;simp at h
theorem T2{p:LB}(q:LB)(h:(Ya p).2≠24)(h6:Qs p Q3=false):Ya (p++q)=Ya p:=by
 unfold Ya at h⊢;by_cases h3:3<=p.length/\p.take 3=[73,68,51]
 ·have h3':3<= (p++q).length/\ (p++q).take 3=[73,68,51]:=⟨by rw[Abz];omega,by rw[Lt h3.1];exact h3.2⟩;have n1:¬ ¬(3<=p.length/\p.take 3=[73,68,51]):=λf=>f h3;have n2:¬ ¬(3<= (p++q).length/\ (p++q).take 3=[73,68,51]):=λf=>f h3';rw[Aaw n1]at h;rw[Aaw n1,Aaw n2];by_cases h10:p.length<10
  ·rw[Aa1 h10]at h;exact absurd rfl h
  ·have h10':¬(p++q).length<10:=by rw[Abz];omega
   rw[Aaw h10]at h;rw[Aaw h10,Aaw h10',Pj,rG (by omega),rG (by omega),rG (by omega)];split
   ·rfl
   ·rename_i hc;rw[Aaw hc]at h;unfold wI ZX at h⊢;rw[rG (by omega)];generalize(XH (part p 6 4) 0).1+10+(if p.getD 5 0=16 then 10 else 0)=n at h⊢;by_cases c1:4000<n
    ·rw[Aa1 c1,Aa1 c1]
    ·rw[Aaw c1]at h;rw[Aaw c1,Aaw c1];by_cases c2:(p.length:Int)<n
     ·rw[Aa1 c2]at h;exact absurd rfl h
     ·have c2':¬((p++q).length:Int)<n:=by rw[Abz];omega
      rw[Aaw c2,Aaw c2',Lt (by omega),Pj]
 ·rw[Aa1 h3,Aa1];rintro⟨_,h5⟩;by_cases hl:3<=p.length
  ·rw[Lt hl]at h5;exact h3 ⟨hl,h5⟩
  ·exact Am9 h6 (by simp[Q3];omega) h5
theorem Ab6{p:LB}(q:LB)(h:(Jj p).2≠24)(h6:Qs p Q8=false):Jj (p++q)=Jj p:=by
 unfold Jj at h⊢;by_cases h3:8<=p.length/\p.take 8=yX
 ·have h3':8<= (p++q).length/\ (p++q).take 8=yX:=⟨by rw[Abz];omega,by rw[Lt h3.1];exact h3.2⟩;have n1:¬ ¬(8<=p.length/\p.take 8=yX):=λf=>f h3;have n2:¬ ¬(8<= (p++q).length/\ (p++q).take 8=yX):=λf=>f h3';rw[Aaw n1]at h;rw[Aaw n1,Aaw n2];by_cases h10:p.length<32
  ·rw[Aa1 h10]at h;exact absurd rfl h
  ·have h10':¬(p++q).length<32:=by rw[Abz];omega
   have eb:CX (p++q)=CX p:=by rw[CX,CX,Pj,Pj]
   rw[Aaw h10]at h;rw[Aaw h10,Aaw h10',Pj,Pj,eb,Lt (n:=32) (by omega)];split
   ·rfl
   ·rename_i hc;rw[Aaw hc]at h;by_cases c2:p.length<Er (part p 12 4)+32
    ·rw[Aa1 c2]at h;exact absurd rfl h
    ·have c2':¬(p++q).length<Er (part p 12 4)+32:=by rw[Abz];omega
     rw[Aaw c2,Aaw c2',Lt (by omega)]
 ·rw[Aa1 h3,Aa1];rintro⟨_,h5⟩;by_cases hl:8<=p.length
  ·rw[Lt hl]at h5;exact h3 ⟨hl,h5⟩
  ·exact Am9 h6 (by simp[Q8];omega) h5
theorem vQ{p:LB}(q:LB)(h:(Ck p).2≠24)(h6:(Ck p).2=6->Qs p Q3=false/\Qs p Q8=false):Ck (p++q)=Ck p:=by
 have Aui:∀s:LB,s.length<=p.length->Qs p s=false:=λs hs=>mF (by omega);unfold Ck at h h6⊢;by_cases hT:(Ya p).2≠6
 ·rw[Aa1 hT]at h⊢;have h3:Qs p Q3=false:=by
   refine Aui _ ?_;unfold Ya at hT;by_cases h3:3<=p.length/\p.take 3=[73,68,51]
   ·simp[Q3];omega
   ·rw[Aa1 h3]at hT;exact absurd rfl hT
  rw[T2 q h h3,Aa1 hT]
 ·rw[Aaw hT]at h h6⊢;have hb:Qs p Q3=false/\Qs p Q8=false:=by
   by_cases hA:(Jj p).2=6
   ·exact h6 hA
   ·unfold Jj at hA;by_cases h3:8<=p.length/\p.take 8=yX
    ·exact⟨Aui _ (by simp[Q3];omega),Aui _ (by simp[Q8];omega)⟩
    ·rw[Aa1 h3]at hA;exact absurd rfl hA
  have hT':¬(Ya (p++q)).2≠6:=by
   rw[T2 q (by simp only[ne_eq,Classical.not_not]at hT;rw[hT];decide) hb.1];exact hT
  rw[Aaw hT',Ab6 q h hb.2]
theorem E7{p:LB}(q:LB):∀(j s j':Nat),s<=p.length->p.length-s<j->p.length+q.length-s<j'-> (Cb p j s).2≠24->
  ((Cb p j s).2=0->Qs (p.drop (s+(Cb p j s).1.sum.toNat)) Q3=false/\Qs (p.drop (s+(Cb p j s).1.sum.toNat)) Q8=false)->Cb (p++q) j' s=Cb p j s
 |0,s,j',_,hj,_,_,_=>absurd hj (Ayf _)
 |j+1,s,0,_,_,hj,_,_=>absurd hj (Ayf _)
 |j+1,s,j'+1,hs,hj,hj',h,hb=>by
  have ed:(p++q).drop s=p.drop s++q:=Awo hs;rw[Cb]at h hb⊢;rw[Cb,ed];by_cases h6:(Ck (p.drop s)).2=6
  ·rw[Aa1 h6]at h hb⊢;have hb':=hb rfl;simp only[Ay1,Int.toNat_zero,Awr]at hb';rw[vQ q (by rw[h6];decide) (λ_=>hb'),Aa1 h6]
  ·rw[Aaw h6]at h hb⊢;by_cases h0:(Ck (p.drop s)).2≠0
   ·rw[Aa1 h0]at h⊢;rw[vQ q h (λe=>absurd e h6),Aaw h6,Aa1 h0]
   ·rw[Aaw h0]at h hb⊢;have h0':(Ck (p.drop s)).2=0:=by simpa using h0
    have e1:Ck (p.drop s++q)=Ck (p.drop s):=vQ q (by rw[h0'];decide) (λe=>absurd e h6);rw[e1,Aaw h6,Aaw h0];have hok:=lS (b:=p.drop s) (n:=(Ck (p.drop s)).1) (by rw[<-h0']);rw[Anr]at hok;by_cases hm:4000<(s:Int)+(Ck (p.drop s)).1
    ·rw[Aa1 hm,Aa1 hm]
    ·rw[Aaw hm]at h hb⊢;rw[Aaw hm];have hl1:s+(Ck (p.drop s)).1.toNat<=p.length:=by omega
     have ih:=E7 (p:=p) q j (s+(Ck (p.drop s)).1.toNat) j' hl1 (by omega) (by omega);by_cases hr:(Cb p j (s+(Ck (p.drop s)).1.toNat)).2=0
     ·rw[Aa1 hr]at hb⊢;have hle1:s+(Ck (p.drop s)).1.toNat<=p.length:=by omega
      have hle2:s+(Ck (p.drop s)).1.toNat<=4000:=by omega
      have hi:=(mH p j (s+(Ck (p.drop s)).1.toNat) hle1 hle2 hr).1;have hsum:(0:Int)<= (Cb p j (s+(Ck (p.drop s)).1.toNat)).1.sum:=by
       have:∀l:List Int,(∀x∈l,10<=x)->0<=l.sum:=by
        intro l
        induction l with
        |nil=>intro _;simp
        |cons a l ih=>intro h;rw[Au6];have:=h a (by simp);have:=ih (λx hx=>h x (by simp[hx]));omega
       exact this _ hi
      rw[ih (by rw[hr];decide) (λ_=>by
       have:=hb rfl;simp only[Au6]at this;rw[show s+((Ck (p.drop s)).1+(Cb p j (s+(Ck (p.drop s)).1.toNat)).1.sum).toNat=s+(Ck (p.drop s)).1.toNat+(Cb p j (s+(Ck (p.drop s)).1.toNat)).1.sum.toNat by omega]at this;exact this),Aa1 hr]
     ·rw[Aaw hr]at h⊢;rw[ih h (λe=>absurd e hr),Aaw hr]
theorem N7{p:LB}(q:LB)(h:(Di p).2≠24)(hb:(Di p).2=0->Qs (Vu p) Q3=false/\Qs (Vu p) Q8=false):Di (p++q)=Di p:=by
 have key:Cb (p++q) ((p++q).length+1) 0=Cb p (p.length+1) 0:=by
  refine E7 q (p.length+1) 0 ((p++q).length+1) (Nat.zero_le _) (by omega) (by rw[Abz];omega) ?_ ?_
  ·unfold Di Q7 at h;by_cases h0:(Cb p (p.length+1) 0).2=0
   ·rw[h0];decide
   ·rw[Aaw h0]at h;exact h
  ·intro h0;have e:Di p=(((0:Nat):Int)+(Cb p (p.length+1) 0).1.sum,0):=by unfold Di Q7;rw[Aa1 h0]
   have:=hb (by rw[e]);rw[Vu,e]at this;simpa using this
 unfold Di Q7;rw[key]
theorem Ahx{p:LB}(q:LB)(h:(Ep p).2.2.2.2.2≠24):Ep (p++q)=Ep p:=by
 unfold Ep at h⊢;by_cases h1:p.take (min 4 p.length)≠gX.take (min 4 p.length)
 ·have h1':(p++q).take (min 4 (p++q).length)≠gX.take (min 4 (p++q).length):=by
   intro e;have hle:min 4 p.length<=min 4 (p++q).length:=by rw[Abz];omega
   have:=congrArg (List.take (min 4 p.length)) e;rw[List.take_take,List.take_take,Asa hle,Lt (by omega)]at this;exact h1 this
  rw[Aa1 h1,Aa1 h1']
 ·rw[Aaw h1]at h;by_cases h2:p.length<22
  ·rw[Aa1 h2]at h;exact absurd rfl h
  ·have h2':¬(p++q).length<22:=by rw[Abz];omega
   have h1':¬(p++q).take (min 4 (p++q).length)≠gX.take (min 4 (p++q).length):=by
    rw[Asa (by omega)]at h1⊢;rw[Lt (by omega)];exact h1
   have e0:f0 (p++q)=f0 p:=by unfold f0;rw[Pj]
   have e1:f1 (p++q)=f1 p:=by unfold f1;rw[Pj]
   have e2:f2 (p++q)=f2 p:=by unfold f2;rw[Pj]
   have e3:f3 (p++q)=f3 p:=by unfold f3;rw[Pj]
   have e4:f4 (p++q)=f4 p:=by unfold f4;rw[Pj]
   rw[Aaw h1,Aaw h1',Aaw h2,Aaw h2',e0,e1,e2,e3,e4,Lt (by omega),Pj]
theorem Aqx{p:LB}(q:LB)(h:(rf p).2.2.2.2.2.2≠ -1):rf (p++q)=rf p:=by
 unfold rf at h⊢;by_cases h1:(Di p).2=24
 ·rw[Aa1 h1]at h;exact absurd rfl h
 rw[Aaw h1]at h;by_cases h2:(Di p).2≠0
 ·rw[N7 q h1 (λe=>absurd e h2),Aaw h1,Aa1 h2,Aaw h1,Aa1 h2]
 rw[Aaw h2]at h;have h0:(Di p).2=0:=by simpa using h2
 by_cases h3:(Qs (Vu p) Q3||Qs (Vu p) Q8)=true
 ·rw[Aa1 h3]at h;exact absurd rfl h
 rw[Aaw h3]at h;have h3f:Qs (Vu p) Q3=false/\Qs (Vu p) Q8=false:=by
  simp only[Bool.not_eq_true,Ayk]at h3;exact h3
 have eF:=N7 q h1 (λ_=>h3f);obtain⟨k1,k2,k3⟩:=aH h0;have eH:Vu (p++q)=Vu p++q:=by rw[Vu,eF,Vu,Awo (by omega)]
 by_cases h5:(Ep (Vu p)).2.2.2.2.2=24
 ·rw[Aa1 h5]at h;exact absurd rfl h
 have eR:Ep (Vu p++q)=Ep (Vu p):=Ahx q h5;have beg:∀s:LB,Qs (Vu p) s=false-> (s=Q3\/s=Q8)->Qs (Vu p++q) s=false:=by
  intro s hs hk;by_cases hl:(Vu p++q).length<s.length
  ·have hp:(Vu p).length<s.length:=by rw[Abz]at hl;omega
   rw[Qs,Aun hp,Awm]at hs;rw[Qs,Aun hl,Awm];refine beq_eq_false_iff_ne.2 λe=>?_;have:=congrArg (List.take (Vu p).length) e;rw[Lt (Al1 _),Aw3,List.take_take,Asa (by rw[Abz];omega)]at this;rw[<-this]at hs;simp at hs
  ·exact mF hl
 rw[eF,eH,eR,Aaw h1,Aaw h2,beg _ h3f.1 (.inl rfl),beg _ h3f.2 (.inr rfl),Aaw (by decide),Aaw h5,Aaw h1,Aaw h2,Aaw h3]
theorem Aio{p:LB}(q:LB)(n:Nat)(h:(Ii p n).2≠24):Ii (p++q) n=Ii p n:=by
 unfold Ii at h⊢;by_cases h1:1<=n/\n<=1000
 ·have n1:¬ ¬(1<=n/\n<=1000):=λf=>f h1;rw[Aaw n1]at h;rw[Aaw n1,Aaw n1];by_cases h2:p.length<4*n+4
  ·rw[Aa1 h2]at h;exact absurd rfl h
  ·have h2':¬(p++q).length<4*n+4:=by rw[Abz];omega
   have et:QG (p++q) n=QG p n:=by
    unfold QG;refine Ayo λi hi=>?_;rw[List.mem_range]at hi;rw[Pj]
   rw[Aaw h2,Aaw h2',Lt (by omega),Pj,et]
 ·rw[Aa1 h1,Aa1 h1]
def Ad7(g a:LB)(k p o u v:Int)(f:LI)(b:Int)(h:LB)(m:Bool)(n:Int):Option Int:=
if(geq k 0)then
(Jd a).bind λ(al,ba)=>
if(geq ba 24)then
Ee true 0
else
if(Bd ba 0)then
(Ah ba).bind λ(bx,bz)=>
Ee bx bz
else
(Bf a al (Ac a)).bind λda=>
(Pf da).bind λan=>
if an then
Ee true 0
else
(Bf a al (Ac a)).bind λdb=>
(Mm db).bind λ(ae,af,aa,ag,ab,bb)=>
if(geq bb 24)then
Ee true 0
else
if(Bd bb 0)then
(Ah bb).bind λ(dc,dd)=>
Ee dc dd
else
(
(Bf a (Ad al 22) (Ac a)).bind λak=>
(
Vn g ak ae af aa ag ab b m n f h))
else
if(geq (Ac f) 0)then
if(geq k 2)then
if(Bt (Ac a) 8)then
Ig true 0
else
Vm g a k p o u v b m n f h
else
It g a k p o u v b m n f h 0
else
if(Bt b (Ac f))then
(Am f b).bind λ_=>
(Am f b).bind λw=>
if(Bt (Ac a) w)then
Gw true 0
else
(Ms g).bind λ(ap,am)=>
if(Bd am 0)then
(Ah am).bind λ(de,df)=>
Gw de df
else
(Dn k p o u v).bind λ(ad,dg)=>
if((Bd dg 0)||(Je b (Ac ad)))then
(Ah 8).bind λ(dh,di)=>
Gw dh di
else
Uw w g a k p o u v b m n ap ad f h
else
if(Dx (Ac a) 4000)then
(Ah 38).bind λ(dj,bf)=>
Bl ((dj==true)&&((geq bf 0)&&true))
else
Uu
theorem pV(d:Bool)(e:Int):Ee d e=Bl (d&&geq e 0):=by
 rw[Ee,DW];cases d<;>simp
theorem I6(d:Bool)(e:Int):Ig d e=Bl (d&&geq e 0):=by
 rw[Ig,FA];cases d<;>simp
theorem Adb(d:Bool)(e:Int):Gw d e=Bl (d&&geq e 0):=by
 rw[Gw,FG];cases d<;>simp
theorem yn{o p:LB}{f c w r n:Int}{g:LI}{a:Int}{x:LB}{u:Bool}{v:Int}{t1 t2:LB}{t3 t4 t5 t6 t7:Int}{t8:LI}{t9:Int}{t10:LB}{t11:Bool}{t12 e:Int}
  (h:Al o p f c w r n g a x u v=some (t1,t2,t3,t4,t5,t6,t7,t8,t9,t10,t11,t12,e)):Cc o p f c w r n g a x u v=some (geq e (-1)):=by
 rw[Cc,Ue,h,Aa]
theorem kP{e:Int}(h:0<=e):geq e (-1)=false:=by rw[Bb,beq_eq_false_iff_ne];omega
theorem Ah6(o p:LB)(c w r n:Int)(g:LI)(a:Int)(x:LB)(u:Bool)(v:Int)(hp:p.length<=100000):
  ∃B:Bool,Ad7 o p 0 c w r n g a x u v=Bl B/\Cc o p 0 c w r n g a x u v=some B:=by
 have hT:Al o p 0 c w r n g a x u v=Al o p 0 c w r n g a x u v:=rfl
 conv at hT=>rhs;rw[Al,Cx,Aa1 (by decide),BJ p hp,Aa,rf]
 have hfn:=T7 p;have hrn:=qy (Vu p);rw[Ad7,Aa1 (by decide),SW p (by omega),Aa];have hok:=aH (b:=p);simp only at hT⊢;by_cases h1:(Di p).2=24
 ·rw[Aa1 h1]at hT;simp only at hT;rw[Aa1 (by decide)]at hT;rw[Aa1 (by rw[Bb];simpa using h1),pV];exact⟨_,rfl,yn hT⟩
 rw[Aaw h1]at hT;rw[Aaw (by rw[Bb];simpa using h1)];by_cases h2:(Di p).2≠0
 ·rw[Aa1 h2]at hT;simp only at hT;rw[Aa1 (by rw[Ao];simpa using h2)]at hT;rw[Aa1 (by rw[Ao];simpa using h2),Ah,Aa];simp only;rw[pV];exact⟨_,rfl,(yn hT).trans (by rw[kP hfn];rfl)⟩
 have h0:(Di p).2=0:=by simpa using h2
 obtain⟨k1,k2,k3⟩:=hok h0;have hl:(Vu p).length=p.length-(Di p).1.toNat:=by rw[Vu,Anr]
 rw[Aaw h2]at hT;rw[Aaw (by rw[Ao,h0];simp),Dg,Aa,Aa,show p.drop (Di p).1.toNat=Vu p from rfl,Al4,Aa];by_cases h3:(Qs (Vu p) Q3||Qs (Vu p) Q8)=true
 ·rw[Aa1 h3]at hT⊢;simp only at hT;rw[Aa1 (by decide)]at hT;rw[pV];exact⟨_,rfl,yn hT⟩
 rw[Aaw h3]at hT⊢;rw[uY _ (by omega),Aa];by_cases h5:(Ep (Vu p)).2.2.2.2.2=24
 ·rw[Aa1 h5]at hT;simp only at hT;rw[Aa1 (by decide)]at hT;rw[Aa1 (by rw[Bb];simpa using h5),pV];exact⟨_,rfl,yn hT⟩
 rw[Aaw h5]at hT;rw[Aaw (by rw[Bb];simpa using h5)];simp only at hT;by_cases h6:(Ep (Vu p)).2.2.2.2.2≠0
 ·rw[Aa1 (by rw[Ao];simpa using h6)]at hT⊢;rw[Ah,Aa];simp only;rw[pV];exact⟨_,rfl,(yn hT).trans (by rw[kP hrn];rfl)⟩
 have h7:(Ep (Vu p)).2.2.2.2.2=0:=by simpa using h6
 have h22:=(yc h7).2.1;rw[Aaw (by rw[Ao,h7];simp),Dg,Aa,Hu,Hz,Ei]at hT;rw[Aaw (by rw[Ao,h7];simp),Aj,Dg,Aa,Vn,EI,Nb];simp only;by_cases h8:((o==([]:LB)) !=geq (Ep (Vu p)).1 1)=true
 ·rw[Aa1 h8]at hT⊢;rw[Aa]at hT⊢;rw[Ah,Aa];simp only;rw[pV];exact⟨_,rfl,yn hT⟩
 ·rw[Aaw h8]at hT⊢;rw[Aa]at hT⊢;rw[Ah,Aa];simp only;rw[pV];exact⟨_,rfl,yn hT⟩
end Go.Pl
