/- A part of a proof (see the text that ends in Proof). No conditions. -/
import Derived.Test.YtjjeabieimfcpaaGreatDoorOdPA
set_option linter.unusedVariables false
set_option linter.unusedSimpArgs false
namespace Go.Lv
theorem Aj{a b:Int}(h: -9223372036854775808<=a+b:=by omega)(h':a+b<=9223372036854775807:=by omega):Af a b=a+b:=by rw[Aq9,Db h h']
theorem Bw{a b:Int}(h: -9223372036854775808<=a-b:=by omega)(h':a-b<=9223372036854775807:=by omega):Au a b=a-b:=by rw[Arp,Db h h']
theorem Hi{a b:Int}(h: -9223372036854775808<=a*b:=by omega)(h':a*b<=9223372036854775807:=by omega):Bm a b=a*b:=by rw[Ahs,Db h h']
theorem OU(c:UInt8):(Ad c:Int)=(c.toNat:Int):=by rw[Ajf,Db]<;>have:=c.toNat_lt<;>omega
theorem Aam(c:UInt32):(Ad c:Int)=(c.toNat:Int):=by rw[Afx,Db]<;>have:=c.toNat_lt<;>omega
theorem oC(c:UInt8):(Ad c:UInt64)=UInt64.ofNat c.toNat:=by simp only[Ad,IB,Ij]
theorem Lz(c:UInt32):(Ad c:UInt64)=UInt64.ofNat c.toNat:=by simp only[Ad,EI,Ij]
theorem eX(c:UInt64):(Ad c:UInt8)=UInt8.ofNat c.toNat:=by simp only[Ad,Mg,Qo]
theorem oH(c:UInt32):(Ad c:UInt8)=UInt8.ofNat c.toNat:=by simp only[Ad,EI,Qo]
theorem Qi(n:Nat):(Ad (n:Int):UInt64)=UInt64.ofNat n:=by simp only[Ad];exact Ij n
theorem O7(n:Nat):(Ad (n:Int):UInt32)=UInt32.ofNat n:=by simp only[Ad];exact Gc n
theorem Ai0(n:Nat):(Ad (n:Int):UInt8)=UInt8.ofNat n:=by simp only[Ad];exact Qo n
theorem tH{c:UInt64}(h:c.toNat<9223372036854775808):(Ad c:Int)=(c.toNat:Int):=by rw[Aft,Db]<;>omega
theorem Ad1:Z1=17179869184:=by decide
theorem Ax:36893488147419103231<Ba:=by decide
theorem Ce{α:Type}{l:List α}{n:Nat}(h:n<l.length:=by omega):Ao l (n:Int)=some l[n]:=by simp[Ao,h]
theorem FT{α:Type}{l:List α}{n:Nat}(x:α)(h:n<l.length):Ux l (n:Int) x=some (l.set n x):=by simp[Ux,h]
theorem Zn{α:Type}{l:List α}{a b:Int}(h:0<=a:=by omega)(h1:a<=b:=by omega)(h2:b<=l.length:=by omega):Bp l a b=some ((l.take b.toNat).drop a.toNat):=by rw[Bp,Aae ⟨h,h1,h2⟩]
theorem Cg{α:Type}{l:List α}{a:Int}(h:0<=a:=by omega)(h1:a<=l.length:=by omega):Bp l a (Ac l)=some (l.drop a.toNat):=by
 unfold Ac;rw[Zn h h1 (Int.le_refl _),Al6,Atb]
theorem Dr{α:Type}{l:List α}{b:Int}(h:0<=b:=by omega)(h1:b<=l.length:=by omega):Bp l 0 b=some (l.take b.toNat):=by rw[Zn (Int.le_refl _) h h1];rfl
theorem Bi{α:Type}{l m:List α}(h:l.length+m.length<=17179869184:=by omega):Cz l m=some (l++m):=by rw[Cz,Ad1,Aae h]
theorem uT{α:Type}{n:Int}{z:α}(h:0<=n:=by omega)(h':n<=17179869184:=by omega):mkI n z=some (List.replicate n.toNat z):=by rw[mkI,Ad1,Aae ⟨h,h'⟩]
theorem Cb{b:Bool}(h:b=true):Ue b=some ():=by rw[h];rfl
theorem Aa{α β:Type}(a:α)(f:α->Option β):Option.bind (some a) f=f a:=rfl
theorem drop_cons{α:Type}{l:List α}{n:Nat}(h:n<l.length):l.drop n=l[n]::l.drop (n+1):=List.drop_eq_getElem_cons h
theorem OS{α:Type}{l:List α}{n:Nat}(h:n<l.length):l.take (n+1)=l.take n++[l[n]]:=by rw[List.take_add_one,List.getElem?_eq_getElem h];rfl
def Fy:List UInt8->Nat
 |[]=>0
 |x::r=>x.toNat+256*Fy r
theorem V8:∀l:List UInt8,Fy l<256^l.length
 |[]=>by simp[Fy]
 |x::r=>by
  have h:=V8 r;have:=x.toNat_lt;simp only[Fy,As0,As2];omega
theorem yF:∀l m:List UInt8,Fy (l++m)=Fy l+256^l.length*Fy m
 |[],m=>by simp[Fy]
 |x::r,m=>by
  simp only[Fy,Axh,yF r m,As0,As2,Nat.mul_add];rw[Aql (256^r.length) 256,Av3];omega
def mZ(l:List UInt8):UInt64:=UInt64.ofNat (Fy l)
theorem Amb{l:List UInt8}(h:l.length<=8):Fy l<18446744073709551616:=by
 have h1:=V8 l;have h2:256^l.length<=256^8:=Ae0 (by omega) h;exact Aqa h1 (by simpa using h2)
theorem Aea{l:List UInt8}(h:l.length<=4):Fy l<4294967296:=by
 have h1:=V8 l;have h2:256^l.length<=256^4:=Ae0 (by omega) h;exact Aqa h1 (by simpa using h2)
theorem ZQ{l:List UInt8}(h:l.length<=8):(mZ l).toNat=Fy l:=by
 rw[mZ,Ad3,Aah (Amb h)]
theorem QM{l:List UInt8}(h:l.length<=4):(Ad (mZ l):Int)=(Fy l:Int):=by
 have:=Aea h;rw[tH]<;>rw[ZQ (by omega)];omega
def Xa(n:Nat):Nat->List UInt8
 |0=>[]
 |w+1=>UInt8.ofNat n::Xa (n/256) w
theorem Ch:∀(w n:Nat),(Xa n w).length=w
 |0,_=>rfl
 |w+1,n=>by simp[Xa,Ch w]
theorem mq:∀(w n:Nat),Xa n (w+1)=Xa n w++[UInt8.ofNat (n/256^w)]
 |0,n=>by simp[Xa]
 |w+1,n=>by
  rw[Xa,mq w (n/256),Xa];simp[Axc,As2,Aql]
def Mz(p:List UInt8)(i:Nat):Nat:=(p.getD (i/8) 0).toNat/2^(i %8) %2
theorem GL(p:List UInt8)(i:Nat):Mz p i<2:=Aw3 _ (by omega)
def Dm(p:List UInt8):Nat->Nat->Nat
 |_,0=>0
 |a,n+1=>Mz p a+2*Dm p (a+1) n
theorem Xp(p:List UInt8):∀(n a:Nat),Dm p a n<2^n
 |0,_=>by simp[Dm]
 |n+1,a=>by
  have:=Xp p n (a+1);have:=GL p a;rw[Dm,As2];omega
theorem WT(p:List UInt8):∀(m n a:Nat),Dm p a (m+n)=Dm p a m+2^m*Dm p (a+m) n
 |0,n,a=>by simp[Dm]
 |m+1,n,a=>by
  rw[show m+1+n=(m+n)+1 by omega,Dm,Dm,WT p m n (a+1),show a+1+m=a+(m+1) by omega,As2,Nat.mul_add,Aql (2^m) 2,Av3];omega
theorem pq(p:List UInt8)(a:Nat):Dm p a 1=Mz p a:=by simp[Dm]
theorem L3(p:List UInt8)(a n:Nat):Dm p a (n+1)=Dm p a n+2^n*Mz p (a+n):=by rw[WT p n 1 a,pq]
theorem tA(p:List UInt8)(a:Nat):∀t:Nat,a %8+t<=8->Dm p a t=(p.getD (a/8) 0).toNat/2^(a %8) %2^t
 |0,_=>by simp[Dm,Nat.mod_one]
 |t+1,h=>by
  have h1:(a+t)/8=a/8:=by omega
  have h2:(a+t) %8=a %8+t:=by omega
  rw[L3,tA p a t (by omega),Mz,h1,h2,Nat.mod_pow_succ,Axy,Axc]
theorem K8{p:List UInt8}:∀(n a:Nat),(∀k,k<n->Mz p (a+k)=0)->Dm p a n=0
 |0,_,_=>rfl
 |n+1,a,h=>by
  have h0:=h 0 (by omega);rw[Dm,K8 n (a+1) λk hk=>by have:=h (k+1) (by omega);rwa [show a+1+k=a+(k+1) by omega]];rw[Aw2]at h0;omega
def okB(p:List UInt8)(n:Nat):Prop:=n<=330000/\p.length=(n+7)/8/\∀k,n<=k->k<8*p.length->Mz p k=0
def OI(p:List UInt8)(a n:Nat):List UInt8:=(List.range ((n+7)/8)).map λj=>UInt8.ofNat (Dm p (a+8*j) (min 8 (n-8*j)))
theorem Sn(p:List UInt8)(a n:Nat):(OI p a n).length=(n+7)/8:=by simp[OI]
theorem lu(p:List UInt8):∀(n a k:Nat),k<n->Dm p a n/2^k %2=Mz p (a+k)
 |n+1,a,0,_=>by have:=GL p a;rw[Dm];simp;omega
 |n+1,a,k+1,h=>by
  have hb:=GL p a;have e:(Mz p a+2*Dm p (a+1) n)/2=Dm p (a+1) n:=by omega
  rw[Dm,As2,Aql (2^k) 2,<-Axc,e,lu p n (a+1) k (by omega),show a+1+k=a+(k+1) by omega]
theorem Afy(p:List UInt8)(n a k:Nat)(h:n<=k):Dm p a n/2^k %2=0:=by
 have:=Xp p n a;rw[Avv (Aqa this (Ae0 (by omega) h))]
theorem Aid(p:List UInt8)(a n k:Nat):Mz (OI p a n) k=if k<n then Mz p (a+k)else 0:=by
 rw[Mz];by_cases hj:k/8<(n+7)/8
 ·have e:(OI p a n).getD (k/8) 0=UInt8.ofNat (Dm p (a+8*(k/8)) (min 8 (n-8*(k/8)))):=by
   rw[List.getD_eq_getElem?_getD,List.getElem?_eq_getElem (by rw[Sn];exact hj)];simp[OI]
  have hlt:Dm p (a+8*(k/8)) (min 8 (n-8*(k/8)))<256:=by
   have:=Xp p (min 8 (n-8*(k/8))) (a+8*(k/8));have h2:2^(min 8 (n-8*(k/8)))<=2^8:=Ae0 (by omega) (by omega);omega
  have hu:(UInt8.ofNat (Dm p (a+8*(k/8)) (min 8 (n-8*(k/8))))).toNat=Dm p (a+8*(k/8)) (min 8 (n-8*(k/8))):=by
   rw[Aph];exact Aah hlt
  rw[e,hu];by_cases hk:k<n
  ·rw[Aae hk,lu p _ _ _ (by omega),show a+8*(k/8)+k %8=a+k by omega]
  ·rw[Aaa hk,Afy p _ _ _ (by omega)]
 ·have e:(OI p a n).getD (k/8) 0=0:=by
   rw[List.getD_eq_getElem?_getD,List.getElem?_eq_none (by rw[Sn];omega)];rfl
  rw[e,Aaa (by omega)];simp
theorem Ac5(p:List UInt8)(a n:Nat)(h:n<=330000):okB (OI p a n) n:=⟨h,Sn p a n,λk hk _=>by rw[Aid,Aaa (by omega)]⟩
end Go.Lv
namespace Go.Pl
open Go Go.Lv
theorem Aim(b:List UInt8)(hb:b.length<4611686018427387904):∀(j q:Nat),j<=b.length->j<q->Mw b q (mZ (b.drop j)) ((j:Int)-1)=some (mZ b)
 |0,q+1,_,_=>by
  rw[Mw,Yj,Aaa (by rw[Ej];simp)];simp[HQ,VL]
 |j+1,q+1,hj,hq=>by
  rw[Mw,Yj,Aae (by rw[Ej];simp),show((j+1:Nat):Int)-1=(j:Int) by omega,Ce,Aa,Bw];have h:Af (Bm (256:UInt64) (mZ (b.drop (j+1)))) (Ad b[j]:UInt64)=mZ (b.drop j):=by
   rw[RQ,RI,oC,drop_cons (n:=j) (by omega),mZ,mZ,Fy,UInt64.ofNat_add,UInt64.ofNat_mul];exact UInt64.add_comm _ _
  rw[h];exact Aim b hb j q (by omega) (by omega)
theorem uw(b:List UInt8)(hb:b.length<4611686018427387904):Az b=some (mZ b):=by
 have h:=Aim b hb b.length Ba (Alw _) (by have:=Ax;omega);rw[Az,HL,HM];have e:Au (Ac b) 1=(b.length:Int)-1:=Bw (by unfold Ac;omega) (by unfold Ac;omega);rw[e,<-h,Axa];rfl
theorem Aka{n c:UInt64}{i:Nat}(hn:n.toNat<2^i)(hc:c.toNat*2^i<18446744073709551616):uN n (Fe c i)=UInt64.ofNat (n.toNat+c.toNat*2^i):=by
 rw[Ao8];apply UInt64.toNat_inj.1;rw[UInt64.toNat_or,cW,Aah hc,Aql,Nat.or_comm,<-Atc hn,Ad3,Aah,Ax5,Aql];have h:=Atc hn c.toNat;have h2:2^i*c.toNat+n.toNat<2^64:=by
  rw[h];exact Nat.or_lt_two_pow (by rw[Aql];simpa using hc) n.toNat_lt
 rw[Ax5];first|exact h2|(rw[Aql];exact h2)
theorem P1(b:List UInt8)(hb:b.length<=8):∀(j i q:Nat),i+j=b.length->j<q->IE b q (mZ (b.take i)) (i:Int)=some (mZ b,0)
 |0,i,q+1,hi,_=>by
  rw[IE,ZG,Aaa (by rw[Ae,Ac];simp;omega),show i=b.length by omega,Atb];rfl
 |j+1,i,q+1,hi,hq=>by
  have hlt:i<b.length:=by omega
  rw[IE,ZG,Aae (by rw[Ae,Ac];simp;omega),Ce hlt,Aa,Hi,Cb (by rw[Ej];simp;omega),Aa,Aj];have h:uN (mZ (b.take i)) (Fe (Ad b[i]:UInt64) (GI.toZ ((8:Int)*(i:Int))).toNat)=mZ (b.take (i+1)):=by
   have e:(GI.toZ ((8:Int)*(i:Int))).toNat=8*i:=by show((8:Int)*(i:Int)).toNat=_;omega
   have e2:(2:Nat)^(8*i)=256^i:=by rw[Nat.pow_mul]
   have h1:=V8 (b.take i);rw[Al5,As8 (by omega)]at h1;have h3:=b[i].toNat_lt;have hle:(256:Nat)^(i+1)<=256^8:=Ae0 (by omega) (by omega);rw[As2]at hle;have h4:(Ad b[i]:UInt64).toNat=b[i].toNat:=by rw[oC,Ad3];omega
   have h5:b[i].toNat*256^i<18446744073709551616:=by
    have:b[i].toNat*256^i<256*256^i:=Nat.mul_lt_mul_of_pos_right (by simpa using h3) (Aw4 (by omega));simp at hle;omega
   rw[e,Aka (by rw[ZQ (by simp;omega),e2];exact h1) (by rw[h4,e2];exact h5),ZQ (by simp;omega),h4,e2,OS hlt];rw[mZ,yF];simp only[Fy,Al5,As8 (Nat.le_of_lt hlt),Nat.mul_zero,Aw2];rw[Aql]
  rw[h];exact P1 b hb j (i+1) q (by omega) (by omega)
theorem wu(b:List UInt8)(h1:1<=b.length)(h2:b.length<=8):iR b=some (mZ b,0):=by
 have h:=P1 b h2 b.length 0 Ba (by omega) (by have:=Ax;omega);rw[iR,lC,Aaa (by simp[Ae,Ap,Ac];omega),kB];exact h
def part(b:List UInt8)(at' w:Nat):List UInt8:=(b.take (at'+w)).drop at'
theorem Eu{b:List UInt8}{a w:Nat}(h:a+w<=b.length:=by omega):(part b a w).length=w:=by simp[part];omega
theorem K1(b:List UInt8)(a w:Nat)(h1:1<=w)(h2:w<=8)(h3:a+w<=b.length)(hb:b.length<4611686018427387904):cI b (a:Int) (w:Int)=some (mZ (part b a w),0):=by
 rw[cI,Aaa (by simp[Ae,Ap];omega),Aaa (by rw[Ap,Bw (by unfold Ac;omega) (by unfold Ac;omega),Ac];simp;omega),Aj,Zn,Aa];rw[show((a:Int)+(w:Int)).toNat=a+w by omega,show(a:Int).toNat=a by omega];rw[wu _ (by rw[show((b.take (a+w)).drop a).length=_ from Eu h3];exact h1) (by rw[show((b.take (a+w)).drop a).length=_ from Eu h3];exact h2),Aa];rfl
theorem tR(w:Nat)(hw:w<=1000):∀(j i q:Nat) (n:UInt64) (acc:List UInt8),i+j=w->j<q->acc.length+j<=1000000->Gt (w:Int) q n (i:Int) acc=some (acc++Xa n.toNat j)
 |0,i,q+1,n,acc,hi,_,_=>by
  rw[Gt,Oh,Aaa (by rw[Ae];simp;omega)];simp[Vr,IU,Xa]
 |j+1,i,q+1,n,acc,hi,hq,ha=>by
  rw[Gt,Oh,Aae (by rw[Ae];simp;omega)];have e:(Ad (JJ n (256:UInt64)):UInt8)=UInt8.ofNat n.toNat:=by
   rw[eX,jm];apply UInt8.toNat_inj.1;rw[Aph,Aph,UInt64.toNat_mod]
   show n.toNat %256 %256=_;omega
  have e2:(By n (256:UInt64)).toNat=n.toNat/256:=by rw[qW,Ax2];rfl
  rw[Bi (by simp;omega),Aa,Aj,e];have h:=tR w hw j (i+1) q (By n 256) (acc++[UInt8.ofNat n.toNat]) (by omega) (by omega) (by simp;omega);rw[e2]at h;rw[show((i:Int)+1)=((i+1:Nat):Int) by omega,h,Xa];simp
theorem eN(n:UInt64)(w:Nat)(hw:w<=1000):Bd n (w:Int)=some (Xa n.toNat w):=by
 rw[Bd,Ws,Wg];have h:=tR w hw w 0 Ba n [] (by omega) (by have:=Ax;omega) (by simp;omega);simpa using h
theorem lH{α:Type}{l m:List α}{x y:α}{i:Nat}(h:l.length=i):(l++x::m).set i y=l++y::m:=by subst h;simp
theorem J3(n:UInt64)(l4:List UInt8)(w:Nat)(hl:l4.length=w)(hw:w<=8):∀(j i q:Nat),i+j=w->j<q->IZ n l4 q (i:Int) (Xa n.toNat i++List.replicate j 0)=some (Xa n.toNat w,0)
 |0,i,q+1,hi,_=>by
  rw[IZ,ZD,Aaa (by rw[Ae,Ac];simp;omega)];obtain rfl:i=w:=by omega
  simp[iD,uO]
 |j+1,i,q+1,hi,hq=>by
  have hlen:(Xa n.toNat i++List.replicate (j+1) 0).length=i+(j+1):=by simp[Ch]
  rw[IZ,ZD,Aae (by rw[Ae,Ac];simp;omega),Hi,Cb (by rw[Ej];simp;omega),Aa,Ce (by rw[hlen];omega),Aa,FT _ (by rw[hlen];omega),Aa,Aj];have e:(Ad (Ea n (GI.toZ ((8:Int)*(i:Int))).toNat):UInt8)=UInt8.ofNat (n.toNat/256^i):=by
   have e:(GI.toZ ((8:Int)*(i:Int))).toNat=8*i:=by show((8:Int)*(i:Int)).toNat=_;omega
   rw[e,eX,SC,Nat.pow_mul]
  rw[e,Avu,lH (Ch _ _)];have h:=J3 n l4 w hl hw j (i+1) q (by omega) (by omega);rw[mq]at h;simpa using h
theorem Apj(n:UInt64)(w:Nat)(h1:1<=w)(h2:w<=8)(h:n.toNat<256^w):wF n (w:Int)=some true:=by
 rw[wF];by_cases h8:w=8
 ·subst h8;rw[Aae (by rw[Aq];rfl)]
 ·rw[Aaa (by rw[Aq];simp;omega),Hi,Cb (by rw[Ej];simp;omega),Aa];have e:(GI.toZ ((8:Int)*(w:Int))).toNat=8*w:=by show((8:Int)*(w:Int)).toNat=_;omega
  rw[e,vR];have:Ea n (8*w)=0:=by
   apply UInt64.toNat_inj.1;rw[SC,Nat.pow_mul];exact Avv h
  rw[this];rfl
theorem kF(n:UInt64)(w:Nat)(h1:1<=w)(h2:w<=8)(h:n.toNat<256^w):Yo n (w:Int)=some (Xa n.toNat w,0):=by
 rw[Yo,jO,Aaa (by simp[Ae,Ap];omega),Apj n w h1 h2 h,Aa,Aaa (by simp),uT,Aa,Cb (by rw[Aq];simp),Aa,jW];have h:=J3 n (List.replicate (w:Int).toNat 0) w (by simp) h2 w 0 Ba (by omega) (by have:=Ax;omega);simpa [Xa]using h
theorem ql(n:Nat)(h:n<4611686018427387904):Kr (n:Int) (7:Int)=((n %8:Nat):Int):=by
 have e:Kr (n:Int) (7:Int)=wrap64 ((BitVec.ofInt 64 (n:Int)&&&BitVec.ofInt 64 7).toNat:Int):=rfl;rw[e,Ax1,Ata,Ata];have h1:((n:Int) %((2^64:Nat):Int)).toNat=n:=by omega
 have h2:((7:Int) %((2^64:Nat):Int)).toNat=2^3-1:=by decide
 rw[h1,h2,Avo,Db (by omega) (by omega)]
theorem Atk(n:Nat):U5 (n:Int) (GI.toZ (3:UInt64)).toNat=((n/8:Nat):Int):=by
 have e:U5 (n:Int) (GI.toZ (3:UInt64)).toNat=(n:Int).fdiv 8:=rfl;rw[e,Aqj _ (by omega)];omega
theorem Auz{t:Nat}(h:t<=8):Au (Fe (1:UInt8) t) (1:UInt8)=UInt8.ofNat (2^t-1):=by
 have:t=0\/t=1\/t=2\/t=3\/t=4\/t=5\/t=6\/t=7\/t=8:=by omega
 rcases this with rfl|rfl|rfl|rfl|rfl|rfl|rfl|rfl|rfl<;>decide
theorem bitsOf(c:UInt8)(off t:Nat)(h:t<=8):(Kr (Ea c off) (Au (Fe (1:UInt8) t) (1:UInt8))).toNat=c.toNat/2^off %2^t:=by
 have hp:2^t<=2^8:=Ae0 (by omega) h;rw[Auz h,Amo,UInt8.toNat_and,Aen,Aph,Aah (by have:=Aw4 (n:=t) (show 0<2 by omega);omega),Avo]
theorem zW{p:List UInt8}{k:Nat}(h:k<p.length):Ao p (k:Int)=some (p.getD k 0):=by
 rw[Ce h];simp[List.getD_eq_getElem?_getD,h]
def BY(p:List UInt8)(a n:Nat):UInt64:=UInt64.ofNat (Dm p a n)
theorem MO(p:List UInt8)(a n:Nat)(h:n<=64):(BY p a n).toNat=Dm p a n:=by
 have h1:=Xp p n a;have h2:2^n<=2^64:=Ae0 (by omega) h;rw[BY,Ad3,Aah (by omega)]
theorem pz(p:List UInt8)(N:Int)(a n:Nat)(hn:n<=64)(ha:a+n<=8*p.length)(hp:p.length<=1000000):∀(j h q:Nat),h+j=n->j<q->RG (a:Int) (n:Int) p N q (BY p a h) (h:Int)=some (BY p a n)
 |j,h,q+1,hj,hq=>by
  rw[RG,jU];by_cases hlt:h<n
  ·have e1:Af (a:Int) (h:Int)=((a+h:Nat):Int):=by rw[Aj];omega
   have e2:Jr (Au (n:Int) (h:Int)) (Au (8:Int) (((a+h) %8:Nat):Int))=((min (n-h) (8-(a+h) %8):Nat):Int):=by
    rw[SN,Bw,Bw];omega
   have hm:(a+h)/8<p.length:=by omega
   rw[Aae (by rw[Ae];simp;omega),e1,Atk,zW hm,Aa,ql _ (by omega),Cb (by rw[Ej];simp;omega),Aa,e2,Cb (by rw[Ej];simp),Aa,Cb (by rw[Ej];simp),Aa];generalize hT:min (n-h) (8-(a+h) %8)=T;have hT8:T<=8:=by omega
   have hT1:1<=T:=by omega
   have hb:(a+h) %8+T<=8:=by omega
   have hv:=tA p (a+h) T hb;have z1:(GI.toZ (((a+h) %8:Nat):Int)).toNat=(a+h) %8:=rfl;have z2:(GI.toZ ((T:Nat):Int)).toNat=T:=rfl;have z3:(GI.toZ ((h:Nat):Int)).toNat=h:=rfl;rw[z1,z2,z3];have hx:(Ad (Kr (Ea (p.getD ((a+h)/8) 0) ((a+h) %8)) (Au (Fe (1:UInt8) T) (1:UInt8))):UInt64).toNat=Dm p (a+h) T:=by
    rw[oC,Ad3,bitsOf _ _ _ hT8,<-hv];have:=Xp p T (a+h);have h2:2^T<=2^8:=Ae0 (by omega) hT8;omega
   have hlt2:=Xp p (h+T) a;rw[WT]at hlt2;have h64:2^(h+T)<=2^64:=Ae0 (by omega) (by omega);have hor:uN (BY p a h) (Fe (Ad (Kr (Ea (p.getD ((a+h)/8) 0) ((a+h) %8)) (Au (Fe (1:UInt8) T) (1:UInt8))):UInt64) h)=BY p a (h+T):=by
    rw[Aka (by rw[MO p a h (by omega)];exact Xp p h a) (by rw[hx,Aql];omega),hx,MO p a h (by omega),BY,WT,Aql (2^h)]
   rw[hor,Aj,show(h:Int)+((T:Nat):Int)=((h+T:Nat):Int) by omega];exact pz p N a n hn ha hp (j-T) (h+T) q (by omega) (by omega)
  ·rw[Aaa (by rw[Ae];simp;omega),show h=n by omega];rfl
theorem get_eq(p:List UInt8)(N:Int)(a n:Nat)(hn:n<=64)(ha:a+n<=8*p.length)(hp:p.length<=1000000):qV p N (a:Int) (n:Int)=some (BY p a n):=by
 have:=pz p N a n hn ha hp n 0 Ba (by omega) (by have:=Ax;omega);exact this
theorem UZ{p:List UInt8}{n:Nat}(h:okB p n):Yg p (n:Int)=some 0:=by
 obtain⟨h1,h2,h3⟩:=h;have e7:Af (n:Int) 7=((n+7:Nat):Int):=by rw[Aj];omega
 rw[Yg,e7,Atk,Aaa (by simp[Ae,Ap,Ah,Ac,h2];omega),ql _ (by omega)];by_cases hz:n %8=0
 ·rw[Aaa (by rw[Ap];simp;omega)]
 ·have el:Au (Ac p) 1=((p.length-1:Nat):Int):=by rw[Ac,Bw];omega
  rw[Aae (by rw[Ap];simp;omega),el,zW (by omega),Aa,Cb (by rw[Ej];simp;omega),Aa];have z:(GI.toZ ((n %8:Nat):Int)).toNat=n %8:=rfl;have hs:Ea (p.getD (p.length-1) 0) (n %8)=0:=by
   apply UInt8.toNat_inj.1;rw[Aen];have hv:=tA p n (8-n %8) (by omega);have h0:Dm p n (8-n %8)=0:=K8 _ _ λk hk=>h3 _ (by omega) (by omega);rw[h0,show n/8=p.length-1 by omega]at hv;have hlt:(p.getD (p.length-1) 0).toNat/2^(n %8)<2^(8-n %8):=by
    have:=(p.getD (p.length-1) 0).toNat_lt;rw[Nat.div_lt_iff_lt_mul (Aw4 (by omega)),<-Axy,show 8-n %8+n %8=8 by omega];simpa using this
   rw[Aah hlt]at hv;exact hv.symm
  rw[z,hs,Aaa (by rw[Abu];simp)]
theorem tJ{p:List UInt8}{N:Nat}(h:okB p N)(a n:Nat)(hn:n<=64):LV p (N:Int) (a:Int) (n:Int)=some (if N<a+n then(0,24)else(BY p a n,0)):=by
 obtain⟨h1,h2,h3⟩:=h;rw[LV,UZ ⟨h1,h2,h3⟩,Aa,Aaa (by rw[Ah];simp),Aaa (by simp[Ae,Ap];omega),Bw];by_cases hl:N<a+n
 ·rw[Aae (by rw[Ap];simp;omega),Aae hl]
 ·rw[Aaa (by rw[Ap];simp;omega),get_eq p N a n hn (by omega) (by omega),Aa,Aaa hl]
theorem Avw(c:Nat)(h:c<4611686018427387904):By (c:Int) (2:Int)=((c/2:Nat):Int):=by
 rw[SP,Avk (by omega),Db (by omega) (by omega)];omega
theorem Atl(c:Nat)(h:c<4611686018427387904):By (c:Int) (8:Int)=((c/8:Nat):Int):=by
 rw[SP,Avk (by omega),Db (by omega) (by omega)];omega
theorem Ah8(c:Nat):Ko (c:Int) (8:Int)=((c %8:Nat):Int):=by rw[Ko,Awb (by omega)];omega
theorem Awc(c:Nat):Ko (c:Int) (2:Int)=((c %2:Nat):Int):=by rw[Ko,Awb (by omega)];omega
theorem Ado(i c:Nat)(hc:c<256):∀(j k q:Nat),k+j=i %8->j<q->My (i:Int) q ((c/2^k:Nat):Int) (k:Int)=some (((c/2^(i %8) %2:Nat):Int))
 |0,k,q+1,hk,_=>by
  rw[My,Ya,Ah8,Aaa (by rw[Ae];simp;omega),IA,YA,Awc,show k=i %8 by omega]
 |j+1,k,q+1,hk,hq=>by
  have hle:c/2^k<=c:=Ar4 _ _;rw[My,Ya,Ah8,Aae (by rw[Ae];simp;omega),Avw _ (by omega),Aj,Axc,<-As2];exact Ado i c hc j (k+1) q (by omega) (by omega)
theorem rS(p:List UInt8)(N:Int)(i:Nat)(h:i/8<p.length)(hi:i<4611686018427387904):Ly p N (i:Int)=some ((Mz p i:Nat):Int):=by
 have hc:=(p.getD (i/8) 0).toNat_lt;have:=Ado i (p.getD (i/8) 0).toNat (by simpa using hc) (i %8) 0 Ba (by omega) (by have:=Ax;omega);rw[Ly,HU,Atl _ hi,zW h,Aa,OU,HS];simpa [Mz]using this
theorem zD(p:List UInt8)(N:Int)(a n:Nat)(ha:a+n<=8*p.length)(hp:p.length<=1000000):∀(j q:Nat),j<=n->j<q->Ip (a:Int) p N q (BY p (a+j) (n-j)) ((j:Int)-1)=some (BY p a n)
 |0,q+1,_,_=>by
  rw[Ip,Rl,Aaa (by rw[Ej];simp)];rfl
 |j+1,q+1,hj,hq=>by
  have hb:=GL p (a+j);rw[Ip,Rl,show((j+1:Nat):Int)-1=(j:Int) by omega,Aae (by rw[Ej];simp),Aj (a:=(a:Int)) (by omega) (by omega),show(a:Int)+(j:Int)=((a+j:Nat):Int) by omega,rS p N (a+j) (by omega) (by omega),Aa,Bw];have e:Af (Bm (2:UInt64) (BY p (a+(j+1)) (n-(j+1)))) (Ad ((Mz p (a+j):Nat):Int):UInt64)=BY p (a+j) (n-j):=by
   rw[RQ,RI,Qi,BY,BY,show n-j=(n-(j+1))+1 by omega,Dm,show a+j+1=a+(j+1) by omega,UInt64.ofNat_add,UInt64.ofNat_mul];exact UInt64.add_comm _ _
  rw[e];exact zD p N a n ha hp j q (by omega) (by omega)
theorem nO(p:List UInt8)(N:Int)(a n:Nat)(ha:a+n<=8*p.length)(hp:p.length<=1000000):Qv p N (a:Int) (n:Int)=some (BY p a n):=by
 have:=zD p N a n ha hp n Ba (Alw _) (by have:=Ax;omega);have hz:BY p (a+n) (n-n)=0:=by rw[Nat.sub_self];rfl
 rw[hz]at this;rw[Qv,AD,Zw,Bw];exact this
theorem Aep(bit:Int)(N:Nat)(l:List UInt8):∀(j k q:Nat),k+j=N %8->j<q->Lt bit (N:Int) l q ((2^k:Nat):Int) (k:Int)=Va bit ((2^(N %8):Nat):Int) (N:Int) l
 |0,k,q+1,hk,_=>by
  rw[Lt,Vn,Ah8,Aaa (by rw[Ae];simp;omega),show k=N %8 by omega]
 |j+1,k,q+1,hk,hq=>by
  have hp:2^k<=2^8:=Ae0 (by omega) (by omega);have e:Bm ((2^k:Nat):Int) 2=((2^(k+1):Nat):Int):=by
   rw[As2];generalize 2^k=K at*
   rw[Hi];omega
  rw[Lt,Vn,Ah8,Aae (by rw[Ae];simp;omega),e,Aj];exact Aep bit N l j (k+1) q (by omega) (by omega)
theorem A4(p:List UInt8)(a n j:Nat)(h:j<(n+7)/8):(OI p a n)[j]'(by rw[Sn];exact h)=UInt8.ofNat (Dm p (a+8*j) (min 8 (n-8*j))):=by simp[OI]
theorem zq(p:List UInt8)(a t:Nat)(h:t<=8):Dm p a t<256:=by
 have h1:=Xp p t a;have h2:2^t<=2^8:=Ae0 (by omega) h;omega
def room(p:List UInt8)(a n:Nat):List UInt8:=if n %8=0 then OI p a n++[0]else OI p a n
theorem GF(p:List UInt8)(a n:Nat):(room p a n).length=n/8+1:=by
 rw[room];split<;>simp[Sn]<;>omega
theorem zf(p:List UInt8)(a n j:Nat)(h:j<n/8+1):(room p a n)[j]'(by rw[GF];exact h)=UInt8.ofNat (Dm p (a+8*j) (min 8 (n-8*j))):=by
 have h0:(room p a n)[j]? =some (UInt8.ofNat (Dm p (a+8*j) (min 8 (n-8*j)))):=by
  rw[room];split
  ·by_cases hj:j<(n+7)/8
   ·rw[List.getElem?_append_left (by rw[Sn];exact hj),List.getElem?_eq_getElem (by rw[Sn];exact hj),A4 p a n j hj]
   ·rw[List.getElem?_append_right (by rw[Sn];omega),Sn,show j-(n+7)/8=0 by omega,show n-8*j=0 by omega];rfl
  ·rw[List.getElem?_eq_getElem (by rw[Sn];omega),A4 p a n j (by omega)]
 rw[List.getElem?_eq_getElem (by rw[GF];exact h)]at h0;exact Ap6 h0
theorem xw(p:List UInt8)(a n T:Nat)(h1:1<=T)(h:n %8+T<=8):(room p a n).set (n/8) (UInt8.ofNat (Dm p (a+8*(n/8)) (n %8+T)))=OI p a (n+T):=by
 apply Avl (by rw[Awe,GF,Sn];omega);intro j g1 g2;rw[Awe,GF]at g1;rw[Ax3,A4 p a (n+T) j (by rw[Sn]at g2;exact g2)];split
 ·rename_i e;subst e;rw[show min 8 (n+T-8*(n/8))=n %8+T by omega]
 ·rw[zf p a n j g1,show min 8 (n-8*j)=8 by omega,show min 8 (n+T-8*j)=8 by omega]
theorem M6(p:List UInt8)(a n:Nat):(room p a n)[n/8]'(by rw[GF];omega)=UInt8.ofNat (Dm p (a+8*(n/8)) (n %8)):=by
 rw[zf p a n _ (by omega),show min 8 (n-8*(n/8))=n %8 by omega]
theorem Ahz(p:List UInt8)(a n:Nat)(hn:n<=400000):Wf (OI p a n) (n:Int) ((Mz p (a+n):Nat):Int)=some (OI p a (n+1),((n+1:Nat):Int)):=by
 have hb:=GL p (a+n);have hp:2^(n %8)<=2^7:=Ae0 (by omega) (by omega);have hroom:Wf (OI p a n) (n:Int) ((Mz p (a+n):Nat):Int)=Vc ((Mz p (a+n):Nat):Int) (n:Int) (room p a n):=by
  rw[Wf,FM,Ah8,room];by_cases h0:n %8=0
  ·rw[Aae (by rw[Aq,h0];rfl),Bi (by rw[Sn];simp;omega),Aa,Aae h0]
  ·rw[Aaa (by rw[Aq];simp;omega),Aaa h0]
 have hl:=Aep ((Mz p (a+n):Nat):Int) n (room p a n) (n %8) 0 Ba (by omega) (by have:=Ax;omega);rw[hroom,Vc,FY,FL];refine Awq hl ?_;have hg:Ao (room p a n) ((n/8:Nat):Int)=some (UInt8.ofNat (Dm p (a+8*(n/8)) (n %8))):=by
  rw[Ce (by rw[GF];omega),M6]
 have hlt:=zq p (a+8*(n/8)) (n %8+1) (by omega);have hsn:=L3 p (a+8*(n/8)) (n %8);rw[show a+8*(n/8)+n %8=a+n by omega]at hsn;have hm:Bm ((Mz p (a+n):Nat):Int) ((2^(n %8):Nat):Int)=((2^(n %8)*Mz p (a+n):Nat):Int):=by
  have hle:2^(n %8)*Mz p (a+n)<=2^7*1:=Aul hp (by omega);rw[Ahs,<-Ath,Db (by omega) (by rw[Aql];omega),Aql]
 have hx:Af (UInt8.ofNat (Dm p (a+8*(n/8)) (n %8))) (Ad (((2^(n %8)*Mz p (a+n):Nat):Int)):UInt8)=UInt8.ofNat (Dm p (a+8*(n/8)) (n %8+1)):=by
  rw[Ao3,Ai0,hsn,UInt8.ofNat_add]
 rw[Va,TM,Atl _ (by omega),hg,Aa,Aa,Aa,hm,hx,FT _ (by rw[GF];omega),Aa,xw p a n 1 (by omega) (by omega),Aj];rfl
theorem qY(p:List UInt8)(N:Int)(a n:Nat)(ha:a+n<=8*p.length)(hp:p.length<=1000000)(hn:n<=300000):∀(j m q:Nat),m+j=n->j<q->Gv ((a+n:Nat):Int) p N q ((a+m:Nat):Int) (m:Int) (OI p a m)=some (OI p a n,(n:Int))
 |0,m,q+1,hm,_=>by
  rw[Gv,Og,Aaa (by rw[Ae];simp;omega),show m=n by omega];rfl
 |j+1,m,q+1,hm,hq=>by
  rw[Gv,Og,Aae (by rw[Ae];simp;omega),rS p N (a+m) (by omega) (by omega),Aa,Ahz p a m (by omega),Aa];simp only;rw[Aj];exact qY p N a n ha hp hn j (m+1) q (by omega) (by omega)
theorem Z9(p:List UInt8)(N:Int)(a n:Nat)(ha:a+n<=8*p.length)(hp:p.length<=1000000)(hn:n<=300000):DD p N (a:Int) ((a+n:Nat):Int)=some (OI p a n,(n:Int)):=by
 have:=qY p N a n ha hp hn n 0 Ba (by omega) (by have:=Ax;omega);exact this
theorem Aqx{t:Nat}(h:t<=8):Au (Fe (1:UInt64) t) (1:UInt64)=UInt64.ofNat (2^t-1):=by
 have:t=0\/t=1\/t=2\/t=3\/t=4\/t=5\/t=6\/t=7\/t=8:=by omega
 rcases this with rfl|rfl|rfl|rfl|rfl|rfl|rfl|rfl|rfl<;>decide
theorem Av9(v:UInt64){t:Nat}(h:t<=8):(Kr v (Au (Fe (1:UInt64) t) (1:UInt64))).toNat=v.toNat %2^t:=by
 have hp:2^t<=2^8:=Ae0 (by omega) h;rw[Aqx h,zT,UInt64.toNat_and,Ad3,Aah (by have:=Aw4 (n:=t) (show 0<2 by omega);omega),Avo]
theorem or8{v w i:Nat}(hv:v<2^i)(hw:w*2^i<256)(hi:i<8):uN (UInt8.ofNat v) (Fe (UInt8.ofNat w) i)=UInt8.ofNat (v+w*2^i):=by
 have hp:2^i<=2^8:=Ae0 (by omega) (by omega);have hpos:0<2^i:=Aw4 (by omega);have hw2:w<256:=Avr (Axl w hpos) hw;rw[Aq4];apply UInt8.toNat_inj.1;have e1:(UInt8.ofNat v).toNat=v:=by rw[Aph,Aah (by omega)]
 have e2:(UInt8.ofNat w).toNat=w:=by rw[Aph,Aah (by omega)]
 rw[UInt8.toNat_or,Ant,e1,e2,Aah hw,Aql w,Nat.or_comm,<-Atc hv,Aph,Ax5 v];rw[Aql]at hw;have hb:2^i*w+v<256:=by
  rw[Atc hv];exact Nat.or_lt_two_pow (n:=8) hw (by omega)
 rw[Aah hb]
theorem Aju(p:List UInt8)(a n T:Nat)(h:T<=n)(hn:n<=64):Ea (BY p a n) T=BY p (a+T) (n-T):=by
 apply UInt64.toNat_inj.1;rw[SC,MO p a n hn,MO p (a+T) (n-T) (by omega)];have:=Xp p T a
 conv=>lhs;rw[show n=T+(n-T) by omega,WT,Nat.add_mul_div_left _ _ (Aw4 (by omega)),Avv this,Avg]
theorem Aky(p:List UInt8)(a n T:Nat)(h:T<=n)(hn:n<=64):(BY p a n).toNat %2^T=Dm p a T:=by
 have:=Xp p T a;rw[MO p a n hn]
 conv=>lhs;rw[show n=T+(n-T) by omega,WT,Nat.add_mul_mod_self_left,Aah this]
theorem zK(bk:Int->Int->List UInt8->Option (List UInt8×Int×Int))(to':Int)(p:List UInt8)(N fr:Int)(r6:UInt64)(a:Nat):∀(j m q:Nat),m+j<=300000->j<=64->j<q->
  Tf bk to' p N fr r6 q (BY p (a+m) j) (j:Int) (m:Int) (OI p a m)=UD bk to' p N fr ((m+j:Nat):Int) (OI p a (m+j))
 |0,m,q+1,_,_,_=>by
  rw[Tf,UJ,Aaa (by rw[Ap];simp)];rfl
 |j+1,m,q+1,hm,hj,hq=>by
  have hroom:Tf bk to' p N fr r6 (q+1) (BY p (a+m) (j+1)) ((j+1:Nat):Int) (m:Int) (OI p a m)=UK (Tf bk to' p N fr r6 q) to' fr p N r6 (BY p (a+m) (j+1)) ((j+1:Nat):Int) (m:Int) (room p a m):=by
   rw[Tf,UJ,Aae (by rw[Ap];simp),ql m (by omega),room];by_cases h0:m %8=0
   ·rw[Aae (by rw[Aq,h0];rfl),Bi (by rw[Sn];simp;omega),Aa,Aae h0]
   ·rw[Aaa (by rw[Aq];simp;omega),Aaa h0]
  have hl:Au (Ac (room p a m)) 1=((m/8:Nat):Int):=by
   rw[Ac,GF,Bw];omega
  have e2:Jr ((j+1:Nat):Int) (Au (8:Int) ((m %8:Nat):Int))=((min (j+1) (8-m %8):Nat):Int):=by
   rw[SN,Bw];omega
  rw[hroom,UK,fO,ql m (by omega),e2,hl];generalize hT:min (j+1) (8-m %8)=T;have hT1:1<=T:=by omega
  have hT8:m %8+T<=8:=by omega
  have hg:Ao (room p a m) ((m/8:Nat):Int)=some (UInt8.ofNat (Dm p (a+8*(m/8)) (m %8))):=by
   rw[Ce (by rw[GF];omega),M6]
  have z1:(GI.toZ ((m %8:Nat):Int)).toNat=m %8:=rfl;have z2:(GI.toZ ((T:Nat):Int)).toNat=T:=rfl;have hlt:=zq p (a+8*(m/8)) (m %8+T) (by omega);have hadd:=WT p (m %8) T (a+8*(m/8));rw[show a+8*(m/8)+m %8=a+m by omega]at hadd;have hbyte:(Ad (Kr (BY p (a+m) (j+1)) (Au (Fe (1:UInt64) T) (1:UInt64))):UInt8)=UInt8.ofNat (Dm p (a+m) T):=by
   rw[eX,Av9 _ (by omega),Aky p (a+m) (j+1) T (by omega) hj]
  have hnew:uN (UInt8.ofNat (Dm p (a+8*(m/8)) (m %8))) (Fe (UInt8.ofNat (Dm p (a+m) T)) (m %8))=UInt8.ofNat (Dm p (a+8*(m/8)) (m %8+T)):=by
   rw[or8 (Xp _ _ _) (by rw[Aql];omega) (by omega),hadd,Aql (2^(m %8))]
  rw[hg,z1,z2,hbyte];simp only[Aa];rw[Cb (by rw[Ej];simp),Aa,Cb (by rw[Ej];simp;omega),Aa,hnew,FT _ (by rw[GF];omega),Aa,xw p a m T hT1 hT8,eU,qC,ql m (by omega),e2,hT,Cb (by rw[Ej];simp),Aa,z2,Aju p (a+m) (j+1) T (by omega) hj,Bw,Aj];have ih:=zK bk to' p N fr r6 a (j+1-T) (m+T) q (by omega) (by omega) (by omega);rw[show m+T+(j+1-T)=m+(j+1) by omega]at ih;rw[<-ih,show a+m+T=a+(m+T) by omega,show((j+1:Nat):Int)-((T:Nat):Int)=((j+1-T:Nat):Int) by omega,show(m:Int)+((T:Nat):Int)=((m+T:Nat):Int) by omega]
theorem oh(p:List UInt8)(N:Int)(a n:Nat)(ha:a+n<=8*p.length)(hp:p.length<=1000000)(hn:n<=300000):∀(j m f q:Nat),(f=m\/n<=f/\m=n)->m+j=n->f<=n+64->j<q->EC ((a+n:Nat):Int) p N q ((a+f:Nat):Int) (m:Int) (OI p a m)=some (OI p a n,(n:Int),0)
 |j,m,f,q+1,hf,hm,hf2,hq=>by
  rw[EC,eW];by_cases hlt:f<n
  ·obtain rfl:f=m:=by omega
   have e1:Jr (64:Int) (Au ((a+n:Nat):Int) ((a+f:Nat):Int))=((min 64 (n-f):Nat):Int):=by
    rw[SN,Bw];omega
   rw[Aae (by rw[Ae];simp;omega),e1,get_eq p N (a+f) _ (by omega) (by omega) hp,Aa,fC];have h1:=zK (EC ((a+n:Nat):Int) p N q) ((a+n:Nat):Int) p N ((a+f:Nat):Int) (BY p (a+f) (min 64 (n-f))) a (min 64 (n-f)) f Ba (by omega) (by omega) (by have:=Ax;omega);refine Awq h1 ?_;rw[UD,qA,Aj,show((a+f:Nat):Int)+64=((a+(f+64):Nat):Int) by omega];exact oh p N a n ha hp hn (j-min 64 (n-f)) (f+min 64 (n-f)) (f+64) q (by omega) (by omega) (by omega) (by omega)
  ·rw[Aaa (by rw[Ae];simp;omega),dJ,qX,show m=n by omega]
theorem Aq8{p:List UInt8}{N:Nat}(h:okB p N)(a n:Nat)(ha:a+n<=N)(hn:n<=300000):jP p (N:Int) (a:Int) ((a+n:Nat):Int)=some (OI p a n,(n:Int),0):=by
 obtain⟨h1,h2,h3⟩:=h;have:=oh p N a n (by omega) (by omega) hn n 0 0 Ba (by omega) (by omega) (by omega) (by have:=Ax;omega);rw[jP,jY,UZ ⟨h1,h2,h3⟩,Aa,Aaa (by rw[Ah];simp),Aaa (by simp[Ae,Ap];omega),cZ];exact this
def Im(p:List UInt8):Nat->Nat->Nat
 |_,0=>0
 |a,m+1=>if Mz p a=1 then 1+Im p (a+1) m else 0
theorem ZC(p:List UInt8):∀(m a:Nat),Im p a m<=m
 |0,_=>Alw _
 |m+1,a=>by rw[Im];split<;>have:=ZC p m (a+1)<;>omega
theorem qw(p:List UInt8):∀(m a:Nat),∃s,Dm p a m+1=2^(Im p a m+1)*s+2^Im p a m/\ (Im p a m=m->s=0)
 |0,a=>⟨0,by simp[Dm,Im],λ_=>rfl⟩
 |m+1,a=>by
  have hb:=GL p a;obtain⟨s,h1,h2⟩:=qw p m (a+1);by_cases h:Mz p a=1
  ·refine⟨s,?_,λe=>h2 ?_⟩
   ·rw[Im,Aae h,Dm,h,show 1+Im p (a+1) m+1=(Im p (a+1) m+1)+1 by omega,show 1+Im p (a+1) m=Im p (a+1) m+1 by omega,As2,As2 (n:=2) (m:=Im p (a+1) m)];rw[As2]at h1;generalize Dm p (a+1) m=V at*
    generalize 2^Im p (a+1) m=W at*
    have e1:W*2*2*s=2*(W*2*s):=by rw[Nat.mul_right_comm (W*2) 2 s,Aql]
    omega
   ·rw[Im,Aae h]at e;omega
  ·refine⟨Dm p (a+1) m,?_,λe=>?_⟩
   ·rw[Im,Aaa h,Dm];simp;omega
   ·rw[Im,Aaa h]at e;omega
theorem Aox{n t s:Nat}(h:2^(t+1)*s+2^t<=2^n)(ht:t<n)(x:Nat)(hx:x=2^n-(2^(t+1)*s+2^t)):x&&& (2^(t+1)*s+2^t)=2^t:=by
 have hpos:0<2^t:=Aw4 (by omega);have hlt:2^t<2^(t+1):=by rw[As2];omega
 have e:x=2^n-((2^(t+1)*s+(2^t-1))+1):=by rw[hx];congr 1;omega
 apply Nat.eq_of_testBit_eq;intro i;rw[Nat.testBit_and,e,Nat.testBit_two_pow_sub_succ (by omega),Nat.testBit_two_pow_mul_add _ (by omega),Nat.testBit_two_pow_mul_add _ hlt];by_cases hi:i<t+1
 ·rw[Aae hi,Aae hi,Nat.testBit_two_pow_sub_one,Nat.testBit_two_pow];by_cases hit:t=i
  ·subst hit;simp;exact ht
  ·have:¬i=t:=λe=>hit e.symm;simp[hit]
 ·rw[Aaa hi,Aaa hi,Nat.testBit_two_pow];have:¬t=i:=by omega
  simp[this]
theorem Akv(a:UInt64):(zZ a).toNat=18446744073709551615-a.toNat:=by
 have h:=a.toNat_lt;have e:zZ a=UInt64.ofNat (BitVec.ofInt 64 18446744073709551615^^^BitVec.ofInt 64 (a.toNat:Int)).toNat:=Ij _;have h1:BitVec.ofInt 64 (a.toNat:Int)=a.toBitVec:=U7 a;have h2:(BitVec.ofInt 64 18446744073709551615:BitVec 64)=BitVec.allOnes 64:=by decide
 rw[e,Ad3,h1,h2,BitVec.allOnes_xor,BitVec.toNat_not];show(18446744073709551616-1-a.toNat) %18446744073709551616=18446744073709551615-a.toNat;omega
theorem Ajo(a:UInt64):(pN a).toNat=(18446744073709551616-a.toNat) %18446744073709551616:=by
 have h:=a.toNat_lt;have e:pN a=UInt64.ofNat ((0-(a.toNat:Int)) %18446744073709551616).toNat:=S5 _;rw[e,Ad3];show((0-(a.toNat:Int)) %18446744073709551616).toNat %18446744073709551616=_;omega
def Aum:List UInt8:=[0,1,56,2,57,49,28,3,61,58,42,50,38,29,17,4,62,47,59,36,45,43,51,22,53,39,33,30,24,18,12,5,63,55,48,27,60,41,37,16,46,35,44,21,52,32,23,11,54,26,40,15,34,20,31,10,25,14,19,9,13,8,7,6]
theorem Afd:∀t:Fin 64,Ao Aum (GI.toZ (Ea (Bm (UInt64.ofNat (2^t.val)) (285870213051353865:UInt64)) (GI.toZ (58:UInt64)).toNat))=some (UInt8.ofNat t.val):=by decide +kernel
theorem At4(x:UInt64)(t s:Nat)(ht:t<64)(h:x.toNat+(2^(t+1)*s+2^t)=18446744073709551616):Hx x=some (t:Int):=by
 have hpos:0<2^t:=Aw4 (by omega);have hx:x.toNat=2^64-(2^(t+1)*s+2^t):=by show x.toNat=18446744073709551616-_;omega
 have hle:2^t<=2^63:=Ae0 (by omega) (by omega);have hne:x≠0:=by
  intro e;rw[e]at h;have h':2^t*(2*s+1)=2^64:=by
   rw[Nat.mul_add,Nat.mul_one,<-Av3,<-As2]
   show _=18446744073709551616;simpa using h
  have h2:2^64=2^t*2^(64-t):=by rw[<-Axy];congr 1;omega
  rw[h2]at h';have h3:=Nat.eq_of_mul_eq_mul_left hpos h';rw[show 64-t=(63-t)+1 by omega,As2]at h3;omega
 have hx0:x.toNat≠0:=λe=>hne (UInt64.toNat_inj.1 e);have hl:Kr x (pN x)=UInt64.ofNat (2^t):=by
  apply UInt64.toNat_inj.1;rw[zT,UInt64.toNat_and,Ajo,show(18446744073709551616-x.toNat) %18446744073709551616=2^(t+1)*s+2^t by omega,Aox (n:=64) (by show _<=18446744073709551616;omega) ht _ hx,Ad3,Aah];exact Avr hle (by decide)
 have hb:=Afd ⟨t,ht⟩;rw[Hx,Aaa (by rw[vR];simpa using hne),hl];refine Awq (congrArg (λo=>Option.bind o λc=>some (Ad c:Int)) hb) ?_;rw[Aa,OU,Aph,Aah (by show t<256;omega)]
theorem Ao9(p:List UInt8)(a m:Nat)(hm:m<=48):Hx (zZ (BY p a m))=some ((Im p a m:Nat):Int):=by
 obtain⟨s,h1,h2⟩:=qw p m a;have hle:=ZC p m a;have hlt:=Xp p m a;have h48:2^m<=2^48:=Ae0 (by omega) hm;have hn:(zZ (BY p a m)).toNat=18446744073709551615-Dm p a m:=by rw[Akv,MO p a m (by omega)]
 have h3:(281474976710656:Nat)=2^48:=rfl;refine At4 _ (Im p a m) s (by omega) ?_;rw[hn];omega
def jl(p:List UInt8)(N a:Nat):Int×Int×Int:=
 if Im p a (min 48 (N-a))<min 48 (N-a)then((Im p a (min 48 (N-a)):Nat),((a+Im p a (min 48 (N-a))+1:Nat):Int),0)else
 if Im p a (min 48 (N-a))=48 then(48,((a+48:Nat):Int),0)else(0,0,24)
theorem Akj{p:List UInt8}{N:Nat}(h:okB p N)(a:Nat)(ha:a<N):PF p (N:Int) (a:Int)=some (jl p N a):=by
 have hN:=h.1;have e1:Jr (48:Int) (Au (N:Int) (a:Int))=((min 48 (N-a):Nat):Int):=by rw[SN,Bw];omega
 have hle:=ZC p (min 48 (N-a)) a;rw[PF,GP,UZ h,Aa,Aaa (by rw[Ah];simp),Aaa (by rw[Ae];simp),Aaa (by rw[Ej];simp;omega),e1,tJ h a _ (by omega),Aaa (by omega),Aa];simp only;rw[aB,aO,Aaa (by rw[Ah];simp),Ao9 p a _ (by omega),Aa,aS,aJ,e1,jl];by_cases h1:Im p a (min 48 (N-a))<min 48 (N-a)
 ·rw[Aae (by rw[Ae];simp;omega),Aae h1,Aj (a:=(a:Int)) (by omega) (by omega),show Af (0:Int) 1=1 by decide,Aj];congr 3;omega
 ·rw[Aaa (by rw[Ae];simp;omega),Aaa h1,aM,aD];by_cases h2:Im p a (min 48 (N-a))=48
  ·rw[Aae (by rw[Aq,h2];rfl),Aae h2,h2,Aj (a:=(a:Int)) (by omega) (by omega),Aj];congr 3;omega
  ·rw[Aaa (by rw[Aq];simp;omega),Aaa h2];rfl
theorem O0(p:List UInt8):∀(m a:Nat),Im p a m<m->Mz p (a+Im p a m)≠1
 |0,_,h=>by simp[Im]at h
 |m+1,a,h=>by
  by_cases hb:Mz p a=1
  ·rw[Im,Aae hb]at h⊢;have:=O0 p m (a+1) (by omega);rwa [show a+(1+Im p (a+1) m)=a+1+Im p (a+1) m by omega]
  ·rw[Im,Aaa hb];exact hb
theorem L9(p:List UInt8):∀(m a k:Nat),k<Im p a m->Mz p (a+k)=1
 |0,a,k,h=>by simp[Im]at h
 |m+1,a,k,h=>by
  by_cases hb:Mz p a=1
  ·rw[Im,Aae hb]at h;cases k with
   |zero=>exact hb
   |succ k=>
    have:=L9 p m (a+1) k (by omega);rwa [show a+(k+1)=a+1+k by omega]
  ·rw[Im,Aaa hb]at h;omega
def unR(p:List UInt8)(N a:Nat):Int×Int:=if(jl p N a).2.2=0 then((jl p N a).1,(jl p N a).2.1)else(-1,0)
theorem B7{p:List UInt8}{N:Nat}(h:okB p N)(a:Nat)(ha:a<N):∀(j k q:Nat),k+j=Im p a (min 48 (N-a))->j<q->Ln (a:Int) p (N:Int) q (k:Int)=some (unR p N a)
 |0,k,q+1,hk,_=>by
  obtain⟨hN,hl,hz⟩:=h;have hle:=ZC p (min 48 (N-a)) a;have hk':k=Im p a (min 48 (N-a)):=by omega
  have e1:Af (a:Int) (k:Int)=((a+k:Nat):Int):=by rw[Aj];omega
  have hend:Vm (a:Int) (k:Int) p (N:Int)=some (unR p N a):=by
   rw[Vm,TX,e1];by_cases h48:k=48
   ·have hu:jl p N a=(48,((a+48:Nat):Int),0):=by rw[jl,<-hk',Aaa (by omega),Aae h48]
    rw[Aae (by rw[Aq,h48];rfl),unR,hu,h48];rfl
   ·rw[Aaa (by rw[Aq];simp;omega)];by_cases hN2:N<=a+k
    ·have hu:jl p N a=(0,0,24):=by rw[jl,<-hk',Aaa (by omega),Aaa h48]
     rw[Aae (by rw[Ej];simp;omega),unR,hu];rfl
    ·have hu:jl p N a=(((k:Nat):Int),((a+k+1:Nat):Int),0):=by rw[jl,<-hk',Aae (by omega)]
     rw[Aaa (by rw[Ej];simp;omega),unR,hu,Aj];rfl
  rw[Ln,Vi,e1];by_cases hc:a+k<N/\k<48
  ·have hb:=GL p (a+k);have hs:=O0 p (min 48 (N-a)) a (by omega);rw[<-hk']at hs;rw[Aae (by simp[Ae];omega),rS p _ (a+k) (by omega) (by omega),Aa,Aaa (by rw[Aq];simp;omega),hend]
  ·rw[Aaa (by simp[Ae];omega),hend]
 |j+1,k,q+1,hk,hq=>by
  obtain⟨hN,hl,hz⟩:=h;have hle:=ZC p (min 48 (N-a)) a;have hb:=L9 p (min 48 (N-a)) a k (by omega);have e1:Af (a:Int) (k:Int)=((a+k:Nat):Int):=by rw[Aj];omega
  rw[Ln,Vi,e1,Aae (by simp[Ae];omega),rS p _ (a+k) (by omega) (by omega),Aa,hb,Aae (by decide),Aj];exact B7 ⟨hN,hl,hz⟩ a ha j (k+1) q (by omega) (by omega)
theorem Aix{p:List UInt8}{N:Nat}(h:okB p N)(a:Nat)(ha:a<N):OQ p (N:Int) (a:Int)=some (unR p N a):=by
 have hle:=ZC p (min 48 (N-a)) a;have:=B7 h a ha (Im p a (min 48 (N-a))) 0 Ba (by omega) (by have:=Ax;omega);exact this
theorem Aja{p:List UInt8}{N a:Nat}(h:Im p a (min 48 (N-a))<min 48 (N-a)):jl p N a=(((Im p a (min 48 (N-a)):Nat):Int),((a+Im p a (min 48 (N-a))+1:Nat):Int),0):=by rw[jl,Aae h]
theorem Akl{p:List UInt8}{N a:Nat}(h:¬Im p a (min 48 (N-a))<min 48 (N-a))(h2:Im p a (min 48 (N-a))=48):jl p N a=(48,((a+48:Nat):Int),0):=by rw[jl,Aaa h,Aae h2]
theorem Aii{p:List UInt8}{N a:Nat}(h:¬Im p a (min 48 (N-a))<min 48 (N-a))(h2:¬Im p a (min 48 (N-a))=48):jl p N a=(0,0,24):=by rw[jl,Aaa h,Aaa h2]
theorem Afo{p:List UInt8}{N:Nat}(h:okB p N)(a:Nat)(ha:N<=a):PF p (N:Int) (a:Int)=some (0,0,24):=by
 rw[PF,GP,UZ h,Aa,Aaa (by rw[Ah];simp),Aaa (by rw[Ae];simp),Aae (by rw[Ej];simp;omega)]
def YU(p:List UInt8)(N a k:Nat):UInt32×Int×Int:=
 if N<=a then(0,0,24)else
 if Im p a (min 48 (N-a))<min 48 (N-a)then
  (if N<a+Im p a (min 48 (N-a))+1+k then(0,0,24)else(UInt32.ofNat (Im p a (min 48 (N-a))*2^k+Dm p (a+Im p a (min 48 (N-a))+1) k),((a+Im p a (min 48 (N-a))+1+k:Nat):Int),0))
 else if Im p a (min 48 (N-a))=48 then
  (if N<a+48+32 then(0,0,24)else if Dm p (a+48) 32/2^k<48 then(0,0,12)else(UInt32.ofNat (Dm p (a+48) 32),((a+48+32:Nat):Int),0))
 else(0,0,24)
theorem pX{p:List UInt8}{a n:Nat}(h:n<=32):(Ad (BY p a n):UInt32)=UInt32.ofNat (Dm p a n):=by
 have e:(Ad (BY p a n):UInt32)=UInt32.ofNat (BY p a n).toNat:=by simp only[Ad,Mg,Gc]
 rw[e,MO p a n (by omega)]
theorem dM{n:Nat}(h:n<4294967296):(UInt32.ofNat n).toNat=n:=by rw[Al8];exact Aah h
theorem qj(p:List UInt8)(a:Nat){n:Nat}(h:n<=32):Dm p a n<4294967296:=by
 have h1:=Xp p n a;have h2:2^n<=2^32:=Ae0 (by omega) h;omega
theorem Asb{q v k:Nat}(hq:q<48)(hv:v<2^k)(hk:k<=24):uN (Fe (Ad (q:Int):UInt32) k) (UInt32.ofNat v)=UInt32.ofNat (q*2^k+v):=by
 have hp:2^k<=2^24:=Ae0 (by omega) hk;have h1:q*2^k<=47*2^24:=Aul (by omega) hp;rw[Ans];apply UInt32.toNat_inj.1;rw[UInt32.toNat_or,wM,O7,dM (by omega),dM (n:=v) (by omega),Aah (by omega),Aql q,<-Atc hv,dM (by rw[Aql];omega)]
theorem Ano{p:List UInt8}{N:Nat}(h:okB p N)(a k:Nat)(hk:k<=24):lX p (N:Int) (a:Int) (k:Int)=some (YU p N a k):=by
 have hN:=h.1;rw[lX,eO,UZ h,Aa,Aaa (by rw[Ah];simp),Aaa (by simp[Ae,Ap];omega)];by_cases ha:N<=a
 ·rw[Afo h a ha,Aa,YU,Aae ha];rfl
 have hle:=ZC p (min 48 (N-a)) a;rw[Akj h a (by omega),Aa];by_cases h1:Im p a (min 48 (N-a))<min 48 (N-a)
 ·have hS:YU p N a k=if N<a+Im p a (min 48 (N-a))+1+k then(0,0,24)else(UInt32.ofNat (Im p a (min 48 (N-a))*2^k+Dm p (a+Im p a (min 48 (N-a))+1) k),((a+Im p a (min 48 (N-a))+1+k:Nat):Int),0):=by rw[YU,Aaa ha,Aae h1]
  rw[Aja h1,hS];generalize Im p a (min 48 (N-a))=q at*
  simp only;rw[Aaa (by rw[Ah];simp),Aaa (by rw[Aq];simp;omega),UR,eB,tJ h _ k (by omega),Aa];by_cases h2:N<a+q+1+k
  ·rw[Aae h2,Aae h2];rfl
  ·rw[Aaa h2,Aaa h2];simp only;have z:(GI.toZ (k:Int)).toNat=k:=rfl;rw[Aaa (by rw[Ah];simp),Aae (by rw[Ae];simp;omega),Cb (by rw[Ej];simp),Aa,z,pX (by omega),Asb (by omega) (Xp _ _ _) hk,Aj];rfl
 ·by_cases h2:Im p a (min 48 (N-a))=48
  ·have hS:YU p N a k=if N<a+48+32 then(0,0,24)else if Dm p (a+48) 32/2^k<48 then(0,0,12)else(UInt32.ofNat (Dm p (a+48) 32),((a+48+32:Nat):Int),0):=by rw[YU,Aaa ha,Aaa h1,Aae h2]
   have hg:=tJ h (a+48) 32 (by omega);rw[Akl h1 h2,hS];simp only;rw[Aaa (by rw[Ah];simp),Aae (by rw[Aq];rfl),UR,eB];refine Awq (congrArg (λo=>Option.bind o _) hg) ?_;rw[Aa];by_cases h3:N<a+48+32
   ·rw[Aae h3,Aae h3];rfl
   ·rw[Aaa h3,Aaa h3];simp only;have z:(GI.toZ (k:Int)).toNat=k:=rfl;have hv:=qj p (a+48) (n:=32) (by omega);rw[Aaa (by rw[Ah];simp),Aaa (by rw[Ae];simp),fI,Cb (by rw[Ej];simp),Aa,Aa,z,pX (by omega),Ana];have e:(decide ((48:UInt32).toNat<= (Ea (UInt32.ofNat (Dm p (a+48) 32)) k).toNat))=decide (¬Dm p (a+48) 32/2^k<48):=by
     rw[bK,dM hv];simp
    rw[e];by_cases h4:Dm p (a+48) 32/2^k<48
    ·rw[Aae (by simp[h4]),Aae h4]
    ·rw[Aaa (by simp;omega),Aaa h4,Aj];rfl
  ·rw[Aii h1 h2,YU,Aaa ha,Aaa h1,Aaa h2];rfl
theorem zI(k:Nat)(hk:k<=63):∀(j i q:Nat),i+j=k->j<q->Io (k:Int) q (UInt64.ofNat (2^i)) (i:Int)=some (UInt64.ofNat (2^k))
 |0,i,q+1,hi,_=>by
  rw[Io,Ro,Aaa (by rw[Ae];simp;omega),show i=k by omega];rfl
 |j+1,i,q+1,hi,hq=>by
  have e:Bm (UInt64.ofNat (2^i)) (2:UInt64)=UInt64.ofNat (2^(i+1)):=by
   rw[RI,As2,UInt64.ofNat_mul];rfl
  rw[Io,Ro,Aae (by rw[Ae];simp;omega),Aj,e];exact zI k hk j (i+1) q (by omega) (by omega)
theorem RK(k:Nat)(hk:k<=63):Ft (k:Int)=some (UInt64.ofNat (2^k)):=
 zI k hk k 0 Ba (by omega) (by have:=Ax;omega)
theorem YY{k:Nat}(hk:k<=63):(UInt64.ofNat (2^k)).toNat=2^k:=by
 have hp:2^k<=2^63:=Ae0 (by omega) hk;rw[Ad3,Aah (by omega)]
theorem Am5(v:UInt32)(k:Nat)(hk:k<=24):AS v (k:Int)=some ((min 48 (v.toNat/2^k):Nat):Int):=by
 have hpos:0<2^k:=Aw4 (by omega);have hv:=v.toNat_lt;rw[AS,RK k (by omega),Aa,Cb (by rw[UH];simp only[Axu,ne_eq,<-Axi,YY (show k<=63 by omega)];simp),Aa];have e:(By (Ad v:UInt64) (UInt64.ofNat (2^k))).toNat=v.toNat/2^k:=by
  rw[qW,Ax2,Lz,YY (by omega),Ad3,Aah (by omega)]
 have hle:v.toNat/2^k<=v.toNat:=Ar4 _ _;have e2:Jr (48:UInt64) (By (Ad v:UInt64) (UInt64.ofNat (2^k)))=UInt64.ofNat (min 48 (v.toNat/2^k)):=by
  apply UInt64.toNat_inj.1;rw[Ad3,Aah (by omega)];show(if _ then _ else _:UInt64).toNat=_;rw[show(GI.toZ (By (Ad v:UInt64) (UInt64.ofNat (2^k))))=((v.toNat/2^k:Nat):Int) by rw[Mg,e],show GI.toZ (48:UInt64)=48 from rfl];split
  ·rw[e];omega
  ·show 48=_;omega
 rw[e2,tH (by rw[Ad3,Aah]<;>omega),Ad3,Aah (by omega)]
theorem Ait{p:List UInt8}{N:Nat}(h:okB p N)(a k:Nat)(hk:k<=24):EM p (N:Int) (a:Int) (k:Int)=some (YU p N a k):=by
 obtain⟨hN,hl,hz⟩:=h;have h:okB p N:=⟨hN,hl,hz⟩;rw[EM,FI];by_cases ha:N<=a
 ·rw[Aae (by rw[Ej];simp;omega),YU,Aae ha]
 have hle:=ZC p (min 48 (N-a)) a;rw[Aaa (by rw[Ej];simp;omega),Aix h a (by omega),Aa,unR];by_cases h1:Im p a (min 48 (N-a))<min 48 (N-a)
 ·have hS:YU p N a k=if N<a+Im p a (min 48 (N-a))+1+k then(0,0,24)else(UInt32.ofNat (Im p a (min 48 (N-a))*2^k+Dm p (a+Im p a (min 48 (N-a))+1) k),((a+Im p a (min 48 (N-a))+1+k:Nat):Int),0):=by rw[YU,Aaa ha,Aae h1]
  rw[Aja h1,hS];generalize Im p a (min 48 (N-a))=q at*
  rw[Aae rfl];simp only;rw[Aaa (by rw[Aq];simp;omega),Vk,FQ,Bw];by_cases h2:N<a+q+1+k
  ·rw[Aae (by simp[Ae];omega),Aae h2]
  ·have hp:2^k<=2^24:=Ae0 (by omega) hk;have hm:q*2^k<=47*2^24:=Aul (by omega) hp;have hv:=Xp p k (a+q+1);have e:(Ad (Af (Bm (Ad (q:Int):UInt64) (UInt64.ofNat (2^k))) (BY p (a+q+1) k)):UInt32)=UInt32.ofNat (q*2^k+Dm p (a+q+1) k):=by
    have e1:Af (Bm (Ad (q:Int):UInt64) (UInt64.ofNat (2^k))) (BY p (a+q+1) k)=UInt64.ofNat (q*2^k+Dm p (a+q+1) k):=by
     rw[RQ,RI,Qi,BY,UInt64.ofNat_add,UInt64.ofNat_mul]
    rw[e1];have e2:∀x:UInt64,(Ad x:UInt32)=UInt32.ofNat x.toNat:=λx=>by simp only[Ad,Mg,Gc]
    rw[e2,Ad3,Aah (by omega)]
   rw[Aaa (by simp[Ae];omega),Aaa h2,nO p _ _ k (by omega) (by omega),Aa,Aae (by rw[Ae];simp;omega),RK k (by omega),Aa,e,Aj];rfl
 ·by_cases h2:Im p a (min 48 (N-a))=48
  ·have hS:YU p N a k=if N<a+48+32 then(0,0,24)else if Dm p (a+48) 32/2^k<48 then(0,0,12)else(UInt32.ofNat (Dm p (a+48) 32),((a+48+32:Nat):Int),0):=by rw[YU,Aaa ha,Aaa h1,Aae h2]
   rw[Akl h1 h2,hS,Aae rfl];simp only;rw[Aae (by rw[Aq];rfl),Vk,FQ,Bw];by_cases h3:N<a+48+32
   ·rw[Aae (by simp[Ae];omega),Aae h3]
   ·have hg:=nO p (N:Int) (a+48) 32 (by omega) (by omega);have hv:=qj p (a+48) (n:=32) (by omega);rw[Aaa (by simp[Ae];omega),Aaa h3];refine Awq (congrArg (λo=>Option.bind o _) hg) ?_;rw[Aa,Aaa (by rw[Ae];simp),pX (by omega),Am5 _ k hk,Aa,dM hv];by_cases h4:Dm p (a+48) 32/2^k<48
    ·rw[Aae (by rw[Ae];simp;omega),Aae h4]
    ·rw[Aaa (by rw[Ae];simp;omega),Aaa h4,Aj];rfl
  ·rw[Aii h1 h2,YU,Aaa ha,Aaa h1,Aaa h2];have e:(if((0:Int),(0:Int),(24:Int)).2.2=0 then(((0:Int),(0:Int),(24:Int)).1,((0:Int),(0:Int),(24:Int)).2.1)else((-1:Int),(0:Int)))=(-1,0):=by decide
   rw[e];rfl
theorem Aq2{p:List UInt8}{N a k:Nat}{v:UInt32}{n:Int}(h:YU p N a k=(v,n,0)):(a:Int)<n/\n<=N:=by
 unfold YU at h;split at h
 ·simp at h
 split at h
 ·split at h
  ·simp at h
  ·simp only[Adm]at h;omega
 ·split at h
  ·split at h
   ·simp at h
   ·split at h
    ·simp at h
    ·simp only[Adm]at h;omega
  ·simp at h
def okD(k l:Nat)(s t:UInt64):Prop:=k<=24/\l<=24/\s.toNat<=68719476735/\t.toNat<=68719476735
theorem qo(a b:UInt64)(h:a.toNat<=b.toNat):Jr a b=a:=by
 show(if _ then _ else _)=_;rw[Mg,Mg,Aaa (by omega)]
theorem pH(a:UInt64):geq a a=true:=by rw[vR];simp
theorem Aqs{k l:Nat}{s t:UInt64}(h:okD k l s t):fA (k:Int) (l:Int) s t=some 0:=by
 obtain⟨h1,h2,h3,h4⟩:=h;have e1:Jr (mM (k:Int) 0) 24=(k:Int):=by rw[SN,V4];omega
 have e2:Jr (mM (l:Int) 0) 24=(l:Int):=by rw[SN,V4];omega
 have e3:Jr s (68719476735:UInt64)=s:=qo _ _ (by simpa using h3);have e4:Jr t (68719476735:UInt64)=t:=qo _ _ (by simpa using h4);have e5:∀a:Int,geq a a=true:=λa=>by rw[Aq];simp
 rw[fA,QH,bA,QC,ZU,mT,e1,e2,e3,e4,e5,e5,pH,pH];rfl
def MT(s n:UInt64):UInt64:=s+n-s/16
def kS(k:Nat)(s:UInt64):Nat:=if 0<k/\s.toNat<2^(k+4)then k-1 else if k<24/\2^(k+5)<s.toNat then k+1 else k
theorem Ap9{k:Nat}(h:k<=24)(s:UInt64):kS k s<=24:=by
 unfold kS;by_cases h1:0<k/\s.toNat<2^(k+4)
 ·rw[Aae h1];omega
 ·rw[Aaa h1];split<;>omega
theorem Ada{k:Nat}{s:UInt64}(h:¬(0<k/\s.toNat<2^(k+4))):(if k<24/\2^(k+5)<s.toNat then((k+1:Nat):Int)else(k:Int))=((kS k s:Nat):Int):=by
 rw[kS,Aaa h];split<;>rfl
theorem Adc{s n:UInt64}(h:s.toNat<=68719476735)(hn:n.toNat<=4294967295):(MT s n).toNat<=68719476735:=by
 have h1:=s.toNat_lt;have e:(s+n).toNat=s.toNat+n.toNat:=by rw[UInt64.toNat_add];omega
 have e2:(s/16).toNat=s.toNat/16:=by rw[Ax2];rfl
 rw[MT,UInt64.toNat_sub_of_le _ _ (by rw[UInt64.le_iff_toNat_le,e,e2];omega),e,e2];omega
theorem wO(s n:UInt64):Af s (Au n (Ea s (GI.toZ (4:UInt64)).toNat))=MT s n:=by
 have e:Ea s (GI.toZ (4:UInt64)).toNat=s/16:=by
  apply UInt64.toNat_inj.1;rw[SC,Ax2];rfl
 rw[e,RQ,C8,MT,UInt64.sub_eq_add_neg,UInt64.sub_eq_add_neg,UInt64.add_assoc]
theorem Adl(s n:UInt64):Au (Af s n) (By s (16:UInt64))=MT s n:=by rw[RQ,C8,qW,MT]
theorem Atn{k:Nat}(h:k<=24):(Fe (16:UInt64) k).toNat=2^(k+4):=by
 have hp:2^k<=2^24:=Ae0 (by omega) h;rw[cW,Axy]
 show 16*2^k %_=2^k*16;rw[Aah (by omega),Aql]
theorem Asj{k:Nat}(h:k<=24):(Fe (32:UInt64) k).toNat=2^(k+5):=by
 have hp:2^k<=2^24:=Ae0 (by omega) h;rw[cW,Axy]
 show 32*2^k %_=2^k*32;rw[Aah (by omega),Aql]
theorem Ap1{k:Nat}{s:UInt64}(h:0<k)(h2:s.toNat<2^(k+4)):kS k s=k-1:=by rw[kS,Aae ⟨h,h2⟩]
theorem Aqf{k:Nat}{s:UInt64}(h:¬(0<k/\s.toNat<2^(k+4)))(h2:k<24)(h3:2^(k+5)<s.toNat):kS k s=k+1:=by rw[kS,Aaa h,Aae ⟨h2,h3⟩]
theorem Adj{k:Nat}{s:UInt64}(h:¬(0<k/\s.toNat<2^(k+4)))(h2:¬(k<24/\2^(k+5)<s.toNat)):kS k s=k:=by rw[kS,Aaa h,Aaa h2]
theorem Aqg{α:Type}(k:Nat)(hk:k<=24)(s:UInt64)(f:Int->Option α):
  (if(Fb (k:Int) (0:Int))=true then(
   Option.bind (Ue (Tp (k:Int) (0:Int))) λ_=>
   if(Dg s (Fe (16:UInt64) (GI.toZ (k:Int)).toNat))=true then f (Au (k:Int) (1:Int))
   else(if(Dg (k:Int) (24:Int))=true then(
    Option.bind (Ue (Tp (k:Int) (0:Int))) λ_=>
    if(Fb s (Fe (32:UInt64) (GI.toZ (k:Int)).toNat))=true then f (Af (k:Int) (1:Int))else f (k:Int))
    else f (k:Int)))
  else(if(Dg (k:Int) (24:Int))=true then(
    Option.bind (Ue (Tp (k:Int) (0:Int))) λ_=>
    if(Fb s (Fe (32:UInt64) (GI.toZ (k:Int)).toNat))=true then f (Af (k:Int) (1:Int))else f (k:Int))
    else f (k:Int)))=f ((kS k s:Nat):Int):=by
 have z:(GI.toZ (k:Int)).toNat=k:=rfl;rw[z,Cb (by rw[Ej];simp)];simp only[Aa];rw[vZ,ZF,Atn hk,Asj hk];by_cases h0:0<k
 ·rw[Aae (by rw[Ap];simp;omega)];by_cases h1:s.toNat<2^(k+4)
  ·rw[Aae (by simp[h1]),Ap1 h0 h1,Bw];congr 1;omega
  ·rw[Aaa (by simp;omega)];by_cases h2:k<24
   ·rw[Aae (by rw[Ae];simp;omega)];by_cases h3:2^(k+5)<s.toNat
    ·rw[Aae (by simp[h3]),Aqf (λh=>h1 h.2) h2 h3,Aj];rfl
    ·rw[Aaa (by simp;omega),Adj (λh=>h1 h.2) (λh=>h3 h.2)]
   ·rw[Aaa (by rw[Ae];simp;omega),Adj (λh=>h1 h.2) (λh=>h2 h.1)]
 ·rw[Aaa (by rw[Ap];simp;omega)];by_cases h2:k<24
  ·rw[Aae (by rw[Ae];simp;omega)];by_cases h3:2^(k+5)<s.toNat
   ·rw[Aae (by simp[h3]),Aqf (λh=>h0 h.1) h2 h3,Aj];rfl
   ·rw[Aaa (by simp;omega),Adj (λh=>h0 h.1) (λh=>h3 h.2)]
  ·rw[Aaa (by rw[Ae];simp;omega),Adj (λh=>h0 h.1) (λh=>h2 h.1)]
theorem Aei(k:Nat)(hk:k<=24)(s n:UInt64):Kw (k:Int) s n=some (((kS k (MT s n):Nat):Int),MT s n):=by
 have g1:Af (k:Int) 4=((k+4:Nat):Int):=by rw[Aj];omega
 have g2:Af (k:Int) 5=((k+5:Nat):Int):=by rw[Aj];omega
 have hp:Sy (k:Int) s n=some (if k<24/\2^(k+5)<(MT s n).toNat then((k+1:Nat):Int)else(k:Int),MT s n):=by
  rw[Sy,SB,g2,RK _ (by omega),Aa,Adl,ZF,YY (by omega)];by_cases h2:k<24
  ·rw[Aae (by rw[Ae];simp;omega)];by_cases h3:2^(k+5)<(MT s n).toNat
   ·rw[Aae (by simp[h3]),Aae ⟨h2,h3⟩,Aj];rfl
   ·rw[Aaa (by simp;omega),Aaa (λh=>h3 h.2)]
  ·rw[Aaa (by rw[Ae];simp;omega),Aaa (λh=>h2 h.1)]
 rw[Kw,CZ,g1,RK _ (by omega),Aa,Adl,vZ,YY (by omega),hp];by_cases h0:0<k
 ·rw[Aae (by rw[Ap];simp;omega)];by_cases h1:(MT s n).toNat<2^(k+4)
  ·rw[Aae (by simp[h1]),Ap1 h0 h1,Bw];congr 2;omega
  ·rw[Aaa (by simp;omega),Ada (λh=>h1 h.2)]
 ·rw[Aaa (by rw[Ap];simp;omega),Ada (λh=>h0 h.1)]
def Y5(v:UInt32):UInt64:=UInt64.ofNat v.toNat
theorem Ai2(v:UInt32):(Y5 v).toNat<=4294967295:=by have:=v.toNat_lt;rw[Y5,Ad3,Aah (by omega)];omega
def uK(k:Nat)(v:UInt32):UInt32:=UInt32.ofNat (v.toNat-2^k)
def lK(l:Nat)(t:UInt64)(k:Nat)(v:UInt32):Nat:=if v.toNat<2^k then l else kS l (MT t (Y5 (uK k v)))
def lT(t:UInt64)(k:Nat)(v:UInt32):UInt64:=if v.toNat<2^k then t else MT t (Y5 (uK k v))
theorem Ah5{k l:Nat}{s t:UInt64}(h:okD k l s t)(v:UInt32):okD (kS k (MT s (Y5 v))) (lK l t k v) (MT s (Y5 v)) (lT t k v):=by
 obtain⟨h1,h2,h3,h4⟩:=h;refine⟨Ap9 h1 _,?_,Adc h3 (Ai2 v),?_⟩
 ·unfold lK;split; · exact h2
  exact Ap9 h2 _
 ·unfold lT;split; · exact h4
  exact Adc h4 (Ai2 _)
theorem Arm(k l:Nat)(s t:UInt64)(hk:k<=24)(v:UInt32):Wk (k:Int) (l:Int) s t v=some (decide (v.toNat<2^k)):=by
 have:=v.toNat_lt;rw[Wk,RK k (by omega),Aa,vZ,YY (by omega),Lz,Ad3,Aah (by omega)]
theorem left_eq(k l:Nat)(s t:UInt64)(hk:k<=24)(v:UInt32)(h:¬v.toNat<2^k):Od (k:Int) (l:Int) s t v=some (uK k v):=by
 have:=v.toNat_lt;have e2:∀x:UInt64,(Ad x:UInt32)=UInt32.ofNat x.toNat:=λx=>by simp only[Ad,Mg,Gc]
 have e3:(UInt64.ofNat v.toNat).toNat=v.toNat:=by rw[Ad3,Aah (by omega)]
 rw[Od,RK k (by omega),Aa,e2,C8,Lz,UInt64.toNat_sub_of_le _ _ (by rw[UInt64.le_iff_toNat_le,YY (by omega),e3];omega),YY (by omega),e3,uK]
theorem Agz{k l:Nat}{s t:UInt64}(h:okD k l s t)(v:UInt32):Uz (k:Int) (l:Int) s t v=some (((kS k (MT s (Y5 v)):Nat):Int),((lK l t k v:Nat):Int),MT s (Y5 v),lT t k v):=by
 obtain⟨h1,h2,h3,h4⟩:=h;have hp:∀(r1:Int) (r2:UInt64),Pq v (k:Int) (l:Int) s t r1 r2=some (((kS k (MT s (Y5 v)):Nat):Int),r1,MT s (Y5 v),r2):=by
  intro r1 r2;rw[Pq,LY,Lz,Aei k h1,Aa];rfl
 rw[Uz,Pp,Arm k l s t h1,Aa];by_cases hv:v.toNat<2^k
 ·rw[Aaa (by simp[hv]),hp,lK,Aae hv,lT,Aae hv]
 ·rw[Aae (by simp;omega),left_eq k l s t h1 v hv,Aa,Lz,Aei l h2,Aa];simp only;rw[hp,lK,Aaa hv,lT,Aaa hv];rfl
theorem Ai6(k l:Nat)(s t:UInt64)(hk:k<=24)(v:UInt32):eL (k:Int) (l:Int) s t v=some (if v.toNat<2^k then(0,v)else(1,uK k v)):=by
 have hp:2^k<=2^24:=Ae0 (by omega) hk;have hpos:0<2^k:=Aw4 (by omega);have hl:=v.toNat_lt;have z:(GI.toZ (k:Int)).toNat=k:=rfl;have e1:geq (Ea v k) (0:UInt32)=decide (v.toNat<2^k):=by
  rw[S0,Ahq];simp only[Asc,<-UInt32.toNat_inj,bK,Aaf]
  show _/_=0↔_;rw[Nat.div_eq_zero_iff];omega
 have e2:¬v.toNat<2^k->Au v (Fe (1:UInt32) k)=uK k v:=by
  intro h;have e3:(Fe (1:UInt32) k).toNat=2^k:=by rw[wM];show 1*2^k %_=_;rw[Aah (by omega),Aye]
  apply UInt32.toNat_inj.1;rw[jo,UInt32.toNat_sub_of_le _ _ (by rw[UInt32.le_iff_toNat_le,e3];omega),e3,uK,dM (by omega)]
 rw[eL,Cb (by rw[Ej];simp),Aa,Aa,z,e1];by_cases h:v.toNat<2^k
 ·rw[Aae (by simp[h]),Aae h]
 ·rw[Aaa (by simp;omega),Aaa h,e2 h]
abbrev Rd:=UInt32×Int×Int×Int×UInt64×UInt64×Int
theorem xE{k l:Nat}{s t:UInt64}(h:okD k l s t)(v:UInt32)(r:Int):UI (k:Int) (l:Int) s t v r=some (v,r,((kS k (MT s (Y5 v)):Nat):Int),((lK l t k v:Nat):Int),MT s (Y5 v),lT t k v,0):=by
 obtain⟨h1,h2,h3,h4⟩:=h;have hp:∀(x:Int) (y:UInt64),MK v r (k:Int) s x y=some (v,r,((kS k (MT s (Y5 v)):Nat):Int),x,MT s (Y5 v),y,0):=by
  intro x y;rw[MK,fL,Lz,wO,Aqg k h1];rw[dB,fE,aG,mS,Lz,wO];rfl
 rw[UI,dK,Ai6 k l s t h1,Aa];by_cases hv:v.toNat<2^k
 ·rw[Aae hv];simp only;rw[Aaa (by rw[Aq];simp),hp,lK,Aae hv,lT,Aae hv]
 ·rw[Aaa hv];simp only;rw[Aae (by rw[Aq];rfl),Lz,wO,Aqg l h2 _ (λx=>MK v r (k:Int) s x (MT t (UInt64.ofNat (uK k v).toNat))),hp,lK,Aaa hv,lT,Aaa hv];rfl
def dL(p:List UInt8)(N a k l:Nat):UInt32×Int×Int:=
 if N<=a then(0,0,24)else
 if Mz p a=0 then(if N<a+1+k then(0,0,24)else(UInt32.ofNat (Dm p (a+1) k),((a+1+k:Nat):Int),0))else
 if(YU p N (a+1) l).2.2≠0 then(0,0,(YU p N (a+1) l).2.2)else
 if 4294967295<(YU p N (a+1) l).1.toNat+2^k then(0,0,12)else(UInt32.ofNat ((YU p N (a+1) l).1.toNat+2^k),(YU p N (a+1) l).2.1,0)
theorem Ary{p:List UInt8}{N a k l:Nat}(h:(dL p N a k l).2.2=0):(a:Int)<(dL p N a k l).2.1/\ (dL p N a k l).2.1<=N:=by
 revert h
 unfold dL;split
 ·simp
 split
 ·split
  ·simp
  ·simp only;omega
 ·split
  ·intro h;contradiction
  ·rename_i h1;split
   ·simp
   ·intro _;have:=Aq2 (p:=p) (N:=N) (a:=a+1) (k:=l) (v:=(YU p N (a+1) l).1) (n:=(YU p N (a+1) l).2.1) (by
     have e:(YU p N (a+1) l).2.2=0:=by simpa using h1
     rw[<-e])
    simp only;omega
theorem Anl{p:List UInt8}{N:Nat}(h:okB p N)(a:Nat){k l:Nat}{s t:UInt64}(hd:okD k l s t):OX p (N:Int) (a:Int) (k:Int) (l:Int) s t=
  some (if(dL p N a k l).2.2≠0 then(0,0,0,0,0,0,(dL p N a k l).2.2)else((dL p N a k l).1,(dL p N a k l).2.1,((kS k (MT s (Y5 (dL p N a k l).1)):Nat):Int),((lK l t k (dL p N a k l).1:Nat):Int),MT s (Y5 (dL p N a k l).1),lT t k (dL p N a k l).1,0)):=by
 obtain⟨h1,h2,h3,h4⟩:=hd;have hd:okD k l s t:=⟨h1,h2,h3,h4⟩;have hN:=h.1;have hg:=tJ h a 1 (by omega);have hb:=GL p a;rw[OX,fP,UZ h,Aa,Aaa (by rw[Ah];simp),Aqs hd,Aa,Aaa (by rw[Ah];simp),fN,dP];refine Awq (congrArg (λo=>Option.bind o _) hg) ?_;rw[Aa];by_cases ha:N<=a
 ·have hS:dL p N a k l=(0,0,24):=by rw[dL,Aae ha]
  rw[Aae (by omega),hS];rfl
 rw[Aaa (by omega)];simp only;have e0:geq (BY p a 1) (0:UInt64)=decide (Mz p a=0):=by
  rw[vR,Ahq];simp only[Asc,<-Axi,Aaf,MO p a 1 (by omega),pq];rfl
 have e1:Af (a:Int) 1=((a+1:Nat):Int):=by rw[Aj];omega
 rw[Aaa (by rw[Ah];simp),e0,e1];by_cases hz:Mz p a=0
 ·rw[Aae (by simp[hz]),tJ h (a+1) k (by omega),Aa];by_cases h5:N<a+1+k
  ·have hS:dL p N a k l=(0,0,24):=by rw[dL,Aaa ha,Aae hz,Aae h5]
   rw[Aae h5,hS];rfl
  ·have hS:dL p N a k l=(UInt32.ofNat (Dm p (a+1) k),((a+1+k:Nat):Int),0):=by rw[dL,Aaa ha,Aae hz,Aaa h5]
   rw[Aaa h5,hS];simp only;rw[Aaa (by rw[Ah];simp),xE hd,pX (by omega),Aj];rfl
 ·rw[Aaa (by simp[hz]),Ano h (a+1) l h2,Aa];have hp:2^k<=2^24:=Ae0 (by omega) h1;by_cases h5:(YU p N (a+1) l).2.2≠0
  ·have hS:dL p N a k l=(0,0,(YU p N (a+1) l).2.2):=by rw[dL,Aaa ha,Aaa hz,Aae h5]
   rw[hS];generalize YU p N (a+1) l=R at*
   obtain⟨v,n,e⟩:=R;simp only at*
   rw[Aae (by rw[Ah];simpa using h5),Aae h5]
  ·have hv:=(YU p N (a+1) l).1.toNat_lt;have z:(GI.toZ (k:Int)).toNat=k:=rfl;have e3:(Fe (1:UInt32) k).toNat=2^k:=by rw[wM];show 1*2^k %_=_;rw[Aah (by omega),Aye]
   by_cases h6:4294967295<(YU p N (a+1) l).1.toNat+2^k
   ·have hS:dL p N a k l=(0,0,12):=by rw[dL,Aaa ha,Aaa hz,Aaa h5,Aae h6]
    rw[hS];generalize YU p N (a+1) l=R at*
    obtain⟨v,n,e⟩:=R;simp only at*
    rw[Aaa (by rw[Ah];simpa using h5),Cb (by rw[Ej];simp),Aa,z,Aae (by rw[Ade,wK,UInt32.toNat_add,e3];simp;omega),Aae (by decide)]
   ·have hS:dL p N a k l=(UInt32.ofNat ((YU p N (a+1) l).1.toNat+2^k),(YU p N (a+1) l).2.1,0):=by rw[dL,Aaa ha,Aaa hz,Aaa h5,Aaa h6]
    rw[hS];generalize YU p N (a+1) l=R at*
    obtain⟨v,n,e⟩:=R;simp only at*
    have e4:Af v (Fe (1:UInt32) k)=UInt32.ofNat (v.toNat+2^k):=by
     apply UInt32.toNat_inj.1;rw[wK,UInt32.toNat_add,e3,dM (by omega),Aah (by omega)]
    rw[Aaa (by rw[Ah];simpa using h5),Cb (by rw[Ej];simp),Aa,z,Aaa (by rw[Ade,wK,UInt32.toNat_add,e3];simp;omega),e4,xE hd];rfl
theorem Akx{p:List UInt8}{N:Nat}(h:okB p N)(a:Nat)(k l:Nat)(s t:UInt64)(h1:k<=24)(h2:l<=24):EK p (N:Int) (a:Int) (k:Int) (l:Int) s t=some (dL p N a k l):=by
 have hN:=h.1;have hl:=h.2.1;have hb:=GL p a;rw[EK];by_cases ha:N<=a
 ·rw[Aae (by rw[Ej];simp;omega),dL,Aae ha]
 rw[Aaa (by rw[Ej];simp;omega),rS p _ a (by omega) (by omega),Aa,Bw (a:=(N:Int)) (b:=(a:Int)) (by omega) (by omega),Bw];have e1:Af (a:Int) 1=((a+1:Nat):Int):=by rw[Aj];omega
 rw[e1];by_cases hz:Mz p a=0
 ·rw[Aae (by rw[Aq];simp[hz])];by_cases h5:N<a+1+k
  ·rw[Aae (by rw[Ae];simp;omega),dL,Aaa ha,Aae hz,Aae h5]
  ·rw[Aaa (by rw[Ae];simp;omega),nO p _ (a+1) k (by omega) (by omega),Aa,dL,Aaa ha,Aae hz,Aaa h5,pX (by omega),Aj];rfl
 ·rw[Aaa (by rw[Aq];simp;omega),Ait h (a+1) l h2,Aa];have hp:2^k<=2^24:=Ae0 (by omega) h1;have hv:=(YU p N (a+1) l).1.toNat_lt;have e2:∀x:UInt64,(Ad x:UInt32)=UInt32.ofNat x.toNat:=λx=>by simp only[Ad,Mg,Gc]
  by_cases h5:(YU p N (a+1) l).2.2≠0
  ·have hS:dL p N a k l=(0,0,(YU p N (a+1) l).2.2):=by rw[dL,Aaa ha,Aaa hz,Aae h5]
   rw[hS];generalize YU p N (a+1) l=R at*
   obtain⟨v,n,e⟩:=R;simp only at*
   rw[Aae (by rw[Ah];simpa using h5)]
  ·have hsum:∀v:UInt32,(Af (Ad v:UInt64) (UInt64.ofNat (2^k))).toNat=v.toNat+2^k:=by
    intro v;have:=v.toNat_lt;have:=Aw4 (n:=k) (show 0<2 by omega);rw[RQ,UInt64.toNat_add,Lz,YY (by omega),Ad3];omega
   by_cases h6:4294967295<(YU p N (a+1) l).1.toNat+2^k
   ·have hS:dL p N a k l=(0,0,12):=by rw[dL,Aaa ha,Aaa hz,Aaa h5,Aae h6]
    rw[hS];generalize YU p N (a+1) l=R at*
    obtain⟨v,n,e⟩:=R;simp only at*
    rw[Aaa (by rw[Ah];simpa using h5),RK k (by omega),Aa,Aae (by rw[ZF,hsum];simpa using h6)]
   ·have hS:dL p N a k l=(UInt32.ofNat ((YU p N (a+1) l).1.toNat+2^k),(YU p N (a+1) l).2.1,0):=by rw[dL,Aaa ha,Aaa hz,Aaa h5,Aaa h6]
    rw[hS];generalize YU p N (a+1) l=R at*
    obtain⟨v,n,e⟩:=R;simp only at*
    rw[Aaa (by rw[Ah];simpa using h5),RK k (by omega),Aa,Aaa (by rw[ZF,hsum];simpa using h6),e2,hsum]
abbrev DuN:=Nat×Nat×UInt64×UInt64
def okN(d:DuN):Prop:=okD d.1 d.2.1 d.2.2.1 d.2.2.2
def nxt(d:DuN)(v:UInt32):DuN:=(kS d.1 (MT d.2.2.1 (Y5 v)),lK d.2.1 d.2.2.2 d.1 v,MT d.2.2.1 (Y5 v),lT d.2.2.2 d.1 v)
def V9:DuN:=(10,10,16384,16384)
theorem Ajc:okN V9:=⟨by decide,by decide,by decide,by decide⟩
theorem Ar2{d:DuN}(h:okN d)(v:UInt32):okN (nxt d v):=Ah5 h v
abbrev DuL:=Int×Int×UInt64×UInt64×Unit
def toI(d:DuN):DuL:=((d.1:Int),(d.2.1:Int),d.2.2.1,d.2.2.2,())
def jR(ch:Nat)(v:List UInt32)(c:Nat):Nat->DuN
 |0=>V9
 |m+1=>if m %ch=c then nxt (jR ch v c m) (v.getD m 0)else jR ch v c m
theorem sJ(ch:Nat)(v:List UInt32)(c:Nat):∀m,okN (jR ch v c m)
 |0=>Ajc
 |m+1=>by rw[jR];split;exact Ar2 (sJ ch v c m) _;exact sJ ch v c m
theorem Aem(ch:Nat)(v w:List UInt32)(c:Nat):∀m,m<=v.length->jR ch (v++w) c m=jR ch v c m
 |0,_=>rfl
 |m+1,h=>by
  have e:(v++w).getD m 0=v.getD m 0:=by simp[List.getD_eq_getElem?_getD,List.getElem?_append_left (show m<v.length by omega)]
  rw[jR,jR,Aem ch v w c m (by omega),e]
theorem R7(ch:Nat)(v:List UInt32)(c:Nat):∀m,m<=c->c<ch->jR ch v c m=V9
 |0,_,_=>rfl
 |m+1,h,h2=>by rw[jR,Aaa (by rw[Aah (by omega)];omega),R7 ch v c m (by omega) h2]
theorem wm(ch:Nat)(v:List UInt32)(c i:Nat)(hi:i %ch=c)(hc:c<ch):∀j,j<ch->jR ch v c (i+1+j)=jR ch v c (i+1)
 |0,_=>rfl
 |j+1,h=>by
  have hne:(i+1+j) %ch≠c:=by
   intro e;have h1:(i+(1+j)) %ch=i %ch:=by rw[hi,<-e];congr 1;omega
   have h2:(1+j) %ch=0:=by
    have h3:=Nat.sub_mod_eq_zero_of_mod_eq h1;rwa [Axk]at h3
   rw[Aah (by omega)]at h2;omega
  rw[show i+1+(j+1)=(i+1+j)+1 by omega,jR,Aaa hne,wm ch v c i hi hc j (by omega)]
theorem Ajv(ch:Nat)(v:List UInt32)(c i:Nat)(hi:i %ch=c)(hc:c<ch):jR ch v c (i+ch)=nxt (jR ch v c i) (v.getD i 0):=by
 have h:=wm ch v c i hi hc (ch-1) (by omega);rw[show i+1+(ch-1)=i+ch by omega]at h;rw[h,jR,Aae hi]
theorem C9{l:List UInt32}{k:Nat}(h:k<l.length):Ao l (k:Int)=some (l.getD k 0):=by
 rw[Ce h];simp[List.getD_eq_getElem?_getD,h]
theorem dC(a b:Nat):Ko (a:Int) (b:Int)=((a %b:Nat):Int):=by rw[Ko,Awb (by omega)];omega
theorem uW(ch:Nat)(v:List UInt32)(hch:1<=ch)(As1:ch<=6)(hv:v.length<=4000):∀(j i q:Nat),i %ch=v.length %ch->i<=v.length->v.length-i<=j->j<q->
  Lf (ch:Int) v q (i:Int) ((jR ch v (v.length %ch) i).1:Int) ((jR ch v (v.length %ch) i).2.1:Int) (jR ch v (v.length %ch) i).2.2.1 (jR ch v (v.length %ch) i).2.2.2=
   some (((jR ch v (v.length %ch) v.length).1:Int),((jR ch v (v.length %ch) v.length).2.1:Int),(jR ch v (v.length %ch) v.length).2.2.1,(jR ch v (v.length %ch) v.length).2.2.2)
 |j,i,q+1,hi,hl,hj,hq=>by
  have hc:v.length %ch<ch:=Aw3 _ (by omega);rw[Lf,Yc];by_cases h:i<v.length
  ·have h1:=Agz (sJ ch v (v.length %ch) i) (v.getD i 0);rw[Aae (by rw[Ae,Ac];simp;omega),C9 h,Aa,h1,Aa];have hle:i+ch<=v.length:=by
    have h2:=Axv i ch;have h3:=Axv v.length ch;rw[hi]at h2;have h4:ch*(i/ch)<ch*(v.length/ch):=by omega
    have h5:=Nat.lt_of_mul_lt_mul_left h4;have h6:ch*(i/ch+1)<=ch*(v.length/ch):=Nat.mul_le_mul_left _ h5;rw[Nat.mul_add]at h6;omega
   have ih:=uW ch v hch As1 hv (j-ch) (i+ch) q (by rw[Ax7];exact hi) hle (by omega) (by omega);rw[Ajv ch v _ i hi hc]at ih;simp only;rw[Aj];exact ih
  ·rw[Aaa (by rw[Ae,Ac];simp;omega),show i=v.length by omega];rfl
theorem Af6(ch:Nat)(v:List UInt32)(hch:1<=ch)(As1:ch<=6)(hv:v.length<=4000):Pa (ch:Int) v=some (((jR ch v (v.length %ch) v.length).1:Int),((jR ch v (v.length %ch) v.length).2.1:Int),(jR ch v (v.length %ch) v.length).2.2.1,(jR ch v (v.length %ch) v.length).2.2.2):=by
 have hc:v.length %ch<ch:=Aw3 _ (by omega);have hle:v.length %ch<=v.length:=Nat.mod_le _ _;have h:=uW ch v hch As1 hv v.length (v.length %ch) Ba (by rw[Nat.mod_mod]) hle (by omega) (by have:=Ax;omega);rw[R7 ch v _ _ (Alw _) hc]at h;rw[Pa,Xm,Ms,Aa];simp only;rw[Cb (by rw[Ah];simp;omega),Aa,Ac,dC];exact h
def now(ch:Nat)(v:List UInt32):DuN:=jR ch v (v.length %ch) v.length
def wR(N a:Nat):Nat:=min 81 (N-a)
def Po(ch:Nat)(p:List UInt8)(N a:Nat)(out:List UInt32):UInt32×Int×Int:=dL (OI p a (wR N a)) (wR N a) 0 (now ch out).1 (now ch out).2.1
def FC(ch:Nat)(p:List UInt8)(N:Nat):Nat->Nat->List UInt32->List UInt32×Nat×Int
 |0,a,out=>(out,a,0)
 |j+1,a,out=>if(Po ch p N a out).2.2≠0 then(out,a,(Po ch p N a out).2.2)else FC ch p N j (a+(Po ch p N a out).2.1.toNat) (out++[(Po ch p N a out).1])
theorem lU{ch:Nat}{p:List UInt8}{N a:Nat}{out:List UInt32}(h:(Po ch p N a out).2.2=0):0<(Po ch p N a out).2.1/\ (Po ch p N a out).2.1<=wR N a:=by
 have:=Ary h;exact⟨this.1,this.2⟩
theorem O8{ch:Nat}{p:List UInt8}{N a:Nat}{out:List UInt32}(h:(Po ch p N a out).2.2=0):((a:Int)+(Po ch p N a out).2.1)=((a+(Po ch p N a out).2.1.toNat:Nat):Int):=by
 have:=lU h;omega
def sts(ch:Nat)(v:List UInt32):List DuL:=(List.range 6).map λc=>toI (jR ch v c v.length)
theorem Adp{ch:Nat}{v:List UInt32}{c:Nat}(h:c<6):Ao (sts ch v) (c:Int)=some (toI (jR ch v c v.length)):=by
 rw[Ce (by simp[sts];exact h)];simp[sts]
theorem Ao5{ch:Nat}{v:List UInt32}{c:Nat}(x:UInt32)(h:c<6)(hc:c=v.length %ch):Ux (sts ch v) (c:Int) (toI (nxt (jR ch v c v.length) x))=some (sts ch (v++[x])):=by
 rw[FT _ (by simp[sts];exact h)];congr 1;apply Avl (by simp[sts]);intro i h1 h2;rw[Ax3];simp only[sts,Axj,Axg];have e:(v++[x]).getD v.length 0=x:=by simp
 rw[Aai,List.length_singleton,jR,e,Aem ch v [x] i v.length (Alw _)];by_cases hi:c=i
 ·subst hi;rw[Aae rfl,Aae hc.symm]
 ·rw[Aaa hi,Aaa (by omega)]
section
variable {p:List UInt8} {N ch n:Nat}
theorem Z3(hp:okB p N)(h1:1<=ch)(h6:ch<=6)(hn:n*ch<=4000):∀(j a q:Nat) (out:List UInt32),out.length+j=n*ch->j<q->a<=N->
  Qk (ch:Int) (n:Int) p (N:Int) q (a:Int) (out.length:Int) (sts ch out) out=
   some (if(FC ch p N j a out).2.2≠0 then([],0,(FC ch p N j a out).2.2)else((FC ch p N j a out).1,((FC ch p N j a out).2.1:Int),0))
 |j,a,q+1,out,hj,hq,ha=>by
  have hN:=hp.1;have hnn:n<=n*ch:=Axl n (by omega);have em:Bm (n:Int) (ch:Int)=((n*ch:Nat):Int):=by rw[Hi (by rw[<-Ath];omega) (by rw[<-Ath];omega),Ath]
  rw[Qk,Yh,em];cases j with
  |zero=>
   rw[Aaa (by rw[Ae];simp;omega)];rfl
  |succ j=>
   have hc:out.length %ch<6:=Aqa (Aw3 _ (by omega)) h6;have ew:Jr (Af (a:Int) 81) (N:Int)=((a+wR N a:Nat):Int):=by rw[SN,Aj];unfold wR;omega
   have hw:a+wR N a<=N:=by unfold wR;omega
   have hw2:wR N a<=81:=by unfold wR;omega
   have hd:=Anl (Ac5 p a (wR N a) (by omega)) 0 (sJ ch out (out.length %ch) out.length);have Al2:dL (OI p a (wR N a)) (wR N a) 0 (jR ch out (out.length %ch) out.length).1 (jR ch out (out.length %ch) out.length).2.1=Po ch p N a out:=rfl;rw[Aae (by rw[Ae];simp;omega),ew,Aq8 hp a _ hw (by omega),Aa];simp only;rw[Aaa (by rw[Ah];simp),Cb (by rw[Ah];simp;omega),Aa,dC,Adp hc,Aa,Aa];refine Awq (congrArg (λo=>Option.bind o _) hd) ?_;rw[Aa,Al2,FC];by_cases he:(Po ch p N a out).2.2≠0
   ·rw[Aae he,Aae he];simp only;rw[Xq,Xo,Aae (by rw[Ah];simpa using he),Aae he]
   ·have he0:(Po ch p N a out).2.2=0:=by simpa using he
    have hok:=lU he0;have hset:=Ao5 (ch:=ch) (v:=out) (Po ch p N a out).1 hc rfl;rw[Aaa he,Aaa he];simp only;rw[Xq,Xo,Aaa (by rw[Ah];simp),Cb (by rw[Ah];simp;omega),Aa,dC,Adp hc,Aa];refine Awq (congrArg (λo=>Option.bind o _) hset) ?_;rw[Aa,HI,XR,Bi (by simp;omega),Aa,Aj,Aj,O8 he0];have ih:=Z3 hp h1 h6 hn j (a+(Po ch p N a out).2.1.toNat) q (out++[(Po ch p N a out).1]) (by simp;omega) (by omega) (by omega);rw[Aai,List.length_singleton]at ih;exact ih
theorem Aez{p:List UInt8}(hN:N=8*p.length)(hN2:N<=330000)(h1:1<=ch)(h6:ch<=6)(hn:n*ch<=4000):∀(j a q:Nat) (out:List UInt32),out.length+j=n*ch->j<q->a<=N->
  Ew (ch:Int) (n:Int) p q (a:Int) (out.length:Int) out=
   if(FC ch p N j a out).2.2≠0 then some ((FC ch p N j a out).1,(FC ch p N j a out).2.2)else Rs ((FC ch p N j a out).2.1:Int) p (FC ch p N j a out).1
 |j,a,q+1,out,hj,hq,ha=>by
  have hnn:n<=n*ch:=Axl n (by omega);have em:Bm (n:Int) (ch:Int)=((n*ch:Nat):Int):=by rw[Hi (by rw[<-Ath];omega) (by rw[<-Ath];omega),Ath]
  have e8:Bm (8:Int) (Ac p)=(N:Int):=by rw[Ac,Hi];omega
  rw[Ew,AJ,em];cases j with
  |zero=>
   rw[Aaa (by rw[Ae];simp;omega)];rfl
  |succ j=>
   have ew:Jr (Af (a:Int) 81) (N:Int)=((a+wR N a:Nat):Int):=by rw[SN,Aj];unfold wR;omega
   have hw:a+wR N a<=N:=by unfold wR;omega
   have hw2:wR N a<=81:=by unfold wR;omega
   have hpre:(Option.bind Ms λ(r_4,r_5,r_6,r_7)=>
     if(Tp (out.length:Int) (ch:Int))=true then(
     Option.bind (Pa (ch:Int) out) λ(r_8,r_9,r_10,r_11)=>
     Ir (Ew (ch:Int) (n:Int) p q) (ch:Int) (n:Int) p (a:Int) (out.length:Int) out r_8 r_9 r_10 r_11)
     else Ir (Ew (ch:Int) (n:Int) p q) (ch:Int) (n:Int) p (a:Int) (out.length:Int) out r_4 r_5 r_6 r_7)=
     Ir (Ew (ch:Int) (n:Int) p q) (ch:Int) (n:Int) p (a:Int) (out.length:Int) out ((now ch out).1:Int) ((now ch out).2.1:Int) (now ch out).2.2.1 (now ch out).2.2.2:=by
    rw[Ms,Aa];by_cases hc:ch<=out.length
    ·simp only;rw[Aae (by rw[Ej];simp;omega),Af6 ch out h1 h6 (by omega),Aa];rfl
    ·have e:now ch out=V9:=by rw[now,Aah (by omega),R7 ch out _ _ (Alw _) (by omega)]
     simp only;rw[Aaa (by rw[Ej];simp;omega),e];rfl
   have hd:=Akx (Ac5 p a (wR N a) (by omega)) 0 (now ch out).1 (now ch out).2.1 (now ch out).2.2.1 (now ch out).2.2.2 (sJ ch out _ _).1 (sJ ch out _ _).2.1;have Al2:dL (OI p a (wR N a)) (wR N a) 0 (now ch out).1 (now ch out).2.1=Po ch p N a out:=rfl;rw[Aae (by rw[Ae];simp;omega),hpre,Ir,NV,e8,ew,Z9 p (N:Int) a _ (by omega) (by omega) (by omega),Aa];simp only;refine Awq (congrArg (λo=>Option.bind o _) hd) ?_;rw[Aa,Al2,FC];by_cases he:(Po ch p N a out).2.2≠0
   ·rw[Aae he,Aae (by rw[Ah];simpa using he),Aae he]
   ·have he0:(Po ch p N a out).2.2=0:=by simpa using he
    have hok:=lU he0;have ih:=Aez hN hN2 h1 h6 hn j (a+(Po ch p N a out).2.1.toNat) q (out++[(Po ch p N a out).1]) (by simp;omega) (by omega) (by omega);have hx:=O8 he0;rw[Aai,List.length_singleton]at ih;rw[Aaa he];generalize Po ch p N a out=R at*
    obtain⟨v,nx,e⟩:=R;simp only at*
    rw[Aaa (by rw[Ah];simpa using he),Bi (by simp;omega),Aa,Aj,Aj,hx];exact ih
end
theorem vO{ch:Nat}{p:List UInt8}{N:Nat}:∀(j a:Nat) (out:List UInt32),a<=N-> (FC ch p N j a out).2.1<=N/\ (FC ch p N j a out).1.length<=out.length+j/\ ((FC ch p N j a out).2.2=0-> (FC ch p N j a out).1.length=out.length+j)
 |0,a,out,h=>⟨h,Alw _,λ_=>rfl⟩
 |j+1,a,out,h=>by
  rw[FC];split
  ·rename_i he;exact⟨h,by simp,λe=>absurd e he⟩
  ·rename_i he;have hok:=lU (ch:=ch) (p:=p) (N:=N) (a:=a) (out:=out) (by simpa using he);have hw:a+wR N a<=N:=by unfold wR;omega
   have ih:=vO (ch:=ch) (p:=p) (N:=N) j (a+(Po ch p N a out).2.1.toNat) (out++[(Po ch p N a out).1]) (by omega);rw[Aai,List.length_singleton]at ih;exact⟨ih.1,by omega,λe=>by have:=ih.2.2 e;omega⟩
theorem je(ch n:Int)(b:List UInt8)(N:Int):Yi ch n b N 0 (List.replicate 6 ((0:Int),(0:Int),(0:UInt64),(0:UInt64),()))=HH ch n b N (List.replicate 6 ((10:Int),(10:Int),(16384:UInt64),(16384:UInt64),())):=by
 have e:Ba=(Ba-7)+1+1+1+1+1+1+1:=by have:=Ax;omega
 rw[Yi,e];rfl
theorem values_eq{p:List UInt8}{N ch n:Nat}(hp:okB p N)(h1:1<=ch)(h6:ch<=6)(hn:n*ch<=4000):KW (ch:Int) (n:Int) p (N:Int)=
  some (if(FC ch p N (n*ch) 0 []).2.2≠0 then([],0,(FC ch p N (n*ch) 0 []).2.2)else((FC ch p N (n*ch) 0 []).1,((FC ch p N (n*ch) 0 []).2.1:Int),0)):=by
 have h:=Z3 hp h1 h6 hn (n*ch) 0 Ba [] (by simp) (by have:=Ax;omega) (by omega);rw[KW,KV,je];exact h
theorem N4(p:List UInt8)(x:List UInt32)(N:Nat)(hN:N=8*p.length)(hN2:N<=330000):∀(j a q:Nat),a+j=N->j<q->Is p x q (a:Int)=some (x,if Dm p a j=0 then 0 else 12)
 |0,a,q+1,ha,_=>by
  have e8:Bm (8:Int) (Ac p)=(N:Int):=by rw[Ac,Hi];omega
  rw[Is,Rj,e8,Aaa (by rw[Ae];simp;omega),Dm,Aae rfl];rfl
 |j+1,a,q+1,ha,hq=>by
  have e8:Bm (8:Int) (Ac p)=(N:Int):=by rw[Ac,Hi];omega
  have hb:=GL p a;rw[Is,Rj,e8,Aae (by rw[Ae];simp;omega),rS p _ a (by omega) (by omega),Aa,Dm];by_cases h:Mz p a=0
  ·rw[Aaa (by rw[Ah];simp[h]),Aj,h];have ih:=N4 p x N hN hN2 j (a+1) q (by omega) (by omega);rw[show((a:Int)+1)=((a+1:Nat):Int) by omega,ih];congr 2;by_cases hv:Dm p (a+1) j=0
   ·rw[Aae hv,Aae (by omega)]
   ·rw[Aaa hv,Aaa (by omega)]
  ·rw[Aae (by rw[Ah];simp;omega),Aaa (by omega)]
theorem Ads{p:List UInt8}{N ch n:Nat}(hN:N=8*p.length)(hN2:N<=330000)(h1:1<=ch)(h6:ch<=6)(hn:n*ch<=4000):AT (ch:Int) (n:Int) p=
  some (if(FC ch p N (n*ch) 0 []).2.2≠0 then((FC ch p N (n*ch) 0 []).1,(FC ch p N (n*ch) 0 []).2.2)else
   ((FC ch p N (n*ch) 0 []).1,if 7<N-(FC ch p N (n*ch) 0 []).2.1\/Dm p (FC ch p N (n*ch) 0 []).2.1 (N-(FC ch p N (n*ch) 0 []).2.1)≠0 then 12 else 0)):=by
 have h:=Aez hN hN2 h1 h6 hn (n*ch) 0 Ba [] (by simp) (by have:=Ax;omega) (by omega);have hat:=(vO (ch:=ch) (p:=p) (N:=N) (n*ch) 0 [] (by omega)).1;have e8:Bm (8:Int) (Ac p)=(N:Int):=by rw[Ac,Hi];omega
 rw[AT,DJ];refine Awq h ?_;generalize FC ch p N (n*ch) 0 []=V at*
 obtain⟨v,a,e⟩:=V;simp only at*
 by_cases he:e≠0
 ·rw[Aae he,Aae he]
 ·rw[Aaa he,Aaa he,Rs,Zm,e8,Bw];by_cases h7:7<N-a
  ·rw[Aae (by rw[Ap];simp;omega),Aae (.inl h7)]
  ·rw[Aaa (by rw[Ap];simp;omega),Zx,N4 p v N hN hN2 (N-a) a Ba (by omega) (by have:=Ax;omega)];by_cases hv:Dm p a (N-a)=0
   ·rw[Aae hv,Aaa (by omega)]
   ·rw[Aaa hv,Aae (.inr hv)]
theorem X6(n:Int):(GI.ofZ n:Int32)=Int32.ofInt n:=rfl
theorem QJ(a:Int32):GI.toZ a=a.toInt:=rfl
theorem bM(a b:Int32):Af a b=a+b:=by
 rw[Af,QJ,QJ,X6,Int32.ofInt_add,Auq,Auq]
theorem yI(a b:Int32):Au a b=a-b:=by
 rw[Au,QJ,QJ,X6,Int32.ofInt_sub,Auq,Auq]
theorem Adg(a b:Int32):geq a b=(a==b):=by
 rw[geq,QJ,QJ,Ahq];simp[Int32.toInt_inj]
theorem Amv(a b:Int32):Bq a b=(a !=b):=by
 rw[Bq,QJ,QJ,Ahq];simp[Int32.toInt_inj]
def jI(p:Nat->Bool)(a b:List Int32):List Int32:=(List.range a.length).map λk=>if p k=true then a.getD k 0 else b.getD k 0
section
variable {p q:Nat->Bool} {a b:List Int32}
theorem eY:(jI p a b).length=a.length:=by simp[jI]
theorem Rg{k:Nat}(h:k<a.length):a.getD k 0=a[k]:=by simp[List.getD_eq_getElem?_getD,h]
theorem IP{k:Nat}(h:k<(jI p a b).length):(jI p a b)[k]=if p k=true then a.getD k 0 else b.getD k 0:=by simp[jI]
theorem ZL{k:Nat}(h:k<a.length):Ao (jI p a b) (k:Int)=some (if p k=true then a.getD k 0 else b.getD k 0):=by
 rw[Ce (by rw[eY];exact h),IP]
theorem IL(h:∀k,k<a.length->p k=q k):jI p a b=jI q a b:=by
 apply Axz;intro k hk;rw[h k (List.mem_range.1 hk)]
theorem qZ{k:Nat}(h:k<a.length):Ux (jI p a b) (k:Int) (a.getD k 0)=some (jI (λj=>p j||decide (j=k)) a b):=by
 rw[FT _ (by rw[eY];exact h)];congr 1;apply Avl (by simp[eY]);intro i h1 h2;rw[Ax3,IP,IP];by_cases hi:k=i
 ·subst hi;simp
 ·have:¬i=k:=λe=>hi e.symm;simp[hi,this]
theorem qS(h:∀k,k<a.length->p k=true):jI p a b=a:=by
 apply Avl (by simp[eY]);intro i h1 h2;rw[IP,Aae (h i h2),Rg h2]
theorem pG(hl:b.length=a.length)(h:∀k,k<a.length->p k=false):jI p a b=b:=by
 apply Avl (by simp[eY,hl]);intro i h1 h2;rw[IP,h i (by omega)];simp[List.getD_eq_getElem?_getD,h2]
end
theorem wV(a b:Int32):Bm a b=a*b:=by
 rw[Bm,QJ,QJ,X6,Int32.ofInt_mul,Auq,Auq]
theorem MG(a:Int32): -2147483648<=a.toInt/\a.toInt<2147483648:=⟨a.le_toInt,a.toInt_lt⟩
theorem Gb(a:Int32):(Ad a:Int)=a.toInt:=by
 have:=MG a
 show wrap64 a.toInt=_;rw[Db]<;>omega
theorem VC(n:Int):(Ad n:Int32)=Int32.ofInt n:=rfl
theorem Agm(x:Int):Int32.ofInt (x %4294967296)=Int32.ofInt x:=by
 apply Int32.toInt_inj.1;rw[Av2,Av2];exact Int.emod_bmod x 4294967296
theorem vY(x:Int):Df x=some (Int32.ofInt x):=by
 have e1:(Ad x:UInt64).toNat=(x %18446744073709551616).toNat:=by
  rw[qd,Ad3,Aah (by omega)]
 have e2:(Ad (Ad x:UInt64):UInt32).toNat=(x %4294967296).toNat:=by
  have e:(Ad (Ad x:UInt64):UInt32)=UInt32.ofNat (Ad x:UInt64).toNat:=by simp only[Ad,Mg,Gc]
  rw[e,Al8,e1];show(x %18446744073709551616).toNat %4294967296=_;omega
 have e3:(Ad (Ad (Ad x:UInt64):UInt32):Int32)=Int32.ofInt ((Ad (Ad x:UInt64):UInt32).toNat:Int):=rfl;rw[Df,e3,e2,<-Agm x];congr 2;omega
theorem pO(a b:Int32):Df (Af (Ad a:Int) (Ad b:Int))=some (a+b):=by
 have:=MG a;have:=MG b;rw[Gb,Gb,Aj,vY,Int32.ofInt_add,Auq,Auq]
theorem Aki(a b:Int32):Df (Bm (Ad a:Int) (Ad b:Int))=some (a*b):=by
 have ha:=MG a;have hb:=MG b;have h1: -9223372036854775808<=a.toInt*b.toInt/\a.toInt*b.toInt<=9223372036854775807:=by
  have h2:(a.toInt*b.toInt).natAbs<=2147483648*2147483648:=by
   rw[Int.natAbs_mul];exact Aul (by omega) (by omega)
  omega
 rw[Gb,Gb,Hi h1.1 h1.2,vY,Int32.ofInt_mul,Auq,Auq]
def OkF(s:Int)(t p:List Int32):Prop:=(s=9\/s=10)/\t.length=16/\p.length=16
theorem sD{s:Int}{t p:List Int32}(h:OkF s t p):PB s t p=some 0:=by
 obtain⟨rfl|rfl,_,_⟩:=h<;>rfl
theorem g32{l:List Int32}{k:Nat}(h:k<l.length):Ao l (k:Int)=some (l.getD k 0):=by
 rw[Ce h];simp[List.getD_eq_getElem?_getD,h]
def jV(t p:List Int32):Nat->Int32
 |0=>0
 |i+1=>jV t p i+t.getD i 0*p.getD i 0
def half(s:Int):Int32:=if s=9 then 256 else 512
def gF(s:Int)(t p:List Int32):Int32:=Int32.ofInt ((half s+jV t p 16).toInt.fdiv (if s=9 then 512 else 1024))
theorem M4{s:Int}{t p:List Int32}(h:OkF s t p):∀(j i q:Nat),i+j=16->j<q->Yz t s p q (half s+jV t p i) (i:Int)=some (gF s t p,0)
 |0,i,q+1,hi,_=>by
  obtain rfl:i=16:=by omega
  have hs:=h.1;rw[Yz,QF,Aaa (by rw[Ae];simp),aC,nI,Cb (by rw[Ej];simp;omega),Aa];obtain rfl|rfl:=hs<;>rfl
 |j+1,i,q+1,hi,hq=>by
  obtain⟨hs,ht,hp⟩:=h;rw[Yz,QF,Aae (by rw[Ae];simp;omega),g32 (by omega),Aa,g32 (by omega),Aa,Aa,Aj (b:=1) (by omega) (by omega),bM,wV,Int32.add_assoc];exact M4 ⟨hs,ht,hp⟩ j (i+1) q (by omega) (by omega)
theorem Aj6{s:Int}{t p:List Int32}(h:OkF s t p):eD s t p=some (gF s t p,0):=by
 have hs:=h.1;have h1:=M4 h 16 0 Ba (by omega) (by have:=Ax;omega);have e:Fe (1:Int32) (GI.toZ (Au s (1:Int))).toNat=half s+jV t p 0:=by
  obtain rfl|rfl:=hs<;>rfl
 rw[eD,ZZ,sD h,Aa,Aaa (by rw[Ah];simp),Cb (by rw[Ej,Bw];simp;omega),Aa,aL,e];exact h1
theorem C7{s:Int}{t p:List Int32}(ht:t.length=16)(hp:p.length=16){g:Int32}(hg:jV t p 16=g):∀(j i q:Nat),i+j=16->j<q->Lp s t p q (jV t p i).toInt (i:Int)=some g
 |0,i,q+1,hi,_=>by
  obtain rfl:i=16:=by omega
  rw[Lp,Uy,Aaa (by rw[Ae];simp),FJ,UB,VC,Auq,hg]
 |j+1,i,q+1,hi,hq=>by
  have ih:=C7 (s:=s) ht hp hg j (i+1) q (by omega) (by omega);rw[jV]at ih;rw[Lp,Uy,Aae (by rw[Ae];simp;omega),g32 (by omega),g32 (by omega),Aa,Aa,Aa,Aa,Aki,Aa,<-Gb (jV t p i),pO,Aa,Gb,Aj];exact ih
theorem Ai7{s:Int}{t p:List Int32}(h:OkF s t p):OH s t p=some (jV t p 16):=
 C7 h.2.1 h.2.2 rfl 16 0 Ba (by omega) (by have:=Ax;omega)
theorem Ag3(x n:Int)(hn:n=512\/n=1024\/n=16\/n=32):(if x.tmod n<0 then x.tdiv n-1 else x.tdiv n)=x.fdiv n:=by
 have hs:n.sign=1:=by obtain rfl|rfl|rfl|rfl:=hn<;>rfl
 rw[Int.tdiv_eq_ediv,Int.tmod_eq_emod,hs,Aqj _ (by omega)];by_cases h:0<=x\/n∣x
 ·rw[Aae h,Aae h];obtain rfl|rfl|rfl|rfl:=hn<;>(rw[Aaa (by omega)];omega)
 ·rw[Aaa h,Aaa h];obtain rfl|rfl|rfl|rfl:=hn<;>(rw[Aae (by omega)];omega)
theorem D7(x n:Int)(hn:n=512\/n=1024\/n=16\/n=32)(h: -1000000000000<=x)(h':x<=1000000000000): -1000000000000<=x.tdiv n/\x.tdiv n<=1000000000000:=by
 have hs:n.sign=1:=by obtain rfl|rfl|rfl|rfl:=hn<;>rfl
 rw[Int.tdiv_eq_ediv,hs];by_cases h:0<=x\/n∣x
 ·rw[Aae h];obtain rfl|rfl|rfl|rfl:=hn<;>omega
 ·rw[Aaa h];obtain rfl|rfl|rfl|rfl:=hn<;>omega
theorem At6(x n:Int)(hn:n=512\/n=1024\/n=16\/n=32)(h: -1000000000000<=x)(h':x<=1000000000000):By x n=x.tdiv n:=by
 have:=D7 x n hn h h';rw[SP,Db (by omega) (by omega)]
theorem tu(x n:Int)(hn:n=512\/n=1024\/n=16\/n=32)(h: -1000000000000<=x)(h':x<=1000000000000):
  (if(Dg (Ko x n) (0:Int))=true then some (Ad (Au (By x n) (1:Int)):Int32)else some (Ad (By x n):Int32))=some (Int32.ofInt (x.fdiv n)):=by
 have hb:=D7 x n hn h h';rw[Ae,Ko,At6 x n hn h h',Bw,VC,VC,<-Ag3 x n hn];by_cases hx:x.tmod n<0
 ·rw[Aae (by simpa using hx),Aae hx]
 ·rw[Aaa (by simpa using hx),Aaa hx]
theorem Amz{s:Int}{t p:List Int32}(h:OkF s t p):BC s t p=some (gF s t p):=by
 obtain⟨hs,ht,hp⟩:=h;have h:OkF s t p:=⟨hs,ht,hp⟩;have hx:=MG (jV t p 16+half s);have key:∀n:Int,(n=512\/n=1024)-> (half s).toInt=n/2->gF s t p=Int32.ofInt ((half s+jV t p 16).toInt.fdiv n)->Ty s t p n=some (gF s t p):=by
  intro n hn hh hg;have e2:By n (2:Int)=(half s).toInt:=by rw[hh];obtain rfl|rfl:=hn<;>rfl
  rw[Ty,QQ,Ai7 h,Aa,e2,<-Gb (half s),pO,Aa,Cb (by rw[Ah];simp;omega),Aa,Aa,Gb,tu _ n (by omega) (by omega) (by omega),hg,Int32.add_comm]
 rw[BC,CI];obtain rfl|rfl:=hs
 ·rw[Aae (by rw[Aq];rfl)];exact key 512 (.inl rfl) rfl rfl
 ·rw[Aaa (by rw[Aq];decide)];exact key 1024 (.inr rfl) rfl rfl
def Y8(i:Nat):Int32:=if i=0 then 4 else if i<4 then 2 else 1
def sg(x:Int32):Int32:=if x.toInt<0 then -1 else if 0<x.toInt then 1 else 0
def J4(t p:List Int32)(w:Int32):List Int32:=(List.range 16).map λi=>t.getD i 0+Y8 i*sg (p.getD i 0)*sg w
theorem QL(t p:List Int32)(w:Int32):(J4 t p w).length=16:=by simp[J4]
theorem T2(t p:List Int32)(w:Int32){i:Nat}(h:i<16):(J4 t p w).getD i 0=t.getD i 0+Y8 i*sg (p.getD i 0)*sg w:=by
 rw[Rg (by rw[QL];exact h)];simp[J4]
theorem step_eq(i:Nat):bQ (i:Int)=some (Y8 i):=by
 rw[bQ,Y8];by_cases h:i=0
 ·rw[Aae (by rw[Aq];simp[h]),Aae h]
 ·rw[Aaa (by rw[Aq];simp;omega),Aaa h];by_cases h2:i<4
  ·rw[Aae (by rw[Ae];simp;omega),Aae h2]
  ·rw[Aaa (by rw[Ae];simp;omega),Aaa h2]
theorem Af2(i:Nat):BN (i:Int)=some (Y8 i):=by
 rw[BN,Y8];by_cases h:i=0
 ·rw[Aae (by rw[Aq];simp[h]),Aae h]
 ·rw[Aaa (by rw[Aq];simp;omega),Aaa h];by_cases h2:i<4
  ·rw[Aae (by rw[gG];simp;omega),Aae h2]
  ·rw[Aaa (by rw[gG];simp;omega),Aaa h2]
theorem T4(a b:Int32):Dg a b=decide (a.toInt<b.toInt):=rfl
theorem Abb(a b:Int32):Fb a b=decide (b.toInt<a.toInt):=rfl
theorem sign_eq(x:Int32):Sr x=some (sg x):=by
 rw[Sr,sg,T4,Abb,show(0:Int32).toInt=0 from rfl];by_cases h:x.toInt<0
 ·rw[Aae (by simpa using h),Aae h]
 ·rw[Aaa (by simpa using h),Aaa h];by_cases h2:0<x.toInt
  ·rw[Aae (by simpa using h2),Aae h2]
  ·rw[Aaa (by simpa using h2),Aaa h2]
theorem Adx:sg 0=0:=rfl
theorem toInt_ne{x:Int32}(h:x≠0):x.toInt≠0:=λe=>h (Int32.toInt_inj.1 (by rw[e];rfl))
theorem R5{x:Int32}(h:x.toInt<0):sg x= -1:=by rw[sg,Aae h]
theorem R6{x:Int32}(h:x≠0)(h2:¬x.toInt<0):sg x=1:=by
 have:=toInt_ne h;rw[sg,Aaa h2,Aae (by omega)]
theorem lW(i:Nat):Y8 i=4\/Y8 i=2\/Y8 i=1:=by
 unfold Y8;by_cases h:i=0
 ·rw[Aae h];exact .inl rfl
 ·rw[Aaa h];split;exact .inr (.inl rfl);exact .inr (.inr rfl)
theorem Agc{x w:Int32}(hx:x≠0)(hw:w≠0)(h:(x.toInt<0)=(w.toInt<0))(i:Nat):Y8 i*sg x*sg w=Y8 i:=by
 by_cases h1:x.toInt<0
 ·rw[R5 h1,R5 (by rw[<-h];exact h1)];obtain e|e|e:=lW i<;>rw[e]<;>decide
 ·rw[R6 hx h1,R6 hw (by rw[<-h];exact h1)];obtain e|e|e:=lW i<;>rw[e]<;>decide
theorem Aas{x w:Int32}(hx:x≠0)(hw:w≠0)(h:¬(x.toInt<0)=(w.toInt<0))(i:Nat)(a:Int32):a+Y8 i*sg x*sg w=a-Y8 i:=by
 have key:Y8 i*sg x*sg w=-Y8 i:=by
  by_cases h1:x.toInt<0
  ·have h2:¬w.toInt<0:=λh2=>h (propext ⟨λ_=>h2,λ_=>h1⟩);rw[R5 h1,R6 hw h2];obtain e|e|e:=lW i<;>rw[e]<;>decide
  ·have h2:w.toInt<0:=Decidable.by_contra λh2=>h (propext ⟨λh3=>absurd h3 h1,λh3=>absurd h3 h2⟩);rw[R6 hx h1,R5 h2];obtain e|e|e:=lW i<;>rw[e]<;>decide
 rw[key,Int32.sub_eq_add_neg]
def qU(i:Nat):Nat->Bool:=λj=>decide (j<i)
theorem E5{a b:List Int32}{i:Nat}(h:i<a.length):Ux (jI (qU i) a b) (i:Int) (a.getD i 0)=some (jI (qU (i+1)) a b):=by
 rw[qZ h];congr 1;apply IL;intro k _;rw[Ahq];simp only[qU,Atu,Aaf];omega
theorem Agw{a b:List Int32}{i:Nat}(e:a.getD i 0=b.getD i 0):jI (qU i) a b=jI (qU (i+1)) a b:=by
 apply Axz;intro k _;simp only[qU,Aaf];by_cases h1:k<i
 ·rw[Aae h1,Aae (by omega)]
 ·by_cases h2:k=i
  ·subst h2;rw[Aaa h1,Aae (by omega),e]
  ·rw[Aaa h1,Aaa (by omega)]
theorem xu{a b:List Int32}{i:Nat}(h:i<a.length):Ao (jI (qU i) a b) (i:Int)=some (b.getD i 0):=by
 rw[ZL h,Aaa (by simp[qU])]
theorem P7{s:Int}{t p:List Int32}{w:Int32}(hw:w≠0)(ht:t.length=16)(hp:p.length=16):∀(j i q:Nat),i+j=16->j<q->Yv w p s q (i:Int) (jI (qU i) (J4 t p w) t)=some (s,J4 t p w,p,0)
 |0,i,q+1,hi,_=>by
  obtain rfl:i=16:=by omega
  rw[Yv,QG,Aaa (by rw[Ae];simp),qS (λk hk=>by rw[QL]at hk;simpa [qU]using hk)];rfl
 |j+1,i,q+1,hi,hq=>by
  have hl:=QL t p w;have hg:=T2 t p w (i:=i) (by omega);rw[Yv,QG,Aae (by rw[Ae];simp;omega),g32 (by omega),Aa,Aj (b:=1) (by omega) (by omega),xu (by omega),step_eq];simp only[Aa];rw[bM,yI,Adg,T4,T4,show(0:Int32).toInt=0 from rfl];have ih:=P7 (s:=s) hw ht hp j (i+1) q (by omega) (by omega);by_cases hx:p.getD i 0=0
  ·rw[Aae (by rw[hx];rfl),Agw (by rw[hg,hx,Adx,Int32.mul_zero,Int32.zero_mul,Int32.add_zero])];exact ih
  ·rw[Aaa (by simpa using hx)];by_cases hs:((p.getD i 0).toInt<0)=(w.toInt<0)
   ·rw[Aae (by rw[Asc];simp only[hs]),show t.getD i 0+Y8 i=(J4 t p w).getD i 0 by rw[hg,Agc hx hw hs],E5 (by omega),Aa];exact ih
   ·rw[Aaa (by rw[Asc,decide_eq_decide];exact λh=>hs (propext h)),show t.getD i 0-Y8 i=(J4 t p w).getD i 0 by rw[hg,Aas hx hw hs],E5 (by omega),Aa];exact ih
theorem Ahu{t:List Int32}(p:List Int32)(ht:t.length=16):J4 t p 0=t:=by
 apply Avl (by rw[QL,ht]);intro i h1 h2;have:=T2 t p 0 (i:=i) (by omega);rw[Rg h1,Rg h2]at this;rw[this,Adx,Int32.mul_zero,Int32.add_zero]
theorem Aj1{s:Int}{t p:List Int32}(h:OkF s t p)(w:Int32):fS s t p w=some (s,J4 t p w,p,0):=by
 rw[fS,aR,sD h,Aa,Aaa (by rw[Ah];simp),Adg];by_cases hw:w=0
 ·rw[Aae (by simpa using hw),hw,Ahu p h.2.1]
 ·have h1:=P7 (s:=s) hw h.2.1 h.2.2 16 0 Ba (by omega) (by have:=Ax;omega);rw[pG (by rw[QL,h.2.1]) (λk _=>by simp[qU])]at h1;rw[Aaa (by simpa using hw)];exact h1
theorem qH{s:Int}{t p:List Int32}{w:Int32}(ht:t.length=16)(hp:p.length=16):∀(j i q:Nat),i+j=16->j<q->Gy w s p q (i:Int) (jI (qU i) (J4 t p w) t)=some (s,J4 t p w,p)
 |0,i,q+1,hi,_=>by
  obtain rfl:i=16:=by omega
  rw[Gy,Nw,Aaa (by rw[Ae];simp),qS (λk hk=>by rw[QL]at hk;simpa [qU]using hk)];rfl
 |j+1,i,q+1,hi,hq=>by
  have hl:=QL t p w;have hg:=T2 t p w (i:=i) (by omega);rw[Gy,Nw,Aae (by rw[Ae];simp;omega),g32 (l:=p) (by omega),Aj (b:=1) (by omega) (by omega),xu (by omega),Af2,sign_eq w,Aa,Aa,Aa,Aa,Aa,sign_eq,Aa,Aa,Aa,bM,wV,wV,<-hg,E5 (by omega),Aa];exact qH ht hp j (i+1) q (by omega) (by omega)
theorem Ace{s:Int}{t p:List Int32}(h:OkF s t p)(w:Int32):CB s t p w=some (s,J4 t p w,p):=by
 have h1:=qH (s:=s) (w:=w) h.2.1 h.2.2 16 0 Ba (by omega) (by have:=Ax;omega);rw[pG (by rw[QL,h.2.1]) (λk _=>by simp[qU])]at h1;exact h1
theorem Am7{p:List Int32}(h:p.length=16):∃a0 a1 a2 a3 a4 a5 a6 a7 a8 a9 b0 b1 b2 b3 b4 b5,p=[a0,a1,a2,a3,a4,a5,a6,a7,a8,a9,b0,b1,b2,b3,b4,b5]:=by
 match p,h with
 |[a0,a1,a2,a3,a4,a5,a6,a7,a8,a9,b0,b1,b2,b3,b4,b5],_=>exact⟨a0,a1,a2,a3,a4,a5,a6,a7,a8,a9,b0,b1,b2,b3,b4,b5,rfl⟩
theorem Amm{s:Int}{t p:List Int32}(h:OkF s t p)(x:Int32):mF s t p x=some (s,t,x::p.take 15,0):=by
 obtain⟨hs,ht,hp⟩:=h;rw[mF,UL,sD ⟨hs,ht,hp⟩,Aa,Aaa (by rw[Ah];simp),show pB (16:Int) 1 16=some ()from rfl,Aa,show pB (16:Int) 0 16=some ()from rfl,Aa,eP,pM];obtain⟨a0,a1,a2,a3,a4,a5,a6,a7,a8,a9,b0,b1,b2,b3,b4,b5,rfl⟩:=Am7 hp;rfl
def S6(p:List Int32)(i:Nat):List Int32:=(List.range 16).map λk=>if k<=i then p.getD k 0 else p.getD (k-1) 0
theorem HE(p:List Int32)(i:Nat):(S6 p i).length=16:=by simp[S6]
theorem Anu(p:List Int32)(i k:Nat)(h:k<16):(S6 p i).getD k 0=if k<=i then p.getD k 0 else p.getD (k-1) 0:=by
 rw[Rg (by rw[HE];exact h)];simp[S6]
theorem An4(p:List Int32)(i:Nat)(h:i+1<16):Ux (S6 p (i+1)) ((i+1:Nat):Int) (p.getD i 0)=some (S6 p i):=by
 rw[FT _ (by rw[HE];exact h)];congr 1;apply Avl (by simp[HE]);intro k h1 h2;rw[HE]at h2;rw[Ax3];simp only[S6,Axj,Axg];by_cases hk:i+1=k
 ·subst hk;rw[Aae rfl,Aaa (by omega)];rfl
 ·rw[Aaa hk];by_cases h3:k<=i
  ·rw[Aae (by omega),Aae h3]
  ·rw[Aaa (by omega),Aaa h3]
theorem uU(s:Int)(t p:List Int32)(x:Int32)(hp:p.length=16):∀(i q:Nat),i<16->i<q->Hw x s t q (i:Int) (S6 p i)=some (s,t,x::p.take 15)
 |0,q+1,_,_=>by
  have hg:Ao (S6 p 0) (0:Int)=some ((S6 p 0).getD 0 0):=g32 (l:=S6 p 0) (k:=0) (by rw[HE];omega);have hset:Ux (S6 p 0) (0:Int) x=some ((S6 p 0).set 0 x):=FT (l:=S6 p 0) (n:=0) x (by rw[HE];omega);rw[Hw,Px,Aaa (by rw[Ap];simp),Xh,KL,hg,Aa,hset,Aa];congr 3;apply Avl (by simp[HE,hp]);intro k h1 h2;rw[Awe,HE]at h1;rw[Ax3];cases k with
  |zero=>rw[Aae rfl];rfl
  |succ k=>
   rw[Aaa (by omega)];simp only[S6,Axj,Axg,List.getElem_cons_succ,List.getElem_take];rw[Aaa (by omega),Nat.add_sub_cancel,Rg (by omega)]
 |i+1,q+1,hi,hq=>by
  have hg:=g32 (l:=S6 p (i+1)) (k:=i) (by rw[HE];omega);rw[Anu p (i+1) i (by omega),Aae (by omega)]at hg;have e1:Au ((i+1:Nat):Int) (1:Int)=(i:Int):=by rw[Bw];omega
  have hg2:=g32 (l:=S6 p (i+1)) (k:=i+1) (by rw[HE];omega);rw[Hw,Px,Aae (by rw[Ap];simp),e1,hg,Aa,Aa,hg2,Aa,An4 p i hi,Aa];exact uU s t p x hp i q (by omega) (by omega)
theorem Ago{s:Int}{t p:List Int32}(hp:p.length=16)(x:Int32):FG s t p x=some (s,t,x::p.take 15):=by
 have h:=uU s t p x hp 15 Ba (by omega) (by have:=Ax;omega);have e:S6 p 15=p:=by
  apply Avl (by rw[HE,hp]);intro k h1 h2;rw[HE]at h1;simp only[S6,Axj,Axg];rw[Aae (by omega),Rg h2]
 rw[e]at h;exact h
theorem Aij{s:Int}{t p:List Int32}(h:OkF s t p)(w x:Int32):OkF s (J4 t p w) (x::p.take 15):=⟨h.1,QL _ _ _,by simp[h.2.2]⟩
theorem Aoc{s:Int}{t p:List Int32}(h:OkF s t p)(y:Int32):kU s t p y=some (y+gF s t p,s,J4 t p y,(y+gF s t p)::p.take 15,0):=by
 rw[kU,Aj6 h,Aa];simp only;rw[Aaa (by rw[Ah];simp),bM,nU,Aj1 h,Aa];simp only;rw[Amm (s:=s) (t:=J4 t p y) (p:=p) ⟨h.1,QL _ _ _,h.2.2⟩,Aa];rfl
theorem Ae7{s:Int}{t p:List Int32}(h:OkF s t p)(y:Int32):Td s t p y=some (y+gF s t p,s,J4 t p y,(y+gF s t p)::p.take 15):=by
 rw[Td,Amz h,Aa,pO,Aa,Ace h,Aa];simp only;rw[Ago h.2.2,Aa]
def sB(bits:Int):Int:=if bits=16 then 9 else 10
def shB(bits:Int):Int:=if bits=8 then 4 else 5
def Bn(bits:Int):Prop:=bits=8\/bits=16\/bits=24
def gs(sh:Int)(last:Int32):Int32:=Ad (U5 (Au (Fe (Ad last:Int) sh.toNat) (Ad last)) sh.toNat)
theorem Aud(bits:Int):sB bits=9\/sB bits=10:=by unfold sB;split<;>simp
theorem An5(bits:Int):0<=shB bits:=by unfold shB;split<;>omega
theorem Awa{bits:Int}(h:Bn bits)(t:List Int32):qM bits t=some (sB bits,t,List.replicate 16 0,0):=by
 obtain rfl|rfl|rfl:=h<;>rfl
theorem Ass{bits:Int}(h:Bn bits):jH bits=some (shB bits,0):=by
 obtain rfl|rfl|rfl:=h<;>rfl
theorem Aq5{sh:Int}(h:0<=sh)(last:Int32):YT sh last=some (gs sh last):=by
 rw[YT,Cb (by rw[Ej];simpa using h),Aa,Aa];rfl
theorem Ars{bits:Int}(h:Bn bits)(last:Int32):RE bits last=some (gs (shB bits) last,0):=by
 rw[RE,Ass h,Aa];simp only;rw[Aaa (by rw[Ah];simp),Aq5 (An5 bits),Aa]
theorem Ab8{bits:Int}(h:Bn bits)(last:Int32)(t p:List Int32):RC bits last (sB bits) t p=some 0:=by
 rw[RC,Awa h,Aa];simp only;rw[Aaa (by rw[Ah,Ah];simp)]
theorem Afq{bits:Int}(h:Bn bits){t p:List Int32}(hF:OkF (sB bits) t p)(last y:Int32):
  Oo bits last (sB bits) t p y=some (y+gF (sB bits) t p+gs (shB bits) last,bits,y+gF (sB bits) t p+gs (shB bits) last,sB bits,J4 t p y,(y+gF (sB bits) t p)::p.take 15,0):=by
 rw[Oo,Ab8 h,Aa,Aaa (by rw[Ah];simp),Ars h,Aa];simp only;rw[Aoc hF,Aa];simp only;rw[bM]
theorem sY(sh:Int)(hs:sh=4\/sh=5)(last:Int32):Pf sh last=some (gs sh last):=by
 have hl:=MG last;have key:∀n:Int,n=16\/n=32->gs sh last=Int32.ofInt (((n-1)*last.toInt).fdiv n)->Pv last n=some (gs sh last):=by
  intro n hn hg;have e:Bm (Au n (1:Int)) (Ad last:Int)=(n-1)*last.toInt:=by
   obtain rfl|rfl:=hn<;>(rw[Gb,Bw,Hi])
  rw[Pv,JU,Cb (by rw[Ah];simp;omega),Aa,Aa,e,tu _ n (by omega) (by obtain rfl|rfl:=hn<;>omega) (by obtain rfl|rfl:=hn<;>omega),hg]
 rw[Pf,Yf];obtain rfl|rfl:=hs
 ·rw[Aaa (by rw[Aq];decide)];refine key 16 (.inl rfl) ?_;have e:Fe (Ad last:Int) (4:Int).toNat=last.toInt*16:=by
   rw[Gb];show wrap64 (last.toInt*2^4)=_;rw[Db]<;>omega
  rw[gs,e,Gb,Bw,VC]
  show Int32.ofInt ((last.toInt*16-last.toInt).fdiv 16)=_;congr 2;omega
 ·rw[Aae (by rw[Aq];rfl)];refine key 32 (.inr rfl) ?_;have e:Fe (Ad last:Int) (5:Int).toNat=last.toInt*32:=by
   rw[Gb];show wrap64 (last.toInt*2^5)=_;rw[Db]<;>omega
  rw[gs,e,Gb,Bw,VC]
  show Int32.ofInt ((last.toInt*32-last.toInt).fdiv 32)=_;congr 2;omega
theorem Ahe{bits:Int}(h:Bn bits){t p:List Int32}(hF:OkF (sB bits) t p)(last y:Int32):
  Jy bits last (sB bits) t p y=some (y+gF (sB bits) t p+gs (shB bits) last,bits,y+gF (sB bits) t p+gs (shB bits) last,sB bits,J4 t p y,(y+gF (sB bits) t p)::p.take 15):=by
 have hb:Vf bits last (sB bits) t p=some (Ad (gs (shB bits) last):Int):=by
  rw[Vf];obtain rfl|rfl|rfl:=h
  ·rw[Aae (by rw[Aq];rfl),sY 4 (.inl rfl),Aa];rfl
  ·rw[Aaa (by rw[Aq];decide),sY 5 (.inr rfl),Aa];rfl
  ·rw[Aaa (by rw[Aq];decide),sY 5 (.inr rfl),Aa];rfl
 rw[Jy,Ae7 hF,Aa];simp only;rw[hb,Aa,pO,Aa]
theorem Au6{bits:Int}(h:Bn bits)(t:List Int32):OD bits t=some (bits,0,sB bits,t,List.replicate 16 0,0):=by
 obtain rfl|rfl|rfl:=h<;>rfl
def fT(n:UInt32):Int32:=if n.toNat %2=0 then Int32.ofInt ((n.toNat/2:Nat):Int)else Int32.ofInt (-((n.toNat/2:Nat):Int)-1)
theorem vk(a b:Int32):(GQ a b).toBitVec=a.toBitVec^^^b.toBitVec:=by
 show(Int32.ofInt ((BitVec.ofInt 32 a.toBitVec.toInt^^^BitVec.ofInt 32 b.toBitVec.toInt).toNat:Int)).toBitVec=_;rw[BitVec.ofInt_toInt,BitVec.ofInt_toInt,Int32.toBitVec_ofInt,BitVec.ofInt_natCast,BitVec.ofNat_toNat,BitVec.setWidth_eq]
theorem Au5(m:Nat)(h:m<2147483648):GQ (Int32.ofInt (m:Int)) (Int32.ofInt (-1))=Int32.ofInt (-(m:Int)-1):=by
 apply Int32.toBitVec_inj.1;have e1:(Int32.ofInt (-1)).toBitVec=BitVec.allOnes 32:=by decide
 rw[vk,e1,BitVec.xor_allOnes,Int32.toBitVec_ofInt,Int32.toBitVec_ofInt];apply BitVec.eq_of_toNat_eq;rw[BitVec.toNat_not,Ata,Ata];omega
theorem Ajs(n:UInt32):ES n=some (fT n):=by
 have hn:=n.toNat_lt;have e1:(Ad (Ea n (GI.toZ (1:UInt64)).toNat):Int32)=Int32.ofInt ((n.toNat/2:Nat):Int):=by
  show Int32.ofInt ((Ea n 1).toNat:Int)=_;rw[bK]
 have e2:(Ad (Kr n (1:UInt32)):Int32)=Int32.ofInt ((n.toNat %2:Nat):Int):=by
  show Int32.ofInt ((Kr n (1:UInt32)).toNat:Int)=_;rw[mo,UInt32.toNat_and]
  show Int32.ofInt ((n.toNat&&&1:Nat):Int)=_;rw[Nat.and_one_is_mod]
 rw[ES,e1,e2,fT];congr 1;by_cases h:n.toNat %2=0
 ·have e3:pN (Int32.ofInt ((n.toNat %2:Nat):Int))=Int32.ofInt 0:=by rw[h];decide
  rw[Aae h,e3];apply Int32.toBitVec_inj.1;rw[vk,show(Int32.ofInt 0).toBitVec=0#32 from rfl,BitVec.xor_zero]
 ·have e3:pN (Int32.ofInt ((n.toNat %2:Nat):Int))=Int32.ofInt (-1):=by rw[show n.toNat %2=1 by omega];decide
  rw[Aaa h,e3,Au5 _ (by omega)]
theorem Am6(n:UInt32):Oa n=some (fT n):=by
 have hn:=n.toNat_lt;have e1:geq (JJ n (2:UInt32)) (0:UInt32)=decide (n.toNat %2=0):=by
  rw[S0,jf,Ahq];simp only[Asc,<-UInt32.toNat_inj,UInt32.toNat_mod,Aaf];rfl
 rw[Oa,e1,fT];by_cases h:n.toNat %2=0
 ·rw[Aae (by simpa using h),Aae h,jv];rfl
 ·have e2:(Ad n:Int)=(n.toNat:Int):=Aam n;rw[Aaa (by simpa using h),Aaa h,e2,Aj,S3,Db (by omega) (by omega),SP,Int.tdiv_eq_ediv,VC];congr 2;rw[Aae (.inr (by omega)),Db (by omega) (by omega)];omega
theorem mg{c:Prop} [Decidable c](h:c):Ue (decide c)=some ():=by rw[Avx h];rfl
def unV(f:Nat->Int32)(ch:Nat):Nat->Int32
 |0=>if 1<ch then f (ch-1)+By (f (ch-2)) (2:Int32)else f (ch-1)
 |j+1=>unV f ch j-f (ch-2-j)
def zF(ch:Nat)(m:List Int32):List Int32:=(List.range m.length).map λk=>unV (λi=>m.getD (k-k %ch+i) 0) ch (ch-1-k %ch)
theorem lV(ch:Nat)(m:List Int32):(zF ch m).length=m.length:=by simp[zF]
theorem wA{ch:Nat}{m:List Int32}{a i:Nat}(ha:a %ch=0)(hi:i<ch)(h:a+i<m.length):(zF ch m).getD (a+i) 0=unV (λi=>m.getD (a+i) 0) ch (ch-1-i):=by
 have hb:(a+i) %ch=i:=by rw[Nat.add_mod,ha,Avg,Nat.mod_mod,Aah hi]
 rw[Rg (by rw[lV];exact h)];simp only[zF,Axj,Axg,hb];rw[show a+i-i=a by omega]
section
variable (ch:Nat) (m:List Int32)
theorem Ai1(h1:1<=ch)(h6:ch<=6)(hm:m.length %ch=0)(hl2:m.length<=4000):lZ (ch:Int) m=some 0:=by
 rw[lZ,Aaa (by simp[Ae,Ap];omega),Aaa (by rw[Ap,Ac];simp;omega),Cb (by rw[Ah];simp;omega),Aa,Aaa];rw[Ah,Ko,Ac,<-Int.ofNat_tmod,hm];simp
theorem wS(bk:Int->List Int32->Option (List Int32×Int))(at':Nat)(h1:1<=ch)(h6:ch<=6)(hm:at' %ch=0)(hl:at'+ch<=m.length)(hl2:m.length<=4000):∀(i q:Nat),i<=ch-1->i<q->
  EO bk (ch:Int) (at':Int) q ((i:Int)-1) (jI (λk=>decide (k<at'\/ (at'+i<=k/\k<at'+ch))) (zF ch m) m)=bk ((at'+ch:Nat):Int) (jI (λk=>decide (k<at'+ch)) (zF ch m) m)
 |0,q+1,hi,_=>by
  have e4:Af (at':Int) (ch:Int)=((at'+ch:Nat):Int):=by rw[Aj];omega
  rw[EO,UG,Aaa (by rw[Ej];simp),eK,qJ,e4];congr 1;apply IL;intro k _;rw[Ahq];simp;omega
 |i+1,q+1,hi,hq=>by
  have hlen:=lV ch m;have e2:Af (at':Int) (ch:Int)-(at':Int)=(ch:Int):=by rw[Aj];omega
  have e3:Af (i:Int) 1=((i+1:Nat):Int):=by rw[Aj];omega
  have hv:((zF ch m).getD (at'+(i+1)) 0-m.getD (at'+i) 0)=(zF ch m).getD (at'+i) 0:=by
   rw[wA hm (by omega) (by omega),wA hm (by omega) (by omega),show ch-1-i=(ch-1-(i+1))+1 by omega,unV,show ch-2-(ch-1-(i+1))=i by omega]
  rw[EO,UG,show((i+1:Nat):Int)-1=(i:Int) by omega,Aae (by rw[Ej];simp),e2,e3,mg (by omega),Aa,mg (by omega),Aa,
   show(at':Int)+((i+1:Nat):Int)=((at'+(i+1):Nat):Int) by omega,show(at':Int)+(i:Int)=((at'+i:Nat):Int) by omega,
   ZL (by omega),Aa,ZL (by omega),Aa,Aa,Aae (by simp;omega),Aaa (by simp;omega),yI,hv,qZ (by omega),Aa,Bw]
  have ih:=wS bk at' h1 h6 hm hl hl2 i q (by omega) (by omega);rw[<-ih];congr 1;apply IL;intro k _;rw[Ahq];simp;omega
theorem uf{at' ch n:Nat}(ha:at' %ch=0)(hm:n %ch=0)(h:at'<n):at'+ch<=n:=by
 have d1:=Axv at' ch;have d2:=Axv n ch;rw[ha,Aw2]at d1;rw[hm,Aw2]at d2;have hlt:at'/ch<n/ch:=by
  rcases Axw (at'/ch) (n/ch)with h'|h'
  ·exact h'
  ·have:=Nat.mul_le_mul_left ch h';omega
 have:=Nat.mul_le_mul_left ch (show at'/ch+1<=n/ch from hlt);rw[Nat.mul_add]at this;omega
theorem K2(h1:1<=ch)(h6:ch<=6)(hm:m.length %ch=0)(hl2:m.length<=4000):∀(j at' q:Nat),at' %ch=0->at'<=m.length->m.length-at'<=j->j<q->
  Xt (ch:Int) q (at':Int) (jI (λk=>decide (k<at')) (zF ch m) m)=some (zF ch m,0)
 |j,at',q+1,ha,hle,hj,hq=>by
  have hlen:=lV ch m;have hl:Ac (jI (λk=>decide (k<at')) (zF ch m) m)=(m.length:Int):=by rw[Ac,eY,hlen]
  rw[Xt,dF,hl];by_cases h:at'<m.length
  ·have hb:=uf ha hm h;obtain⟨j,rfl⟩:∃k,j=k+1:=⟨j-1,by omega⟩;have e1:Au (Af (at':Int) (ch:Int)-(at':Int)) 1=((ch-1:Nat):Int):=by rw[Aj,Bw];omega
   have e2:Af (at':Int) (ch:Int)-(at':Int)=(ch:Int):=by rw[Aj];omega
   have e4:Af (at':Int) (ch:Int)=((at'+ch:Nat):Int):=by rw[Aj];omega
   have hi:=wS ch m (Xt (ch:Int) q) at' h1 h6 ha hb hl2 (ch-1) Ba (by omega) (by have:=Ax;omega);have hrest:=K2 h1 h6 hm hl2 j (at'+ch) q (by rw[Ax7,ha]) hb (by omega) (by omega);have hstart:UQ (Xt (ch:Int) q) (ch:Int) (at':Int) (jI (λk=>decide (k<at'\/ (at'+(ch-1)<=k/\k<at'+ch))) (zF ch m) m)=some (zF ch m,0):=by
    have e6:Au ((ch-1:Nat):Int) 1=((ch-1:Nat):Int)-1:=Bw;rw[UQ,dA,dI,e1,e6];exact Awq hi hrest
   rw[Aae (by rw[Ae];simp;omega),show pB (m.length:Int) (at':Int) (Af (at':Int) (ch:Int))=some () by rw[e4,pB,mg];omega,Aa,e1,e2];have hlast:=wA (m:=m) ha (show ch-1<ch by omega) (by omega);rw[show ch-1-(ch-1)=0 by omega,unV]at hlast;by_cases hc:1<ch
   ·have e5:Au ((ch-1:Nat):Int) 1=((ch-2:Nat):Int):=by rw[Bw];omega
    rw[Aae hc]at hlast;rw[Aae (by rw[Ap];simp;omega),mg (by omega),Aa,e5,mg (by omega),Aa,show(at':Int)+((ch-1:Nat):Int)=((at'+(ch-1):Nat):Int) by omega,show(at':Int)+((ch-2:Nat):Int)=((at'+(ch-2):Nat):Int) by omega,
     ZL (by omega),Aa,ZL (by omega),Aa,Aa,Aaa (by simp),Aaa (by simp),bM,<-hlast,qZ (by omega),Aa]
    rw[<-hstart];congr 1;apply IL;intro k _;rw[Ahq];simp;omega
   ·have hc1:ch=1:=by omega
    rw[Aaa (by rw[Ap];simp;omega),<-hstart];congr 1;rw[Aaa hc]at hlast;apply Axz;intro k hk;by_cases hk2:k=at'
    ·subst hk2;rw[Aaa (by simp),Aae (by simp;omega)];rw[show k+(ch-1)=k by omega]at hlast;exact hlast.symm
    ·by_cases hk3:k<at'
     ·rw[Aae (by simp;omega),Aae (by simp;omega)]
     ·rw[Aaa (by simp;omega),Aaa (by simp;omega)]
  ·rw[Aaa (by rw[Ae];simp;omega),qS (λk hk=>by simp;omega)];rfl
theorem Anc(h1:1<=ch)(h6:ch<=6)(hm:m.length %ch=0)(hl2:m.length<=4000):pY (ch:Int) m=some (zF ch m,0):=by
 have hlen:=lV ch m;have h:=K2 ch m h1 h6 hm hl2 m.length 0 Ba (by simp) (by omega) (by omega) (by have:=Ax;omega);rw[pY,kY,Ai1 ch m h1 h6 hm hl2,Aa,Aaa (by rw[Ah];simp),Iz,Bi (by simp;omega),Aa,Aa,Apz,eQ];rw[pG hlen.symm (λk _=>by simp)]at h;exact h
end
def tI(f:Nat->Int32)(ch:Nat):List Int32:=(List.range ch).map λi=>unV f ch (ch-1-i)
theorem bZ(f:Nat->Int32)(ch:Nat):(tI f ch).length=ch:=by simp[tI]
theorem rD(f:Nat->Int32){ch i:Nat}(h:i<ch):(tI f ch).getD i 0=unV f ch (ch-1-i):=by
 rw[Rg (by rw[bZ];exact h)];simp[tI]
theorem Ako(a b:Int32):Df (Au (Ad a:Int) (Ad b:Int))=some (a-b):=by
 have:=MG a;have:=MG b;rw[Gb,Gb,Bw,vY,Int32.ofInt_sub,Auq,Auq]
theorem Agj(a b:Int32):Df (Af (Ad a:Int) (By (Ad b:Int) (2:Int)))=some (a+By b (2:Int32)):=by
 have:=MG a;have hb:=MG b;have hd: -2147483648<=b.toInt.tdiv 2/\b.toInt.tdiv 2<=2147483648:=by
  rw[Int.tdiv_eq_ediv,show Int.sign 2=1 from rfl];by_cases h:0<=b.toInt\/2∣b.toInt
  ·rw[Aae h];omega
  ·rw[Aaa h];omega
 have e:By b (2:Int32)=Int32.ofInt (b.toInt.tdiv 2):=rfl;rw[Gb,Gb,SP,Db (by omega) (by omega),Aj,vY,Int32.ofInt_add,Auq,e]
theorem pU(seg z:List Int32)(ch:Nat)(h6:ch<=6)(hs:seg.length=ch)(hz:z.length=ch):∀(i q:Nat),i+1<=ch->i<q->
  Gu seg q ((i:Int)-1) (jI (λk=>decide (i<=k)) (tI (λi=>seg.getD i 0) ch) z)=some (tI (λi=>seg.getD i 0) ch)
 |0,q+1,hi,_=>by
  rw[Gu,Oe,Aaa (by rw[Ej];simp),qS (λk hk=>by simp)];rfl
 |i+1,q+1,hi,hq=>by
  have hlen:=bZ (λi=>seg.getD i 0) ch;have e3:Af (i:Int) 1=((i+1:Nat):Int):=by rw[Aj];omega
  have hv:(tI (λi=>seg.getD i 0) ch).getD (i+1) 0-seg.getD i 0=(tI (λi=>seg.getD i 0) ch).getD i 0:=by
   rw[rD _ (by omega),rD _ (by omega),show ch-1-i=(ch-1-(i+1))+1 by omega,unV,show ch-2-(ch-1-(i+1))=i by omega]
  rw[Gu,Oe,show((i+1:Nat):Int)-1=(i:Int) by omega,Aae (by rw[Ej];simp),e3,ZL (by omega),Aa,g32 (by omega),Aa,Aa,Aae (by simp),Ako,Aa,ZL (by omega),Aa,hv,qZ (by omega),Aa,Bw];have ih:=pU seg z ch h6 hs hz i q (by omega) (by omega);rw[<-ih];congr 1;apply IL;intro k _;rw[Ahq];simp;omega
theorem wo{l:List Int32}{i:Nat}(v:Int32)(h:i<l.length):(l.set i v).getD i 0=v:=by
 rw[Rg (by rw[Awe];exact h)];simp
theorem Aak(seg:List Int32)(ch:Nat)(h1:1<=ch)(h6:ch<=6)(hs:seg.length=ch):Ts seg=some (tI (λi=>seg.getD i 0) ch):=by
 have hlen:=bZ (λi=>seg.getD i 0) ch;have hzl:(List.replicate ch (0:Int32)).length=ch:=by simp
 have e1:Au (Ac seg) 1=((ch-1:Nat):Int):=by rw[Ac,hs,Bw];omega
 have e2:Au (Ac seg) 2=((ch-1:Nat):Int)-1:=by rw[Ac,hs,Bw];omega
 have hlast:=rD (λi=>seg.getD i 0) (show ch-1<ch by omega);rw[show ch-1-(ch-1)=0 by omega,unV]at hlast;have hend:∀z:List Int32,z.length=ch->z.getD (ch-1) 0=(tI (λi=>seg.getD i 0) ch).getD (ch-1) 0->Nz seg z=some (tI (λi=>seg.getD i 0) ch):=by
  intro z hz hzl;have h:=pU seg z ch h6 hs hz (ch-1) Ba (by omega) (by have:=Ax;omega);have e:jI (λk=>decide (ch-1<=k)) (tI (λi=>seg.getD i 0) ch) z=z:=by
   apply Avl (by rw[eY,hlen,hz]);intro k k1 k2;rw[IP];by_cases hk:ch-1<=k
   ·obtain rfl:k=ch-1:=by omega
    rw[Aae (by simp),<-hzl,Rg k2]
   ·rw[Aaa (by simpa using hk),Rg k2]
  rw[e]at h;rw[Nz,Wx,e2];exact h
 rw[Ts,Vx,Ac,hs,uT,Aa,Cb (by rw[Aq];simp),Aa];rw[Ac,hs]at e1;rw[Ac,hs]at e2;have hz1:(List.replicate (Int.toNat (ch:Int)) (0:Int32)).length=ch:=by simp
 have hs1:=g32 (l:=seg) (k:=ch-1) (by omega);rw[e1,hs1,Aa,g32 (by omega),Aa,FT _ (by omega),Aa];by_cases hc:1<ch
 ·rw[Aae hc]at hlast;have e3:((ch-1:Nat):Int)-1=((ch-2:Nat):Int):=by omega
  have hs2:=g32 (l:=seg) (k:=ch-2) (by omega);rw[Aae (by rw[Ap];simp;omega),Aa,e2,e3,hs2,Aa,Agj,Aa,g32 (by rw[Awe];omega),Aa,FT _ (by rw[Awe];omega),Aa];refine hend _ (by simp) ?_;rw[hlast,wo _ (by rw[Awe];omega)]
 ·rw[Aaa hc]at hlast;rw[Aaa (by rw[Ap];simp;omega)];refine hend _ (by simp) ?_;rw[hlast,wo _ (by omega)]
theorem An9(ch:Nat)(m:List Int32)(h1:1<=ch)(h6:ch<=6)(hm:m.length %ch=0)(hl2:m.length<=4000):Qp (ch:Int) m=some 0:=by
 rw[Qp,Aaa (by simp[Ae,Ap];omega),Aaa (by rw[Ap,Ac];simp;omega),Cb (by rw[Ah];simp;omega),Aa,Aaa];rw[Ap,Ko,Ac,<-Int.ofNat_tmod,hm];simp
theorem tS(ch:Nat)(m:List Int32)(h1:1<=ch)(h6:ch<=6)(hm:m.length %ch=0)(hl2:m.length<=4000):∀(j at' q:Nat),at' %ch=0->at'<=m.length->m.length-at'<=j->j<q->
  Nj (ch:Int) m q (at':Int) ((zF ch m).take at')=some (zF ch m,0)
 |j,at',q+1,ha,hle,hj,hq=>by
  have hlen:=lV ch m;rw[Nj,DS];by_cases h:at'<m.length
  ·have hb:=uf ha hm h;have e4:Af (at':Int) (ch:Int)=((at'+ch:Nat):Int):=by rw[Aj];omega
   have hrest:=tS ch m h1 h6 hm hl2 (j-1) (at'+ch) q (by rw[Ax7,ha]) hb (by omega) (by omega);have hseg:((m.take (at'+ch)).drop at').length=ch:=by simp;omega
   have htl:((zF ch m).take at').length=at':=by simp[hlen];omega
   rw[Aae (by rw[Ae,Ac];simp;omega),e4,Zn,Aa,show((at'+ch:Nat):Int).toNat=at'+ch from rfl,show(at':Int).toNat=at' from rfl,Aak _ ch h1 h6 hseg,Aa,Bi (by rw[htl,bZ];omega),Aa];have e:(zF ch m).take at'++tI (λi=>((m.take (at'+ch)).drop at').getD i 0) ch=(zF ch m).take (at'+ch):=by
    apply Avl (by rw[Aai,htl,bZ,Al5,hlen];omega);intro k k1 k2;rw[Al5,hlen]at k2;rw[List.getElem_append,List.getElem_take];by_cases hk:k<at'
    ·rw[dif_pos (by rw[htl];exact hk),List.getElem_take]
    ·rw[dif_neg (by rw[htl];exact hk)];have hu:=wA (m:=m) ha (show k-at'<ch by omega) (by omega);rw[show at'+(k-at')=k by omega,Rg (by omega)]at hu;have hx:∀n,n<=ch->unV (λi=>((m.take (at'+ch)).drop at').getD i 0) ch n=unV (λi=>m.getD (at'+i) 0) ch n:=by
      have hf:∀i,i<ch-> ((m.take (at'+ch)).drop at').getD i 0=m.getD (at'+i) 0:=by
       intro i hi;rw[Rg (by omega),Rg (by omega)];simp
      intro n
      induction n with
      |zero=>
       intro _;rw[unV,unV,hf _ (by omega)];split
       ·rw[hf _ (by omega)]
       ·rfl
      |succ n ih=>intro hn;rw[unV,unV,ih (by omega),hf _ (by omega)]
     have hy:=rD (λi=>((m.take (at'+ch)).drop at').getD i 0) (show k-at'<ch by omega);rw[Rg (by rw[bZ];omega)]at hy;rw[hu,<-hx _ (by omega),<-hy];congr 1;rw[htl]
   rw[e];exact hrest
  ·rw[Aaa (by rw[Ae,Ac];simp;omega),Avq (by omega)];rfl
theorem Af9(ch:Nat)(m:List Int32)(h1:1<=ch)(h6:ch<=6)(hm:m.length %ch=0)(hl2:m.length<=4000):BA (ch:Int) m=some (zF ch m,0):=by
 have h:=tS ch m h1 h6 hm hl2 m.length 0 Ba (by simp) (by omega) (by omega) (by have:=Ax;omega);rw[BA,CE,An9 ch m h1 h6 hm hl2,Aa,Aaa (by rw[Ah];simp)];exact h
def pre{α:Type}(ch c:Nat)(f:α->Nat->α)(a0:α):Nat->α
 |0=>a0
 |m+1=>if m %ch=c then f (pre ch c f a0 m) m else pre ch c f a0 m
theorem Aer{α:Type}(ch c:Nat)(f:α->Nat->α)(a0:α):∀m,m<=c->c<ch->pre ch c f a0 m=a0
 |0,_,_=>rfl
 |m+1,h,h2=>by rw[pre,Aaa (by rw[Aah (by omega)];omega),Aer ch c f a0 m (by omega) h2]
theorem Z0{α:Type}(ch c i:Nat)(f:α->Nat->α)(a0:α)(hi:i %ch=c)(hc:c<ch):∀j,j<ch->pre ch c f a0 (i+1+j)=pre ch c f a0 (i+1)
 |0,_=>rfl
 |j+1,h=>by
  have hne:(i+1+j) %ch≠c:=by
   intro e;have h1:(i+(1+j)) %ch=i %ch:=by rw[hi,<-e];congr 1;omega
   have h2:(1+j) %ch=0:=by
    have h3:=Nat.sub_mod_eq_zero_of_mod_eq h1;rwa [Axk]at h3
   rw[Aah (by omega)]at h2;omega
  rw[show i+1+(j+1)=(i+1+j)+1 by omega,pre,Aaa hne,Z0 ch c i f a0 hi hc j (by omega)]
theorem Ai5{α:Type}(ch c i:Nat)(f:α->Nat->α)(a0:α)(hi:i %ch=c)(hc:c<ch):pre ch c f a0 (i+ch)=f (pre ch c f a0 i) i:=by
 have h:=Z0 ch c i f a0 hi hc (ch-1) (by omega);rw[show i+1+(ch-1)=i+ch by omega]at h;rw[h,pre,Aae hi]
abbrev CS:=Int32×List Int32×List Int32
def Ah2(bits:Int)(s:CS)(y:Int32):Int32:=y+gF (sB bits) s.2.1 s.2.2+gs (shB bits) s.1
def Adt(bits:Int)(s:CS)(y:Int32):CS:=(Ah2 bits s y,J4 s.2.1 s.2.2 y,(y+gF (sB bits) s.2.1 s.2.2)::s.2.2.take 15)
def cst(bits:Int)(ch:Nat)(t:List Int32)(v:List UInt32)(c:Nat):Nat->CS:=pre ch c (λs i=>Adt bits s (fT (v.getD i 0))) (0,t,List.replicate 16 0)
def OkC(bits:Int)(s:CS):Prop:=OkF (sB bits) s.2.1 s.2.2
theorem Aci(bits:Int)(ch:Nat){t:List Int32}(ht:t.length=16)(v:List UInt32)(c:Nat):∀m,OkC bits (cst bits ch t v c m)
 |0=>⟨Aud bits,ht,by simp[cst,pre]⟩
 |m+1=>by
  have ih:=Aci bits ch ht v c m;rw[cst,pre];split
  ·exact Aij ih _ _
  ·exact ih
def uJ(bits:Int)(ch:Nat)(t:List Int32)(v:List UInt32):List Int32:=(List.range v.length).map λi=>Ah2 bits (cst bits ch t v (i %ch) i) (fT (v.getD i 0))
theorem mC(bits:Int)(ch:Nat)(t:List Int32)(v:List UInt32):(uJ bits ch t v).length=v.length:=by simp[uJ]
theorem Aed(bits:Int)(ch:Nat)(t:List Int32)(v:List UInt32){i:Nat}(h:i<v.length):(uJ bits ch t v).getD i 0=Ah2 bits (cst bits ch t v (i %ch) i) (fT (v.getD i 0)):=by
 rw[Rg (by rw[mC];exact h)];simp[uJ]
abbrev CL:=Int×Int32×(Int×(List Int32)×(List Int32)×Unit)×Unit
def toC(bits:Int)(s:CS):CL:=(bits,s.1,(sB bits,s.2.1,s.2.2,()),())
def cts(bits:Int)(ch:Nat)(t:List Int32)(v:List UInt32)(i:Nat):List CL:=(List.range 6).map λc=>toC bits (cst bits ch t v c i)
theorem Ao2{bits:Int}{ch:Nat}{t:List Int32}{v:List UInt32}{i c:Nat}(h:c<6):Ao (cts bits ch t v i) (c:Int)=some (toC bits (cst bits ch t v c i)):=by
 rw[Ce (by simp[cts];exact h)];simp[cts]
theorem jw(bits:Int)(ch:Nat)(t:List Int32)(v:List UInt32)(c m:Nat):cst bits ch t v c (m+1)=if m %ch=c then Adt bits (cst bits ch t v c m) (fT (v.getD m 0))else cst bits ch t v c m:=rfl
theorem Aol{bits:Int}{ch:Nat}{t:List Int32}{v:List UInt32}{i c:Nat}(h:c<6)(hc:i %ch=c):Ux (cts bits ch t v i) (c:Int) (toC bits (Adt bits (cst bits ch t v c i) (fT (v.getD i 0))))=some (cts bits ch t v (i+1)):=by
 rw[FT _ (by simp[cts];exact h)];congr 1;apply Avl (by simp[cts]);intro k h1 h2;rw[Ax3];simp only[cts,Axj,Axg];by_cases hk:c=k
 ·subst hk;rw[Aae rfl,jw,Aae hc]
 ·rw[Aaa hk,jw,Aaa (by omega)]
section
variable {bits:Int} {ch:Nat} {t:List Int32} {v:List UInt32}
theorem eu(hb:Bn bits)(ht:t.length=16)(h1:1<=ch)(h6:ch<=6)(hv:v.length<=4000):∀(j i q:Nat),i+j=v.length->j<q->
  Lo v (ch:Int) bits q (i:Int) (cts bits ch t v i) ((uJ bits ch t v).take i)=Oy (ch:Int) bits (uJ bits ch t v)
 |0,i,q+1,hi,_=>by
  rw[Lo,Ox,Aaa (by rw[Ae,Ac];simp;omega),Avq (by rw[mC];omega)]
 |j+1,i,q+1,hi,hq=>by
  have hlen:=mC bits ch t v;have hc:i %ch<6:=Aqa (Aw3 _ (by omega)) h6;have hok:=Aci bits ch ht v (i %ch) i;have hs:=Aol (bits:=bits) (ch:=ch) (t:=t) (v:=v) (i:=i) hc rfl;have hx:=Aed bits ch t v (i:=i) (by omega);have hcb:=Afq hb hok (cst bits ch t v (i %ch) i).1 (fT (v.getD i 0));have ih:=eu hb ht h1 h6 hv j (i+1) q (by omega) (by omega);rw[OS (by omega),<-Rg (by omega),hx]at ih;rw[Lo,Ox,Aae (by rw[Ae,Ac];simp;omega),C9 (by omega),Aa,Cb (by rw[Ah];simp;omega),Aa,dC,Ao2 hc,Aa,Aa,Ajs,Aa];refine Awq (congrArg (λo=>Option.bind o _) hcb) ?_;rw[Aa];simp only;rw[FR,TR,Aaa (by rw[Ah];simp),dC];refine Awq (congrArg (λo=>Option.bind o _) hs) ?_;rw[Aa,Bi (by simp;omega),Aa,Aj];exact ih
theorem Ag7(hb:Bn bits)(ht:t.length=16)(h1:1<=ch)(h6:ch<=6)(hv:v.length<=4000):Yr (ch:Int) bits t v=Oy (ch:Int) bits (uJ bits ch t v):=by
 have h:=eu hb ht h1 h6 hv v.length 0 Ba (by omega) (by have:=Ax;omega);have e:Ba=(Ba-7)+1+1+1+1+1+1+1:=by have:=Ax;omega
 have hs:Vg v (ch:Int) bits t 0 (List.replicate 6 ((0:Int),(0:Int32),((0:Int),(List.replicate 16 (0:Int32)),(List.replicate 16 (0:Int32)),()),()))=GB v (ch:Int) bits (cts bits ch t v 0):=by
  rw[Vg,e];obtain rfl|rfl|rfl:=hb<;>rfl
 rw[Yr,HW,hs];exact h
theorem L7(bk:Int->List Int32->Option (List Int32))(hb:Bn bits)(ht:t.length=16)(h1:1<=ch)(h6:ch<=6)(hv:v.length<=4000)(z:List Int32)(c:Nat)(hc:c<ch):∀(j i q:Nat),i %ch=c->v.length-i<=j->i<=5000->j<q->
  Kj bk v (ch:Int) bits t (c:Int) q (i:Int) (jI (λk=>decide (k %ch<c\/ (k %ch=c/\k<i))) (uJ bits ch t v) z) bits (cst bits ch t v c i).1 (sB bits) (cst bits ch t v c i).2.1 (cst bits ch t v c i).2.2=
   bk ((c+1:Nat):Int) (jI (λk=>decide (k %ch<c+1)) (uJ bits ch t v) z)
 |j,i,q+1,hi,hj,hi5,hq=>by
  have hlen:=mC bits ch t v;rw[Kj,Oc];by_cases h:i<v.length
  ·have hok:=Aci bits ch ht v c i;have hst:=Ahe hb hok (cst bits ch t v c i).1 (fT (v.getD i 0));have hx:=Aed bits ch t v (i:=i) h;rw[hi]at hx;have ih:=L7 bk hb ht h1 h6 hv z c hc (j-1) (i+ch) q (by rw[Ax7];exact hi) (by omega) (by omega) (by omega);have Ap7:cst bits ch t v c (i+ch)=Adt bits (cst bits ch t v c i) (fT (v.getD i 0)):=Ai5 ch c i _ _ hi hc;rw[Ap7]at ih;have hset:=qZ (p:=λk=>decide (k %ch<c\/ (k %ch=c/\k<i))) (a:=uJ bits ch t v) (b:=z) (k:=i) (by omega);rw[hx]at hset;have Aab:jI (λj=>decide (j %ch<c\/ (j %ch=c/\j<i))||decide (j=i)) (uJ bits ch t v) z=jI (λk=>decide (k %ch<c\/ (k %ch=c/\k<i+ch))) (uJ bits ch t v) z:=by
    apply IL;intro k _;rw[Ahq];simp only[Atu,Aaf];constructor
    ·rintro((h1|h1)|h1)
     ·exact .inl h1
     ·exact .inr ⟨h1.1,by omega⟩
     ·subst h1;exact .inr ⟨hi,by omega⟩
    ·rintro(h1|⟨h1,h2⟩)
     ·exact .inl (.inl h1)
     ·by_cases h3:k<i
      ·exact .inl (.inr ⟨h1,h3⟩)
      ·refine .inr ?_;have h4:(i+(k-i)) %ch=i %ch:=by rw[show i+(k-i)=k by omega,h1,hi]
       have h5:=Nat.sub_mod_eq_zero_of_mod_eq h4;rw[Axk,Aah (by omega)]at h5;omega
   rw[Aab]at hset;rw[Aae (by rw[Ae,Ac];simp;omega),C9 h,Aa,Am6,Aa];refine Awq (congrArg (λo=>Option.bind o _) hst) ?_;rw[Aa];simp only;rw[Wv,Wp,ZL (by omega),Aa];refine Awq (congrArg (λo=>Option.bind o _) hset) ?_;rw[Aa,Vq,IJ,Aj];exact ih
  ·rw[Aaa (by rw[Ae,Ac];simp;omega),Vz,IY,Aj];have Aab:jI (λk=>decide (k %ch<c\/ (k %ch=c/\k<i))) (uJ bits ch t v) z=jI (λk=>decide (k %ch<c+1)) (uJ bits ch t v) z:=by
    apply IL;intro k hk;rw[Ahq];simp only[Aaf];omega
   rw[Aab];rfl
theorem N9(hb:Bn bits)(ht:t.length=16)(h1:1<=ch)(h6:ch<=6)(hv:v.length<=4000)(z:List Int32):∀(j c q:Nat),c+j=ch->j<q->
  Ff v (ch:Int) bits t q (c:Int) (jI (λk=>decide (k %ch<c)) (uJ bits ch t v) z)=Nx (ch:Int) bits (uJ bits ch t v)
 |0,c,q+1,hc,_=>by
  rw[Ff,Ny,Aaa (by rw[Ae];simp;omega),qS (λk hk=>by have:=Aw3 k (show 0<ch by omega);simp;omega)]
 |j+1,c,q+1,hc,hq=>by
  have ih:=N9 hb ht h1 h6 hv z j (c+1) q (by omega) (by omega);have hin:=L7 (Ff v (ch:Int) bits t q) hb ht h1 h6 hv z c (by omega) v.length c Ba (Aah (by omega)) (by omega) (by omega) (by have:=Ax;omega);have h0:cst bits ch t v c c=(0,t,List.replicate 16 0):=Aer ch c _ _ c (Alw _) (by omega);rw[h0]at hin;have Aab:jI (λk=>decide (k %ch<c\/ (k %ch=c/\k<c))) (uJ bits ch t v) z=jI (λk=>decide (k %ch<c)) (uJ bits ch t v) z:=by
   apply IL;intro k hk;have:=Nat.mod_le k ch;rw[Ahq];simp only[Aaf];omega
  rw[Aab]at hin;rw[Ff,Ny,Aae (by rw[Ae];simp;omega),Au6 hb,Aa];simp only;rw[Wq];exact Awq hin ih
theorem Agn(hb:Bn bits)(ht:t.length=16)(h1:1<=ch)(h6:ch<=6)(hv:v.length<=4000)(hm:v.length %ch=0):Lr (ch:Int) bits t v=some (zF ch (uJ bits ch t v)):=by
 have hlen:=mC bits ch t v;have h:=N9 hb ht h1 h6 hv (List.replicate v.length 0) ch 0 Ba (by omega) (by have:=Ax;omega);rw[pG (by rw[hlen];simp) (λk _=>by simp)]at h;rw[Lr,Xk,Ac,uT,Aa,Cb (by rw[Aq];simp),Aa,Wy];refine Awq h ?_;rw[Nx,IV,Af9 ch _ h1 h6 (by rw[hlen];exact hm) (by omega),Aa]
end
def hB(bits:Int):Int:=if bits=8 then 128 else if bits=16 then 32768 else 8388608
theorem yD{bits:Int}(h:Bn bits):Ua bits=some (Int32.ofInt (-(hB bits)),Int32.ofInt (hB bits-1),0):=by
 obtain rfl|rfl|rfl:=h<;>decide
theorem TP{bits:Int}(h:Bn bits):Ik bits=some (hB bits):=by
 obtain rfl|rfl|rfl:=h<;>rfl
theorem OO(bits:Int):0<hB bits/\hB bits<=8388608:=by
 unfold hB;split; · omega
 ·split<;>omega
theorem zH{bits:Int}(h:Bn bits)(l:List Int32)(hl:l.length<=4000):∀(j i q:Nat),i+j=l.length->j<q->
  Wb (Int32.ofInt (-(hB bits))) (Int32.ofInt (hB bits-1)) l q (i:Int)=Bb l (hB bits) q (i:Int)
 |0,i,q+1,hi,_=>by
  rw[Wb,JV,Bb,Cx,Aaa (by rw[Ae,Ac];simp;omega),Aaa (by rw[Ae,Ac];simp;omega)];rfl
 |j+1,i,q+1,hi,hq=>by
  have hh:=OO bits;have ih:=zH h l hl j (i+1) q (by omega) (by omega);have e1:(Int32.ofInt (-(hB bits))).toInt= -(hB bits):=by rw[Av2,Ax8 (by show -(4294967296/2:Int)<= _;omega) (by show _<(4294967296+1)/2;omega)]
  have e2:(Int32.ofInt (hB bits-1)).toInt=hB bits-1:=by rw[Av2,Ax8 (by show -(4294967296/2:Int)<= _;omega) (by show _<(4294967296+1)/2;omega)]
  rw[Wb,JV,Bb,Cx,Aae (by rw[Ae,Ac];simp;omega),Aae (by rw[Ae,Ac];simp;omega),g32 (by omega),Aa,Aa,Aa,Gb,S3,Db (by omega) (by omega),Aj,T4,Abb,e1,e2,Ae,Ej];generalize(l.getD i 0).toInt=X;by_cases h1:X< -(hB bits)
  ·rw[Aae (by simp;omega),Aae (by simp;omega)]
  ·rw[Aaa (c:=decide (X<0-hB bits)=true) (by simp;omega)];by_cases h2:hB bits<=X
   ·rw[Aae (by simp;omega),Aae (by simp;omega)]
   ·rw[Aaa (by simp;omega),Aaa (by simp;omega)];exact ih
theorem oJ{bits:Int}(h:Bn bits)(l:List Int32)(hl:l.length<=4000):IQ bits l=Ay bits l:=by
 have hh:=OO bits;rw[IQ,XI,yD h,Aa,Ay,Dn,TP h,Aa];simp only;rw[Aaa (by rw[Ah];simp),Aaa (by rw[Ap,Ac];simp;omega),Aaa (by rw[Aq];simp;omega),Aaa (by rw[Ap,Ac];simp;omega)];exact zH h l hl l.length 0 Ba (by omega) (by have:=Ax;omega)
theorem Acm{bits:Int}(h:Bn bits)(l:List Int32)(hl:l.length<=4000):∃e,Ay bits l=some e:=by
 have hh:=OO bits;have key:∀(j i q:Nat),i+j=l.length->j<q->∃e,Bb l (hB bits) q (i:Int)=some e:=by
  intro j
  induction j with
  |zero=>
   intro i q hi hq;obtain⟨q,rfl⟩:∃k,q=k+1:=⟨q-1,by omega⟩;rw[Bb,Cx,Aaa (by rw[Ae,Ac];simp;omega)];exact⟨_,rfl⟩
  |succ j ih=>
   intro i q hi hq;obtain⟨q,rfl⟩:∃k,q=k+1:=⟨q-1,by omega⟩;rw[Bb,Cx,Aae (by rw[Ae,Ac];simp;omega),g32 (by omega),Aa,Aa,Aj];split
   ·exact⟨_,rfl⟩
   ·split
    ·exact⟨_,rfl⟩
    ·exact ih (i+1) q (by omega) (by omega)
 obtain⟨e,he⟩:=key l.length 0 Ba (by omega) (by have:=Ax;omega);rw[Ay,Dn,TP h,Aa,Aaa (by rw[Aq];simp;omega),Aaa (by rw[Ap,Ac];simp;omega)];exact⟨e,he⟩
theorem qF{bits:Int}{ch:Nat}{t:List Int32}{v:List UInt32}(hb:Bn bits)(ht:t.length=16)(h1:1<=ch)(h6:ch<=6)(hv:v.length<=4000)(hm:v.length %ch=0):
  ∃l e,Lr (ch:Int) bits t v=some l/\Ph (ch:Int) bits l=some (if e≠0 then([],e)else(l,0))/\Yr (ch:Int) bits t v=some (if e≠0 then([],e)else(l,0))/\Ay bits l=some e/\l.length=v.length:=by
 have hlen:=mC bits ch t v;have hul:=lV ch (uJ bits ch t v);obtain⟨e,he⟩:=Acm hb (zF ch (uJ bits ch t v)) (by omega);refine⟨zF ch (uJ bits ch t v),e,Agn hb ht h1 h6 hv hm,?_,?_,he,by omega⟩
 ·rw[Ph,he,Aa];by_cases h:e=0
  ·rw[Aaa (by rw[Ah];simpa using h),Aaa (by simpa using h)]
  ·rw[Aae (by rw[Ah];simpa using h),Aae h]
 ·rw[Ag7 hb ht h1 h6 hv,Oy,TL,Anc ch _ h1 h6 (by rw[hlen];exact hm) (by omega),Aa];simp only;rw[Aaa (by rw[Ah];simp),oJ hb _ (by omega),he,Aa];by_cases h:e=0
  ·rw[Aaa (by rw[Ah];simpa using h),Aaa (by simpa using h)]
  ·rw[Aae (by rw[Ah];simpa using h),Aae h]
def jD(s:Nat):Nat:=(s/2)^^^ (if s %2=1 then 3988292384 else 0)
theorem C6{s:Nat}(h:s<4294967296):jD s<4294967296:=by
 unfold jD;exact Avc (n:=32) (by simp;omega) (by split<;>decide)
theorem og(x y:Nat):(x^^^y)/2=(x/2)^^^ (y/2):=by
 have:=Nat.shiftRight_xor_distrib (a:=x) (b:=y) (i:=1);simpa [Nat.shiftRight_eq_div_pow]using this
theorem Agd(x y:Nat):jD (x^^^y)=jD x^^^jD y:=by
 have h:(x^^^y) %2=(x %2+y %2) %2:=by
  have:=Nat.xor_mod_two_eq_one (a:=x) (b:=y);have h1:(x^^^y) %2<2:=Aw3 _ (by omega);omega
 simp only[jD,og,h];have hx:x %2=0\/x %2=1:=by omega
 have hy:y %2=0\/y %2=1:=by omega
 rcases hx with hx|hx<;>rcases hy with hy|hy<;>simp only[hx,hy]<;>simp
 ·rw[Avs]
 ·rw[Avs,Ayf (y/2),Avs,Ayf 3988292384 (y/2)]
 ·rw[Avs,Ayf 3988292384,Avs,Nat.xor_self];simp
def FE:Nat->Nat->Nat
 |0,s=>s
 |k+1,s=>FE k (jD s)
theorem N3:∀(k x y:Nat),FE k (x^^^y)=FE k x^^^FE k y
 |0,_,_=>rfl
 |k+1,x,y=>by rw[FE,Agd,N3 k];rfl
theorem K4:∀(k h:Nat),FE k (2^k*h)=h
 |0,h=>by simp[FE]
 |k+1,h=>by
  have:jD (2^(k+1)*h)=2^k*h:=by
   rw[As2,Aql (2^k) 2,Av3,jD,Aaa (by omega),Nat.mul_div_cancel_left _ (by omega)];simp
  rw[FE,this,K4 k]
theorem xJ:∀(k:Nat) {s:Nat},s<4294967296->FE k s<4294967296
 |0,_,h=>h
 |k+1,_,h=>xJ k (C6 h)
def uI(s c:Nat):Nat:=FE 8 (s^^^c)
theorem xG{s c:Nat}(h:s<4294967296)(hc:c<256):uI s c<4294967296:=xJ 8 (Avc (n:=32) (by simpa using h) (by simp;omega))
theorem ny{s c:Nat}(hc:c<256):uI s c=(s/256)^^^FE 8 ((s %256)^^^c):=by
 have h:s=(2^8*(s/256))^^^ (s %256):=by
  have h1:s %256<2^8:=by simpa using Aw3 s (by omega:256>0)
  have:=Atc h1 (s/256);have h2:2^8*(s/256)|||s %256=(2^8*(s/256))^^^ (s %256):=by
   apply Nat.eq_of_testBit_eq;intro i;rw[Nat.testBit_or,Nat.testBit_xor];by_cases hi:i<8
   ·have:(2^8*(s/256)).testBit i=false:=by rw[Nat.testBit_two_pow_mul];simp;omega
    rw[this];simp
   ·have:(s %256).testBit i=false:=Nat.testBit_lt_two_pow (Aqa h1 (Ae0 (by omega) (by omega)));rw[this];simp
  omega
 rw[uI]
 conv=>lhs;rw[h]
 rw[Avs,N3,K4]
def Afr(s:Nat)(l:List UInt8):Nat:=l.foldl (λs c=>uI s c.toNat) s
def Jl(b:List UInt8):UInt32:=4294967295-UInt32.ofNat (Afr 4294967295 b)
theorem Am2(s:UInt32)(c:Nat)(hc:c<256):BK s (Ad (JJ (UInt8.ofNat c) (2:UInt8)):Int)=some (UInt32.ofNat (s.toNat/2^^^ (if(s.toNat^^^c) %2=1 then 3988292384 else 0))):=by
 have h1:(Ad (JJ (UInt8.ofNat c) (2:UInt8)):Int)=((c %2:Nat):Int):=by
  rw[OU,Aop,UInt8.toNat_mod,Aph];show((c %256 %2:Nat):Int)=_;omega
 have h2:geq (JJ s (2:UInt32)) (1:UInt32)=decide (s.toNat %2=1):=by
  rw[S0,jf,Ahq];simp only[Asc,Aaf];rw[<-UInt32.toNat_inj,UInt32.toNat_mod];rfl
 have h3:By s (2:UInt32)=UInt32.ofNat (s.toNat/2):=by
  apply UInt32.toNat_inj.1;rw[jv,UInt32.toNat_div,Al8]
  show s.toNat/2=_;have:=s.toNat_lt;omega
 have h4:GQ (By s (2:UInt32)) (3988292384:UInt32)=UInt32.ofNat (s.toNat/2^^^3988292384):=by
  apply UInt32.toNat_inj.1;rw[h3,pD,UInt32.toNat_xor,Al8,Al8];have:=s.toNat_lt;rw[Aah (a:=s.toNat/2) (by omega),Aah]
  ·rfl
  ·exact Avc (n:=32) (by omega) (by decide)
 have hx:(s.toNat^^^c) %2=(s.toNat %2+c %2) %2:=by
  have:=Nat.xor_mod_two_eq_one (a:=s.toNat) (b:=c);have h1:(s.toNat^^^c) %2<2:=Aw3 _ (by omega);omega
 have hs:s.toNat %2=0\/s.toNat %2=1:=by omega
 have hc2:c %2=0\/c %2=1:=by omega
 rw[BK,BP,h1,h2,hx];rcases hs with hs|hs<;>rcases hc2 with hc2|hc2<;>simp[hs,hc2,Aq,CG,RJ,pD,h3]
theorem tX:∀(j i q:Nat) (s:UInt32) (c:Nat),i+j=8->j<q->c<2^j->Ka q s (UInt8.ofNat c) (i:Int)=some (UInt32.ofNat (FE j (s.toNat^^^c)))
 |0,i,q+1,s,c,hi,_,hc=>by
  obtain rfl:i=8:=by omega
  obtain rfl:c=0:=by simpa using hc
  rw[Ka,Tw,Aaa (by rw[Ae];simp),DX,RV,FE];simp
 |j+1,i,q+1,s,c,hi,hq,hc=>by
  have hc8:c<256:=Aqa hc (show 2^(j+1)<=2^8 from Ae0 (by omega) (by omega));rw[Ka,Tw,Aae (by rw[Ae];simp;omega),Am2 s c hc8,Aa,Aj];have e:By (UInt8.ofNat c) (2:UInt8)=UInt8.ofNat (c/2):=by
   apply UInt8.toNat_inj.1;rw[Aoa,UInt8.toNat_div,Aph,Aph]
   show c %256/2=_;omega
  rw[e];have h:=tX j (i+1) q (UInt32.ofNat (s.toNat/2^^^ (if(s.toNat^^^c) %2=1 then 3988292384 else 0))) (c/2) (by omega) (by omega) (by rw[As2]at hc;omega);rw[show((i:Int)+1)=((i+1:Nat):Int) by omega,h,Al8,FE];congr 3;have:=s.toNat_lt;rw[Aah,jD,og,Avs,Avs,Ayf (c/2)];exact Avc (n:=32) (by omega) (by split<;>decide)
theorem An6(s:UInt32)(c:UInt8):MB s c=some (UInt32.ofNat (uI s.toNat c.toNat)):=by
 have h:=tX 8 0 Ba s c.toNat (by omega) (by have:=Ax;omega) (by simpa using c.toNat_lt);rw[UInt8.ofNat_toNat]at h;exact h
theorem mY(b:List UInt8)(hb:b.length<4611686018427387904):∀(j i q:Nat) (s:UInt32),i+j=b.length->j<q->Hv b q s (i:Int)=some (UInt32.ofNat (Afr s.toNat (b.drop i)))
 |0,i,q+1,s,hi,_=>by
  rw[Hv,Pn,Aaa (by rw[Ae,Ac];simp;omega),show i=b.length by omega,Axa];simp[Ym,KT,Afr]
 |j+1,i,q+1,s,hi,hq=>by
  have hlt:i<b.length:=by omega
  rw[Hv,Pn,Aae (by rw[Ae,Ac];simp;omega),Ce hlt,Aa,An6,Aa,Aj];have h:=mY b hb j (i+1) q (UInt32.ofNat (uI s.toNat b[i].toNat)) (by omega) (by omega);rw[show((i:Int)+1)=((i+1:Nat):Int) by omega,h,drop_cons hlt,Al8,Aah (xG s.toNat_lt b[i].toNat_lt)];rfl
theorem Ah6(b:List UInt8)(hb:b.length<4611686018427387904):Sk b=some (Jl b):=by
 have h:=mY b hb b.length 0 Ba 4294967295 (by omega) (by have:=Ax;omega);rw[Sk,FH,Xn,Xw,show((0:Int))=((0:Nat):Int)from rfl,h,Aa,jo];rfl
theorem Aor(c:UInt32):GQ (Ea c (GI.toZ (1:UInt64)).toNat) (Bm (3988292384:UInt32) (Kr c (1:UInt32)))=UInt32.ofNat (jD c.toNat):=by
 apply UInt32.toNat_inj.1;have e:(GI.toZ (1:UInt64)).toNat=1:=rfl;have h1:(Ea c 1).toNat=c.toNat/2:=by rw[bK]
 have h2:(Bm (3988292384:UInt32) (Kr c (1:UInt32))).toNat=if c.toNat %2=1 then 3988292384 else 0:=by
  rw[Ak1,mo,UInt32.toNat_mul,UInt32.toNat_and]
  show 3988292384*(c.toNat&&&1) %4294967296=_;rw[Nat.and_one_is_mod];have:c.toNat %2=0\/c.toNat %2=1:=by omega
  rcases this with h|h<;>simp[h]
 rw[e,pD,UInt32.toNat_xor,h1,h2,Al8,Aah (C6 c.toNat_lt)];rfl
theorem Z8(Hp:Int->List UInt32->Option (UInt32×Int))(s:UInt32)(b:List UInt8)(x:Int)(t:List UInt32):∀(j i q:Nat) (c:UInt32),i+j=8->j<q->
  Vy Hp s b x t q c (i:Int)=KO Hp s b x (UInt32.ofNat (FE j c.toNat)) t
 |0,i,q+1,c,hi,_=>by
  obtain rfl:i=8:=by omega
  rw[Vy,KE,Aaa (by rw[Ae];simp),FE,UInt32.ofNat_toNat]
 |j+1,i,q+1,c,hi,hq=>by
  rw[Vy,KE,Aae (by rw[Ae];simp;omega),Aor,Aj,show((i:Int)+1)=((i+1:Nat):Int) by omega,Z8 Hp s b x t j (i+1) q _ (by omega) (by omega),Al8,Aah (C6 c.toNat_lt)];rfl
def tbl(n:Nat):List UInt32:=(List.range n).map λi=>UInt32.ofNat (FE 8 i)
theorem Aet(s:UInt32)(b:List UInt8):∀(j i q:Nat),i+j=256->j<q->Qm s b q (i:Int) (tbl i++List.replicate j 0)=KQ s b (tbl 256)
 |0,i,q+1,hi,_=>by
  obtain rfl:i=256:=by omega
  rw[Qm,ME,Aaa (by rw[Ae];simp)];simp
 |j+1,i,q+1,hi,hq=>by
  have hlen:(tbl i++List.replicate (j+1) 0).length=i+(j+1):=by simp[tbl]
  rw[Qm,ME,Aae (by rw[Ae];simp;omega),VJ];have h:=Z8 (Qm s b q) s b (i:Int) (tbl i++List.replicate (j+1) 0) 8 0 Ba (Ad (i:Int)) (by omega) (by have:=Ax;omega);rw[show((0:Int))=((0:Nat):Int)from rfl,h,KO,WR,Ce (by rw[hlen];omega),Aa,FT _ (by rw[hlen];omega),Aa,XY,iH,Aj];have e:(Ad (i:Int):UInt32).toNat=i:=by rw[O7,Al8,Aah (by omega)]
  rw[e,Avu,lH (by simp[tbl])];have h2:=Aet s b j (i+1) q (by omega) (by omega);have h3:tbl (i+1)=tbl i++[UInt32.ofNat (FE 8 i)]:=by simp[tbl,List.range_succ]
  rw[h3]at h2;rw[show((i:Int)+1)=((i+1:Nat):Int) by omega,<-h2];simp
theorem Ank{i:Nat}(h:i<256):Ao (tbl 256) (i:Int)=some (UInt32.ofNat (FE 8 i)):=by
 rw[Ce (by simpa [tbl]using h)];simp[tbl]
theorem Alg(s:UInt32)(c:UInt8):Ao (tbl 256) (GI.toZ (GQ (Ad s:UInt8) c))=some (UInt32.ofNat (FE 8 ((s.toNat %256)^^^c.toNat))):=by
 have e:GI.toZ (GQ (Ad s:UInt8) c)=(((s.toNat %256)^^^c.toNat:Nat):Int):=by
  rw[IB,Ac3,UInt8.toNat_xor,oH,Aph]
 rw[e,Ank];exact Avc (n:=8) (by simp;omega) (by simpa using c.toNat_lt)
theorem Aga(s:UInt32)(c:UInt8):GQ (Ea s (GI.toZ (8:UInt64)).toNat) (UInt32.ofNat (FE 8 ((s.toNat %256)^^^c.toNat)))=UInt32.ofNat (uI s.toNat c.toNat):=by
 apply UInt32.toNat_inj.1;have hlt:FE 8 ((s.toNat %256)^^^c.toNat)<4294967296:=xJ 8 (Avc (n:=32) (by simp;omega) (by have:=c.toNat_lt;simp;omega));have e:(GI.toZ (8:UInt64)).toNat=8:=rfl;rw[e,pD,UInt32.toNat_xor,bK,Al8,Al8,Aah hlt,Aah (xG s.toNat_lt c.toNat_lt),ny c.toNat_lt]
theorem uj(b:List UInt8)(hb:b.length<4611686018427387904):∀(j i q:Nat) (s:UInt32),i+j=b.length->j<q->Wh b (tbl 256) q s (i:Int)=some (UInt32.ofNat (Afr s.toNat (b.drop i)),0)
 |0,i,q+1,s,hi,_=>by
  rw[Wh,MC,Aaa (by rw[Ae,Ac];simp;omega),show i=b.length by omega,Axa];simp[VV,iS,Afr]
 |j+1,i,q+1,s,hi,hq=>by
  have hlt:i<b.length:=by omega
  rw[Wh,MC,Aae (by rw[Ae,Ac];simp;omega),Ce hlt,Aa,Alg,Aa,Aa,Aga,Aj];have h:=uj b hb j (i+1) q (UInt32.ofNat (uI s.toNat b[i].toNat)) (by omega) (by omega);rw[show((i:Int)+1)=((i+1:Nat):Int) by omega,h,drop_cons hlt,Al8,Aah (xG s.toNat_lt b[i].toNat_lt)];rfl
theorem Amy(s:UInt32)(b:List UInt8)(hb:b.length<=100000):fJ s b=some (UInt32.ofNat (Afr s.toNat b),0):=by
 have h:=Aet s b 256 0 Ba (by omega) (by have:=Ax;omega);have h2:=uj b (by omega) b.length 0 Ba s (by omega) (by have:=Ax;omega);rw[fJ,aH,Aaa (by rw[Ap,Ac];simp;omega),VR];refine Awq h ?_;rw[KQ,VX,VZ,WI,WU];exact h2
theorem Aiy(a:UInt32):zZ a=4294967295-a:=by
 have h:=a.toNat_lt;have e:zZ a=UInt32.ofNat (BitVec.ofInt 32 4294967295^^^BitVec.ofInt 32 (a.toNat:Int)).toNat:=Gc _;apply UInt32.toNat_inj.1;rw[e,Al8,UInt32.toNat_sub_of_le _ _ (by rw[UInt32.le_iff_toNat_le];show a.toNat<=4294967295;omega)];have h1:BitVec.ofInt 32 (a.toNat:Int)=a.toBitVec:=V5 a;have h2:(BitVec.ofInt 32 4294967295:BitVec 32)=BitVec.allOnes 32:=by decide
 rw[h1,h2,BitVec.allOnes_xor,BitVec.toNat_not];show(4294967296-1-a.toNat) %4294967296=4294967295-a.toNat;omega
theorem Abh(b:List UInt8)(hb:b.length<=100000):OR b=some (Jl b,0):=by
 rw[OR,Amy _ _ hb,Aa];simp only[Ah,Aiy];rfl
theorem Acx:∀{l m:List UInt8},l.length=m.length->Fy l=Fy m->l=m
 |[],[],_,_=>rfl
 |x::l,y::m,h,e=>by
  simp only[Fy]at e;have hx:=x.toNat_lt;have hy:=y.toNat_lt;have h1:x=y:=UInt8.toNat_inj.1 (by omega);rw[h1,Acx (l:=l) (m:=m) (by simpa using h) (by omega)]
theorem U3:∀(w n:Nat),Fy (Xa n w)=n %256^w
 |0,n=>by simp[Xa,Fy,Nat.mod_one]
 |w+1,n=>by
  rw[Xa,Fy,U3 w (n/256),Aph,show(256:Nat)^(w+1)=256*256^w by rw[As2,Aql],Nat.mod_mul]
def AW(b:List UInt8):Int:=
 if b.length<5 then 24 else if 41254<b.length then 4 else if(Jl (b.take (b.length-4))).toNat≠Fy (b.drop (b.length-4))then 22 else 0
theorem su(b:List UInt8):KZ b=some (if AW b≠0 then([],AW b)else(b.take (b.length-4),0)):=by
 rw[KZ];by_cases h1:b.length<5
 ·have hS:AW b=24:=by rw[AW,Aae h1]
  rw[Aae (by rw[Ae,Ac];simp;omega),hS];rfl
 rw[Aaa (by rw[Ae,Ac];simp;omega)];by_cases h2:41254<b.length
 ·have hS:AW b=4:=by rw[AW,Aaa h1,Aae h2]
  rw[Aae (by rw[Ap,Ac];simp;omega),hS];rfl
 have e4:Au (Ac b) 4=((b.length-4:Nat):Int):=by rw[Ac,Bw];omega
 have hd:(b.drop (b.length-4)).length=4:=by simp;omega
 rw[Aaa (by rw[Ap,Ac];simp;omega),e4,Dr,Aa,show((b.length-4:Nat):Int).toNat=b.length-4 from rfl,Abh _ (by simp;omega),Aa];simp only;rw[Aaa (by rw[Ah];simp),Cg,Aa,show((b.length-4:Nat):Int).toNat=b.length-4 from rfl,wu _ (by omega) (by omega),Aa];have hne:Bq (mZ (b.drop (b.length-4))) (Ad (Jl (b.take (b.length-4))):UInt64)=decide ((Jl (b.take (b.length-4))).toNat≠Fy (b.drop (b.length-4))):=by
  have hlt:=(Jl (b.take (b.length-4))).toNat_lt;rw[UH,Ahq];simp only[Axu,ne_eq,<-Axi,Aaf];rw[ZQ (by omega),Lz,Ad3,Aah (by omega)];exact⟨λh e=>h e.symm,λh e=>h e.symm⟩
 simp only;rw[hne,Aa];by_cases h3:(Jl (b.take (b.length-4))).toNat≠Fy (b.drop (b.length-4))
 ·have hS:AW b=22:=by rw[AW,Aaa h1,Aaa h2,Aae h3]
  rw[Aae (by simp[h3]),hS];rfl
 ·have hS:AW b=0:=by rw[AW,Aaa h1,Aaa h2,Aaa h3]
  rw[Aaa (by rw[Ats h3];decide),hS];rfl
theorem Agh(b:List UInt8)(hb:b.length<=1000000):Vd b=some (b++Xa (Jl b).toNat 4):=by
 have h:∀k:Nat,(Ad (Ea (Jl b) k):UInt8)=UInt8.ofNat ((Jl b).toNat/2^k):=by
  intro k;rw[oH,bK]
 have h0:(Ad (Jl b):UInt8)=UInt8.ofNat (Jl b).toNat:=oH _;have h1:=h 8;have h2:=h 16;have h3:=h 24;rw[Vd,Ah6 b (by omega),Aa,Bi (by simp;omega),Aa,Bi (by simp;omega),Aa,h0,show(GI.toZ (8:UInt64)).toNat=8 from rfl,show(GI.toZ (16:UInt64)).toNat=16 from rfl,show(GI.toZ (24:UInt64)).toNat=24 from rfl,h1,h2,h3];simp only[Xa,Axc,Apz]
theorem yA(b:List UInt8):Pb b=some (AW b):=by
 rw[Pb];by_cases h1:b.length<5
 ·rw[Aae (by rw[Ae,Ac];simp;omega),AW,Aae h1]
 rw[Aaa (by rw[Ae,Ac];simp;omega)];by_cases h2:41254<b.length
 ·rw[Aae (by rw[Ap,Ac];simp;omega),AW,Aaa h1,Aae h2]
 have e4:Au (Ac b) 4=((b.length-4:Nat):Int):=by rw[Ac,Bw];omega
 have hd:(b.drop (b.length-4)).length=4:=by simp;omega
 rw[Aaa (by rw[Ap,Ac];simp;omega),e4,Dr,Aa,show((b.length-4:Nat):Int).toNat=b.length-4 from rfl,Agh _ (by simp;omega),Aa];have hlt:=(Jl (b.take (b.length-4))).toNat_lt;have hiff:(b.take (b.length-4)++Xa (Jl (b.take (b.length-4))).toNat 4 !=b)=decide ((Jl (b.take (b.length-4))).toNat≠Fy (b.drop (b.length-4))):=by
  rw[Ahq];simp only[Axu,ne_eq,Aaf];constructor
  ·intro h e;apply h;have:Xa (Jl (b.take (b.length-4))).toNat 4=b.drop (b.length-4):=Acx (by rw[Ch,hd]) (by rw[U3,Aah (by omega),e]);rw[this,List.take_append_drop]
  ·intro h e;apply h;have hx:Xa (Jl (b.take (b.length-4))).toNat 4=b.drop (b.length-4):=by
    have e2:b.take (b.length-4)++Xa (Jl (b.take (b.length-4))).toNat 4=b.take (b.length-4)++b.drop (b.length-4):=by rw[e,List.take_append_drop]
    exact List.append_cancel_left e2
   rw[<-hx,U3,Aah (by omega)]
 rw[hiff];by_cases h3:(Jl (b.take (b.length-4))).toNat≠Fy (b.drop (b.length-4))
 ·rw[Aae (by simp[h3]),AW,Aaa h1,Aaa h2,Aae h3]
 ·rw[Aaa (by rw[Ats h3];decide),AW,Aaa h1,Aaa h2,Aaa h3]
theorem yw{b:List UInt8}(h:AW b=0):5<=b.length/\b.length<=41254:=by
 unfold AW at h;split at h
 ·simp at h
 ·split at h
  ·simp at h
  ·omega
theorem vI{c:Nat}(h1:1<=c)(h6:c<=6):By (4000:Int) (c:Int)=((4000/c:Nat):Int):=by
 have:c=1\/c=2\/c=3\/c=4\/c=5\/c=6:=by omega
 rcases this with rfl|rfl|rfl|rfl|rfl|rfl<;>rfl
theorem Ami(p:List UInt8)(h:p.length<=41250):okB p (8*p.length):=⟨by omega,by omega,λk h1 h2=>by omega⟩
theorem RD{bits:Int}{ch n:Nat}{t:List Int32}(b:List UInt8)(hb:Bn bits)(ht:t.length=16)(h1:1<=ch)(h6:ch<=6)(n1:1<=n)(n2:n<=4000/ch):
  ∃l e,Qj (ch:Int) bits t (n:Int) b=some (l,e)/\Ef (ch:Int) bits t (n:Int) b=some (l,e)/\ (e=0->Ay bits l=some 0/\l.length<=4000/\l.length=n*ch)/\ (e≠0->l=[]):=by
 have hn:n*ch<=4000:=by
  have:=Ab5 ch n2;have h2:=Atd 4000 ch;omega
 have hq4:=vI h1 h6;generalize 4000/ch=mm at*
 have hck:Jg (ch:Int) bits=some 0:=by
  have hr:∃x y,Ua bits=some (x,y,0):=⟨_,_,yD hb⟩;obtain⟨x,y,hr⟩:=hr;rw[Jg,hr,Aa];simp only;rw[Aaa (by simp[Ah,Ae,Ap];omega)]
 have hh:=OO bits;have Acs:Ed (ch:Int) bits (n:Int)=some 0:=by
  rw[Ed,Di,Aaa (by simp[Ae,Ap];omega),TP hb,Aa,Aaa (by rw[Aq];simp;omega),Aa,Aaa (by simp[Ah,Ae];omega),Cb (by rw[Ah];simp;omega),Aa,hq4,Aaa (by rw[Ap];simp;omega)]
 rw[Qj,Ef,Pz,hck,Acs,Aa,Aa,Aaa (by rw[Ah];simp),Aaa (by rw[Ae];simp;omega),Cb (by rw[Ah];simp;omega),Aa,hq4,Aaa (by rw[Ap];simp;omega),Aaa (by rw[Ah];simp),su,yA];by_cases hs:AW b≠0
 ·rw[Aae hs];simp only[Aa];rw[Aae (by rw[Ah];simpa using hs),Aae (by rw[Ah];simpa using hs)];exact⟨[],AW b,rfl,rfl,λe=>absurd e hs,λ_=>rfl⟩
 have hs0:AW b=0:=by simpa using hs
 have hlen:=yw hs0;have e4:Au (Ac b) 4=((b.length-4:Nat):Int):=by rw[Ac,Bw];omega
 rw[Aaa hs,hs0];simp only[Aa];rw[Aaa (by rw[Ah];simp),Aaa (by rw[Ah];simp),e4,Dr,Aa,show((b.length-4:Nat):Int).toNat=b.length-4 from rfl];have hpl:(b.take (b.length-4)).length=b.length-4:=by simp
 generalize b.take (b.length-4)=p at*
 have e8:Bm (8:Int) (Ac p)=((8*p.length:Nat):Int):=by rw[Ac,Hi];omega
 have hp:=Ami p (by omega);have hv:=values_eq hp h1 h6 hn;have hr:=Ads (N:=8*p.length) (p:=p) rfl (by omega) h1 h6 hn;have hat:=vO (ch:=ch) (p:=p) (N:=8*p.length) (n*ch) 0 [] (by omega);rw[V7,Aaa (by rw[Ap,Ac];simp;omega),Lm,Bi (by simp;omega),Aa,Aa,Aa,Apz,e8];simp only;rw[Aaa (by rw[Ah];simp),hv,hr,Aa,Aa];generalize FC ch p (8*p.length) (n*ch) 0 []=V at*
 obtain⟨v,at',e⟩:=V;simp only at*
 by_cases he:e≠0
 ·rw[Aae he,Aae he];simp only;rw[Aae (by rw[Ah];simpa using he),Hs,Fv,Aae (by rw[Ah];simpa using he)];exact⟨[],e,rfl,rfl,λh=>absurd h he,λ_=>rfl⟩
 have he0:e=0:=by simpa using he
 have hvl:=hat.2.2 he0;simp only[List.length_nil,Avg]at hvl;rw[Aaa he,Aaa he];simp only;rw[Aaa (by rw[Ah];simp),Bw,show((8*p.length:Nat):Int)-(at':Int)=((8*p.length-at':Nat):Int) by omega,Hs,Fv];by_cases h7:7<8*p.length-at'
 ·have hE:(if 7<8*p.length-at'\/Dm p at' (8*p.length-at')≠0 then(12:Int)else 0)=12:=Aae (.inl h7);rw[Aae (by rw[Ej];simp;omega),hE,Aae (by decide)];exact⟨[],12,rfl,rfl,λh=>absurd h (by decide),λ_=>rfl⟩
 rw[Aaa (by rw[Ej];simp;omega),tJ hp at' _ (by omega),Aaa (by omega),Aa];have hz:Bq (BY p at' (8*p.length-at')) (0:UInt64)=decide (Dm p at' (8*p.length-at')≠0):=by
  rw[UH,Ahq];simp only[Axu,ne_eq,<-Axi,Aaf];rw[MO p _ _ (by omega)];rfl
 simp only;rw[hz];by_cases hv0:Dm p at' (8*p.length-at')≠0
 ·have hE:(if 7<8*p.length-at'\/Dm p at' (8*p.length-at')≠0 then(12:Int)else 0)=12:=Aae (.inr hv0);rw[Aae (by simp[hv0]),hE,Aae (by decide)];exact⟨[],12,rfl,rfl,λh=>absurd h (by decide),λ_=>rfl⟩
 have hm:v.length %ch=0:=by rw[hvl];exact Avp n ch
 obtain⟨l,e,g1,g2,g3,g4,g5⟩:=qF (v:=v) hb ht h1 h6 (by omega) hm;have hE:(if 7<8*p.length-at'\/Dm p at' (8*p.length-at')≠0 then(12:Int)else 0)=0:=Aaa (by omega);rw[Aaa (by rw[Ats hv0];decide),hE,Aaa (by decide),g1,g3,Aa,Aa,g2];by_cases hl:e≠0
 ·rw[Aae hl];exact⟨[],e,rfl,rfl,λh=>absurd h hl,λ_=>rfl⟩
 ·rw[Aaa hl];have hl0:e=0:=by simpa using hl
  exact⟨l,0,rfl,rfl,λ_=>⟨by rw[g4,hl0],by omega,by omega⟩,λe=>absurd rfl e⟩
def mxV(f:Nat->Int32)(ch i:Nat):Int32:=if i+1<ch then f (i+1)-f i else if 1<ch then f (ch-1)-By (f (ch-1)-f (ch-2)) (2:Int32)else f (ch-1)
def mx(ch:Nat)(x:List Int32):List Int32:=(List.range x.length).map λk=>mxV (λi=>x.getD (k-k %ch+i) 0) ch (k %ch)
def Aut(x:Int32):UInt32:=UInt32.ofNat (if 0<=x.toInt then 2*x.toInt.toNat else 2*(-x.toInt-1).toNat+1)
def Av1(bits:Int)(s:CS)(x:Int32):Int32:=x-gs (shB bits) s.1-gF (sB bits) s.2.1 s.2.2
def evl(bits:Int)(ch:Nat)(t m:List Int32):Nat->List UInt32
 |0=>[]
 |i+1=>evl bits ch t m i++[Aut (Av1 bits (cst bits ch t (evl bits ch t m i) (i %ch) i) (m.getD i 0))]
def tb(l:List Bool)(k:Nat):Nat:=if l.getD k false=true then 1 else 0
theorem Amh(b:Bool)(l:List Bool):tb (b::l) 0=if b=true then 1 else 0:=rfl
theorem Ann(b:Bool)(l:List Bool)(k:Nat):tb (b::l) (k+1)=tb l k:=by simp[tb]
def At(p:List UInt8)(a:Nat)(c:List Bool):Prop:=∀i,i<c.length->Mz p (a+i)=tb c i
theorem At.cons{p:List UInt8}{a:Nat}{b:Bool}{c:List Bool}(h:At p a (b::c)):Mz p a=(if b=true then 1 else 0)/\At p (a+1) c:=by
 have h0:=h 0 (by simp);rw[Aw2,Amh]at h0;refine⟨h0,λi hi=>?_⟩;have:=h (i+1) (by simp;omega);rw[Ann]at this;rw[show a+1+i=a+(i+1) by omega,this]
def Acz:Nat->Nat->List Bool
 |_,0=>[]
 |v,n+1=>decide (v %2=1)::Acz (v/2) n
def Atq(l v:Nat):List Bool:=if 48<=v/2^l then List.replicate 48 true++Acz v 32 else List.replicate (v/2^l) true++(false::Acz (v %2^l) l)
def Auu(k l:Nat)(v:UInt32):List Bool:=if v.toNat<2^k then false::Acz v.toNat k else true::Atq l (v.toNat-2^k)
def bv:List Bool->Nat
 |[]=>0
 |b::r=>(if b=true then 1 else 0)+2*bv r
def Auj(c:List Bool):List UInt8:=(List.range ((c.length+7)/8)).map λj=>UInt8.ofNat (bv ((c.drop (8*j)).take 8))
def Au0(ch:Nat)(V:List UInt32):Nat->List Bool
 |0=>[]
 |i+1=>Au0 ch V i++Auu (now ch (V.take i)).1 (now ch (V.take i)).2.1 (V.getD i 0)
def P64:Nat:=4823603603198064275
def TD(s:Nat):Nat:=(2*s %18446744073709551616)^^^ (s/9223372036854775808*P64)
theorem cR{s:Nat}(h:s<18446744073709551616):TD s<18446744073709551616:=by
 have h1:s/9223372036854775808=0\/s/9223372036854775808=1:=by omega
 exact Avc (n:=64) (Aw3 _ (by decide)) (by rcases h1 with e|e<;>rw[e]<;>decide)
theorem Aev(x y:Nat):(x^^^y)/9223372036854775808=(x/9223372036854775808)^^^ (y/9223372036854775808):=by
 have:=Nat.shiftRight_xor_distrib (a:=x) (b:=y) (i:=63);simpa [Nat.shiftRight_eq_div_pow]using this
theorem Ady(x y:Nat):2*(x^^^y) %18446744073709551616=(2*x %18446744073709551616)^^^ (2*y %18446744073709551616):=by
 have h1:=Nat.shiftLeft_xor_distrib (a:=x) (b:=y) (i:=1);have h2:=Nat.xor_mod_two_pow (a:=2*x) (b:=2*y) (n:=64);have e:2*(x^^^y)=(2*x)^^^ (2*y):=by simpa [Nat.shiftLeft_eq,Aql]using h1
 rw[e];exact h2
theorem Anr{a b:Nat}(ha:a=0\/a=1)(hb:b=0\/b=1)(p:Nat):(a^^^b)*p=(a*p)^^^ (b*p):=by
 rcases ha with rfl|rfl<;>rcases hb with rfl|rfl<;>simp
theorem Avz(a b c d:Nat):(a^^^b)^^^ (c^^^d)=(a^^^c)^^^ (b^^^d):=by
 rw[Avs,Avs,<-Avs b c d,Ayf b c,Avs c b d]
theorem Abf{x y:Nat}(hx:x<18446744073709551616)(hy:y<18446744073709551616):TD (x^^^y)=TD x^^^TD y:=by
 rw[TD,TD,TD,Ady,Aev,Anr (by omega) (by omega),Avz]
def Rz:Nat->Nat->Nat
 |0,s=>s
 |k+1,s=>Rz k (TD s)
theorem rR:∀(k:Nat) {s:Nat},s<18446744073709551616->Rz k s<18446744073709551616
 |0,_,h=>h
 |k+1,_,h=>rR k (cR h)
theorem zC:∀(k:Nat) {x y:Nat},x<18446744073709551616->y<18446744073709551616->Rz k (x^^^y)=Rz k x^^^Rz k y
 |0,_,_,_,_=>rfl
 |k+1,x,y,hx,hy=>by rw[Rz,Abf hx hy,zC k (cR hx) (cR hy)];rfl
theorem wU:∀(k h:Nat),2^k*h<18446744073709551616->Rz k h=2^k*h
 |0,h,_=>by simp[Rz]
 |k+1,h,hl=>by
  have hpos:0<2^k:=Aw4 (by omega);rw[As2,Av3]at hl;have h2:2*h<18446744073709551616:=Avr (Nat.le_mul_of_pos_left _ hpos) hl;have:TD h=2*h:=by rw[TD,Aah h2,show h/9223372036854775808=0 by omega];simp
  rw[Rz,this,wU k _ hl,As2,Av3]
def kK(s c:Nat):Nat:=Rz 8 (s^^^ (c*72057594037927936))
theorem c56{c:Nat}(hc:c<256):c*72057594037927936<18446744073709551616:=by omega
theorem sU{s c:Nat}(h:s<18446744073709551616)(hc:c<256):kK s c<18446744073709551616:=rR 8 (Avc (n:=64) h (c56 hc))
theorem Anf(s:Nat):s=(s/72057594037927936*72057594037927936)^^^ (s %72057594037927936):=by
 have h1:s %72057594037927936<2^56:=Aw3 _ (by decide);have:=Atc h1 (s/72057594037927936);have h2:2^56*(s/72057594037927936)|||s %72057594037927936=(2^56*(s/72057594037927936))^^^ (s %72057594037927936):=by
  apply Nat.eq_of_testBit_eq;intro i;rw[Nat.testBit_or,Nat.testBit_xor];by_cases hi:i<56
  ·have:(2^56*(s/72057594037927936)).testBit i=false:=by rw[Nat.testBit_two_pow_mul];simp;omega
   rw[this];simp
  ·have:(s %72057594037927936).testBit i=false:=Nat.testBit_lt_two_pow (Aqa h1 (Ae0 (by omega) (by omega)));rw[this];simp
 rw[Aql (s/72057594037927936)]
 show s=(2^56*(s/72057594037927936))^^^ _;rw[<-h2,<-this];have:=Axv s 72057594037927936
 show s=72057594037927936*_+_;omega
theorem Afh(a c:Nat):(a^^^c)*72057594037927936=(a*72057594037927936)^^^ (c*72057594037927936):=by
 have h1:=Nat.shiftLeft_xor_distrib (a:=a) (b:=c) (i:=56);simpa [Nat.shiftLeft_eq]using h1
theorem R9{s c:Nat}(h:s<18446744073709551616)(hc:c<256):kK s c=(256*s %18446744073709551616)^^^Rz 8 (((s/72057594037927936)^^^c)*72057594037927936):=by
 have hs:s/72057594037927936<2^8:=by show _<256;omega
 have hx:(s/72057594037927936)^^^c<256:=Avc (n:=8) hs (by simpa using hc);have hl:s %72057594037927936<72057594037927936:=Aw3 _ (by decide);rw[kK]
 conv=>lhs;rw[Anf s]
 rw[Ayf (s/72057594037927936*72057594037927936),Avs,<-Afh,zC 8 (by omega) (c56 hx),wU 8 _ (by show 256*_<_;omega)];congr 1
 show 256*(s %72057594037927936)=_;omega
def yK(s:Nat)(l:List UInt8):Nat:=l.foldl (λs c=>kK s c.toNat) s
theorem G8{n:Nat}(h:n<18446744073709551616):(UInt64.ofNat n).toNat=n:=by rw[Ad3];exact Aah h
theorem Aqr(s:UInt64)(bit:Nat)(hb:bit=0\/bit=1):BL s (bit:Int)=some (UInt64.ofNat ((2*s.toNat %18446744073709551616)^^^ (((s.toNat/9223372036854775808)^^^bit)*P64))):=by
 have hs:=s.toNat_lt;have ht:s.toNat/9223372036854775808=0\/s.toNat/9223372036854775808=1:=by omega
 have e1:(Bm s (2:UInt64)).toNat=2*s.toNat %18446744073709551616:=by
  rw[RI,UInt64.toNat_mul];show s.toNat*2 %_=_;rw[Aql]
 have hlt:2*s.toNat %18446744073709551616<18446744073709551616:=Aw3 _ (by decide);have ey:GQ (Bm s (2:UInt64)) (4823603603198064275:UInt64)=UInt64.ofNat ((2*s.toNat %18446744073709551616)^^^P64):=by
  apply UInt64.toNat_inj.1;rw[xD,UInt64.toNat_xor,e1,G8 (Avc (n:=64) hlt (by decide))];rfl
 have en:Bm s (2:UInt64)=UInt64.ofNat (2*s.toNat %18446744073709551616):=by
  apply UInt64.toNat_inj.1;rw[e1,G8 hlt]
 have eg:Tp s (9223372036854775808:UInt64)=decide (s.toNat/9223372036854775808=1):=by
  rw[Amg,decide_eq_decide]
  show 9223372036854775808<=s.toNat↔_;omega
 have hp:∀b:Bool,Sp s b=some (if b=true then UInt64.ofNat ((2*s.toNat %18446744073709551616)^^^P64)else UInt64.ofNat (2*s.toNat %18446744073709551616)):=by
  intro b;rw[Sp,RW,ey,en];cases b<;>rfl
 rw[BL,DB,hp,hp,eg];rcases hb with rfl|rfl<;>rcases ht with h|h<;>rw[h]<;>simp[Aq]
theorem uX(c:UInt8):∀(j q:Nat) (s:UInt64),j<=8->j<q->Kb c q s ((2^j/2:Nat):Int)=some (UInt64.ofNat (Rz j (s.toNat^^^ (c.toNat %2^j*2^(64-j)))))
 |0,q+1,s,_,_=>by
  rw[Kb,Uc,Aaa (by rw[Ap];simp),BR,RY];simp[Rz,Nat.mod_one]
 |j+1,q+1,s,hj,hq=>by
  have hc:=c.toNat_lt;have hs:=s.toNat_lt;have hj2:2^j<=2^7:=Ae0 (by omega) (by omega);have hpos:0<2^j:=Aw4 (by omega);have e1:2^(j+1)/2=2^j:=by rw[As2];omega
  have e2:By ((2^j:Nat):Int) 2=((2^j/2:Nat):Int):=by
   generalize 2^j=K at*
   rw[SP,Avk (by omega),Db (by omega) (by omega)];omega
  have e3:Ko (By (Ad c:Int) ((2^j:Nat):Int)) (2:Int)=((c.toNat/2^j %2:Nat):Int):=by
   have hX:=Ar4 c.toNat (2^j);rw[OU,SP,<-Int.ofNat_tdiv];generalize c.toNat/2^j=X at*
   rw[Db (by omega) (by omega),Ko,Awb (by omega)];omega
  have hbit:c.toNat/2^j %2=0\/c.toNat/2^j %2=1:=by omega
  rw[Kb,Uc,e1,Aae (by rw[Ap,Aaf];omega),Cb (by rw[Ah,Axu];omega),Aa,e3,Aqr s _ hbit,Aa,e2,uX c j q _ (by omega) (by omega)];congr 2;rw[Rz];congr 1;have hx:c.toNat %2^(j+1)*2^(64-(j+1))=(c.toNat/2^j %2)*9223372036854775808+c.toNat %2^j*2^(63-j):=by
   have h63:(9223372036854775808:Nat)=2^j*2^(63-j):=by rw[<-Axy,show j+(63-j)=63 by omega]
   rw[Nat.mod_pow_succ,h63,show 64-(j+1)=63-j by omega,Ara,Ax5,Av3,Nat.mul_left_comm]
  have hr:c.toNat %2^j<2^j:=Aw3 _ hpos;have Azb:c.toNat %2^j*2^(63-j)<9223372036854775808:=by
   have h63:(9223372036854775808:Nat)=2^j*2^(63-j):=by rw[<-Axy,show j+(63-j)=63 by omega]
   rw[h63];exact Nat.mul_lt_mul_of_pos_right hr (Aw4 (by omega))
  have h64:c.toNat %2^j*2^(64-j)=2*(c.toNat %2^j*2^(63-j)):=by
   rw[show 64-j=(63-j)+1 by omega,As2,<-Av3,Aql]
  rw[hx,h64];generalize c.toNat %2^j*2^(63-j)=R at*
  generalize c.toNat/2^j %2=b at*
  have ht:s.toNat/9223372036854775808=0\/s.toNat/9223372036854775808=1:=by omega
  have hp:((s.toNat/9223372036854775808^^^b)*P64)<18446744073709551616:=by
   rcases ht with h|h<;>rcases hbit with h2|h2<;>rw[h,h2]<;>decide
  rw[G8 (Avc (n:=64) (Aw3 _ (by decide)) hp),TD,Ady,Aev,show(b*9223372036854775808+R)/9223372036854775808=b by omega,show 2*(b*9223372036854775808+R) %18446744073709551616=2*R by omega,Avs,Avs,Ayf (2*R)]
theorem Aqy(c:UInt8)(s:UInt64):JR s c=some (UInt64.ofNat (kK s.toNat c.toNat)):=by
 have h:=uX c 8 Ba s (Alw _) (by have:=Ax;omega);have hc:=c.toNat_lt;rw[Aah (show c.toNat<2^8 by simpa using hc)]at h;exact h
theorem nD(b:List UInt8)(hb:b.length<4611686018427387904):∀(j i q:Nat) (s:UInt64),i+j=b.length->j<q->Hu b q s (i:Int)=some (UInt64.ofNat (yK s.toNat (b.drop i)))
 |0,i,q+1,s,hi,_=>by
  rw[Hu,Ps,Aaa (by rw[Ae,Ac];simp;omega),show i=b.length by omega,Axa];simp[Xv,LO,yK]
 |j+1,i,q+1,s,hi,hq=>by
  have hlt:i<b.length:=by omega
  have hc:=b[i].toNat_lt;rw[Hu,Ps,Aae (by rw[Ae,Ac];simp;omega),Ce hlt,Aa,Aqy,Aa,Aj];have h:=nD b hb j (i+1) q (UInt64.ofNat (kK s.toNat b[i].toNat)) (by omega) (by omega);rw[show((i:Int)+1)=((i+1:Nat):Int) by omega,h,drop_cons hlt,G8 (sU s.toNat_lt (by simpa using hc))];rfl
def BT(b:List UInt8):UInt64:=UInt64.ofNat (yK 0 b)
theorem uh(b:List UInt8)(hb:b.length<=100000):Vb 0 b=some (BT b):=
 nD b (by omega) b.length 0 Ba 0 (by omega) (by have:=Ax;omega)
theorem Abj(c:UInt64):GQ (Fe c (GI.toZ (1:UInt64)).toNat) (Bm (4823603603198064275:UInt64) (Ea c (GI.toZ (63:UInt64)).toNat))=UInt64.ofNat (TD c.toNat):=by
 have hc:=c.toNat_lt;apply UInt64.toNat_inj.1;have h1:(Fe c (GI.toZ (1:UInt64)).toNat).toNat=2*c.toNat %18446744073709551616:=by
  rw[show(GI.toZ (1:UInt64)).toNat=1 from rfl,cW,Aql]
 have h2:(Bm (4823603603198064275:UInt64) (Ea c (GI.toZ (63:UInt64)).toNat)).toNat=c.toNat/9223372036854775808*P64:=by
  rw[show(GI.toZ (63:UInt64)).toNat=63 from rfl,RI,UInt64.toNat_mul,SC]
  show 4823603603198064275*(c.toNat/9223372036854775808) %18446744073709551616=_;have h1:c.toNat/9223372036854775808=0\/c.toNat/9223372036854775808=1:=by omega
  rcases h1 with e|e<;>rw[e]<;>decide
 rw[xD,UInt64.toNat_xor,h1,h2,G8 (cR hc)];rfl
theorem tU(Hp:Int->List UInt64->Option (UInt64×Int))(s:UInt64)(b:List UInt8)(x:Int)(t:List UInt64):∀(j i q:Nat) (c:UInt64),i+j=8->j<q->
  Wr Hp s b x t q c (i:Int)=KF Hp s b x (UInt64.ofNat (Rz j c.toNat)) t
 |0,i,q+1,c,hi,_=>by
  obtain rfl:i=8:=by omega
  rw[Wr,JP,Aaa (by rw[Ae];simp),Rz,UInt64.ofNat_toNat]
 |j+1,i,q+1,c,hi,hq=>by
  rw[Wr,JP,Aae (by rw[Ae];simp;omega),Abj,Aj,show((i:Int)+1)=((i+1:Nat):Int) by omega,tU Hp s b x t j (i+1) q _ (by omega) (by omega),G8 (cR c.toNat_lt)];rfl
def ZO(n:Nat):List UInt64:=(List.range n).map λi=>UInt64.ofNat (Rz 8 (i*72057594037927936))
theorem yP(s:UInt64)(b:List UInt8):∀(j i q:Nat),i+j=256->j<q->Qw s b q (i:Int) (ZO i++List.replicate j 0)=LA s b (ZO 256)
 |0,i,q+1,hi,_=>by
  obtain rfl:i=256:=by omega
  rw[Qw,KR,Aaa (by rw[Ae];simp)];simp
 |j+1,i,q+1,hi,hq=>by
  have hlen:(ZO i++List.replicate (j+1) 0).length=i+(j+1):=by simp[ZO]
  rw[Qw,KR,Aae (by rw[Ae];simp;omega),YG];have h:=tU (Qw s b q) s b (i:Int) (ZO i++List.replicate (j+1) 0) 8 0 Ba (Fe (Ad (i:Int):UInt64) (GI.toZ (56:UInt64)).toNat) (by omega) (by have:=Ax;omega);rw[show((0:Int))=((0:Nat):Int)from rfl,h,KF,VQ,Ce (by rw[hlen];omega),Aa,FT _ (by rw[hlen];omega),Aa,VY,iA,Aj];have e:(Fe (Ad (i:Int):UInt64) (GI.toZ (56:UInt64)).toNat).toNat=i*72057594037927936:=by
   rw[cW,Qi,G8 (by omega)]
   show i*72057594037927936 %18446744073709551616=_;omega
  rw[e,Avu,lH (by simp[ZO])];have h2:=yP s b j (i+1) q (by omega) (by omega);have h3:ZO (i+1)=ZO i++[UInt64.ofNat (Rz 8 (i*72057594037927936))]:=by simp[ZO,List.range_succ]
  rw[h3]at h2;rw[show((i:Int)+1)=((i+1:Nat):Int) by omega,<-h2];simp
theorem Agi{i:Nat}(h:i<256):Ao (ZO 256) (i:Int)=some (UInt64.ofNat (Rz 8 (i*72057594037927936))):=by
 rw[Ce (by simpa [ZO]using h)];simp[ZO]
theorem zm(s:UInt64)(c:UInt8):Ao (ZO 256) (GI.toZ (GQ (Ad (Ea s (GI.toZ (56:UInt64)).toNat):UInt8) c))=some (UInt64.ofNat (Rz 8 (((s.toNat/72057594037927936)^^^c.toNat)*72057594037927936))):=by
 have hs:=s.toNat_lt;have e:GI.toZ (GQ (Ad (Ea s (GI.toZ (56:UInt64)).toNat):UInt8) c)=(((s.toNat/72057594037927936)^^^c.toNat:Nat):Int):=by
  have e2:((Ad (Ea s (GI.toZ (56:UInt64)).toNat):UInt8)).toNat=s.toNat/72057594037927936:=by
   rw[eX,Aph,SC]
   show s.toNat/72057594037927936 %256=_;omega
  rw[IB,Ac3,UInt8.toNat_xor,e2]
 rw[e,Agi];exact Avc (n:=8) (by show _<256;omega) (by simpa using c.toNat_lt)
theorem S1(s:UInt64)(c:UInt8):GQ (Fe s (GI.toZ (8:UInt64)).toNat) (UInt64.ofNat (Rz 8 (((s.toNat/72057594037927936)^^^c.toNat)*72057594037927936)))=UInt64.ofNat (kK s.toNat c.toNat):=by
 have hs:=s.toNat_lt;have hc:c.toNat<256:=by simpa using c.toNat_lt
 apply UInt64.toNat_inj.1;have hlt:Rz 8 (((s.toNat/72057594037927936)^^^c.toNat)*72057594037927936)<18446744073709551616:=rR 8 (c56 (Avc (n:=8) (by show _<256;omega) (by simpa using c.toNat_lt)));have e:(GI.toZ (8:UInt64)).toNat=8:=rfl;rw[e,xD,UInt64.toNat_xor,cW,G8 hlt,G8 (sU hs hc),R9 hs hc,Aql s.toNat]
theorem tW(b:List UInt8)(s0:UInt64)(hb:b.length<4611686018427387904):∀(j i q:Nat) (s:UInt64),i+j=b.length->j<q->Wd b s0 (ZO 256) q s (i:Int)=some (UInt64.ofNat (yK s.toNat (b.drop i)),0)
 |0,i,q+1,s,hi,_=>by
  rw[Wd,KP,Aaa (by rw[Ae,Ac];simp;omega),show i=b.length by omega,Axa];simp[XH,VN,WW,jN,yK]
 |j+1,i,q+1,s,hi,hq=>by
  have hlt:i<b.length:=by omega
  have hc:=b[i].toNat_lt;rw[Wd,KP,Aae (by rw[Ae,Ac];simp;omega),Ce hlt,Aa,zm,Aa,Aa,S1,Aj];have h:=tW b s0 hb j (i+1) q (UInt64.ofNat (kK s.toNat b[i].toNat)) (by omega) (by omega);rw[show((i:Int)+1)=((i+1:Nat):Int) by omega,h,drop_cons hlt,G8 (sU s.toNat_lt (by simpa using hc))];rfl
theorem vo(b:List UInt8)(hb:b.length<=100000):bV b=some (BT b,0):=by
 have h:=yP 0 b 256 0 Ba (by omega) (by have:=Ax;omega);have h2:=tW b 0 (by omega) b.length 0 Ba 0 (by omega) (by have:=Ax;omega);have hn:eZ 0 b=some (BT b,0):=by
  rw[eZ,aU,Aaa (by rw[Ap,Ac];simp;omega),WM];refine Awq h ?_;rw[LA,VK,VS];exact h2
 rw[bV,hn,Aa]
theorem rX(p:List UInt8)(hp:p.length<=64):UM p=some (Xa (BT p).toNat 8,0):=by
 rw[UM,sT,Aaa (by rw[Ap,Ac];simp;omega),vo p (by omega),Aa,Aa];simp only;have h:=kF (BT p) 8 (by omega) (by omega) (by simpa using(BT p).toNat_lt);rw[Aaa (by rw[Ah];simp)];exact congrArg (λo=>Option.bind o λx:List UInt8×Int=>some (x.1,x.2)) h
theorem bF(p:List UInt8)(hp:p.length<=64):Kh p=some (Xa (BT p).toNat 8):=by
 have h:=eN (BT p) 8 (by omega);rw[Kh,LH,uh p (by omega),Aa,Aa];exact congrArg (λo=>Option.bind o λl=>some l) h
def s8(n:Nat):Int32:=Int32.ofInt (if n<128 then(n:Int)else(n:Int)-256)
def ZI(d:UInt64)(n:Nat):List Int32:=(List.range n).map λi=>s8 (d.toNat/256^i %256)
theorem cE(d:UInt64)(n:Nat):(ZI d n).length=n:=by simp[ZI]
theorem C3(d:UInt64)(n:Nat):ZI d (n+1)=ZI d n++[s8 (d.toNat/256^n %256)]:=by simp[ZI,List.range_succ]
theorem bm8(z:Nat):(z:Int).bmod Int8.size=if z %256<128 then((z %256:Nat):Int)else((z %256:Nat):Int)-256:=by
 rw[show Int8.size=256 from rfl,Int.bmod_def];split<;>split<;>omega
theorem Ad0(d:UInt64):∀(j i q:Nat),i+j=8->j<q->PJ d q (i:Int) (ZI d i++List.replicate (16-i) 0)=some (ZI d 8++List.replicate 8 0)
 |0,i,q+1,hi,_=>by
  obtain rfl:i=8:=by omega
  rw[PJ,fR,Aaa (by rw[Ae];simp)];rfl
 |j+1,i,q+1,hi,hq=>by
  have hlen:(ZI d i++List.replicate (16-i) 0).length=16:=by simp[cE];omega
  have ih:=Ad0 d j (i+1) q (by omega) (by omega);have e8:Bm (8:Int) (i:Int)=((8*i:Nat):Int):=by rw[Hi];omega
  have ev:(Ad (Ad (Ea d (GI.toZ (((8*i:Nat):Int))).toNat):Int8):Int32)=s8 (d.toNat/256^i %256):=by
   have e1:(Ea d (GI.toZ (((8*i:Nat):Int))).toNat).toNat=d.toNat/256^i:=by
    rw[show(GI.toZ (((8*i:Nat):Int))).toNat=8*i from rfl,SC,Nat.pow_mul]
   show Int32.ofInt (Int8.ofInt ((Ea d (GI.toZ (((8*i:Nat):Int))).toNat).toNat:Int)).toInt=_;rw[e1,s8,Int8.toInt_ofInt,bm8]
  rw[PJ,fR,Aae (by rw[Ae];simp;omega),e8,Cb (by rw[Ej];simp;omega),Aa,ev,Ce,Aa,FT _ (by omega),Aa,Aj,show 16-i=(15-i)+1 by omega,Avu,lH (cE d i)];rw[C3,show 16-(i+1)=15-i by omega,Ahm]at ih;exact ih
theorem Aiz(d:UInt64):∀(j i q:Nat) (e:UInt64),i+j=8->j<q->e.toNat=d.toNat/256^i->Jv q e (i:Int) (ZI d i++List.replicate (16-i) 0)=some (ZI d 8++List.replicate 8 0)
 |0,i,q+1,e,hi,_,he=>by
  obtain rfl:i=8:=by omega
  rw[Jv,Xl,Aaa (by rw[Ae];simp)];rfl
 |j+1,i,q+1,e,hi,hq,he=>by
  have hlen:(ZI d i++List.replicate (16-i) 0).length=16:=by simp[cE];omega
  have hq2:(By e (256:UInt64)).toNat=d.toNat/256^(i+1):=by
   rw[qW,Ax2,he,As2,<-Axc];rfl
  have ih:=Aiz d j (i+1) q (By e (256:UInt64)) (by omega) (by omega) hq2;have ev:(Ad (JJ e (256:UInt64)):Int32)=Int32.ofInt ((d.toNat/256^i %256:Nat):Int):=by
   show Int32.ofInt ((JJ e (256:UInt64)).toNat:Int)=_;rw[jm,UInt64.toNat_mod,he];rfl
  have hz:d.toNat/256^i %256<256:=Aw3 _ (by omega);have et:(Int32.ofInt ((d.toNat/256^i %256:Nat):Int)).toInt=((d.toNat/256^i %256:Nat):Int):=by
   rw[Av2,Ax8 (by show -(4294967296/2:Int)<= _;omega) (by show _<(4294967296+1)/2;omega)]
  have hp8:∀x:Int32,x=s8 (d.toNat/256^i %256)->Xx (Jv q) e (i:Int) (ZI d i++List.replicate (16-i) 0) x=some (ZI d 8++List.replicate 8 0):=by
   intro x hx;rw[Xx,XF,hx,Ce,Aa,FT _ (by omega),Aa,Aj,show 16-i=(15-i)+1 by omega,Avu,lH (cE d i)];rw[C3,show 16-(i+1)=15-i by omega,Ahm]at ih;exact ih
  rw[Jv,Xl,Aae (by rw[Ae];simp;omega),ev,Abb,et,show(127:Int32).toInt=127 from rfl];by_cases h:d.toNat/256^i %256<128
  ·rw[Aaa (by simp only[Aaf];omega)];exact hp8 _ (by rw[s8,Aae h])
  ·rw[Aae (by simp only[Aaf];omega)];refine hp8 _ ?_;rw[s8,Aaa h,yI,Int32.ofInt_sub];rfl
def DF(p:List UInt8):List Int32:=ZI (BT p) 8++List.replicate 8 0
theorem Ui(p:List UInt8):(DF p).length=16:=by simp[DF,cE]
theorem sW(p:List UInt8)(hp:p.length<=64):FA p=some (DF p,0):=by
 have h:=Ad0 (BT p) 8 0 Ba (by omega) (by have:=Ax;omega);have h2:R2 (BT p)=some (DF p):=h;rw[FA,Aaa (by rw[Ap,Ac];simp;omega),vo p (by omega),Aa];simp only;rw[Aaa (by rw[Ah];simp),h2,Aa]
theorem RN(p:List UInt8)(hp:p.length<=64):Kv p=some (DF p,0):=by
 have h:=Aiz (BT p) 8 0 Ba (BT p) (by omega) (by have:=Ax;omega) (by simp);have h2:SU (BT p)=some (DF p):=h;rw[Kv,Aaa (by rw[Ap,Ac];simp;omega),PO,KY,Aaa (by rw[Ap,Ac];simp;omega),uh p (by omega),Aa,Aa,Aa];simp only;rw[h2,Aa]
def u8(z:Int):UInt8:=UInt8.ofNat (z %256).toNat
theorem Q7(z:Int):u8 (z %256)=u8 z:=by rw[u8,u8];congr 2;omega
def wB(bits:Int):Nat:=if bits=8 then 1 else if bits=16 then 2 else 3
theorem tD{bits:Int}(h:Bn bits):By bits 8=(wB bits:Int):=by obtain rfl|rfl|rfl:=h<;>rfl
theorem mR(bits:Int):1<=wB bits/\wB bits<=3:=by
 unfold wB;split; · omega
 ·split<;>omega
def NA(bits:Int)(x:Int):List UInt8:=if bits=8 then [u8 (x+128)]else if bits=16 then [u8 x,u8 (x/256)]else [u8 x,u8 (x/256),u8 (x/65536)]
theorem wI(bits x:Int):(NA bits x).length<=3:=by
 unfold NA;split; · simp
 ·split<;>simp
theorem Ajp(x:Int32)(k:Nat)(hk:k<=32):(Ad (Ea x k):UInt8)=u8 (x.toInt.fdiv (2^k)):=by
 have h:=MG x;have e:Ea x k=Int32.ofInt (x.toInt.fdiv (2^k)):=by
  show Int32.ofInt (x.toInt.fdiv (2^min k 32))=_;rw[As8 hk]
 have hb: -2147483648<=x.toInt.fdiv (2^k)/\x.toInt.fdiv (2^k)<2147483648:=by
  have hpos:(0:Int)<2^k:=Int.pow_pos (by omega);rw[Aqj _ (by omega)];constructor
  ·refine(Int.le_ediv_iff_mul_le hpos).2 ?_;have:(1:Int)<=2^k:=by omega
   have h2: -2147483648*(2^k:Int)<= -2147483648*1:=Int.mul_le_mul_of_nonpos_left (by omega) this;omega
  ·refine Int.ediv_lt_of_lt_mul hpos ?_;have:(1:Int)<=2^k:=by omega
   have h2:(2147483648:Int)*1<=2147483648*2^k:=Int.mul_le_mul_of_nonneg_left this (by omega);omega
 show UInt8.ofNat ((Ea x k).toInt %256).toNat=_;rw[e,Av2,Ax8 (by show -(4294967296/2:Int)<= _;omega) (by show _<(4294967296+1)/2;omega)];rfl
section
variable (bk:Int->List UInt8->Option (List UInt8×Int)) (l:List Int32)
theorem vM{bits:Int}(h:Bn bits)(c:Int32)(x:Int)(i q:Nat)(acc:List UInt8)(hi:i<wB bits)(ha:acc.length<=100000):
  Mb bk bits l c x (q+1) (i:Int) acc=Mb bk bits l c x q ((i+1:Nat):Int) (acc++[u8 (c.toInt.fdiv (2^(8*i)))]):=by
 have hw:=mR bits;have e8:Bm (8:Int) (i:Int)=((8*i:Nat):Int):=by rw[Hi];omega
 rw[Mb,GY,tD h,Aae (by rw[Ae];simp;omega),e8,Cb (by rw[Ej];simp;omega),Aa,show(GI.toZ (((8*i:Nat):Int))).toNat=8*i from rfl,Ajp _ _ (by omega),Bi (by simp;omega),Aa,Aj];rfl
theorem Abg{bits:Int}(h:Bn bits)(c:Int32)(x:Int)(q:Nat)(acc:List UInt8):Mb bk bits l c x (q+1) ((wB bits:Nat):Int) acc=bk (Af x 1) acc:=by
 rw[Mb,GY,tD h,Aaa (by rw[Ae];simp),SV,gH]
theorem Aqw{bits:Int}(h:Bn bits)(c:Int32)(x:Int)(acc:List UInt8)(ha:acc.length<=90000)(hr: -(hB bits)<=c.toInt/\c.toInt<hB bits):
  Ot bk bits l x acc (if bits=8 then Af c (128:Int32)else c)=bk (Af x 1) (acc++NA bits c.toInt):=by
 have e:Ba=(Ba-4)+1+1+1+1:=by have:=Ax;omega
 have hc:=MG c;rw[Ot,SK,TJ,e];have g0:=λ(c:Int32) q acc ha=>vM bk l h c x 0 q acc (by have:=mR bits;omega) ha;obtain rfl|rfl|rfl:=h
 ·have hh:hB 8=128:=rfl;rw[hh]at hr;have e1:(Af c (128:Int32)).toInt=c.toInt+128:=by
   show(Int32.ofInt (c.toInt+(128:Int32).toInt)).toInt=_;rw[show(128:Int32).toInt=128 from rfl,Av2,Ax8 (by show -(4294967296/2:Int)<= _;omega) (by show _<(4294967296+1)/2;omega)]
  have g1:=Abg bk l (bits:=8) (.inl rfl) (Af c (128:Int32)) x (Ba-4+1+1);rw[Aae rfl,show(0:Int)=((0:Nat):Int)from rfl,g0 _ _ _ (by omega)];refine Awq (g1 _) ?_;rw[e1,NA,Aae rfl]
  show bk _ (acc++[u8 ((c.toInt+128).fdiv 1)])=_;rw[Int.fdiv_one]
 ·have g1:=λq acc ha=>vM bk l (bits:=16) (.inr (.inl rfl)) c x 1 q acc (by decide) ha;have g2:=Abg bk l (bits:=16) (.inr (.inl rfl)) c x (Ba-4+1);rw[Aaa (by decide),show(0:Int)=((0:Nat):Int)from rfl,g0 _ _ _ (by omega),g1 _ _ (by simp;omega)];refine Awq (g2 _) ?_;rw[NA,Aaa (by decide),Aae rfl,Ahm]
  show bk _ (acc++[u8 (c.toInt.fdiv 1),u8 (c.toInt.fdiv 256)])=_;rw[Int.fdiv_one,Aqj _ (by omega)]
 ·have g1:=λq acc ha=>vM bk l (bits:=24) (.inr (.inr rfl)) c x 1 q acc (by decide) ha;have g2:=λq acc ha=>vM bk l (bits:=24) (.inr (.inr rfl)) c x 2 q acc (by decide) ha;have g3:=Abg bk l (bits:=24) (.inr (.inr rfl)) c x (Ba-4);rw[Aaa (by decide),show(0:Int)=((0:Nat):Int)from rfl,g0 _ _ _ (by omega),g1 _ _ (by simp;omega),g2 _ _ (by simp;omega)];refine Awq (g3 _) ?_;rw[NA,Aaa (by decide),Aaa (by decide),Ahm,Ahm]
  show bk _ (acc++[u8 (c.toInt.fdiv 1),u8 (c.toInt.fdiv 256),u8 (c.toInt.fdiv 65536)])=_;rw[Int.fdiv_one,Aqj _ (by omega),Aqj _ (by omega)]
end
def Dq(bits:Int)(l:List Int32):List UInt8:=l.flatMap λx=>NA bits x.toInt
theorem DU(bits:Int):∀l:List Int32,(Dq bits l).length<=3*l.length
 |[]=>by simp[Dq]
 |x::l=>by
  have h1:=DU bits l;have h2:=wI bits x.toInt;simp only[Dq,List.flatMap_cons,Aai,As0]at*
  omega
def inR(bits:Int)(l:List Int32):Prop:=∀x∈l, -(hB bits)<=x.toInt/\x.toInt<hB bits
theorem Ac4{bits:Int}(h:Bn bits)(l:List Int32)(hl:l.length<=4000)(hr:inR bits l):∀(j i q:Nat),i+j=l.length->j<q->Ho bits l q (i:Int) (Dq bits (l.take i))=some (Dq bits l,0)
 |0,i,q+1,hi,_=>by
  rw[Ho,HD,Aaa (by rw[Ae,Ac];simp;omega),Avq (by omega)];rfl
 |j+1,i,q+1,hi,hq=>by
  have hlt:i<l.length:=by omega
  have ih:=Ac4 h l hl hr j (i+1) q (by omega) (by omega);have hlen:=DU bits (l.take i);have hx:=hr l[i] (Anw _);have h1:=Aqw (Ho bits l q) l h l[i] (i:Int) (Dq bits (l.take i)) (by rw[Al5]at hlen;omega) hx;rw[Ho,HD,Aae (by rw[Ae,Ac];simp;omega),Ce hlt,Aa];have e:(if(geq bits (8:Int))=true then Ot (Ho bits l q) bits l (i:Int) (Dq bits (l.take i)) (Af l[i] (128:Int32))else Ot (Ho bits l q) bits l (i:Int) (Dq bits (l.take i)) l[i])=Ot (Ho bits l q) bits l (i:Int) (Dq bits (l.take i)) (if bits=8 then Af l[i] (128:Int32)else l[i]):=by
   by_cases h8:bits=8
   ·rw[Aae (by rw[Aq];simpa using h8),Aae h8]
   ·rw[Aaa (by rw[Aq];simpa using h8),Aaa h8]
  rw[e,h1,Aj];rw[OS hlt]at ih;have e2:Dq bits (l.take i++[l[i]])=Dq bits (l.take i)++NA bits l[i].toInt:=by unfold Dq;rw[List.flatMap_append,List.flatMap_singleton]
  rw[e2]at ih;exact ih
theorem cV{bits:Int}(h:Bn bits){l:List Int32}(hl:l.length<=4000)(hc:Ay bits l=some 0):inR bits l:=by
 have hh:=OO bits;have key:∀(j i q:Nat),i+j=l.length->j<q->Bb l (hB bits) q (i:Int)=some 0->∀k,i<=k-> (hk:k<l.length)-> -(hB bits)<=l[k].toInt/\l[k].toInt<hB bits:=by
  intro j
  induction j with
  |zero=>intro i q hi hq _ k h1 h2;omega
  |succ j ih=>
   intro i q hi hq hs k h1 h2;obtain⟨q,rfl⟩:∃k,q=k+1:=⟨q-1,by omega⟩;rw[Bb,Cx,Aae (by rw[Ae,Ac];simp;omega),Ce,Aa,Aa,Gb,S3,Db (by omega) (by omega),Aj,Ae,Ej]at hs;by_cases g1:l[i].toInt<0-hB bits
   ·rw[Aae (by simpa using g1)]at hs;simp at hs
   ·rw[Aaa (by simpa using g1)]at hs;by_cases g2:hB bits<=l[i].toInt
    ·rw[Aae (by simpa using g2)]at hs;simp at hs
    ·rw[Aaa (by simpa using g2)]at hs;by_cases hk:k=i
     ·subst hk;omega
     ·exact ih (i+1) q (by omega) (by omega) hs k (by omega) h2
 rw[Ay,Dn,TP h,Aa,Aaa (by rw[Aq];simp;omega),Aaa (by rw[Ap,Ac];simp;omega)]at hc;have:=key l.length 0 Ba (by omega) (by have:=Ax;omega) hc;intro x hx;obtain⟨k,hk,rfl⟩:=List.getElem_of_mem hx;exact this k (by omega) hk
theorem XC{bits:Int}(h:Bn bits){l:List Int32}(hl:l.length<=4000)(hc:Ay bits l=some 0):Ma bits l=some (Dq bits l,0):=by
 have h1:=Ac4 h l hl (cV h hl hc) l.length 0 Ba (by omega) (by have:=Ax;omega);rw[Ma,XJ,oJ h l hl,hc,Aa,Aaa (by rw[Ah];simp)];exact h1
theorem Acv{bits:Int}(h:Bn bits)(x:Int32)(hr: -(hB bits)<=x.toInt/\x.toInt<hB bits):Vv bits x=some (NA bits x.toInt):=by
 have hx:=MG x;have gu:∀z:Int,(Ad z:UInt8)=u8 z:=λz=>rfl;have hq:∀n:Int,0<=n->n<=20000000->By n (256:Int)=n/256/\By n (65536:Int)=n/65536:=by
  intro n h1 h2;constructor<;>(rw[SP,Avk h1,Db (by omega) (by omega)])
 have hm:∀n:Int,0<=n->Ko n (256:Int)=n %256:=λn h1=>by rw[Ko,Awb h1]
 rw[Vv,FX,Gb];obtain rfl|rfl|rfl:=h
 ·rw[Aae (by rw[Aq];rfl),Aj,gu,NA,Aae rfl]
 ·have hh:hB 16=32768:=rfl;rw[hh]at hr;have hp:∀n:Int,0<=n->n<=70000->u8 n=u8 x.toInt->u8 (n/256)=u8 (x.toInt/256)->Lq 16 n=some (NA 16 x.toInt):=by
   intro n h1 h2 h3 h4;rw[Lq,FW,Aaa (by rw[Aq];decide),hm n h1,(hq n h1 (by omega)).1,hm _ (by omega),gu,gu,Q7,Q7,h3,h4,NA,Aaa (by decide),Aae rfl]
  rw[Aaa (by rw[Aq];decide)];by_cases hn:x.toInt<0
  ·rw[Aae (by rw[Ae];simpa using hn),TP (.inr (.inl rfl)),Aa,hh,Hi,Aj];refine hp _ (by omega) (by omega) ?_ ?_
   ·rw[u8,u8];congr 2;omega
   ·rw[u8,u8];congr 2;omega
  ·rw[Aaa (by rw[Ae];simpa using hn)];exact hp _ (by omega) (by omega) rfl rfl
 ·have hh:hB 24=8388608:=rfl;rw[hh]at hr;have hp:∀n:Int,0<=n->n<=16777215->u8 n=u8 x.toInt->u8 (n/256)=u8 (x.toInt/256)->u8 (n/65536)=u8 (x.toInt/65536)->Lq 24 n=some (NA 24 x.toInt):=by
   intro n h1 h2 h3 h4 h5;rw[Lq,FW,Aae (by rw[Aq];rfl),hm n h1,(hq n h1 (by omega)).1,(hq n h1 (by omega)).2,hm _ (by omega),gu,gu,gu,Q7,Q7,h3,h4,h5,Bi (by simp),Aa,NA,Aaa (by decide),Aaa (by decide)];rfl
  rw[Aaa (by rw[Aq];decide)];by_cases hn:x.toInt<0
  ·rw[Aae (by rw[Ae];simpa using hn),TP (.inr (.inr rfl)),Aa,hh,Hi,Aj];refine hp _ (by omega) (by omega) ?_ ?_ ?_
   ·rw[u8,u8];congr 2;omega
   ·rw[u8,u8];congr 2;omega
   ·rw[u8,u8];congr 2;omega
  ·rw[Aaa (by rw[Ae];simpa using hn)];exact hp _ (by omega) (by omega) rfl rfl rfl
theorem Ac1{bits:Int}(h:Bn bits)(l:List Int32)(hl:l.length<=4000)(hr:inR bits l):∀(j i q:Nat),i+j=l.length->j<q->It bits l q (i:Int) (Dq bits (l.take i))=some (Dq bits l,0)
 |0,i,q+1,hi,_=>by
  rw[It,Rk,Aaa (by rw[Ae,Ac];simp;omega),Avq (by omega)];rfl
 |j+1,i,q+1,hi,hq=>by
  have hlt:i<l.length:=by omega
  have ih:=Ac1 h l hl hr j (i+1) q (by omega) (by omega);have hlen:=DU bits (l.take i);have hol:=wI bits l[i].toInt;rw[Al5]at hlen;have e2:Dq bits (l.take i++[l[i]])=Dq bits (l.take i)++NA bits l[i].toInt:=by unfold Dq;rw[List.flatMap_append,List.flatMap_singleton]
  rw[OS hlt,e2]at ih;rw[It,Rk,Aae (by rw[Ae,Ac];simp;omega),Ce hlt,Aa,Acv h _ (hr l[i] (Anw _)),Aa,Bi,Aa,Aj];exact ih
theorem PC{bits:Int}(h:Bn bits){l:List Int32}(hl:l.length<=4000)(hc:Ay bits l=some 0):Qn bits l=some (Dq bits l,0):=by
 have h1:=Ac1 h l hl (cV h hl hc) l.length 0 Ba (by omega) (by have:=Ax;omega);rw[Qn,AE,hc,Aa,Aaa (by rw[Ah];simp)];exact h1
def aF:List UInt8->Nat->Int×Int
 |[],n=>((n:Int),0)
 |c::r,n=>if 128<=c.toNat then(0,12)else aF r (128*n+c.toNat)
theorem Aeu:∀(l:List UInt8) (n k:Nat),n<128^k->0<= (aF l n).1/\ (aF l n).1<((128^(k+l.length):Nat):Int)
 |[],n,k,h=>by simp[aF];exact_mod_cast h
 |c::r,n,k,h=>by
  rw[aF];split
  ·have:0<128^(k+(c::r).length):=Aw4 (by omega);exact⟨Int.le_refl _,by simp only;exact_mod_cast this⟩
  ·have:=Aeu r (128*n+c.toNat) (k+1) (by rw[As2];omega);rw[As0,show k+(r.length+1)=k+1+r.length by omega];exact this
theorem or7(n c:Nat)(hn:n<268435456)(hc:c<128):uN (Fe (n:Int) (GI.toZ (7:UInt64)).toNat) (c:Int)=((128*n+c:Nat):Int):=by
 have e:(GI.toZ (7:UInt64)).toNat=7:=rfl;have h1:Fe (n:Int) 7=((2^7*n:Nat):Int):=by
  have:Fe (n:Int) 7=wrap64 ((n:Int)*2^7):=rfl;rw[this,Db (by omega) (by omega)];omega
 rw[e,h1];have h2:uN ((2^7*n:Nat):Int) (c:Int)=wrap64 ((BitVec.ofInt 64 ((2^7*n:Nat):Int)|||BitVec.ofInt 64 (c:Int)).toNat:Int):=rfl;rw[h2,BitVec.toNat_or,Ata,Ata];have h3:(((2^7*n:Nat):Int) %((2^64:Nat):Int)).toNat=2^7*n:=by omega
 have h4:((c:Int) %((2^64:Nat):Int)).toNat=c:=by omega
 rw[h3,h4,<-Atc (by simpa using hc),Db (by omega) (by omega)]
theorem Aek(b:List UInt8)(hb:b.length=4):∀(j i q n:Nat),i+j=4->j<q->n<128^i->Qd b q (n:Int) (i:Int)=some (aF (b.drop i) n)
 |0,i,q+1,n,hi,_,_=>by
  rw[Qd,EH,Aaa (by rw[Ae,Ac];simp;omega),show b.drop i=[] by simp;omega];rfl
 |j+1,i,q+1,n,hi,hq,hn=>by
  have hlt:i<b.length:=by omega
  have hn2:n<268435456:=Aqa hn (show 128^i<=128^4 from Ae0 (by omega) (by omega));rw[Qd,EH,Aae (by rw[Ae,Ac];simp;omega),Ce hlt,Aa,drop_cons hlt,aF,Alc];by_cases hc:128<=b[i].toNat
  ·rw[Aae (by simp;omega),Aae hc]
  ·rw[Aaa (by simp;omega),Aaa hc,OU,or7 n _ hn2 (by omega),Aj];exact Aek b hb j (i+1) q _ (by omega) (by omega) (by rw[As2];omega)
theorem Ak9(b:List UInt8)(hb:b.length=4):∀(j i q n:Nat),i+j=4->j<q->n<128^i->Iw b q (n:Int) (i:Int)=some (aF (b.drop i) n)
 |0,i,q+1,n,hi,_,_=>by
  rw[Iw,Rm,Aaa (by rw[Ae];simp;omega),show b.drop i=[] by simp;omega];rfl
 |j+1,i,q+1,n,hi,hq,hn=>by
  have hlt:i<b.length:=by omega
  have hn2:n<268435456:=Aqa hn (show 128^i<=128^4 from Ae0 (by omega) (by omega));rw[Iw,Rm,Aae (by rw[Ae];simp;omega),Ce hlt,Aa,drop_cons hlt,aF,Ajn];have h128:(128:UInt8).toNat=128:=rfl;by_cases hc:128<=b[i].toNat
  ·rw[Aae (by simpa using hc),Aae hc]
  ·have h3:=b[i].toNat_lt;rw[Aaa (by simpa using hc),Aaa hc,Aa,OU,Hi,Aj,Aj];have:=Ak9 b hb j (i+1) q (128*n+b[i].toNat) (by omega) (by omega) (by rw[As2];omega);rw[<-this];rfl
theorem Abe(b:List UInt8)(hb:b.length=4):QE b=some (aF b 0):=by
 have h:=Aek b hb 4 0 Ba 0 (by omega) (by have:=Ax;omega) (by simp);rw[QE,PN,Aaa (by rw[Ah,Ac];simp;omega),OJ];exact h
theorem Ag1(b:List UInt8)(hb:b.length=4):Yd b=some (aF b 0):=by
 have h:=Ak9 b hb 4 0 Ba 0 (by omega) (by have:=Ax;omega) (by simp);rw[Yd,AF,Aaa (by rw[Ah,Ac];simp;omega),Zq];exact h
theorem Aay{b:List UInt8}(hb:b.length=4):0<= (aF b 0).1/\ (aF b 0).1<268435456:=by
 have:=Aeu b 0 0 (by simp);rw[hb]at this;simpa using this
theorem dT(s p:List UInt8):On s p=some (decide (p.length<=s.length/\s.take p.length=p)):=by
 rw[On];by_cases h:p.length<=s.length
 ·rw[Aae (by rw[Ej,Ac,Ac];simp;omega),show Ac p=(p.length:Int)from rfl,Dr,Aa,Il,Aa,Al6];congr 1;rw[Ahq];simp[h]
 ·rw[Aaa (by rw[Ej,Ac,Ac];simp;omega)];simp[h]
def bT(b:List UInt8)(n:Int):Int×Int:=
 if 4000<n then(0,4)else if(b.length:Int)<n then(0,24)else
 if b.getD 5 0=16/\ (b.take n.toNat).drop (n-10).toNat≠ [51,68,73]++part b 3 7 then(0,12)else(n,0)
def uM(b:List UInt8)(r:Int):Int×Int:=bT b (r+10+(if b.getD 5 0=16 then 10 else 0))
def FD(b:List UInt8):Int×Int:=
 if ¬(3<=b.length/\b.take 3=[73,68,51])then(0,6)else if b.length<10 then(0,24)else
 if(aF (part b 6 4) 0).2≠0\/b.getD 4 0≠0\/ ¬((b.getD 5 0=0/\2<= (b.getD 3 0).toNat/\ (b.getD 3 0).toNat<=4)\/ (b.getD 5 0=16/\b.getD 3 0=4))then(0,12)else
 uM b (aF (part b 6 4) 0).1
theorem nP{b:List UInt8}{i:Nat}(h:i<b.length):Ao b (i:Int)=some (b.getD i 0):=by
 rw[Ce h];simp[List.getD_eq_getElem?_getD,h]
theorem To{b:List UInt8}(a w:Nat)(h:a+w<=b.length:=by omega):Bp b (a:Int) ((a+w:Nat):Int)=some (part b a w):=by
 rw[Zn];rfl
theorem Ani(b:List UInt8)(r:Int)(h10:10<=b.length)(h0:0<=r)(h1:r<268435456):Tc b r=some (uM b r):=by
 have g5:Ao b (5:Int)=some (b.getD 5 0):=nP (i:=5) (by omega);have key:∀n:Int,10<=n->n<268435500->So b n=some (bT b n):=by
  intro n hn hn2;rw[So,RM,bT];by_cases c1:4000<n
  ·rw[Aae (by rw[Ap];simpa using c1),Aae c1]
  ·rw[Aaa (by rw[Ap];simpa using c1),Aaa c1];by_cases c2:(b.length:Int)<n
   ·rw[Aae (by rw[Ae,Ac];simpa using c2),Aae c2]
   ·have e3:Bp b (3:Int) (10:Int)=some (part b 3 7):=To 3 7;rw[Aaa (by rw[Ae,Ac];simpa using c2),Aaa c2,g5,Aa];by_cases c3:b.getD 5 0=16
    ·rw[Aae (by rw[dQ];simpa using c3),Bw,Zn,Aa,e3,Aa,Bi (by rw[Eu];simp),Aa];by_cases c4:(b.take n.toNat).drop (n-10).toNat=[51,68,73]++part b 3 7
     ·rw[Aaa (by simpa using c4),Aaa (by intro h;exact h.2 c4)]
     ·rw[Aae (by simpa using c4),Aae ⟨c3,c4⟩]
    ·rw[Aaa (by rw[dQ];simpa using c3),Aaa (λh=>c3 h.1)]
 rw[Tc,CD,g5,Aa,uM];by_cases c3:b.getD 5 0=16
 ·rw[Aae (by rw[dQ];simpa using c3),Aj (by rw[Aj]<;>omega) (by rw[Aj]<;>omega),Aj,key _ (by omega) (by omega),Aae c3,show 10+r+10=r+10+10 by omega]
 ·rw[Aaa (by rw[dQ];simpa using c3),Aj,key _ (by omega) (by omega),Aaa c3,show 10+r=r+10+0 by omega]
theorem Akp(b:List UInt8)(hb:b.length<4611686018427387904):AY b=some (FD b):=by
 rw[AY,CK,FD];by_cases h3:3<=b.length
 ·rw[Aaa (by rw[Ae,Ac];simp;omega),Dr,Aa];by_cases hp:b.take 3=[73,68,51]
  ·rw[Aaa (by simpa using hp),Aaa (by simp[h3,hp]),DW,CX];by_cases h10:b.length<10
   ·rw[Aae (by rw[Ae,Ac];simp;omega),Aae h10]
   ·have e6:Bp b (6:Int) (10:Int)=some (part b 6 4):=To 6 4;have g3:Ao b (3:Int)=some (b.getD 3 0):=nP (i:=3) (by omega);have g4:Ao b (4:Int)=some (b.getD 4 0):=nP (i:=4) (by omega);have g5:Ao b (5:Int)=some (b.getD 5 0):=nP (i:=5) (by omega);obtain⟨v1,v2⟩:=Aay (b:=part b 6 4) (Eu);rw[Aaa (by rw[Ae,Ac];simp;omega),Aaa h10,e6,Aa,Ag1 _ (Eu),Aa];have ht:=Ani b (aF (part b 6 4) 0).1 (by omega) v1 v2;generalize aF (part b 6 4) 0=v at*
    obtain⟨v,e⟩:=v;simp only at ht v1 v2⊢;simp only[Aa,g3,g4,g5,ht];generalize b.getD 3 0=x at*
    generalize b.getD 4 0=y at*
    generalize b.getD 5 0=z at*
    simp only[Abu,Arn,Alc,Ah];by_cases he:e=0<;>by_cases hy:y=0<;>by_cases hz:z=0<;>by_cases hz2:z=16<;>by_cases hx:x=4<;>by_cases hx2:x.toNat<2<;>by_cases hx4:4<x.toNat<;>simp_all<;>(rw[Aaa (by omega),Aaa (by omega)])
  ·rw[Aae (by simpa using hp),Aae (by simp[hp])]
 ·rw[Aae (by rw[Ae,Ac];simp;omega),Aae (by simp[h3])]
theorem J0(b:List UInt8)(n:Int)(h10:10<=b.length)(hn:10<=n)(hn2:n<268435500):GZ b (b.getD 5 0) n=some (bT b n):=by
 rw[GZ,fZ];by_cases c1:4000<n
 ·rw[Aae (by rw[Ap];simpa using c1),bT,Aae c1]
 ·rw[Aaa (by rw[Ap];simpa using c1)];by_cases c2:(b.length:Int)<n
  ·rw[Aae (by rw[Ae,Ac];simpa using c2),bT,Aaa c1,Aae c2]
  ·have e3:Bp b (3:Int) (10:Int)=some (part b 3 7):=To 3 7;rw[Aaa (by rw[Ae,Ac];simpa using c2)];by_cases c3:b.getD 5 0=16
   ·have hl:((b.take n.toNat).drop (n-10).toNat).length=10:=by simp;omega
    have ht:bT b n=if(b.take n.toNat).drop (n-10).toNat≠ [51,68,73]++part b 3 7 then(0,12)else(n,0):=by rw[bT,Aaa c1,Aaa c2];simp only[c3,true_and]
    rw[Aae (by rw[dQ];simpa using c3),Bw,Zn,Aa,ht];generalize(b.take n.toNat).drop (n-10).toNat=f at*
    rw[Dr,Aa,Cg,Aa,e3,Aa,Il,Aa];have hf:f=f.take 3++f.drop 3:=(List.take_append_drop 3 f).symm;by_cases c4:f=[51,68,73]++part b 3 7
    ·subst c4;simp
    ·by_cases c5:f.take 3=[51,68,73]
     ·have:f.drop 3≠part b 3 7:=λh=>c4 (by rw[hf,c5,h]);simp only[Axh,Apz]at c4;simp[c4,c5,this]
     ·simp only[Axh,Apz]at c4;simp[c4,c5]
   ·rw[Aaa (by rw[dQ];simpa using c3),bT,Aaa c1,Aaa c2,Aaa (λh=>c3 h.1)]
theorem Aj4(b:List UInt8)(r:Int)(h10:10<=b.length)(h0:0<=r)(h1:r<268435456):HF b r (b.getD 5 0)=some (uM b r):=by
 rw[HF,SW,uM];by_cases c3:b.getD 5 0=16
 ·rw[Aae (by rw[dQ];simpa using c3),Aj (by rw[Aj]<;>omega) (by rw[Aj]<;>omega),Aj,J0 b _ h10 (by omega) (by omega),Aae c3]
 ·rw[Aaa (by rw[dQ];simpa using c3),Aj,J0 b _ h10 (by omega) (by omega),Aaa c3];simp
theorem Agx(b:List UInt8)(hb:b.length<4611686018427387904):UE b=some (FD b):=by
 rw[UE,HA,dT,Aa];by_cases hp:3<=b.length/\b.take 3=[73,68,51]
 ·rw[Aaa (by simpa using hp)];by_cases h10:b.length<10
  ·rw[Aae (by rw[Ae,Ac];simp;omega),FD,Aaa (λh=>h hp),Aae h10]
  ·have e6:Bp b (6:Int) (10:Int)=some (part b 6 4):=To 6 4;have g3:Ao b (3:Int)=some (b.getD 3 0):=nP (i:=3) (by omega);have g4:Ao b (4:Int)=some (b.getD 4 0):=nP (i:=4) (by omega);have g5:Ao b (5:Int)=some (b.getD 5 0):=nP (i:=5) (by omega);obtain⟨v1,v2⟩:=Aay (b:=part b 6 4) (Eu);have ht:=Aj4 b (aF (part b 6 4) 0).1 (by omega) v1 v2;rw[Aaa (by rw[Ae,Ac];simp;omega),g3,Aa,g5,Aa,SR,TI,e6,Aa,Abe _ (Eu),Aa,FD,Aaa (λh=>h hp),Aaa h10];generalize aF (part b 6 4) 0=v at*
   obtain⟨v,e⟩:=v;simp only at ht v1 v2⊢;simp only[Aa,g4,SM,SL];generalize b.getD 3 0=x at*
   generalize b.getD 4 0=y at*
   generalize b.getD 5 0=z at*
   simp only[Abu,Asl,dQ,Ajn,Ah];have e2:(2:UInt8).toNat=2:=rfl;have e4:(4:UInt8).toNat=4:=rfl;by_cases he:e=0<;>by_cases hy:y=0<;>by_cases hz:z=0<;>by_cases hz2:z=16<;>by_cases hx:x=4<;>by_cases hx2:2<=x.toNat<;>by_cases hx4:x.toNat<=4<;>simp_all
 ·rw[Aae (by rw[Asr,At7];exact hp),FD,Aae hp]
theorem Alq{b:List UInt8}{n:Int}(h:FD b=(n,0)):10<=n/\n<=b.length/\n<=4000:=by
 unfold FD at h;split at h; · simp at h
 split at h; · simp at h
 split at h; · simp at h
 rename_i h10 _;obtain⟨v1,v2⟩:=Aay (b:=part b 6 4) (Eu);unfold uM at h;generalize hm:(aF (part b 6 4) 0).1+10+(if b.getD 5 0=16 then 10 else 0)=m at h;unfold bT at h;split at h; · simp at h
 split at h; · simp at h
 split at h; · simp at h
 simp only[Adm,Ayb]at h;subst h;refine⟨?_,by omega,by omega⟩;rw[<-hm];split<;>omega
def vU:List UInt8:=[65,80,69,84,65,71,69,88]
def Sg(n m fl:Nat):List UInt8:=vU++Xa 2000 4++Xa (n+32) 4++Xa m 4++Xa fl 4++List.replicate 8 0
theorem ZP{n:Nat}(h:n<18446744073709551616):(UInt64.ofNat n).toNat=n:=by rw[Ad3,Aah h]
theorem mE(n m:Int)(fl:UInt64)(c:UInt64)(i q:Nat)(acc:List UInt8)(hi:i<6)(hc:Ao ([(2000:UInt64),(Ad (Af n (32:Int)):UInt64),(Ad m:UInt64),fl,(0:UInt64),(0:UInt64)]:List UInt64) (i:Int)=some c)(h:c.toNat<4294967296)(ha:acc.length<=1000000):
  IC n m fl (q+1) (i:Int) acc=IC n m fl q ((i+1:Nat):Int) (acc++Xa c.toNat 4):=by
 have hb:=kF c 4 (by omega) (by omega) (by simpa using h);rw[IC,dX,Aae (by rw[Ae,Ac];simp;omega),hc,Aa,Aa,show((4:Int))=((4:Nat):Int)from rfl,hb,Aa];simp only;rw[Bi (by rw[Ch];omega),Aa,Aj];rfl
theorem xI(n m:Nat)(fl:UInt64)(hn:n<=3000)(hm:m<=1000)(hf:fl.toNat<4294967296):lP (n:Int) (m:Int) fl=some (Sg n m fl.toNat):=by
 have e1:(Ad (Af (n:Int) (32:Int)):UInt64).toNat=n+32:=by rw[Aj,show(n:Int)+32=((n+32:Nat):Int) by omega,Qi,ZP (by omega)]
 have e2:(Ad (m:Int):UInt64).toNat=m:=by rw[Qi,ZP (by omega)]
 have hF:Ba=(Ba-7)+1+1+1+1+1+1+1:=by have:=Ax;omega
 rw[lP,oP,nY,hF];rw[show((0:Int))=((0:Nat):Int)from rfl,mE n m fl 2000 0 _ _ (by omega) rfl (by decide) (by simp),mE n m fl _ 1 _ _ (by omega) rfl (by rw[e1];omega) (by simp[Ch]),mE n m fl _ 2 _ _ (by omega) rfl (by rw[e2];omega) (by simp[Ch]),
  mE n m fl fl 3 _ _ (by omega) rfl hf (by simp[Ch]),mE n m fl 0 4 _ _ (by omega) rfl (by decide) (by simp[Ch]),mE n m fl 0 5 _ _ (by omega) rfl (by decide) (by simp[Ch]),e1,e2]
 rw[IC,dX,Aaa (by rw[Ae,Ac];simp),oD,B3,Sg];have z:Xa (0:UInt64).toNat 4++Xa (0:UInt64).toNat 4=List.replicate 8 0:=by decide
 have z2:Xa (2000:UInt64).toNat 4=Xa 2000 4:=rfl;rw[Ahm _ (Xa (0:UInt64).toNat 4),z,z2];rfl
theorem rJ(n m:Nat)(fl:UInt64)(hn:n<=3000)(hm:m<=1000)(hf:fl.toNat<4294967296):Qe (n:Int) (m:Int) fl=some (Sg n m fl.toNat):=by
 have e1:(Ad (Af (n:Int) (32:Int)):UInt64).toNat=n+32:=by rw[Aj,show(n:Int)+32=((n+32:Nat):Int) by omega,Qi,ZP (by omega)]
 have e2:(Ad (m:Int):UInt64).toNat=m:=by rw[Qi,ZP (by omega)]
 have w:∀c:UInt64,Bd c 4=some (Xa c.toNat 4):=λc=>eN c 4 (by omega);have z2:Xa (2000:UInt64).toNat 4=Xa 2000 4:=rfl;rw[Qe];simp only[w,e1,e2,Aa];rw[Bi (by simp[Ch]),Aa,Bi (by simp[Ch]),Aa,Bi (by simp[Ch]),Aa,Bi (by simp[Ch]),Aa,uT,Aa,Bi (by simp[Ch]),Aa,z2];rfl
theorem UW{b:List UInt8}{a w k:Nat}(h:a+w<=k):part (b.take k) a w=part b a w:=by rw[part,part,Aya,As8 h]
def JI(b:List UInt8):Bool:=decide (Fy (part b 12 4)<32\/3032<Fy (part b 12 4)\/1000<Fy (part b 16 4))
theorem Ak3(b:List UInt8)(h:20<=b.length):(((Dg (mZ (part b 12 4)) (32:UInt64))||(Fb (mZ (part b 12 4)) (3032:UInt64)))||(Fb (mZ (part b 16 4)) (1000:UInt64)))=JI b:=by
 rw[vZ,ZF,ZF,ZQ (by rw[Eu];omega),ZQ (by rw[Eu];omega),JI];show((decide (Fy (part b 12 4)<32)||decide (3032<Fy (part b 12 4)))||decide (1000<Fy (part b 16 4)))=_;simp[Bool.or_assoc]
theorem sH(b:List UInt8)(h:20<=b.length)(hb:JI b=false):Au (Ad (mZ (part b 12 4)):Int) (32:Int)=((Fy (part b 12 4)-32:Nat):Int)/\ (Ad (mZ (part b 16 4)):Int)=((Fy (part b 16 4):Nat):Int)/\Fy (part b 12 4)-32<=3000/\Fy (part b 16 4)<=1000:=by
 simp only[JI,At7]at hb;refine⟨?_,QM (by rw[Eu];omega),by omega,by omega⟩;rw[QM (by rw[Eu];omega),Bw];omega
theorem eG(b:List UInt8)(fl:UInt64)(h:20<=b.length)(hl:b.length<4611686018427387904)(hf:fl.toNat<4294967296):
  UY b fl=some (if JI b=true then(0,0,false)else(((Fy (part b 12 4)-32:Nat):Int),((Fy (part b 16 4):Nat):Int),b==Sg (Fy (part b 12 4)-32) (Fy (part b 16 4)) fl.toNat)):=by
 have a1:cI b 12 4=some (mZ (part b 12 4),0):=K1 b 12 4 (by omega) (by omega) (by omega) hl;have a2:cI b 16 4=some (mZ (part b 16 4),0):=K1 b 16 4 (by omega) (by omega) (by omega) hl;rw[UY,a1,Aa];simp only;rw[a2,Aa];simp only;rw[Ak3 b h];cases hb:JI b with
 |true=>rfl
 |false=>
  obtain⟨i1,i2,i3,i4⟩:=sH b h hb;rw[i1,i2,xI _ _ _ i3 i4 hf];rfl
theorem Z2(b:List UInt8)(h:20<=b.length)(hl:b.length<4611686018427387904):
  Nt b=some (if JI b=true then(0,0,false)else(((Fy (part b 12 4)-32:Nat):Int),((Fy (part b 16 4):Nat):Int),true)):=by
 have a1:Bp b 12 16=some (part b 12 4):=To 12 4;have a2:Bp b 16 20=some (part b 16 4):=To 16 4;rw[Nt,a1,Aa,uw _ (by rw[Eu];omega),Aa,a2,Aa,uw _ (by rw[Eu];omega),Aa,Ak3 b h];cases hb:JI b with
 |true=>rfl
 |false=>
  obtain⟨i1,i2,i3,i4⟩:=sH b h hb;rw[i1,i2];rfl
def Me(b:List UInt8):Int×Int:=
 if ¬(8<=b.length/\b.take 8=vU)then(0,6)else if b.length<32 then(0,24)else
 if JI b=true\/b.take 32≠Sg (Fy (part b 12 4)-32) (Fy (part b 16 4)) 2684354560 then(0,12)else
 if b.length<Fy (part b 12 4)+32 then(0,24)else
 if(b.take (Fy (part b 12 4)+32)).drop (Fy (part b 12 4))≠Sg (Fy (part b 12 4)-32) (Fy (part b 16 4)) 2147483648 then(0,12)else(((Fy (part b 12 4)+32:Nat):Int),0)
theorem lq(b:List UInt8):JI (b.take 32)=JI b:=by rw[JI,JI,UW (by omega),UW (by omega)]
section
variable {b:List UInt8}
theorem fa1(h:¬(8<=b.length/\b.take 8=vU)):Me b=(0,6):=by rw[Me,Aae h]
theorem fa2(h:8<=b.length/\b.take 8=vU)(h2:b.length<32):Me b=(0,24):=by rw[Me,Aaa (λh'=>h' h),Aae h2]
variable (h:8<=b.length/\b.take 8=vU) (h2:¬b.length<32)
include h h2
theorem fa3(h3:JI b=true):Me b=(0,12):=by rw[Me,Aaa (λh'=>h' h),Aaa h2,Aae (.inl h3)]
theorem fa4(h4:b.take 32≠Sg (Fy (part b 12 4)-32) (Fy (part b 16 4)) 2684354560):Me b=(0,12):=by rw[Me,Aaa (λh'=>h' h),Aaa h2,Aae (.inr h4)]
variable (h3:JI b=false) (h4:b.take 32=Sg (Fy (part b 12 4)-32) (Fy (part b 16 4)) 2684354560)
include h3 h4
theorem fa5(h5:b.length<Fy (part b 12 4)+32):Me b=(0,24):=by
 rw[Me,Aaa (λh'=>h' h),Aaa h2,Aaa (λh'=>h'.elim (λe=>by rw[h3]at e;cases e) λe=>e h4),Aae h5]
theorem fa6(h5:¬b.length<Fy (part b 12 4)+32)(h6:(b.take (Fy (part b 12 4)+32)).drop (Fy (part b 12 4))≠Sg (Fy (part b 12 4)-32) (Fy (part b 16 4)) 2147483648):Me b=(0,12):=by
 rw[Me,Aaa (λh'=>h' h),Aaa h2,Aaa (λh'=>h'.elim (λe=>by rw[h3]at e;cases e) λe=>e h4),Aaa h5,Aae h6]
theorem fa7(h5:¬b.length<Fy (part b 12 4)+32)(h6:(b.take (Fy (part b 12 4)+32)).drop (Fy (part b 12 4))=Sg (Fy (part b 12 4)-32) (Fy (part b 16 4)) 2147483648):Me b=(((Fy (part b 12 4)+32:Nat):Int),0):=by
 rw[Me,Aaa (λh'=>h' h),Aaa h2,Aaa (λh'=>h'.elim (λe=>by rw[h3]at e;cases e) λe=>e h4),Aaa h5,Aaa (λh'=>h' h6)]
end
theorem Aa7(b:List UInt8)(hl:b.length<4611686018427387904):lS b=some (Me b):=by
 rw[lS,dT,Aa];by_cases hp:8<=b.length/\b.take 8=vU
 ·rw[Aaa (by simpa [vU]using hp)];by_cases h32:b.length<32
  ·rw[Aae (by rw[Ae,Ac];simp;omega),fa2 hp h32]
  ·have t:=eG (b.take 32) 2684354560 (by simp;omega) (by simp;omega) (by decide);rw[lq,UW (by omega),UW (by omega)]at t;rw[Aaa (by rw[Ae,Ac];simp;omega),Dr,Aa,show(32:Int).toNat=32 from rfl,t,Aa];cases hb:JI b with
   |true=>rw[fa3 hp h32 hb];simp
   |false=>
    obtain⟨i1,i2,i3,i4⟩:=sH b (by omega) hb;have i5:32<=Fy (part b 12 4):=by simp only[JI,At7]at hb;omega
    simp only[Aqi,Awd,false_or];by_cases c1:b.take 32=Sg (Fy (part b 12 4)-32) (Fy (part b 16 4)) 2684354560
    ·have c1':b.take 32=Sg (Fy (part b 12 4)-32) (Fy (part b 16 4)) (2684354560:UInt64).toNat:=c1;rw[Aaa (by simpa using c1'),Aj];have e1:((Fy (part b 12 4)-32:Nat):Int)+64=((Fy (part b 12 4)+32:Nat):Int):=by omega
     rw[e1];by_cases c2:b.length<Fy (part b 12 4)+32
     ·rw[Aae (by rw[Ae,Ac];simp;omega),fa5 hp h32 hb c1 c2]
     ·rw[Aaa (by rw[Ae,Ac];simp;omega),Bw,Zn,Aa,xI _ _ _ i3 i4 (by decide),Aa,Il,Aa];rw[show(((Fy (part b 12 4)+32:Nat):Int)).toNat=Fy (part b 12 4)+32 by omega,show(((Fy (part b 12 4)+32:Nat):Int)-32).toNat=Fy (part b 12 4) by omega];by_cases c3:(b.take (Fy (part b 12 4)+32)).drop (Fy (part b 12 4))=Sg (Fy (part b 12 4)-32) (Fy (part b 16 4)) 2147483648
      ·have c3':(b.take (Fy (part b 12 4)+32)).drop (Fy (part b 12 4))=Sg (Fy (part b 12 4)-32) (Fy (part b 16 4)) (2147483648:UInt64).toNat:=c3;rw[Aaa (by simpa using c3'),fa7 hp h32 hb c1 c2 c3]
      ·have c3':¬(b.take (Fy (part b 12 4)+32)).drop (Fy (part b 12 4))=Sg (Fy (part b 12 4)-32) (Fy (part b 16 4)) (2147483648:UInt64).toNat:=c3;rw[Aae (by simpa using c3'),fa6 hp h32 hb c1 c2 c3]
    ·have c1':¬b.take 32=Sg (Fy (part b 12 4)-32) (Fy (part b 16 4)) (2684354560:UInt64).toNat:=c1;rw[Aae (by simpa using c1'),fa4 hp h32 c1]
 ·rw[Aae (by rw[Asr,At7];exact hp),fa1 hp]
theorem Afv(b:List UInt8)(hl:b.length<4611686018427387904):Xs b=some (Me b):=by
 rw[Xs,Zi];by_cases h8:8<=b.length
 ·rw[Aaa (by rw[Ae,Ac];simp;omega),Dr,Aa,show(8:Int).toNat=8 from rfl];by_cases ha:b.take 8=vU
  ·have hp:=And.intro h8 ha;rw[Aaa (by simpa [vU]using ha),AA,Zr];by_cases h32:b.length<32
   ·rw[Aae (by rw[Ae,Ac];simp;omega),fa2 hp h32]
   ·have t:=Z2 (b.take 32) (by simp;omega) (by simp;omega);rw[lq,UW (by omega),UW (by omega)]at t;rw[Aaa (by rw[Ae,Ac];simp;omega),Dr,Aa,show(32:Int).toNat=32 from rfl,t,Aa];cases hb:JI b with
    |true=>rw[fa3 hp h32 hb];simp
    |false=>
     obtain⟨i1,i2,i3,i4⟩:=sH b (by omega) hb;have i5:32<=Fy (part b 12 4):=by simp only[JI,At7]at hb;omega
     simp only[Aqi,Awd,false_or,Aa,Axn];rw[Th,rJ _ _ _ i3 i4 (by decide),Aa,Aa];by_cases c1:b.take 32=Sg (Fy (part b 12 4)-32) (Fy (part b 16 4)) 2684354560
     ·have c1':b.take 32=Sg (Fy (part b 12 4)-32) (Fy (part b 16 4)) (2684354560:UInt64).toNat:=c1;rw[Aaa (by simpa using c1'),AP,NU,Aj];have e1:64+((Fy (part b 12 4)-32:Nat):Int)=((Fy (part b 12 4)+32:Nat):Int):=by omega
      rw[e1];by_cases c2:b.length<Fy (part b 12 4)+32
      ·rw[Aae (by rw[Ae,Ac];simp;omega),fa5 hp h32 hb c1 c2]
      ·rw[Aaa (by rw[Ae,Ac];simp;omega),Bw,Zn,Aa,Fl,Aae rfl,rJ _ _ _ i3 i4 (by decide),Aa,Aa];rw[show(((Fy (part b 12 4)+32:Nat):Int)).toNat=Fy (part b 12 4)+32 by omega,show(((Fy (part b 12 4)+32:Nat):Int)-32).toNat=Fy (part b 12 4) by omega];by_cases c3:(b.take (Fy (part b 12 4)+32)).drop (Fy (part b 12 4))=Sg (Fy (part b 12 4)-32) (Fy (part b 16 4)) 2147483648
       ·have c3':(b.take (Fy (part b 12 4)+32)).drop (Fy (part b 12 4))=Sg (Fy (part b 12 4)-32) (Fy (part b 16 4)) (2147483648:UInt64).toNat:=c3;rw[Aaa (by simpa using c3'),fa7 hp h32 hb c1 c2 c3]
       ·have c3':¬(b.take (Fy (part b 12 4)+32)).drop (Fy (part b 12 4))=Sg (Fy (part b 12 4)-32) (Fy (part b 16 4)) (2147483648:UInt64).toNat:=c3;rw[Aae (by simpa using c3'),fa6 hp h32 hb c1 c2 c3]
     ·have c1':¬b.take 32=Sg (Fy (part b 12 4)-32) (Fy (part b 16 4)) (2684354560:UInt64).toNat:=c1;rw[Aae (by simpa using c1'),fa4 hp h32 c1]
  ·rw[Aae (by simpa [vU]using ha),fa1 (λh=>ha h.2)]
 ·rw[Aae (by rw[Ae,Ac];simp;omega),fa1 (λh=>h8 h.1)]
theorem Ag4{b:List UInt8}{n:Int}(h:Me b=(n,0)):64<=n/\n<=b.length:=by
 unfold Me at h;split at h; · simp at h
 split at h; · simp at h
 split at h; · simp at h
 rename_i hb;split at h; · simp at h
 split at h; · simp at h
 simp only[Adm,Ayb]at h;have hb':¬JI b=true:=λe=>hb (.inl e);simp only[JI,Aaf]at hb';omega
def De(b:List UInt8):Int×Int:=if(FD b).2≠6 then FD b else Me b
theorem size_eq(b:List UInt8)(hl:b.length<4611686018427387904):CU b=some (De b):=by
 rw[CU,Agx b hl,Aa,Aa7 b hl];by_cases h:(FD b).2=6
 ·simp[De,h,Ah]
 ·simp[De,h,Ah]
theorem kD{b:List UInt8}{n:Int}(h:De b=(n,0)):10<=n/\n<=b.length:=by
 unfold De at h;split at h
 ·have:=Alq h;omega
 ·have:=Ag4 h;omega
def Cw(b:List UInt8):Nat->Nat->List Int×Int
 |0,_=>([],6)
 |j+1,p=>if(De (b.drop p)).2=6 then([],0)else if(De (b.drop p)).2≠0 then([],(De (b.drop p)).2)else
  if 4000<(p:Int)+(De (b.drop p)).1 then([],4)else
  if(Cw b j (p+(De (b.drop p)).1.toNat)).2=0 then((De (b.drop p)).1::(Cw b j (p+(De (b.drop p)).1.toNat)).1,0)else([],(Cw b j (p+(De (b.drop p)).1.toNat)).2)
theorem mG(b:List UInt8):∀(j p:Nat),p<=b.length->p<=4000-> (Cw b j p).2=0-> (∀x∈(Cw b j p).1,10<=x)/\ (p:Int)+(Cw b j p).1.sum<=b.length/\ (p:Int)+(Cw b j p).1.sum<=4000
 |0,p,_,_,h=>by simp[Cw]at h
 |j+1,p,hp,hq,h=>by
  rw[Cw]at h⊢;split at h
  ·rename_i h6;rw[Aae h6];simp;omega
  ·rename_i h6;split at h
   ·rename_i h0;exact absurd h h0
   ·rename_i h0;rw[Aaa h6,Aaa h0];have hz:De (b.drop p)=((De (b.drop p)).1,0):=by rw[Prod.ext_iff];exact⟨rfl,Classical.not_not.1 h0⟩
    have hs:=kD hz;rw[Ahp]at hs;split at h
    ·simp at h
    ·rename_i h4;rw[Aaa h4];split at h
     ·rename_i h00;rw[Aae h00];obtain⟨i1,i2,i3⟩:=mG b j _ (by omega) (by omega) h00;refine⟨λx hx=>?_,?_,?_⟩
      ·rcases List.mem_cons.1 hx with rfl|hx
       ·exact hs.1
       ·exact i1 x hx
      ·simp only[Auk];omega
      ·simp only[Auk];omega
     ·rename_i h00;exact absurd h h00
def H0(b:List UInt8)(j p:Nat):Int×Int:=if(Cw b j p).2=0 then((p:Int)+(Cw b j p).1.sum,0)else(0,(Cw b j p).2)
theorem A5(b:List UInt8)(hl:b.length<4611686018427387904):∀(j p q:Nat),p<=b.length->p<=4000->b.length-p<j->j<=q->Yy b q (p:Int)=some (H0 b j p)
 |0,p,q,_,_,h,_=>by omega
 |j+1,p,q,hp,hp4,hj,hq=>by
  obtain⟨q,rfl⟩:∃k,q=k+1:=⟨q-1,by omega⟩;rw[Yy,Cg,Aa,Al6,size_eq _ (by simp;omega),Aa,Aq,Aq,Ah,H0];by_cases h6:(De (b.drop p)).2=6
  ·rw[Aae (by simpa using h6)];have:Cw b (j+1) p=([],0):=by rw[Cw,Aae h6]
   rw[this];simp
  ·rw[Aaa (by simpa using h6)];by_cases h0:(De (b.drop p)).2=0
   ·have hz:De (b.drop p)=((De (b.drop p)).1,0):=by rw[Prod.ext_iff];exact⟨rfl,h0⟩
    have hs:=kD hz;rw[Ahp]at hs;rw[Aj,Ap];by_cases h4:4000<(p:Int)+(De (b.drop p)).1
    ·rw[Aae (by simp[h0];omega)];have:Cw b (j+1) p=([],4):=by rw[Cw,Aaa h6,Aaa (λh=>h h0),Aae h4]
     rw[this];simp
    ·rw[Aaa (by simp[h0];omega),Aaa (by simpa using h0)];have ih:=A5 b hl j (p+(De (b.drop p)).1.toNat) q (by omega) (by omega) (by omega) (by omega);rw[show(p:Int)+(De (b.drop p)).1=((p+(De (b.drop p)).1.toNat:Nat):Int) by omega,ih,H0];have:Cw b (j+1) p=if(Cw b j (p+(De (b.drop p)).1.toNat)).2=0 then((De (b.drop p)).1::(Cw b j (p+(De (b.drop p)).1.toNat)).1,0)else([],(Cw b j (p+(De (b.drop p)).1.toNat)).2):=by
      rw[Cw,Aaa h6,Aaa (λh=>h h0),Aaa h4]
     rw[this];by_cases hr:(Cw b j (p+(De (b.drop p)).1.toNat)).2=0
     ·simp only[hr,Ayc,Auk];congr 2;omega
     ·simp only[hr,Awd]
   ·rw[Aaa (by simp[h0]),Aae (by simpa using h0)];have:Cw b (j+1) p=([],(De (b.drop p)).2):=by rw[Cw,Aaa h6,Aae h0]
    rw[this];simp[h0]
def Ain(b:List UInt8)(j p:Nat)(xs:List Int):List Int×Int:=if(Cw b j p).2=0 then(xs++(Cw b j p).1,0)else([],(Cw b j p).2)
theorem Ais(bk:Int->List Int->Option (List Int×Int))(b:List UInt8)(p:Nat)(hp:p<=b.length)(xs:List Int)(hx:xs.length<=4000)(hl:b.length<4611686018427387904):Rq (Mo bk b) b (p:Int) xs=Mo bk b (p:Int) xs (De (b.drop p)).1 (De (b.drop p)).2:=by
 have hf:=Afv (b.drop p) (by simp;omega);rw[Rq,Cg,Aa,Al6,Akp _ (by simp;omega),Aa];by_cases h:(FD (b.drop p)).2=6
 ·simp[De,h,Aq,hf]
 ·simp[De,h,Aq]
theorem N7(b:List UInt8)(hl:b.length<4611686018427387904):∀(j p q:Nat) (xs:List Int),p<=b.length->p<=4000->b.length-p<j->j<=q->xs.length<=p->Mi b q (p:Int) xs=some (Ain b j p xs)
 |0,p,q,_,_,_,h,_,_=>by omega
 |j+1,p,q,xs,hp,hp4,hj,hq,hx=>by
  obtain⟨q,rfl⟩:∃k,q=k+1:=⟨q-1,by omega⟩;rw[Mi,Ais _ b p hp xs (by omega) hl,Mo,NT,Aq,Ah,Ain];by_cases h6:(De (b.drop p)).2=6
  ·rw[Aae (by simpa using h6)];have:Cw b (j+1) p=([],0):=by rw[Cw,Aae h6]
   rw[this];simp
  ·rw[Aaa (by simpa using h6)];by_cases h0:(De (b.drop p)).2=0
   ·have hz:De (b.drop p)=((De (b.drop p)).1,0):=by rw[Prod.ext_iff];exact⟨rfl,h0⟩
    have hs:=kD hz;rw[Ahp]at hs;rw[Aaa (by simpa using h0),Aj,Ap];by_cases h4:4000<(p:Int)+(De (b.drop p)).1
    ·rw[Aae (by simp;omega)];have:Cw b (j+1) p=([],4):=by rw[Cw,Aaa h6,Aaa (λh=>h h0),Aae h4]
     rw[this];simp
    ·rw[Aaa (by simp;omega),Bi (by simp;omega),Aa];have ih:=N7 b hl j (p+(De (b.drop p)).1.toNat) q (xs++[(De (b.drop p)).1]) (by omega) (by omega) (by omega) (by omega) (by simp;omega);rw[show(p:Int)+(De (b.drop p)).1=((p+(De (b.drop p)).1.toNat:Nat):Int) by omega,ih,Ain];have:Cw b (j+1) p=if(Cw b j (p+(De (b.drop p)).1.toNat)).2=0 then((De (b.drop p)).1::(Cw b j (p+(De (b.drop p)).1.toNat)).1,0)else([],(Cw b j (p+(De (b.drop p)).1.toNat)).2):=by
      rw[Cw,Aaa h6,Aaa (λh=>h h0),Aaa h4]
     rw[this];by_cases hr:(Cw b j (p+(De (b.drop p)).1.toNat)).2=0
     ·simp only[hr,Ayc];simp
     ·simp only[hr,Awd]
   ·rw[Aae (by simpa using h0)];have:Cw b (j+1) p=([],(De (b.drop p)).2):=by rw[Cw,Aaa h6,Aae h0]
    rw[this];simp[h0]
theorem vT:∀{l:List Int},(∀x∈l,10<=x)->0<=l.sum/\ (l.length:Int)<=l.sum
 |[],_=>by simp
 |x::l,h=>by
  have h1:=h x Au1;have h2:=vT (l:=l) λy hy=>h y (Arz _ hy);simp only[Auk,As0];omega
theorem wZ(r:Int)(l:List Int)(hl:l.length<=4000)(hx:∀x∈l,10<=x):∀(j i q:Nat) (n:Int),i+j=l.length->j<q->0<=n->n+(l.drop i).sum<=4000->Iq r l q n (i:Int)=some (n+(l.drop i).sum,r)
 |0,i,q+1,n,hi,_,_,_=>by
  rw[Iq,Qz,Aaa (by rw[Ae,Ac];simp;omega),show i=l.length by omega,Axa];simp[AO,NH]
 |j+1,i,q+1,n,hi,hq,hn,hs=>by
  have hlt:i<l.length:=by omega
  rw[drop_cons hlt,Auk]at hs⊢;have h1:=hx l[i] (Anw hlt);have h2:=vT (l:=l.drop (i+1)) λy hy=>hx y (Axr hy);rw[Iq,Qz,Aae (by rw[Ae,Ac];simp;omega),Ce hlt,Aa,Aa,Aj,Aj];have ih:=wZ r l hl hx j (i+1) q (n+l[i]) (by omega) (by omega) (by omega) (by omega);rw[show((i:Int)+1)=((i+1:Nat):Int) by omega,ih];congr 2;omega
def Bu(b:List UInt8):Int×Int:=H0 b (b.length+1) 0
theorem Vw(b:List UInt8)(hl:b.length<4611686018427387904):Kg b=some (Bu b):=by
 have:=A5 b hl (b.length+1) 0 Ba (by omega) (by omega) (by omega) (by have:=Ax;omega);exact this
theorem EJ(b:List UInt8)(hl:b.length<4611686018427387904):Ju b=some (Bu b):=by
 have h:=N7 b hl (b.length+1) 0 Ba [] (by omega) (by omega) (by omega) (by have:=Ax;omega) (by simp);have h':HJ b=some (Ain b (b.length+1) 0 []):=h;rw[Ju,Zz,h',Aa,Bu,H0,Ain];have ho:=mG b (b.length+1) 0 (by omega) (by omega);by_cases h0:(Cw b (b.length+1) 0).2=0
 ·obtain⟨i1,i2,i3⟩:=ho h0;have hp:=vT i1;simp only[h0,Ayc,Apz];have:=wZ 0 (Cw b (b.length+1) 0).1 (by omega) i1 (Cw b (b.length+1) 0).1.length 0 Ba 0 (by omega) (by have:=Ax;omega) (by omega) (by simpa using i3);simpa [Ri]using this
 ·simp only[h0,Awd];have:=wZ (Cw b (b.length+1) 0).2 [] (by simp) (by simp) 0 0 Ba 0 (by simp) (by have:=Ax;omega) (by omega) (by simp);simpa [Ri]using this
theorem EA{b:List UInt8}(h:(Bu b).2=0):0<= (Bu b).1/\ (Bu b).1<=b.length/\ (Bu b).1<=4000:=by
 unfold Bu H0 at h⊢;split at h
 ·rename_i h0;rw[Aae h0];obtain⟨i1,i2,i3⟩:=mG b (b.length+1) 0 (by omega) (by omega) h0;have hp:=vT i1;exact⟨by simp;omega,i2,i3⟩
 ·rename_i h0;exact absurd h h0
def Am(r:Nat):Nat:=max 1 (256*r/245)
theorem Iy(r:Nat):1<=Am r:=Nat.le_max_left _ _
theorem qG{r:Nat}(h:r<=1048576):Am r<=1100000:=by unfold Am;omega
theorem A9{r:Nat}(h:r<=1048576):mM (1:Int) (By (Bm (256:Int) (r:Int)) (245:Int))=(Am r:Int):=by
 rw[Hi,SP,Avk (by omega),Db (by omega) (by omega),V4,Am];omega
def Ak(g n:Nat):List Int:=List.replicate ((n-1)/g) (g:Int)++[((n-(n-1)/g*g:Nat):Int)]
theorem YZ(g n:Nat):(Ak g n).length=(n-1)/g+1:=by simp[Ak]
theorem QO{g n:Nat}(h:n<=g)(h1:1<=n):Ak g n=[(n:Int)]:=by
 rw[Ak,Avv (by omega)];simp
theorem lA{g n:Nat}(hg:1<=g)(h:g<n):Ak g n=(g:Int)::Ak g (n-g):=by
 have e:(n-1)/g=(n-g-1)/g+1:=by rw[<-Nat.add_div_right _ (by omega)];congr 1;omega
 rw[Ak,Ak,e,Avu,Axh];congr 4;have:=Atd (n-g-1) g;rw[Ara,Aye];omega
theorem pC{g n:Nat}(hg:1<=g)(h1:1<=n):(n+g-1)/g=(n-1)/g+1:=by
 rw[<-Nat.add_div_right _ (by omega)];congr 1;omega
theorem I6{r:Nat}(h1:1<=r)(h:r<=1048576):Xe (r:Int)=some ((Am r:Int),0):=by
 rw[Xe,Aaa (by simp[Ae,Ap];omega),A9 h]
theorem Ajl{r:Nat}(h:r<=1048576):Tk (r:Int)=some (Am r:Int):=by rw[Tk,A9 h]
theorem dR{r n:Nat}(h1:1<=r)(h:r<=1048576)(n1:1<=n)(n2:n<=4000):Kt (r:Int) (n:Int)=some (if 1000<(n-1)/Am r+1 then(0,4)else((((n-1)/Am r+1:Nat):Int),0)):=by
 have hp:=Iy r;have hl:=qG h;have e:By (Au (Af (n:Int) (Am r:Int)) (1:Int)) (Am r:Int)=(((n-1)/Am r+1:Nat):Int):=by
  have:(n+Am r-1)/Am r<=n+Am r-1:=Ar4 _ _;rw[Aj,Bw,SP,Avk (by omega),show(n:Int)+(Am r:Int)-1=((n+Am r-1:Nat):Int) by omega,<-Int.natCast_ediv,pC hp n1];rw[pC hp n1]at this;generalize(n-1)/Am r=k at*
  exact Db (by omega) (by omega)
 rw[Kt,I6 h1 h,Aa];simp only;rw[Aaa (by rw[Ah];simp),Aaa (by simp[Ae,Ap];omega),Cb (by rw[Ah];simp;omega),Aa,e];by_cases hk:1000<(n-1)/Am r+1
 ·rw[Aae (by rw[Ap];simp;omega),Aae hk]
 ·rw[Aaa (by rw[Ap];simp;omega),Aaa hk]
theorem B4{r:Nat}(h:r<=1048576):∀(j n q:Nat) (acc:List Int),n<=4000->n<=j->j<q->acc.length+n<=10000->Ev (r:Int) q (n:Int) acc=some (acc++(if n=0 then []else Ak (Am r) n))
 |0,n,q+1,acc,hn,hj,hq,ha=>by
  obtain rfl:n=0:=by omega
  rw[Ev,Iu,Aaa (by rw[Ap];simp)];simp[Mq,Rh]
 |j+1,n,q+1,acc,hn,hj,hq,ha=>by
  have hp:=Iy r;have hl:=qG h;by_cases h0:n=0
  ·subst h0;rw[Ev,Iu,Aaa (by rw[Ap];simp)];simp[Mq,Rh]
  ·rw[Ev,Iu,Aae (by rw[Ap];simp;omega),Ajl h,Aa,Bi (by simp;omega),Aa,Aa,Bw,SN];by_cases hs:n<=Am r
   ·rw[show min (n:Int) (Am r:Int)=(n:Int) by omega,Aaa h0,QO hs (by omega)];have hz:∃k,q=k+1:=⟨q-1,by omega⟩;obtain⟨q,rfl⟩:=hz;rw[Ev,Iu,Aaa (by rw[Ap];simp;omega)];simp[Mq,Rh]
   ·rw[show min (n:Int) (Am r:Int)=(Am r:Int) by omega,show(n:Int)-(Am r:Int)=((n-Am r:Nat):Int) by omega,B4 h j (n-Am r) q _ (by omega) (by omega) (by omega) (by simp;omega),Aaa (by omega),Aaa h0,lA hp (show Am r<n by omega)];simp
theorem cA{r n:Nat}(h:r<=1048576)(n1:1<=n)(n2:n<=4000):Ec (r:Int) (n:Int)=some (Ak (Am r) n):=by
 have:=B4 h n n Ba [] n2 (Alw _) (by have:=Ax;omega) (by simp;omega);rw[Ec,Zy,Zh,this,Aaa (by omega)];rfl
theorem mul_one(m:Nat)(h:m<=100000):QN (1:UInt64) (UInt64.ofNat m)=some (0,UInt64.ofNat m):=by
 have y1:(UInt64.ofNat m).toNat=m:=ZP (by omega);have s1:Ea (1:UInt64) (GI.toZ (32:UInt64)).toNat=0:=by decide
 have s2:Ea (UInt64.ofNat m) (GI.toZ (32:UInt64)).toNat=0:=by
  apply UInt64.toNat_inj.1;rw[SC,y1];exact Avv (Avr h (by decide))
 have s0:Ea (0:UInt64) (GI.toZ (32:UInt64)).toNat=0:=by decide
 have a1:Kr (1:UInt64) (4294967295:UInt64)=1:=by decide
 have a0:Kr (0:UInt64) (4294967295:UInt64)=0:=by decide
 have a2:Kr (UInt64.ofNat m) (4294967295:UInt64)=UInt64.ofNat m:=by
  apply UInt64.toNat_inj.1;rw[zT,UInt64.toNat_and,y1]
  show m&&& (2^32-1)=m;rw[Avo,Aah (by omega)]
 have m1:∀x:UInt64,Bm 1 x=x:=λx=>by rw[RI,UInt64.one_mul]
 have m0:∀x:UInt64,Bm 0 x=0:=λx=>by rw[RI,UInt64.zero_mul]
 have p0:∀x:UInt64,Af 0 x=x:=λx=>by rw[RQ,UInt64.zero_add]
 have p1:∀x:UInt64,Af x 0=x:=λx=>by rw[RQ,UInt64.add_zero]
 rw[QN,SX];simp only[s1,s2,a1,a2,m1,m0,p0,p1,s0,a0,Aa]
theorem tT(v:Int)(m:Nat)(hm:m<=100000):∀(j n q:Nat),1<=n->n<=m->m-n<=j->j<q->Ga q (n:Int) (List.replicate n v++List.replicate (m-n) 0)=some (List.replicate m v)
 |j,n,q+1,hn,hnm,hj,hq=>by
  have hlen:Ac (List.replicate n v++List.replicate (m-n) 0)=(m:Int):=by simp[Ac];omega
  rw[Ga,Jc,hlen];by_cases h:n<m
  ·obtain⟨j,rfl⟩:∃k,j=k+1:=⟨j-1,by omega⟩;rw[Aae (by rw[Ae];simp;omega)];have v1:pB (m:Int) (n:Int) (m:Int)=some ():=by rw[pB,Cb];simp;omega
   have v2:pB (m:Int) (0:Int) (n:Int)=some ():=by rw[pB,Cb];simp;omega
   have e1:cC (List.replicate n v++List.replicate (m-n) 0) (0:Int) ((n:Int)-0)=List.replicate n v:=by
    simp[cC]
   rw[v1,Aa,v2,Aa,e1];have e2:XP ((m:Int)-(n:Int)) (List.replicate n v).length=((min n (m-n):Nat):Int):=by
    rw[XP,List.length_replicate];split<;>omega
   have e3:Zf (List.replicate n v++List.replicate (m-n) 0) (n:Int) ((m:Int)-(n:Int)) (List.replicate n v)=List.replicate (n+min n (m-n)) v++List.replicate (m-(n+min n (m-n))) 0:=by
    have t1:((m:Int)-(n:Int)).toNat=m-n:=by omega
    have t2:(List.replicate n v++List.replicate (m-n) (0:Int)).take n=List.replicate n v:=by simp
    rw[Zf,t1,Al6,t2,List.take_replicate,List.length_replicate,<-Ahm,List.replicate_append_replicate,List.drop_append,List.length_replicate,Nat.min_comm (m-n) n];simp only[List.drop_replicate];rw[show n-(n+min n (m-n))=0 by omega,List.replicate_zero,Apz,show m-n-(n+min n (m-n)-n)=m-(n+min n (m-n)) by omega]
   rw[e2,e3,Aj,show(n:Int)+((min n (m-n):Nat):Int)=((n+min n (m-n):Nat):Int) by omega];exact tT v m hm j (n+min n (m-n)) q (by omega) (by omega) (by omega) (by omega)
  ·rw[Aaa (by rw[Ae];simp;omega)];obtain rfl:n=m:=by omega
   simp[Mf,Rv]
theorem Ag8(v:Int)(m:Nat)(hm:m<=100000):Rr [v] (m:Int)=some (List.replicate m v):=by
 have y1:(UInt64.ofNat m).toNat=m:=ZP (by omega);have c1:(Ad (Ac [v]):UInt64)=1:=by rfl
 have c2:(Ad (m:Int):UInt64)=UInt64.ofNat m:=Qi m;have c3:(Ad (UInt64.ofNat m):Int)=(m:Int):=by rw[tH (by omega),y1]
 rw[Rr,Up,Aaa (by rw[Ae];simp),Ut,Ug,c1,c2,mul_one m hm,Aa];simp only;rw[Aaa (by rw[ZF,ZF,y1];simp;show m<=9223372036854775807;omega),Um,Us,c3,uT,Aa,Cb (by rw[Aq];simp),Aa,Ur,Al6];by_cases h0:m=0
 ·subst h0;have hF:Ba=(Ba-1)+1:=by have:=Ax;omega
  rw[hF,Ga,Jc];simp[Ac,D4,XP,Ae,Mf,Rv]
 ·have:=tT v m hm m 1 Ba (by omega) (by omega) (by omega) (by have:=Ax;omega);have e1:XP (Ac (List.replicate m (0:Int))) [v].length=((1:Nat):Int):=by simp[XP,Ac];omega
  have e2:D4 (List.replicate m (0:Int)) [v]=List.replicate 1 v++List.replicate (m-1) 0:=by
   obtain⟨k,rfl⟩:∃k,m=k+1:=⟨m-1,by omega⟩;simp[D4]
  rw[e1,e2,this]
theorem Ags(l m:List Int)(h:l.length+m.length<=1000000):Rc [l,m]=some (l++m):=by
 have hF:Ba=(Ba-3)+1+1+1:=by have:=Ax;omega
 rw[Rc,Uo,Uh];have g0:Ao [l,m] (0:Int)=some l:=rfl;have g1:Ao [l,m] (1:Int)=some m:=rfl;have l2:Ac [l,m]=2:=rfl;have h3:Mh [l,m] []=some (l++m):=by
  rw[Mh,Rw,Sd,hF,Fq,Hy,l2,Aae (by decide),g0,Aa,Bi (by simp;omega),Aa,Apz,show Af (0:Int) 1=1 by decide,
   Fq,Hy,l2,Aae (by decide),g1,Aa,Bi,Aa,show Af (1:Int) 1=2 by decide,Fq,Hy,l2,Aaa (by decide)]
  rfl
 rw[hF,Fz,Jb,l2,Aae (by decide),g0,Aa,Aj (by unfold Ac;omega) (by unfold Ac;omega),Aaa (by rw[Ae,Ac];simp),show Af (0:Int) 1=1 by decide,
  Fz,Jb,l2,Aae (by decide),g1,Aa,Aj (by unfold Ac;omega) (by unfold Ac;omega),Aaa (by rw[Ae,Ac,Ac];simp;omega),show Af (1:Int) 1=2 by decide,
  Fz,Jb,l2,Aaa (by decide),Rt,Se,Aaa (by rw[Ae,Ac,Ac];simp;omega),Sa,Ry]
 have z:Au (0:Int) 0=0:=by decide
 have n0:(0:Int)+Ac l+Ac m=((l.length+m.length:Nat):Int):=by simp[Ac]
 rw[z,n0,Bw,Int.sub_zero];by_cases hp:0<l.length+m.length
 ·rw[Aae (by rw[Ap];simp;omega),show pB (0:Int) 0 0=some ()from rfl,Aa,uT,Aa,Bi (by simp;omega),Aa];rw[show pB (Ac ([]++List.replicate ((l.length+m.length:Nat):Int).toNat (0:Int))) 0 0=some () by rw[pB,Cb];simp[Ac];omega,Aa];simp only[cC,Int.sub_self,Int.toNat_zero,Avn];exact h3
 ·rw[Aaa (by rw[Ap];simp;omega)];exact h3
theorem Ala{r n:Nat}(h1:1<=r)(h:r<=1048576)(n1:1<=n)(n2:n<=4000)(hk:(n-1)/Am r+1<=1000):YX (r:Int) (n:Int)=some (Ak (Am r) n,0):=by
 have hp:=Iy r;have hl:=qG h;have hd:=Atd (n-1) (Am r);rw[YX,dR h1 h n1 n2,Aaa (by omega),Aa];simp only;rw[Aaa (by rw[Ah];simp),I6 h1 h,Aa];simp only;rw[Ak];generalize(n-1)/Am r=k at*
 have e1:Au ((k+1:Nat):Int) 1=(k:Int):=by rw[Bw];omega
 have e2:(k:Int)*(Am r:Int)=((k*Am r:Nat):Int):=by simp
 rw[e1,Ag8 _ _ (by omega),Aa,Hi (by rw[e2];omega) (by rw[e2];omega),e2,Bw,WV,Ags _ _ (by simp;omega),Aa,Aa,show(n:Int)-((k*Am r:Nat):Int)=((n-k*Am r:Nat):Int) by omega]
def Hq(f c w r n:Nat):Bool:=decide ((f=1\/f=2)/\ (1<=c/\c<=6)/\ (w=8\/w=16\/w=24)/\ (1<=r/\r<=1048576)/\1<=n)
def FN(c r n:Nat):Bool:=decide (n<=4000/c/\ (n-1)/Am r+1<=1000)
theorem iE(f c w r n:Nat):Ud (f:Int) (c:Int) (w:Int) (r:Int) (n:Int)=some (Hq f c w r n):=by
 have e2:Qf (f:Int) (c:Int) (w:Int) (r:Int) (n:Int)=some (decide ((f=1\/f=2)/\ (1<=c/\c<=6)/\ (1<=r/\r<=1048576)/\1<=n)):=by
  rw[Qf,OV];congr 1;rw[Ahq];simp only[Aq,Ap,gG,Aag,Atu,Asc,Aaf];omega
 have g:∀k:Nat,geq (w:Int) (k:Int)=decide (w=k):=λk=>by rw[Aq,Ahq];simp;omega
 have g8:geq (w:Int) (8:Int)=decide (w=8):=g 8;have g16:geq (w:Int) (16:Int)=decide (w=16):=g 16;have g24:geq (w:Int) (24:Int)=decide (w=24):=g 24;rw[Ud,EE,e2,g8,g16,g24,Hq];by_cases h8:w=8
 ·subst h8;simp
 ·by_cases h16:w=16
  ·subst h16;simp
  ·by_cases h24:w=24
   ·subst h24;simp
   ·simp[h8,h16,h24]
theorem oT(f c w r n:Nat):Ig (f:Int) (c:Int) (w:Int) (r:Int) (n:Int)=some (Hq f c w r n):=by
 rw[Ig,Hq];simp only[Aq,Ej,gG,Aag,Atu,Asc,Aaf,Axo];split
 ·rename_i h;congr 1;rw[Ahq];simp only[Aag,Atu,Asc,Aaf];omega
 ·rename_i h;congr 1;symm;rw[At7];omega
theorem Ap5{c:Nat}(h:1<=c):By (4000:Int) (c:Int)=((4000/c:Nat):Int):=by
 have:4000/c<=4000:=Ar4 _ _;rw[SP,Avk (by omega),show(4000:Int)=((4000:Nat):Int)from rfl,<-Int.natCast_ediv];generalize 4000/c=k at*
 exact Db (by omega) (by omega)
theorem sG{f c w r n:Nat}(h:Hq f c w r n=true):RX (f:Int) (c:Int) (w:Int) (r:Int) (n:Int)=some (FN c r n):=by
 simp only[Hq,Aaf]at h;have hd:4000/c<=4000:=Ar4 _ _;rw[RX,Cb (by rw[Ah];simp;omega),Aa,Ap5 (by omega),FN];generalize 4000/c=m at*
 by_cases h1:n<=m
 ·rw[Aaa (by rw[Ap];simp;omega),dR (by omega) (by omega) (by omega) (by omega),Aa];generalize(n-1)/Am r+1=k;by_cases h2:1000<k
  ·rw[Aae h2];simp[Aq,gG];omega
  ·rw[Aaa h2];simp[Aq,gG,h1];omega
 ·rw[Aae (by rw[Ap];simp;omega)];simp[h1]
theorem E9{f c w r n:Nat}(h:Hq f c w r n=true):Lh (f:Int) (c:Int) (w:Int) (r:Int) (n:Int)=some (!FN c r n):=by
 simp only[Hq,Aaf]at h;have hd:4000/c<=4000:=Ar4 _ _;rw[Lh,Cb (by rw[Ah];simp;omega),Aa,Ap5 (by omega),FN];generalize 4000/c=m at*
 by_cases h1:n<=m
 ·rw[Aaa (by rw[Ap];simp;omega),cA (by omega) (by omega) (by omega),Aa,Ac,YZ];generalize(n-1)/Am r+1=k;congr 1;rw[Ap,Ahq];simp only[Aaf,Asr,At7];omega
 ·rw[Aae (by rw[Ap];simp;omega)];simp[h1]
def gA:List UInt8:=[84,84,65,49]
def f0(b:List UInt8):Nat:=Fy (part b 4 2)
def f1(b:List UInt8):Nat:=Fy (part b 6 2)
def f2(b:List UInt8):Nat:=Fy (part b 8 2)
def f3(b:List UInt8):Nat:=Fy (part b 10 4)
def f4(b:List UInt8):Nat:=Fy (part b 14 4)
abbrev H6:=Int×Int×Int×Int×Int×Int
def Ep(b:List UInt8):H6:=
 if b.take (min 4 b.length)≠gA.take (min 4 b.length)then(0,0,0,0,0,12)else if b.length<22 then(0,0,0,0,0,24)else
 if(Jl (b.take 18)).toNat≠Fy (part b 18 4)then(0,0,0,0,0,22)else
 if Hq (f0 b) (f1 b) (f2 b) (f3 b) (f4 b)=false then(0,0,0,0,0,12)else
 if FN (f1 b) (f3 b) (f4 b)=false then(0,0,0,0,0,4)else((f0 b:Int),(f1 b:Int),(f2 b:Int),(f3 b:Int),(f4 b:Int),0)
section
variable {b:List UInt8}
theorem rs1(h:b.take (min 4 b.length)≠gA.take (min 4 b.length)):Ep b=(0,0,0,0,0,12):=by rw[Ep,Aae h]
variable (h:b.take (min 4 b.length)=gA.take (min 4 b.length))
include h
theorem rs2(h2:b.length<22):Ep b=(0,0,0,0,0,24):=by rw[Ep,Aaa (λe=>e h),Aae h2]
variable (h2:¬b.length<22)
include h2
theorem rs3(h3:(Jl (b.take 18)).toNat≠Fy (part b 18 4)):Ep b=(0,0,0,0,0,22):=by rw[Ep,Aaa (λe=>e h),Aaa h2,Aae h3]
variable (h3:(Jl (b.take 18)).toNat=Fy (part b 18 4))
include h3
theorem rs4(h4:Hq (f0 b) (f1 b) (f2 b) (f3 b) (f4 b)=false):Ep b=(0,0,0,0,0,12):=by rw[Ep,Aaa (λe=>e h),Aaa h2,Aaa (λe=>e h3),Aae h4]
variable (h4:Hq (f0 b) (f1 b) (f2 b) (f3 b) (f4 b)=true)
include h4
theorem rs5(h5:FN (f1 b) (f3 b) (f4 b)=false):Ep b=(0,0,0,0,0,4):=by rw[Ep,Aaa (λe=>e h),Aaa h2,Aaa (λe=>e h3),Aaa (by rw[h4];simp),Aae h5]
theorem rs6(h5:FN (f1 b) (f3 b) (f4 b)=true):Ep b=((f0 b:Int),(f1 b:Int),(f2 b:Int),(f3 b:Int),(f4 b:Int),0):=by rw[Ep,Aaa (λe=>e h),Aaa h2,Aaa (λe=>e h3),Aaa (by rw[h4];simp),Aaa (by rw[h5];simp)]
end
theorem Ah3(b:List UInt8)(h2:¬b.length<22):Bq (Ad (Jl (b.take 18)):UInt64) (mZ (part b 18 4))=decide ((Jl (b.take 18)).toNat≠Fy (part b 18 4)):=by
 rw[UH,Lz,Ahq];simp only[Axu,ne_eq,Aaf];rw[<-Axi,ZP (by have:=(Jl (b.take 18)).toNat_lt;omega),ZQ (by rw[Eu];omega)]
theorem iB(b:List UInt8)(a w:Nat)(i q:Nat)(l:List Int)(hi:i<5)(hl:l.length=5)(hw:Ao ([2,2,2,4,4]:List Int) (i:Int)=some (w:Int))(h1:1<=w)(h4:w<=4)(ha:a+w<=b.length)(hb:b.length<4611686018427387904):
  Ql b (q+1) (a:Int) (i:Int) l=Ql b q ((a+w:Nat):Int) ((i+1:Nat):Int) (l.set i (Fy (part b a w):Int)):=by
 rw[Ql,JZ,Aae (by rw[Ae];simp;omega),hw,Aa,K1 b a w h1 (by omega) ha hb,Aa];simp only;rw[Ce,Aa,FT _ (by omega),Aa,QM (by rw[Eu ha];omega),Aj,Aj];rfl
theorem Ajg(b:List UInt8)(h22:¬b.length<22)(hb:b.length<4611686018427387904):KN b 4 0 (List.replicate 5 0)=JY [(f0 b:Int),(f1 b:Int),(f2 b:Int),(f3 b:Int),(f4 b:Int)]:=by
 have hF:Ba=(Ba-6)+1+1+1+1+1+1:=by have:=Ax;omega
 rw[KN,hF,show(4:Int)=((4:Nat):Int)from rfl,show(0:Int)=((0:Nat):Int)from rfl];rw[iB b 4 2 0 _ _ (by omega) (by simp) rfl (by omega) (by omega) (by omega) hb,iB b 6 2 1 _ _ (by omega) (by simp) rfl (by omega) (by omega) (by omega) hb,iB b 8 2 2 _ _ (by omega) (by simp) rfl (by omega) (by omega) (by omega) hb,
  iB b 10 4 3 _ _ (by omega) (by simp) rfl (by omega) (by omega) (by omega) hb,iB b 14 4 4 _ _ (by omega) (by simp) rfl (by omega) (by omega) (by omega) hb,Ql,JZ,Aaa (by rw[Ae];simp)]
 rfl
theorem Av7(b:List UInt8):Ku [84,84,65,49] (b.take (min 4 b.length))=some (decide (b.take (min 4 b.length)=gA.take (min 4 b.length))):=by
 have hl:(b.take (min 4 b.length)).length=min 4 b.length:=by rw[Al5];omega
 rw[Ku,Ht,Aae (by rw[Ej,Ac,Ac,hl];simp;omega),Ac,hl,Dr (by omega) (by simp;omega),Aa,Aa,Al6];congr 1;rw[Ahq];rw[Aaf,Asc];exact eq_comm
theorem Aui(b:List UInt8):Jr (4:Int) (Ac b)=((min 4 b.length:Nat):Int):=by rw[SN,Ac];omega
theorem VA(b:List UInt8)(hb:b.length<4611686018427387904):Ni b=some (Ep b):=by
 rw[Ni,XQ,Aui,Dr,Aa,Al6,Av7,Aa];by_cases h:b.take (min 4 b.length)=gA.take (min 4 b.length)
 ·rw[Aaa (by simpa using h)];by_cases h2:b.length<22
  ·rw[Aae (by rw[Ae,Ac];simp;omega),rs2 h h2]
  ·have a1:cI b 18 4=some (mZ (part b 18 4),0):=K1 b 18 4 (by omega) (by omega) (by omega) hb;rw[Aaa (by rw[Ae,Ac];simp;omega),a1,Aa];simp only;rw[Dr,Aa,show(18:Int).toNat=18 from rfl,Abh _ (by simp;omega),Aa];simp only;rw[Ah3 b h2];by_cases h3:(Jl (b.take 18)).toNat=Fy (part b 18 4)
   ·rw[Aaa (by simpa using h3),Ajg b h2 hb,JY,kQ];rw[show Ao [(f0 b:Int),(f1 b:Int),(f2 b:Int),(f3 b:Int),(f4 b:Int)] 0=some (f0 b:Int)from rfl,show Ao [(f0 b:Int),(f1 b:Int),(f2 b:Int),(f3 b:Int),(f4 b:Int)] 1=some (f1 b:Int)from rfl,show Ao [(f0 b:Int),(f1 b:Int),(f2 b:Int),(f3 b:Int),(f4 b:Int)] 2=some (f2 b:Int)from rfl,
     show Ao [(f0 b:Int),(f1 b:Int),(f2 b:Int),(f3 b:Int),(f4 b:Int)] 3=some (f3 b:Int)from rfl,show Ao [(f0 b:Int),(f1 b:Int),(f2 b:Int),(f3 b:Int),(f4 b:Int)] 4=some (f4 b:Int)from rfl]
    simp only[Aa,iE];cases h4:Hq (f0 b) (f1 b) (f2 b) (f3 b) (f4 b)with
    |false=>rw[rs4 h h2 h3 h4];rfl
    |true=>
     rw[sG h4,Aaa (by simp),Aa];cases h5:FN (f1 b) (f3 b) (f4 b)with
     |false=>rw[rs5 h h2 h3 h4 h5];rfl
     |true=>rw[rs6 h h2 h3 h4 h5];rfl
   ·rw[Aae (by simpa using h3),rs3 h h2 h3]
 ·rw[Aae (by simpa using h),rs1 h]
theorem bL(b:List UInt8)(hb:b.length<4611686018427387904):Ld b=some (Ep b):=by
 rw[Ld,CP,Aui,Dr,Aa,Al6,Dr (by omega) (by simp;omega),Aa,Al6];by_cases h:b.take (min 4 b.length)=gA.take (min 4 b.length)
 ·rw[Aaa (by rw[h];simp[gA]),DK,CW];by_cases h2:b.length<22
  ·rw[Aae (by rw[Ae,Ac];simp;omega),rs2 h h2]
  ·have a1:Bp b 18 22=some (part b 18 4):=To 18 4;have c1:Bp b 4 6=some (part b 4 2):=To 4 2;have c2:Bp b 6 8=some (part b 6 2):=To 6 2;have c3:Bp b 8 10=some (part b 8 2):=To 8 2;have c4:Bp b 10 14=some (part b 10 4):=To 10 4;have c5:Bp b 14 18=some (part b 14 4):=To 14 4;have hs:Bq (mZ (part b 18 4)) (Ad (Jl (b.take 18)):UInt64)=decide ((Jl (b.take 18)).toNat≠Fy (part b 18 4)):=by
    rw[<-Ah3 b h2,UH,UH,Ahq];simp only[Axu,ne_eq];exact not_congr eq_comm
   have lp:∀a w,a+w<=b.length->Az (part b a w)=some (mZ (part b a w)):=λa w h=>uw _ (by rw[Eu h];omega);rw[Aaa (by rw[Ae,Ac];simp;omega),a1,Aa,Dr,Aa,show(18:Int).toNat=18 from rfl,lp _ _ (by omega),Aa,Ah6 _ (by simp;omega),Aa,hs];by_cases h3:(Jl (b.take 18)).toNat=Fy (part b 18 4)
   ·rw[Aaa (by simpa using h3),DM,Tn,c1,Aa,c2,Aa,c3,Aa,c4,Aa,c5,Aa,lp _ _ (by omega),Aa,lp _ _ (by omega),Aa,lp _ _ (by omega),Aa,lp _ _ (by omega),Aa,lp _ _ (by omega),Aa,
     DI,RH,QM (by rw[Eu];omega),QM (by rw[Eu];omega),QM (by rw[Eu];omega),QM (by rw[Eu];omega),QM (by rw[Eu];omega)]
    rw[show Fy (part b 4 2)=f0 b from rfl,show Fy (part b 6 2)=f1 b from rfl,show Fy (part b 8 2)=f2 b from rfl,show Fy (part b 10 4)=f3 b from rfl,show Fy (part b 14 4)=f4 b from rfl,oT,Aa];cases h4:Hq (f0 b) (f1 b) (f2 b) (f3 b) (f4 b)with
    |false=>rw[rs4 h h2 h3 h4];rfl
    |true=>
     rw[E9 h4,Aaa (by simp),Aa];cases h5:FN (f1 b) (f3 b) (f4 b)with
     |false=>rw[rs5 h h2 h3 h4 h5];rfl
     |true=>rw[rs6 h h2 h3 h4 h5];rfl
   ·rw[Aae (by simpa using h3),rs3 h h2 h3]
 ·rw[Aae (by simpa [gA]using h),rs1 h]
theorem kH{b:List UInt8}(h:(Ep b).2.2.2.2.2=0):Ep b=((f0 b:Int),(f1 b:Int),(f2 b:Int),(f3 b:Int),(f4 b:Int),0)/\22<=b.length/\Hq (f0 b) (f1 b) (f2 b) (f3 b) (f4 b)=true/\FN (f1 b) (f3 b) (f4 b)=true:=by
 unfold Ep at h⊢;split at h; · simp at h
 rename_i c1;rw[Aaa c1];split at h; · simp at h
 rename_i c2;rw[Aaa c2];split at h; · simp at h
 rename_i c3;rw[Aaa c3];split at h; · simp at h
 rename_i c4;rw[Aaa c4];split at h; · simp at h
 rename_i c5;rw[Aaa c5];exact⟨rfl,by omega,by simpa using c4,by simpa using c5⟩
theorem jL{f c w r n:Nat}(h:Hq f c w r n=true)(h2:FN c r n=true):Dy (f:Int) (c:Int) (w:Int) (r:Int) (n:Int)=some (Ak (Am r) n,0):=by
 have hc:DY (f:Int) (c:Int) (w:Int) (r:Int) (n:Int)=some 0:=by
  rw[DY,iE,Aa,h,Aaa (by simp),sG h,Aa,h2];rfl
 have hd:4000/c<=4000:=Ar4 _ _;simp only[Hq,Aaf]at h;simp only[FN,Aaf]at h2;rw[Dy,hc,Aa,Aaa (by rw[Ah];simp),Ala (by omega) (by omega) (by omega) (by omega) h2.2];rfl
def okL:List Int->Int->Bool
 |[],_=>true
 |x::l,left=>decide (5<=x/\x<=left)&&okL l (left-x)
theorem Aa2:∀l:List Int,(∀x∈l,5<=x)->0<=l.sum
 |[],_=>by simp
 |x::l,h=>by
  have h1:=h x Au1;have h2:=Aa2 l λy hy=>h y (Arz _ hy);rw[Auk];omega
theorem UO:∀(l:List Int) (left:Int),0<=left-> (okL l left=true↔(∀x∈l,5<=x)/\l.sum<=left)
 |[],left,h=>by simp[okL];exact h
 |x::l,left,h=>by
  rw[okL,Aag,Aaf,Auk];by_cases hx:5<=x/\x<=left
  ·rw[UO l (left-x) (by omega)];constructor
   ·rintro⟨_,h1,h2⟩;exact⟨λy hy=>(List.mem_cons.1 hy).elim (λe=>e▸hx.1) (h1 y),by omega⟩
   ·rintro⟨h1,h2⟩;exact⟨hx,λy hy=>h1 y (Arz _ hy),by omega⟩
  ·constructor
   ·rintro⟨h1,_⟩;exact absurd h1 hx
   ·rintro⟨h1,h2⟩;have h3:=h1 x Au1;have:0<=l.sum:=Aa2 l λy hy=>h1 y (Arz _ hy);omega
theorem C1(l:List Int)(hl:l.length<=1000):∀(j i q:Nat) (left:Int),i+j=l.length->j<q->0<=left->left<=100000->Wi l q left (i:Int)=some (if okL (l.drop i) left=true then 0 else 8)
 |0,i,q+1,left,hi,_,_,_=>by
  rw[Wi,MQ,Aaa (by rw[Ae,Ac];simp;omega),show i=l.length by omega,Axa];rfl
 |j+1,i,q+1,left,hi,hq,h0,h1=>by
  have hlt:i<l.length:=by omega
  rw[Wi,MQ,Aae (by rw[Ae,Ac];simp;omega),Ce hlt,Aa,drop_cons hlt];by_cases h:5<=l[i]/\l[i]<=left
  ·rw[Aaa (by simp[Ae,Ap];omega),Bw,Aj];have ih:=C1 l hl j (i+1) q (left-l[i]) (by omega) (by omega) (by omega) (by omega);rw[show((i:Int)+1)=((i+1:Nat):Int) by omega,ih];simp[okL,h]
  ·rw[Aae (by simp[Ae,Ap];omega)];have:okL (l[i]::l.drop (i+1)) left=false:=by rw[okL,Ats h];rfl
   rw[this];rfl
def HR(l:List Int):Bool:=decide (1<=l.length/\l.length<=1000)&&okL l 100000
theorem Y1(l:List Int)(hl:l.length<=1000):Xc l=some (if HR l=true then 0 else 8):=by
 rw[Xc,LW,HR];by_cases h:1<=l.length
 ·rw[Aaa (by rw[Aq,Ap,Ac];simp;constructor;(intro e;subst e;simp at h);omega),XB];have:=C1 l hl l.length 0 Ba 100000 (by omega) (by have:=Ax;omega) (by omega) (by omega);rw[List.drop_zero]at this;rw[Avx (show 1<=l.length/\l.length<=1000 from⟨h,hl⟩),Awg];exact this
 ·have:l=[]:=by
   cases l with
   |nil=>rfl
   |cons _ _=>simp at h
  subst this;rfl
theorem N5(l:List Int)(hl:l.length<=1000):∀(j i q:Nat) (s:Int),i+j=l.length->j<q->0<=s->s<=100000*(i:Int)->Ix l q s (i:Int)=some (if(∀x∈l.drop i,5<=x/\x<=100000)/\s+(l.drop i).sum<=100000 then 0 else 8)
 |0,i,q+1,s,hi,_,_,_=>by
  rw[Ix,Rn,Aaa (by rw[Ae,Ac];simp;omega),show i=l.length by omega,Axa,Yb,MI];by_cases h:s<=100000
  ·rw[Aaa (by rw[Ap];simp;omega),Aae (by simp;omega)]
  ·rw[Aae (by rw[Ap];simp;omega),Aaa (by simp;omega)]
 |j+1,i,q+1,s,hi,hq,h0,h1=>by
  have hlt:i<l.length:=by omega
  rw[Ix,Rn,Aae (by rw[Ae,Ac];simp;omega),Ce hlt,Aa,drop_cons hlt];by_cases h5:l[i]<5
  ·rw[Aae (by rw[Ae];simpa using h5),Aaa (λh=>by have:=(h.1 l[i] Au1).1;omega)]
  ·rw[Aaa (by rw[Ae];simpa using h5),Aa];by_cases h6:100000<l[i]
   ·rw[Aae (by rw[Ap];simpa using h6),Aaa (λh=>by have:=(h.1 l[i] Au1).2;omega)]
   ·rw[Aaa (by rw[Ap];simpa using h6),AB,NR,Ce hlt,Aa,Aj,Aj];have ih:=N5 l hl j (i+1) q (s+l[i]) (by omega) (by omega) (by omega) (by omega);rw[show((i:Int)+1)=((i+1:Nat):Int) by omega,ih];have e:((∀x∈l.drop (i+1),5<=x/\x<=100000)/\s+l[i]+(l.drop (i+1)).sum<=100000)↔((∀x∈l[i]::l.drop (i+1),5<=x/\x<=100000)/\s+(l[i]::l.drop (i+1)).sum<=100000):=by
     rw[Auk,List.forall_mem_cons,Ax0];constructor
     ·rintro⟨a,b⟩;exact⟨⟨by omega,a⟩,b⟩
     ·rintro⟨⟨_,a⟩,b⟩;exact⟨a,b⟩
    simp only[e]
theorem Q4:∀{l:List Int},(∀x∈l,5<=x)->∀x∈l,x<=l.sum
 |[],_,x,hx=>by simp at hx
 |y::l,h,x,hx=>by
  have h1:=h y Au1;have h2:=Aa2 l λz hz=>h z (Arz _ hz);rw[Auk];rcases List.mem_cons.1 hx with rfl|hx
  ·omega
  ·have:=Q4 (l:=l) (λz hz=>h z (Arz _ hz)) x hx;omega
theorem yu(l:List Int)(hl:l.length<=1000):Ha l=some (if HR l=true then 0 else 8):=by
 rw[Ha,Ra,HR];by_cases h:1<=l.length
 ·have:=N5 l hl l.length 0 Ba 0 (by omega) (by have:=Ax;omega) (by omega) (by omega);rw[Aaa (by rw[Ae,Ap,Ac];simp;omega),AI];refine Awq this ?_;rw[List.drop_zero,Avx (show 1<=l.length/\l.length<=1000 from⟨h,hl⟩),Awg];have e:((∀x∈l,5<=x/\x<=100000)/\0+l.sum<=100000)↔okL l 100000=true:=by
   rw[UO l 100000 (by omega),Int.zero_add];constructor
   ·rintro⟨a,b⟩;exact⟨λx hx=>(a x hx).1,b⟩
   ·rintro⟨a,b⟩;exact⟨λx hx=>⟨a x hx,Int.le_trans (Q4 a x hx) b⟩,b⟩
  simp only[e]
 ·have:l=[]:=by
   cases l with
   |nil=>rfl
   |cons _ _=>simp at h
  subst this;rfl
theorem gX(l:List Int):Xc l=some (if HR l=true then 0 else 8):=by
 by_cases hl:l.length<=1000
 ·exact Y1 l hl
 ·rw[Xc,LW,Aae (by rw[Ap,Ac];simp;omega),HR,Ats (by omega)];rfl
theorem aE(l:List Int):Ha l=some (if HR l=true then 0 else 8):=by
 by_cases hl:l.length<=1000
 ·exact yu l hl
 ·rw[Ha,Ra,Aae (by rw[Ap,Ac];simp;omega),HR,Ats (by omega)];rfl
theorem Ab4(l:List Int)(hl:l.length<=1000)(hx:∀x∈l,0<=x/\x<4294967296):Xc l=some (if HR l=true then 0 else 8):=gX l
theorem Afn(l:List Int)(hl:l.length<=1000)(hx:∀x∈l,0<=x/\x<4294967296):Ha l=some (if HR l=true then 0 else 8):=aE l
def UT(b:List UInt8)(n:Nat):List Int:=(List.range n).map λi=>(Fy (part b (4*i) 4):Int)
theorem Ys(b:List UInt8)(n:Nat):(UT b n).length=n:=by simp[UT]
theorem K9(b:List UInt8)(n:Nat):UT b (n+1)=UT b n++[(Fy (part b (4*n) 4):Int)]:=by simp[UT,List.range_succ]
theorem Ac0(b:List UInt8)(n:Nat)(h:4*n<=b.length):∀x∈UT b n,0<=x/\x<4294967296:=by
 intro x hx;simp only[UT,List.mem_map,List.mem_range]at hx;obtain⟨i,hi,rfl⟩:=hx;have:=Aea (l:=part b (4*i) 4) (by rw[Eu];omega);omega
def Em(b:List UInt8)(n:Nat):List Int×Int:=
 if ¬(1<=n/\n<=1000)then([],2)else if b.length<4*n+4 then([],24)else if(Jl (b.take (4*n))).toNat≠Fy (part b (4*n) 4)then([],22)else
 if HR (UT b n)=true then(UT b n,0)else([],12)
theorem Ad2{b:List UInt8}{n:Nat}(h:1<=n/\n<=1000)(h2:¬b.length<4*n+4):Bq (Ad (Jl (b.take (4*n))):UInt64) (mZ (part b (4*n) 4))=decide ((Jl (b.take (4*n))).toNat≠Fy (part b (4*n) 4)):=by
 rw[UH,Lz,Ahq];simp only[Axu,ne_eq,Aaf];rw[<-Axi,ZP (by have:=(Jl (b.take (4*n))).toNat_lt;omega),ZQ (by rw[Eu];omega)]
section
variable {b:List UInt8} {n:Nat}
theorem ss1(h:¬(1<=n/\n<=1000)):Em b n=([],2):=by rw[Em,Aae h]
variable (h:1<=n/\n<=1000)
include h
theorem ss2(h2:b.length<4*n+4):Em b n=([],24):=by rw[Em,Aaa (λe=>e h),Aae h2]
variable (h2:¬b.length<4*n+4)
include h2
theorem ss3(h3:(Jl (b.take (4*n))).toNat≠Fy (part b (4*n) 4)):Em b n=([],22):=by rw[Em,Aaa (λe=>e h),Aaa h2,Aae h3]
theorem ss4(h3:(Jl (b.take (4*n))).toNat=Fy (part b (4*n) 4)):Em b n=if HR (UT b n)=true then(UT b n,0)else([],12):=by rw[Em,Aaa (λe=>e h),Aaa h2,Aaa (λe=>e h3)]
end
theorem N0(b:List UInt8)(l8:List Int)(n:Nat)(hn:n<=1000)(h8:l8.length=n)(hb:4*n+4<=b.length)(hb2:b.length<4611686018427387904):∀(j i q:Nat),i+j=n->j<q->Yw b l8 q (i:Int) (UT b i++List.replicate j 0)=QB (UT b n)
 |0,i,q+1,hi,_=>by
  obtain rfl:i=n:=by omega
  rw[Yw,QD,Aaa (by rw[Ae,Ac];simp;omega)];simp
 |j+1,i,q+1,hi,hq=>by
  have hlen:(UT b i++List.replicate (j+1) 0).length=i+(j+1):=by simp[Ys]
  have ha:=K1 b (4*i) 4 (by omega) (by omega) (by omega) hb2;rw[Yw,QD,Aae (by rw[Ae,Ac];simp;omega),Hi,show(4:Int)*(i:Int)=((4*i:Nat):Int) by omega,show(4:Int)=((4:Nat):Int)from rfl,ha,Aa];simp only;rw[Ce (by rw[hlen];omega),Aa,FT _ (by rw[hlen];omega),Aa,QM (by rw[Eu];omega),Aj,Avu,lH (Ys _ _)];have ih:=N0 b l8 n hn h8 hb hb2 j (i+1) q (by omega) (by omega);rw[K9]at ih;rw[show((i:Int)+1)=((i+1:Nat):Int) by omega,<-ih];simp
theorem mJ(b:List UInt8)(n:Nat)(hb:b.length<=100100):HP b (n:Int)=some (Em b n):=by
 rw[HP,bC];by_cases h:1<=n/\n<=1000
 ·rw[Aaa (by simp[Ae,Ap];omega),Hi,Aj];by_cases h2:b.length<4*n+4
  ·rw[Aae (by rw[Ae,Ac];simp;omega),ss2 h h2]
  ·have ha:cI b (4*(n:Int)) 4=some (mZ (part b (4*n) 4),0):=by
    rw[show(4:Int)*(n:Int)=((4*n:Nat):Int) by omega];exact K1 b (4*n) 4 (by omega) (by omega) (by omega) (by omega)
   rw[Aaa (by rw[Ae,Ac];simp;omega),ha,Aa];simp only;rw[Dr,Aa,show(4*(n:Int)).toNat=4*n by omega,Abh _ (by simp;omega),Aa];simp only;rw[Ad2 h h2];by_cases h3:(Jl (b.take (4*n))).toNat=Fy (part b (4*n) 4)
   ·have hlp:=N0 b (List.replicate n 0) n (by omega) (by simp) (by omega) (by omega) n 0 Ba (by omega) (by have:=Ax;omega);rw[Aaa (by simpa using h3),uT,Aa,Cb (by rw[Aq];simp),Aa,aK,Al6];refine Awq (hlp) ?_;rw[QB,nM,Ab4 _ (by rw[Ys];omega) (Ac0 b n (by omega)),Aa,ss4 h h2 h3];cases HR (UT b n)<;>rfl
   ·rw[Aae (by simpa using h3),ss3 h h2 h3]
 ·rw[Aae (by simp[Ae,Ap];omega),ss1 h]
theorem nC(b:List UInt8)(n:Nat)(hn:n<=1000)(hb:4*n+4<=b.length)(hb2:b.length<4611686018427387904):∀(j i q:Nat),i+j=n->j<q->Jz b (n:Int) q (i:Int) (UT b i)=Ti (UT b n)
 |0,i,q+1,hi,_=>by
  obtain rfl:i=n:=by omega
  rw[Jz,Tg,Aaa (by rw[Ae];simp)]
 |j+1,i,q+1,hi,hq=>by
  have hc:Bp b ((4:Int)*(i:Int)) ((4:Int)*(i:Int)+4)=some (part b (4*i) 4):=by
   rw[show(4:Int)*(i:Int)=((4*i:Nat):Int) by omega];exact To (4*i) 4
  rw[Jz,Tg,Aae (by rw[Ae];simp;omega),Hi,Aj,hc,Aa,uw _ (by rw[Eu];omega),Aa,Bi (by rw[Ys];simp;omega),Aa,
   QM (by rw[Eu];omega),Aj,<-K9]
  exact nC b n hn hb hb2 j (i+1) q (by omega) (by omega)
theorem D0(b:List UInt8)(n:Nat)(hb:b.length<=100100):Oi b (n:Int)=some (Em b n):=by
 rw[Oi,CA];by_cases h:1<=n/\n<=1000
 ·rw[Aaa (by simp[Ae,Ap];omega),Hi,Aj];by_cases h2:b.length<4*n+4
  ·rw[Aae (by rw[Ae,Ac];simp;omega),ss2 h h2]
  ·have hc:Bp b ((4:Int)*(n:Int)) ((4:Int)*(n:Int)+4)=some (part b (4*n) 4):=by
    rw[show(4:Int)*(n:Int)=((4*n:Nat):Int) by omega];exact To (4*n) 4
   have hs:Bq (mZ (part b (4*n) 4)) (Ad (Jl (b.take (4*n))):UInt64)=decide ((Jl (b.take (4*n))).toNat≠Fy (part b (4*n) 4)):=by
    rw[<-Ad2 h h2,UH,UH,Ahq];simp only[Axu,ne_eq];exact not_congr eq_comm
   rw[Aaa (by rw[Ae,Ac];simp;omega),hc,Aa,Dr,Aa,show(4*(n:Int)).toNat=4*n by omega,uw _ (by rw[Eu];omega),Aa,Ah6 _ (by simp;omega),Aa,hs];by_cases h3:(Jl (b.take (4*n))).toNat=Fy (part b (4*n) 4)
   ·have hlp:=nC b n (by omega) (by omega) (by omega) n 0 Ba (by omega) (by have:=Ax;omega);rw[Aaa (by simpa using h3),CT,BW,DO];refine Awq hlp ?_;rw[Ti,RO,Afn _ (by rw[Ys];omega) (Ac0 b n (by omega)),Aa,ss4 h h2 h3];cases HR (UT b n)<;>rfl
   ·rw[Aae (by simpa using h3),ss3 h h2 h3]
 ·rw[Aae (by simp[Ae,Ap];omega),ss1 h]
theorem bO{b:List UInt8}{n:Nat}(h:(Em b n).2=0):Em b n=(UT b n,0)/\1<=n/\n<=1000/\4*n+4<=b.length/\ (∀x∈UT b n,5<=x)/\ (UT b n).sum<=100000:=by
 unfold Em at h⊢;split at h; · simp at h
 rename_i c1;rw[Aaa c1];split at h; · simp at h
 rename_i c2;rw[Aaa c2];split at h; · simp at h
 rename_i c3;rw[Aaa c3];split at h
 ·rename_i c4;rw[Aae c4];have c4':=c4;rw[HR,Aag,UO _ _ (by omega)]at c4';exact⟨rfl,by omega,by omega,by omega,c4'.2.1,c4'.2.2⟩
 ·simp at h
def Iv(b:List UInt8):List UInt8:=b.drop (Bu b).1.toNat
abbrev Op8:=Int×Int×Int×Int×Int×Int×(List Int)×Int
def YR(e:Int):Op8:=(0,0,0,0,0,0,[],e)
theorem D8(A K:Nat)(h:A<=200000)(hk:K<=1000):Af (Af (A:Int) (Bm 4 (K:Int))) 4=((A+4*K+4:Nat):Int):=by
 rw[Hi,Aj (a:=(A:Int)) (by omega) (by omega),Aj];omega
theorem sI{f c w r n:Nat}(h1:Hq f c w r n=true)(h2:FN c r n=true)(b:List UInt8)(hb:b.length<=100100)(A:Nat)(hA:A<=b.length):
  Wl b (f:Int) (c:Int) (w:Int) (r:Int) (n:Int) (A:Int)=
   some (if(Em (b.drop A) (Ak (Am r) n).length).2≠0 then YR (Em (b.drop A) (Ak (Am r) n).length).2 else((f:Int),(c:Int),(w:Int),(r:Int),(n:Int),((A+4*(Ak (Am r) n).length+4:Nat):Int),(Em (b.drop A) (Ak (Am r) n).length).1,0)):=by
 rw[Wl,jB,jL h1 h2,Aa];simp only;rw[Aaa (by rw[Ah];simp),Cg,Aa,Ac,show(A:Int).toNat=A from rfl,mJ _ _ (by simp;omega),Aa];by_cases h:(Em (b.drop A) (Ak (Am r) n).length).2≠0
 ·rw[Aae h,Aae (by rw[Ah];simpa using h)];rfl
 ·have h0:(Em (b.drop A) (Ak (Am r) n).length).2=0:=by simpa using h
  obtain⟨g1,g2,g3,g4,g5,g6⟩:=bO h0;have gl:(Em (b.drop A) (Ak (Am r) n).length).1.length=(Ak (Am r) n).length:=by rw[g1];exact Ys _ _
  rw[Aaa h,Aaa (by rw[Ah];simpa using h),Ac,gl,D8 _ _ (by omega) (by omega)]
theorem Aif{f c w r n:Nat}(h1:Hq f c w r n=true)(h2:FN c r n=true)(b:List UInt8)(hb:b.length<=100100)(A:Nat)(hA:A<=b.length):
  Pm b (f:Int) (c:Int) (w:Int) (r:Int) (n:Int) (A:Int)=
   some (if(Em (b.drop A) (Ak (Am r) n).length).2≠0 then YR (Em (b.drop A) (Ak (Am r) n).length).2 else((f:Int),(c:Int),(w:Int),(r:Int),(n:Int),((A+4*(Ak (Am r) n).length+4:Nat):Int),(Em (b.drop A) (Ak (Am r) n).length).1,0)):=by
 have hs:(1<=r/\r<=1048576)/\1<=n/\1<=c:=by
  simp only[Hq,Aaf]at h1;omega
 have hf:n<=4000:=by
  simp only[FN,Aaf]at h2;have:=Ar4 4000 c;omega
 rw[Pm,KD,Cg,Aa,cA hs.1.2 hs.2.1 hf,Aa,Ac,show(A:Int).toNat=A from rfl,D0 _ _ (by simp;omega),Aa];simp only;rw[KA,KK];by_cases h:(Em (b.drop A) (Ak (Am r) n).length).2≠0
 ·rw[Aae h,Aae (by rw[Ah];simpa using h)];rfl
 ·have h0:(Em (b.drop A) (Ak (Am r) n).length).2=0:=by simpa using h
  obtain⟨g1,g2,g3,g4,g5,g6⟩:=bO h0;have gl:(Em (b.drop A) (Ak (Am r) n).length).1.length=(Ak (Am r) n).length:=by rw[g1];exact Ys _ _
  rw[Aaa h,Aaa (by rw[Ah];simpa using h),Ac,gl,D8 _ _ (by omega) (by omega)]
structure Opn (b p:List UInt8) (f c w r n A:Nat) (l:List Int):Prop where
 prog:Ee b p=some ((f:Int),(c:Int),(w:Int),(r:Int),(n:Int),(A:Int),l,0)
 ref:Ez b p=some ((f:Int),(c:Int),(w:Int),(r:Int),(n:Int),(A:Int),l,0)
 pass:p.length<=64
 file:b.length<=100000
 shape:Hq f c w r n=true
 fit:FN c r n=true
 len:l.length=(Ak (Am r) n).length
 some1:1<=l.length/\l.length<=1000
 five:∀x∈l,5<=x
 sum:l.sum<=100000
 at':A<=b.length
 tag:(Bu b).2=0
 head:Ep (Iv b)=((f:Int),(c:Int),(w:Int),(r:Int),(n:Int),0)
 tab:Em (b.drop ((Bu b).1.toNat+22+(if f=2 then 8 else 0))) l.length=(l,0)
 pos:A=(Bu b).1.toNat+22+(if f=2 then 8 else 0)+4*l.length+4
theorem wG(b p:List UInt8)(hb:b.length<=100100)(hp:p.length<=64):
  (∃e:Int,e≠0/\Ee b p=some (YR e)/\Ez b p=some (YR e))\/ (∃f c w r n A l,Opn b p f c w r n A l):=by
 by_cases h1:100000<b.length
 ·refine .inl ⟨4,by omega,?_,?_⟩
  ·rw[Ee,CJ,Aaa (by rw[Ap,Ac];simp;omega),Aae (by rw[Ap,Ac];simp;omega)];rfl
  ·rw[Ez,Xf,Aae (by rw[Ap,Ac];simp;omega)];rfl
 have hP:Ee b p=Ee b p:=rfl;have hR:Ez b p=Ez b p:=rfl
 conv at hP=>rhs;rw[Ee,CJ,Aaa (by rw[Ap,Ac];simp;omega),Aaa (by rw[Ap,Ac];simp;omega),Vw b (by omega),Aa]
 conv at hR=>rhs;rw[Ez,Xf,Aaa (by rw[Ap,Ac];simp;omega),EJ b (by omega),Aa]
 by_cases h2:(Bu b).2=0
 ·obtain⟨p0,p1,p2⟩:=EA h2;have hc:=Cg (l:=b) p0 p1;simp only[h2]at hP hR;rw[Aaa (by rw[Ah];simp),hc,Aa,show b.drop (Bu b).1.toNat=Iv b from rfl,VA _ (by simp[Iv];omega),Aa]at hP;rw[Aaa (by rw[Ah];simp),hc,Aa,show b.drop (Bu b).1.toNat=Iv b from rfl,bL _ (by simp[Iv];omega),Aa]at hR;by_cases h3:(Ep (Iv b)).2.2.2.2.2=0
  ·obtain⟨g1,g2,g3,g4⟩:=kH h3;have hlen:(Iv b).length=b.length-(Bu b).1.toNat:=by simp[Iv]
   generalize hF:(Bu b).1.toNat=F at*
   have hF':(Bu b).1=(F:Int):=by omega
   rw[g1,hF']at hP hR;simp only at hP hR;generalize f0 (Iv b)=f at*
   generalize f1 (Iv b)=c at*
   generalize f2 (Iv b)=w at*
   generalize f3 (Iv b)=r at*
   generalize f4 (Iv b)=n at*
   have t22:Af (F:Int) 22=((F+22:Nat):Int):=by rw[Aj];omega
   have t30:Af ((F+22:Nat):Int) 8=((F+30:Nat):Int):=by rw[Aj];omega
   have Avj:f=1\/f=2:=by simp only[Hq,Aaf]at g3;omega
   rw[Aaa (by rw[Ah];simp),t22,t30]at hP hR;have hend:∀A:Nat,A<=b.length->A=F+22+(if f=2 then 8 else 0)->Ee b p=Wl b (f:Int) (c:Int) (w:Int) (r:Int) (n:Int) (A:Int)->Ez b p=Pm b (f:Int) (c:Int) (w:Int) (r:Int) (n:Int) (A:Int)->
     (∃e:Int,e≠0/\Ee b p=some (YR e)/\Ez b p=some (YR e))\/ (∃f c w r n A l,Opn b p f c w r n A l):=by
    intro A hA hA2 e1 e2;rw[sI g3 g4 b hb A hA]at e1;rw[Aif g3 g4 b hb A hA]at e2;by_cases h:(Em (b.drop A) (Ak (Am r) n).length).2≠0
    ·rw[Aae h]at e1 e2;exact .inl ⟨_,h,e1,e2⟩
    ·have h0:(Em (b.drop A) (Ak (Am r) n).length).2=0:=by simpa using h
     obtain⟨k1,k2,k3,k4,k5,k6⟩:=bO h0;have gl:(Em (b.drop A) (Ak (Am r) n).length).1.length=(Ak (Am r) n).length:=by rw[k1];exact Ys _ _
     rw[Aaa h]at e1 e2;rw[Ahp]at k4;refine .inr ⟨f,c,w,r,n,_,_,⟨e1,e2,hp,by omega,g3,g4,gl,by omega,by rw[k1];exact k5,by rw[k1];exact k6,by omega,h2,g1,by rw[gl,hF,<-hA2];exact Prod.ext rfl h0,by rw[gl,hF,<-hA2]⟩⟩
   by_cases MZ:((p==([]:List UInt8)) !=(geq (f:Int) (1:Int)))=true
   ·rw[Aae MZ]at hP hR;exact .inl ⟨26,by omega,hP,hR⟩
   ·rw[Aaa MZ]at hP hR;have hpf:(p=[]↔f=1):=by
     rw[Aq]at MZ;have h5:(p==([]:List UInt8))=((f:Int)==1):=by simpa using MZ
     have h6:(p==([]:List UInt8))=true↔((f:Int)==1)=true:=by rw[h5]
     rw[Asc,Asc]at h6;rw[h6];omega
    by_cases h5:f=2
    ·have Aho:p≠ []:=λe=>by have:=hpf.1 e;omega
     have h64:(p !=([]:List UInt8))=true:=by simpa using Aho
     rw[Aae h64]at hP;rw[Aae (by rw[Aq,h5];rfl),Bw (by rw[Ac];omega) (by rw[Ac];omega)]at hR;by_cases h6:b.length<F+30
     ·rw[Aae (by rw[Ae,Ac];simp;omega)]at hP hR;exact .inl ⟨24,by omega,hP,hR⟩
     ·have hseg:((b.take (F+30)).drop (F+22)).length=8:=by simp;omega
      rw[Aaa (by rw[Ae,Ac];simp;omega),Zn,Aa]at hP hR;rw[Pw,rX p hp,Aa]at hP;rw[bF p hp,Aa]at hR;simp only at hP;rw[Aaa (by rw[Ah,Ah,Ac,Ac,Ch,show((F+30:Nat):Int).toNat=F+30 from rfl,show((F+22:Nat):Int).toNat=F+22 from rfl,hseg];simp),Il,Aa,Aa]at hP;simp only at hP;rw[Aaa (by rw[Ah];simp)]at hP;generalize(b.take ((F+30:Nat):Int).toNat).drop ((F+22:Nat):Int).toNat=seg at*
      by_cases h7:seg=Xa (BT p).toNat 8
      ·rw[Aaa (by simp[h7])]at hP;rw[Aaa (by simp[h7])]at hR;exact hend (F+30) (by omega) (by rw[Aae h5]) hP hR
      ·rw[Aae (by simpa using h7)]at hP;rw[Aae (by simpa using h7)]at hR;exact .inl ⟨26,by omega,hP,hR⟩
    ·have hpe:p=[]:=hpf.2 (by omega);rw[Aaa (by rw[hpe];simp)]at hP;rw[Aaa (by rw[Aq];simp;omega)]at hR;exact hend (F+22) (by omega) (by rw[Aaa h5]) hP hR
  ·generalize Ep (Iv b)=v at*
   obtain⟨v1,v2,v3,v4,v5,v6⟩:=v;simp only at h3 hP hR;rw[Aae (by rw[Ah];simpa using h3)]at hP hR;exact .inl ⟨v6,h3,hP,hR⟩
 ·generalize Bu b=v at*
  obtain⟨v,e⟩:=v;simp only at h2 hP hR;rw[Aae (by rw[Ah];simpa using h2)]at hP hR;exact .inl ⟨e,h2,hP,hR⟩
theorem P2(l:List Int)(i:Nat):(l.take i).sum+(l.drop i).sum=l.sum:=by
 conv=>rhs;rw[<-List.take_append_drop i l,List.sum_append]
theorem Ic{l:List Int}(h5:∀x∈l,5<=x)(i:Nat):0<= (l.take i).sum/\ (l.take i).sum<=l.sum:=by
 have h1:=Aa2 (l.take i) λx hx=>h5 x (Axq hx);have h2:=Aa2 (l.drop i) λx hx=>h5 x (Axr hx);have:=P2 l i;omega
theorem Ks{l:List Int}{i:Nat}(h:i<l.length):(l.take (i+1)).sum=(l.take i).sum+l[i]:=by
 rw[OS h,List.sum_append];simp
section
variable {l:List Int} (hl:l.length<=1000) (h5:∀x∈l,5<=x) (hs:l.sum<=100000)
include hl h5 hs
theorem zL(f c w r n A:Int)(hA:0<=A)(hA2:A<=200000)(k:Nat)(hk:k<=l.length):∀(j i q:Nat),i+j=k->j<q->Mn (k:Int) f c w r n A l q (A+(l.take i).sum) (i:Int)=some (A+(l.take k).sum)
 |0,i,q+1,hi,_=>by
  rw[Mn,Zp,Aaa (by rw[Ae];simp;omega),show i=k by omega];rfl
 |j+1,i,q+1,hi,hq=>by
  have hlt:i<l.length:=by omega
  have ih:=zL f c w r n A hA hA2 k hk j (i+1) q (by omega) (by omega);have b1:=Ic h5 i;have b2:=Ic h5 (i+1);have e:=Ks hlt;rw[e,<-Ax0]at ih;rw[Mn,Zp,Aae (by rw[Ae];simp;omega),Ce hlt,Aa,Aj,Aj];exact ih
theorem Aff(f c w r n A:Int)(hA:0<=A)(hA2:A<=200000)(k:Nat)(hk:k<=l.length):VH f c w r n A l (k:Int)=some (A+(l.take k).sum):=by
 have h:=zL hl h5 hs f c w r n A hA hA2 k hk k 0 Ba (by omega) (by have:=Ax;omega);rw[Avn,Axe,Int.add_zero]at h;exact h
end
theorem Xj{g n:Nat}(hg:1<=g)(hn:1<=n){x:Int}(h:x∈Ak g n):∃m:Nat,x=m/\1<=m/\m<=n:=by
 have hmul:=Atd (n-1) g;rw[Ak,List.mem_append]at h;rcases h with h|h
 ·rw[List.mem_replicate]at h;have h1:1<= (n-1)/g:=Nat.pos_of_ne_zero h.1;have:=Ab5 g h1;exact⟨g,h.2,hg,by omega⟩
 ·rw[List.mem_singleton]at h;exact⟨_,h,by omega,by omega⟩
theorem Mk{f c w r n:Nat}(h:Hq f c w r n=true):(1<=c/\c<=6)/\Bn (w:Int)/\ (1<=r/\r<=1048576)/\1<=n/\ (f=1\/f=2):=by
 simp only[Hq,Aaf]at h;refine⟨h.2.1,?_,h.2.2.2.1,h.2.2.2.2,h.1⟩;rcases h.2.2.1 with rfl|rfl|rfl
 ·exact .inl rfl
 ·exact .inr (.inl rfl)
 ·exact .inr (.inr rfl)
theorem Aqu(n m:Nat):Sg n m 0≠Sg n m 2147483648:=by
 intro h;simp[Sg,Xa,vU]at h
def Dd(b:List UInt8):List UInt8:=b.drop (b.length-32)
theorem mh{b:List UInt8}(h:32<=b.length):(Dd b).length=32:=by rw[Dd,Ahp];omega
def NW(t:List UInt8):Nat:=Fy (part t 12 4)-32
def zA(t:List UInt8):Nat:=Fy (part t 16 4)
def CY(b:List UInt8):Int×Int:=
 if ¬(32<=b.length/\ (Dd b).take 8=vU)then(0,6)else if JI (Dd b)=true then(0,12)else
 if Dd b=Sg (NW (Dd b)) (zA (Dd b)) 0 then(if b.length<NW (Dd b)+32 then(0,24)else(((NW (Dd b)+32:Nat):Int),0))else
 if Dd b≠Sg (NW (Dd b)) (zA (Dd b)) 2147483648 then(0,12)else
 if b.length<NW (Dd b)+64 then(0,24)else
 if(b.take (b.length-(NW (Dd b)+64)+32)).drop (b.length-(NW (Dd b)+64))≠Sg (NW (Dd b)) (zA (Dd b)) 2684354560 then(0,12)else(((NW (Dd b)+64:Nat):Int),0)
section
variable {b:List UInt8}
theorem ba1(h:¬(32<=b.length/\ (Dd b).take 8=vU)):CY b=(0,6):=by rw[CY,Aae h]
variable (h:32<=b.length/\ (Dd b).take 8=vU)
include h
theorem ba2(h2:JI (Dd b)=true):CY b=(0,12):=by rw[CY,Aaa (λh'=>h' h),Aae h2]
variable (h2:JI (Dd b)=false)
include h2
theorem ba3(h3:Dd b=Sg (NW (Dd b)) (zA (Dd b)) 0):CY b=if b.length<NW (Dd b)+32 then(0,24)else(((NW (Dd b)+32:Nat):Int),0):=by
 rw[CY,Aaa (λh'=>h' h),Aaa (by rw[h2];simp),Aae h3]
variable (h3:Dd b≠Sg (NW (Dd b)) (zA (Dd b)) 0)
include h3
theorem ba4(h4:Dd b≠Sg (NW (Dd b)) (zA (Dd b)) 2147483648):CY b=(0,12):=by
 rw[CY,Aaa (λh'=>h' h),Aaa (by rw[h2];simp),Aaa h3,Aae h4]
variable (h4:Dd b=Sg (NW (Dd b)) (zA (Dd b)) 2147483648)
include h4
theorem ba5(h5:b.length<NW (Dd b)+64):CY b=(0,24):=by
 rw[CY,Aaa (λh'=>h' h),Aaa (by rw[h2];simp),Aaa h3,Aaa (λe=>e h4),Aae h5]
theorem ba6(h5:¬b.length<NW (Dd b)+64):CY b=if(b.take (b.length-(NW (Dd b)+64)+32)).drop (b.length-(NW (Dd b)+64))≠Sg (NW (Dd b)) (zA (Dd b)) 2684354560 then(0,12)else(((NW (Dd b)+64:Nat):Int),0):=by
 rw[CY,Aaa (λh'=>h' h),Aaa (by rw[h2];simp),Aaa h3,Aaa (λe=>e h4),Aaa h5]
end
theorem lg{b:List UInt8}{n:Int}(h:CY b=(n,0)):32<=n/\n<=b.length:=by
 unfold CY at h;split at h; · simp at h
 rename_i h32;split at h; · simp at h
 split at h
 ·split at h; · simp at h
  simp only[Adm,Ayb]at h;omega
 split at h; · simp at h
 split at h; · simp at h
 split at h; · simp at h
 simp only[Adm,Ayb]at h;omega
theorem Afu{b:List UInt8}(h:(CY b).2≠0):(CY b).1=0:=by
 revert h
 unfold CY;split; · simp
 split; · simp
 split
 ·split<;>simp
 split; · simp
 split; · simp
 split<;>simp
theorem Akf{b:List UInt8}(h:32<=b.length)(hl:b.length<4611686018427387904):Au (Ac b) 32=((b.length-32:Nat):Int)/\Bp b ((b.length-32:Nat):Int) (Ac b)=some (Dd b):=by
 refine⟨by rw[Ac,Bw];omega,?_⟩;rw[Cg];rfl
theorem Ahj(b:List UInt8)(hl:b.length<4611686018427387904):pS b=some (CY b):=by
 rw[pS,jQ];by_cases h32:32<=b.length
 ·obtain⟨e1,e2⟩:=Akf h32 hl;have hl3:=mh h32;rw[Aaa (by rw[e1,Ae];simp),e1,e2,Aa,dT,Aa];by_cases hp:(Dd b).take 8=vU
  ·have h:=And.intro h32 hp;rw[Aaa (by simpa [vU,hl3]using hp),gW,uR,e1,e2,Aa,eG _ 0 (by omega) (by omega) (by decide),Aa];cases hb:JI (Dd b)with
   |true=>
    rw[ba2 h hb];simp only[Ayc,Aqi,Awd];rw[Aa,eG _ 2147483648 (by omega) (by omega) (by decide),Aa,hb];rfl
   |false=>
    obtain⟨i1,i2,i3,i4⟩:=sH (Dd b) (by omega) hb;have eI:Fy (part (Dd b) 12 4)-32=NW (Dd b):=rfl;have eM:Fy (part (Dd b) 16 4)=zA (Dd b):=rfl;simp only[Aqi,Awd];rw[eI]at i3;rw[eM]at i4;rw[eI,eM];by_cases c1:Dd b=Sg (NW (Dd b)) (zA (Dd b)) 0
    ·have c1':Dd b=Sg (NW (Dd b)) (zA (Dd b)) (0:UInt64).toNat:=c1;rw[Aae (by simpa using c1'),ba3 h hb c1];by_cases c2:b.length<NW (Dd b)+32
     ·rw[Aae (by rw[Ae];simp;omega),Aae c2]
     ·rw[Aaa (by rw[Ae];simp;omega),Aaa c2,Aj];rfl
    ·have c1':¬Dd b=Sg (NW (Dd b)) (zA (Dd b)) (0:UInt64).toNat:=c1;rw[Aaa (by simpa using c1'),Aa,eG _ 2147483648 (by omega) (by omega) (by decide),Aa,hb];simp only[Aqi,Awd];rw[eI,eM];by_cases c2:Dd b=Sg (NW (Dd b)) (zA (Dd b)) 2147483648
     ·have c2':Dd b=Sg (NW (Dd b)) (zA (Dd b)) (2147483648:UInt64).toNat:=c2;rw[Aaa (by simpa using c2'),Aj];by_cases c3:b.length<NW (Dd b)+64
      ·rw[Aae (by rw[Ae,Ac];simp;omega),ba5 h hb c1 c2 c3]
      ·rw[Aaa (by rw[Ae,Ac];simp;omega),Ac,Bw,Aj,Zn,Aa,xI _ _ _ i3 i4 (by decide),Aa,Il,Aa,ba6 h hb c1 c2 c3];rw[show((b.length:Int)-(((NW (Dd b):Nat):Int)+64)).toNat=b.length-(NW (Dd b)+64) by omega,show((b.length:Int)-(((NW (Dd b):Nat):Int)+64)+32).toNat=b.length-(NW (Dd b)+64)+32 by omega];have e7:(2684354560:UInt64).toNat=2684354560:=rfl;rw[e7];by_cases c4:(b.take (b.length-(NW (Dd b)+64)+32)).drop (b.length-(NW (Dd b)+64))=Sg (NW (Dd b)) (zA (Dd b)) 2684354560
       ·rw[Aaa (by simpa using c4),Aaa (λe=>e c4)];rfl
       ·rw[Aae (by simpa using c4),Aae c4]
     ·have c2':¬Dd b=Sg (NW (Dd b)) (zA (Dd b)) (2147483648:UInt64).toNat:=c2;rw[Aae (by simpa using c2'),ba4 h hb c1 c2]
  ·rw[Aae (by rw[Asr,At7];intro h;exact hp h.2),ba1 (λh=>hp h.2)]
 ·rw[Aae (by rw[Ac,Bw,Ae];simp;omega),ba1 (λh=>h32 h.1)]
theorem Aob{b:List UInt8}(h:32<=b.length):(b.take (b.length-32+8)).drop (b.length-32)=(Dd b).take 8:=by
 rw[Dd,List.take_drop]
theorem Ale(b:List UInt8)(hl:b.length<4611686018427387904):AZ b=some (CY b):=by
 rw[AZ,BQ];by_cases h32:32<=b.length
 ·obtain⟨e1,e2⟩:=Akf h32 hl;have hl3:=mh h32;rw[Aaa (by rw[Ae,Ac];simp;omega),e1,Aj,Zn,Aa,show((b.length-32:Nat):Int).toNat=b.length-32 from rfl,show(((b.length-32:Nat):Int)+8).toNat=b.length-32+8 by omega,Aob h32];by_cases hp:(Dd b).take 8=vU
  ·have h:=And.intro h32 hp;rw[Aaa (by simpa [vU]using hp),DN,Tv,e1,e2,Aa,Z2 _ (by omega) (by omega),Aa];cases hb:JI (Dd b)with
   |true=>rw[ba2 h hb];rfl
   |false=>
    obtain⟨i1,i2,i3,i4⟩:=sH (Dd b) (by omega) hb;have eI:Fy (part (Dd b) 12 4)-32=NW (Dd b):=rfl;have eM:Fy (part (Dd b) 16 4)=zA (Dd b):=rfl;simp only[Aqi,Awd,Axn];rw[eI]at i3;rw[eM]at i4;rw[eI,eM,Fl,Aae rfl,rJ _ _ _ i3 i4 (by decide),Aa,Aa];have e7:(2147483648:UInt64).toNat=2147483648:=rfl;have e8:(2684354560:UInt64).toNat=2684354560:=rfl;rw[e7];by_cases c2:Dd b=Sg (NW (Dd b)) (zA (Dd b)) 2147483648
    ·have c1:Dd b≠Sg (NW (Dd b)) (zA (Dd b)) 0:=λe=>Aqu (NW (Dd b)) (zA (Dd b)) (e.symm.trans c2);rw[Aaa (by simpa using c2),Tj,Ta,Aae (by simpa using c2),Tx,DV,Aj (a:=32) (by omega) (by omega),Aj];by_cases c3:b.length<NW (Dd b)+64
     ·rw[Aae (by rw[Ae,Ac];simp;omega),ba5 h hb c1 c2 c3]
     ·rw[Aaa (by rw[Ae,Ac];simp;omega),Aae (by simpa using c2),Ac,Bw,Aj,Zn,Aa,Th,rJ _ _ _ i3 i4 (by decide),Aa,Aa,ba6 h hb c1 c2 c3,e8];rw[show((b.length:Int)-(32+((NW (Dd b):Nat):Int)+32)).toNat=b.length-(NW (Dd b)+64) by omega,show((b.length:Int)-(32+((NW (Dd b):Nat):Int)+32)+32).toNat=b.length-(NW (Dd b)+64)+32 by omega];by_cases c4:(b.take (b.length-(NW (Dd b)+64)+32)).drop (b.length-(NW (Dd b)+64))=Sg (NW (Dd b)) (zA (Dd b)) 2684354560
      ·rw[Aaa (by simpa using c4),Aaa (λe=>e c4),show(32+((NW (Dd b):Nat):Int)+32)=((NW (Dd b)+64:Nat):Int) by omega]
      ·rw[Aae (by simpa using c4),Aae c4]
    ·rw[Aae (by simpa using c2),Fl,Aaa (by simp),rJ _ _ _ i3 i4 (by decide),Aa,Aa];have e9:(0:UInt64).toNat=0:=rfl;rw[e9];by_cases c1:Dd b=Sg (NW (Dd b)) (zA (Dd b)) 0
     ·rw[Aaa (by simpa using c1),Tj,Ta,Aaa (by simpa using c2),Tx,DV,Aj,ba3 h hb c1,Aaa (c:=(Dd b==Sg (NW (Dd b)) (zA (Dd b)) 2147483648)=true) (by simpa using c2)];by_cases c3:b.length<NW (Dd b)+32
      ·rw[Aae (by rw[Ae,Ac];simp;omega),Aae c3]
      ·rw[Aaa (by rw[Ae,Ac];simp;omega),Aaa c3,show(32+((NW (Dd b):Nat):Int))=((NW (Dd b)+32:Nat):Int) by omega]
     ·rw[Aae (by simpa using c1),ba4 h hb c1 c2]
  ·rw[Aae (by simpa [vU]using hp),ba1 (λh=>hp h.2)]
 ·rw[Aae (by rw[Ae,Ac];simp;omega),ba1 (λh=>h32 h.1)]
def U4:Nat->List UInt8->Nat->Int×Int
 |0,_,_=>(0,38)
 |j+1,b,a=>if b=[]then((a:Int),0)else if(CY b).2≠0 then(0,38)else U4 j (b.take (b.length-(CY b).1.toNat)) (a+1)
theorem rz:∀(j q a:Nat) (b:List UInt8),b.length<j->j<=q->b.length<=4000->a+b.length<=4000->Yp q (a:Int) b=some (U4 j b a)
 |0,_,_,_,h,_,_,_=>by omega
 |j+1,q+1,a,b,h,hq,h4,ha=>by
  rw[Yp,TH,U4];by_cases hb:b=[]
  ·subst hb;rw[Aaa (by decide),Aae rfl];rfl
  ·have hpos:0<b.length:=List.length_pos_iff.2 hb;rw[Aae (by rw[Ap,Ac];simp;omega),Aaa hb,Ahj b (by omega),Aa];have hbad:=Afu (b:=b);have hok:=λn=>lg (b:=b) (n:=n);generalize CY b=v at*
   obtain⟨n,e⟩:=v;simp only at hbad⊢;rw[OY,PU];by_cases he:e≠0
   ·rw[Aae he,hbad he,Aae (by decide)]
   ·obtain⟨k1,k2⟩:=hok n (by rw[show e=0 by simpa using he]);rw[Aaa he,Aaa (by rw[Aq];simp;omega),Ac,Bw,Dr,Aa,PW,cS,Aj];rw[show((b.length:Int)-n).toNat=b.length-n.toNat by omega];have ih:=rz j q (a+1) (b.take (b.length-n.toNat)) (by rw[Al5];omega) (by omega) (by rw[Al5];omega) (by rw[Al5];omega);rw[<-ih];rfl
theorem Adk:∀(j q a:Nat) (b:List UInt8),b.length<j->j<=q->b.length<=4000->a+b.length<=4000->Lj q b (a:Int)=some (U4 j b a)
 |0,_,_,_,h,_,_,_=>by omega
 |j+1,q+1,a,b,h,hq,h4,ha=>by
  rw[Lj,Yn,U4];by_cases hb:b=[]
  ·subst hb;rw[Aaa (by decide),Aae rfl];rfl
  ·have hpos:0<b.length:=List.length_pos_iff.2 hb;rw[Aae (by rw[Ap,Ac];simp;omega),Aaa hb,Ale b (by omega),Aa];have hok:=λn=>lg (b:=b) (n:=n);generalize CY b=v at*
   obtain⟨n,e⟩:=v;simp only;by_cases he:e≠0
   ·rw[Aae he,Aae (by rw[Ah];simpa using he)]
   ·obtain⟨k1,k2⟩:=hok n (by rw[show e=0 by simpa using he]);rw[Aaa he,Aaa (by rw[Ah];simpa using he),Ac,Bw,Dr,Aa,Aj];rw[show((b.length:Int)-n).toNat=b.length-n.toNat by omega];have ih:=Adk j q (a+1) (b.take (b.length-n.toNat)) (by rw[Al5];omega) (by omega) (by rw[Al5];omega) (by rw[Al5];omega);rw[<-ih];rfl
def Tt(b:List UInt8):Int×Int:=if 4000<b.length then(0,38)else U4 (b.length+1) b 0
theorem uD(b:List UInt8)(hl:b.length<4611686018427387904):KM b=some (Tt b):=by
 rw[KM,TC,Tt];by_cases h:4000<b.length
 ·rw[Aae (by rw[Ap,Ac];simp;omega),Aae h]
 ·rw[Aaa (by rw[Ap,Ac];simp;omega),Aaa h];exact rz _ Ba 0 b (by omega) (by have:=Ax;omega) (by omega) (by omega)
theorem oY(b:List UInt8)(hl:b.length<4611686018427387904):Oz b=some (Tt b):=by
 rw[Oz,Xi,Tt];by_cases h:4000<b.length
 ·rw[Aae (by rw[Ap,Ac];simp;omega),Aae h]
 ·rw[Aaa (by rw[Ap,Ac];simp;omega),Aaa h];exact Adk _ Ba 0 b (by omega) (by have:=Ax;omega) (by omega) (by omega)
theorem tC{a b:Nat}(h:a<9223372036854775808:=by omega):By (a:Int) (b:Int)=((a/b:Nat):Int):=by
 have:a/b<=a:=Ar4 _ _;rw[SP,Avk (by omega),<-Int.natCast_ediv];generalize a/b=k at*
 exact Db (by omega) (by omega)
theorem rN{bits:Int}(h:Bn bits)(x:Int):(NA bits x).length=wB bits:=by
 obtain rfl|rfl|rfl:=h<;>rfl
theorem IG{bits:Int}(h:Bn bits):∀l:List Int32,(Dq bits l).length=l.length*wB bits
 |[]=>by simp[Dq]
 |x::l=>by
  have h1:=IG h l;have h2:=rN h x.toInt;simp only[Dq,List.flatMap_cons,Aai,As0,Axm]at*
  omega
def H5(b:List UInt8)(A:Nat)(l:List Int)(k:Nat):List UInt8:=(b.take ((A:Int)+(l.take (k+1)).sum).toNat).drop ((A:Int)+(l.take k).sum).toNat
structure Gts (b p:List UInt8) (f c w r n A:Nat) (l:List Int) (k m:Nat) (x:List Int32) (s:List UInt8) (e:Int):Prop where
 mom:Ao (Ak (Am r) n) (k:Int)=some (m:Int)
 pos:1<=m/\m*c<=4000
 got:Wn b p (f:Int) (c:Int) (w:Int) (r:Int) (n:Int) (A:Int) l (k:Int)=some (s,e)
 none':e≠0->s=[]/\x=[]
 some':e=0->s=Dq (w:Int) x/\x.length=m*c/\Ay (w:Int) x=some 0/\Ma (w:Int) x=some (s,0)/\ (A:Int)+(l.take (k+1)).sum<=b.length
 way:((b.length:Int)<(A:Int)+(l.take (k+1)).sum/\e=24)\/ ((A:Int)+(l.take (k+1)).sum<=b.length/\Qj (c:Int) (w:Int) (DF p) (m:Int) (H5 b A l k)=some (x,e)/\Ef (c:Int) (w:Int) (DF p) (m:Int) (H5 b A l k)=some (x,e))
theorem IF{b p:List UInt8}{f c w r n A:Nat}{l:List Int}(o:Opn b p f c w r n A l)(k:Nat)(hk:k<l.length):∃m x s e,Gts b p f c w r n A l k m x s e:=by
 obtain⟨hc,hw,hr,hn,_⟩:=Mk o.shape;have hfit:n<=4000/c:=by have:=o.fit;simp only[FN,Aaf]at this;exact this.1
 have hn4:n<=4000:=by have:=Ar4 4000 c;omega
 have hA:=o.at';have Aac:=o.file;have hlen:=o.len;have b1:=Ic o.five k;have b2:=Ic o.five (k+1);have e:=Ks hk;have h5:=o.five l[k] (Anw _);have hsum:=o.sum;have hs1:=o.some1;have hkf:k<(Ak (Am r) n).length:=by omega
 obtain⟨m,hm,m1,m2⟩:=Xj (Iy r) hn (Anw hkf);have Aps:Ao (Ak (Am r) n) (k:Int)=some (m:Int):=by rw[Ce hkf,hm]
 have hpos:1<=m/\m*c<=4000:=by
  refine⟨m1,?_⟩;have:=Ab5 c (Nat.le_trans m2 hfit);have:=Atd 4000 c;omega
 have hR:Wn b p (f:Int) (c:Int) (w:Int) (r:Int) (n:Int) (A:Int) l (k:Int)=Wn b p (f:Int) (c:Int) (w:Int) (r:Int) (n:Int) (A:Int) l (k:Int):=rfl
 conv at hR=>rhs;rw[Wn,TQ,Aff hs1.2 o.five o.sum _ _ _ _ _ (A:Int) (by omega) (by omega) k (by omega),Aa,Ce hk,Aa,Bw (by rw[Ac];omega) (by rw[Ac];omega)]
 by_cases hto:(b.length:Int)<(A:Int)+(l.take (k+1)).sum
 ·rw[Aae (by rw[Ae,Ac,Aaf];omega)]at hR;exact⟨m,[],[],24,Aps,hpos,hR,λ_=>⟨rfl,rfl⟩,λh=>by simp at h, .inl ⟨hto,rfl⟩⟩
 ·rw[Aaa (by rw[Ae,Ac,Aaf];omega),RN p o.pass,cA hr.2 hn hn4]at hR;simp only[Aa]at hR;rw[Aj (a:=(A:Int)+(l.take k).sum) (b:=l[k]) (by omega) (by omega),Ax0,<-e,Aps]at hR;simp only[Aa]at hR;rw[Zn,Aa]at hR;obtain⟨x,er,g1,g2,g3,g4⟩:=RD (ch:=c) (n:=m) (t:=DF p) (H5 b A l k) hw (Ui p) hc.1 hc.2 m1 (by omega);rw[show(b.take ((A:Int)+(l.take (k+1)).sum).toNat).drop ((A:Int)+(l.take k).sum).toNat=H5 b A l k from rfl,g2,Aa]at hR;simp only at hR;rw[TS,TV]at hR;by_cases her:er=0
  ·obtain⟨g5,g6,g7⟩:=g3 her;rw[Aaa (by rw[Ah];simpa using her),PC hw g6 g5,Aa]at hR;subst her;exact⟨m,x,_,0,Aps,hpos,hR,λh=>absurd rfl h,λ_=>⟨rfl,g7,g5,XC hw g6 g5,by omega⟩, .inr ⟨by omega,g1,g2⟩⟩
  ·rw[Aae (by rw[Ah];simpa using her)]at hR;exact⟨m,x,_,er,Aps,hpos,hR,λh=>⟨rfl,g4 h⟩,λh=>absurd h her, .inr ⟨by omega,g1,g2⟩⟩
theorem Gts.lens{b p:List UInt8}{f c w r n A:Nat}{l:List Int}{k m:Nat}{x:List Int32}{s:List UInt8}{e:Int}(hw:Bn (w:Int))(g:Gts b p f c w r n A l k m x s e):s.length<=12000/\x.length<=4000/\ (e=0->s.length=m*c*wB (w:Int)):=by
 by_cases he:e=0
 ·obtain⟨h1,h2,_⟩:=g.some' he;have h3:=DU (w:Int) x;have h4:=IG hw x;have h5:=g.pos;rw[<-h1]at h3 h4;refine⟨by omega,by omega,λ_=>by rw[h4,h2]⟩
 ·obtain⟨h1,h2⟩:=g.none' he;exact⟨by simp[h1],by simp[h2],λh=>absurd h he⟩
def gB(G:Nat->List UInt8×Int)(be:Int):Nat->Nat->List UInt8->List UInt8×Int
 |0,_,acc=>if be≠0 then([],38)else(acc,0)
 |j+1,k,acc=>if(G k).2≠0 then([],(G k).2)else gB G be j (k+1) (acc++(G k).1)
def Kq(b p:List UInt8)(f c w r n A:Nat)(l:List Int)(k:Nat):List UInt8×Int:=(Wn b p (f:Int) (c:Int) (w:Int) (r:Int) (n:Int) (A:Int) l (k:Int)).getD ([],0)
theorem Gts.eq{b p:List UInt8}{f c w r n A:Nat}{l:List Int}{k m:Nat}{x:List Int32}{s:List UInt8}{e:Int}(g:Gts b p f c w r n A l k m x s e):Kq b p f c w r n A l k=(s,e):=by rw[Kq,g.got];rfl
def fB(b:List UInt8)(A:Nat)(l:List Int):Int:=(Tt (b.drop ((A:Int)+l.sum).toNat)).2
def Uw(b:List UInt8)(k:Nat):Nat:=(b.getD k 0).toNat
theorem nJ(b:List UInt8)(k:Nat):Uw b k<256:=(b.getD k 0).toNat_lt
def sx(n:Nat)(b:List UInt8)(a:Nat):Int:=
 if n=1 then(Uw b a:Int)-128 else
 if n=2 then(if Uw b a+256*Uw b (a+1)<32768 then(Uw b a+256*Uw b (a+1):Nat)else((Uw b a+256*Uw b (a+1):Nat):Int)-65536)else
 (if Uw b a+256*Uw b (a+1)+65536*Uw b (a+2)<8388608 then(Uw b a+256*Uw b (a+1)+65536*Uw b (a+2):Nat)else((Uw b a+256*Uw b (a+1)+65536*Uw b (a+2):Nat):Int)-16777216)
def oo(n m:Nat)(b:List UInt8):List Int32:=(List.range m).map λx=>Int32.ofInt (sx n b (x*n))
theorem T6(n m:Nat)(b:List UInt8):(oo n m b).length=m:=by simp[oo]
theorem qp(n m:Nat)(b:List UInt8):oo n (m+1) b=oo n m b++[Int32.ofInt (sx n b (m*n))]:=by simp[oo,List.range_succ]
theorem qR{n:Int}(h: -2147483648<=n)(h':n<2147483648):(Int32.ofInt n).toInt=n:=by
 rw[Av2,Int.bmod_def,show((Int32.size:Nat):Int)=4294967296 from rfl];split<;>omega
theorem fH{b:List UInt8}{k:Nat}(h:k<b.length):Ao b (k:Int)=some (b.getD k 0):=by
 rw[Ce h];simp[List.getD_eq_getElem?_getD,h]
theorem XN(c:UInt8):(Ad c:Int32)=Int32.ofInt (c.toNat:Int):=rfl
theorem sM{v:Nat}(k:Nat)(hk:k<=32)(h:v<2147483648):Fe (Int32.ofInt (v:Int)) k=Int32.ofInt ((v*2^k:Nat):Int):=by
 have e:Fe (Int32.ofInt (v:Int)) k=Int32.ofInt ((Int32.ofInt (v:Int)).toInt*2^min k 32):=rfl;rw[e,qR (by omega) (by omega),As8 hk];simp
theorem Aoz{v w i:Nat}(hv:v<2^i)(hw:w*2^i<2147483648)(hi:i<=31):uN (Int32.ofInt (v:Int)) (Int32.ofInt ((w*2^i:Nat):Int))=Int32.ofInt ((v+w*2^i:Nat):Int):=by
 have hv2:v<2147483648:=Aqa hv (show 2^i<=2^31 from Ae0 (by omega) hi);have e:uN (Int32.ofInt (v:Int)) (Int32.ofInt ((w*2^i:Nat):Int))=Int32.ofInt ((BitVec.ofInt 32 (Int32.ofInt (v:Int)).toInt|||BitVec.ofInt 32 (Int32.ofInt ((w*2^i:Nat):Int)).toInt).toNat:Int):=rfl;rw[e,qR (by omega) (by omega),qR (by omega) (by omega),BitVec.toNat_or,Ata,Ata];have a1:((v:Int) %((2^32:Nat):Int)).toNat=v:=by omega
 have a2:(((w*2^i:Nat):Int) %((2^32:Nat):Int)).toNat=w*2^i:=by omega
 rw[a1,a2,Nat.or_comm,Aql w,<-Atc hv,Ax5]
theorem Q0(w:Nat)(h:w<2147483648):uN (0:Int32) (Int32.ofInt (w:Int))=Int32.ofInt (w:Int):=by
 have:=Aoz (v:=0) (w:=w) (i:=0) (by simp) (by simpa using h) (by omega);simpa using this
theorem carry{v k:Nat}(hk:k<=31)(h:v*2^k<4294967296)(hv:v<2147483648):Ea (Fe (Int32.ofInt (v:Int)) k) k=Int32.ofInt ((if v*2^k<2147483648 then((v*2^k:Nat):Int)else((v*2^k:Nat):Int)-4294967296).fdiv (2^k)):=by
 rw[sM k (by omega) hv];have e:∀x:Int32,Ea x k=Int32.ofInt (x.toInt.fdiv (2^min k 32)):=λ_=>rfl;have hX:(Int32.ofInt ((v*2^k:Nat):Int)).toInt=if v*2^k<2147483648 then((v*2^k:Nat):Int)else((v*2^k:Nat):Int)-4294967296:=by
  rw[Av2,Int.bmod_def,show((Int32.size:Nat):Int)=4294967296 from rfl];generalize v*2^k=X at*
  split<;>split<;>omega
 rw[e,As8 (by omega),hX]
theorem sx2(b:List UInt8)(a:Nat):sx 2 b a=if Uw b a+256*Uw b (a+1)<32768 then((Uw b a+256*Uw b (a+1):Nat):Int)else((Uw b a+256*Uw b (a+1):Nat):Int)-65536:=rfl
theorem sx3(b:List UInt8)(a:Nat):sx 3 b a=if Uw b a+256*Uw b (a+1)+65536*Uw b (a+2)<8388608 then((Uw b a+256*Uw b (a+1)+65536*Uw b (a+2):Nat):Int)else((Uw b a+256*Uw b (a+1)+65536*Uw b (a+2):Nat):Int)-16777216:=rfl
variable (b:List UInt8)
theorem Aun(bk:Int->List Int32->Option (List Int32×Int))(a:Nat)(acc:List Int32)(h:a+1<=b.length)(hl:b.length<=100000)(ha:acc.length<=100000)(j25:Int->List Int32->Int32->Int->Option (List Int32×Int))(j30:List Int32->Option (List Int32×Int)):
  Gq (Kx bk 8 b) j25 j30 8 b (a:Int) acc=bk ((a+1:Nat):Int) (acc++[Int32.ofInt (sx 1 b a)]):=by
 have hb:=nJ b a;have e:Au (Ad (b.getD a 0):Int32) (128:Int32)=Int32.ofInt (sx 1 b a):=by
  have e1:Au (Ad (b.getD a 0):Int32) (128:Int32)=Int32.ofInt ((Int32.ofInt ((b.getD a 0).toNat:Int)).toInt-(128:Int32).toInt):=rfl;rw[e1,qR (by omega) (by have:=(b.getD a 0).toNat_lt;omega)];rfl
 have q8:By (8:Int) 8=1:=by decide
 rw[Gq,Aae (by rw[Ae,Ac];simp;omega),Aae (by rw[Aq];rfl),fH (by omega),Aa,e,Bi (by simp;omega),Aa,Kx,AX,q8,Aj];rfl
theorem Ar6(bk:Int->List Int32->Option (List Int32×Int))(a:Nat)(acc:List Int32)(h:a+2<=b.length)(hl:b.length<=100000)(ha:acc.length<=100000)(j28:Int->List Int32->Option (List Int32×Int))(j30:List Int32->Option (List Int32×Int)):
  Gq j28 (Oj bk 16 b) j30 16 b (a:Int) acc=bk ((a+2:Nat):Int) (acc++[Int32.ofInt (sx 2 b a)]):=by
 have h0:=nJ b a;have h1:=nJ b (a+1);have q:By (16:Int) 8=2:=by decide
 have hF:Ba=(Ba-3)+1+1+1:=by have:=Ax;omega
 have z0:(GI.toZ (Bm (8:Int) 0)).toNat=0:=by decide
 have z1:(GI.toZ (Bm (8:Int) 1)).toNat=8:=by decide
 have z16:(GI.toZ (Au (32:Int) 16)).toNat=16:=by decide
 have s0:Fe (Int32.ofInt (Uw b a:Int)) 0=Int32.ofInt (Uw b a:Int):=by have:=sM (v:=Uw b a) 0 (by omega) (by omega);simpa using this
 have s1:Fe (Int32.ofInt (Uw b (a+1):Int)) 8=Int32.ofInt ((Uw b (a+1)*2^8:Nat):Int):=sM 8 (by omega) (by omega);have o1:=Aoz (v:=Uw b a) (w:=Uw b (a+1)) (i:=8) (by simpa using h0) (by omega) (by omega);have c:=carry (v:=Uw b a+Uw b (a+1)*2^8) (k:=16) (by omega) (by omega) (by omega);rw[Gq,Aae (by rw[Ae,Ac];simp;omega),Aaa (by rw[Aq];decide),Oj,hF,Fi,Gk,q,Aae (by decide),show Af (a:Int) 0=((a:Nat):Int) by rw[Aj];omega,fH (by omega),Aa,Cb (by decide),Aa,z0,
  XN,show((b.getD a 0).toNat:Int)=(Uw b a:Int)from rfl,s0,Q0 _ (by omega),show Af (0:Int) 1=1 by decide,
  Fi,Gk,q,Aae (by decide),show Af (a:Int) 1=((a+1:Nat):Int) by rw[Aj];omega,fH (by omega),Aa,Cb (by decide),Aa,z1,
  XN,show((b.getD (a+1) 0).toNat:Int)=(Uw b (a+1):Int)from rfl,s1,o1,show Af (1:Int) 1=2 by decide,
  Fi,Gk,q,Aaa (by decide),BE,AQ,Cb (by decide),Aa,Aa,z16,c,Bi (by simp;omega),Aa,Kx,AX,q,Aj]
 have e:((if(Uw b a+Uw b (a+1)*2^8)*2^16<2147483648 then(((Uw b a+Uw b (a+1)*2^8)*2^16:Nat):Int)else(((Uw b a+Uw b (a+1)*2^8)*2^16:Nat):Int)-4294967296).fdiv (2^16))=sx 2 b a:=by
  rw[Aqj _ (by omega),sx2];split<;>split<;>omega
 rw[e];rfl
theorem Asd(bk:Int->List Int32->Option (List Int32×Int))(a:Nat)(acc:List Int32)(h:a+3<=b.length)(hl:b.length<=100000)(ha:acc.length<=100000)(j28:Int->List Int32->Option (List Int32×Int))(j30:List Int32->Option (List Int32×Int)):
  Gq j28 (Oj bk 24 b) j30 24 b (a:Int) acc=bk ((a+3:Nat):Int) (acc++[Int32.ofInt (sx 3 b a)]):=by
 have h0:=nJ b a;have h1:=nJ b (a+1);have h2:=nJ b (a+2);have q:By (24:Int) 8=3:=by decide
 have hF:Ba=(Ba-4)+1+1+1+1:=by have:=Ax;omega
 have z0:(GI.toZ (Bm (8:Int) 0)).toNat=0:=by decide
 have z1:(GI.toZ (Bm (8:Int) 1)).toNat=8:=by decide
 have z2:(GI.toZ (Bm (8:Int) 2)).toNat=16:=by decide
 have z8:(GI.toZ (Au (32:Int) 24)).toNat=8:=by decide
 have s0:Fe (Int32.ofInt (Uw b a:Int)) 0=Int32.ofInt (Uw b a:Int):=by have:=sM (v:=Uw b a) 0 (by omega) (by omega);simpa using this
 have s1:Fe (Int32.ofInt (Uw b (a+1):Int)) 8=Int32.ofInt ((Uw b (a+1)*2^8:Nat):Int):=sM 8 (by omega) (by omega);have s2:Fe (Int32.ofInt (Uw b (a+2):Int)) 16=Int32.ofInt ((Uw b (a+2)*2^16:Nat):Int):=sM 16 (by omega) (by omega);have o1:=Aoz (v:=Uw b a) (w:=Uw b (a+1)) (i:=8) (by simpa using h0) (by omega) (by omega);have o2:=Aoz (v:=Uw b a+Uw b (a+1)*2^8) (w:=Uw b (a+2)) (i:=16) (by omega) (by omega) (by omega);have c:=carry (v:=Uw b a+Uw b (a+1)*2^8+Uw b (a+2)*2^16) (k:=8) (by omega) (by omega) (by omega);rw[Gq,Aae (by rw[Ae,Ac];simp;omega),Aaa (by rw[Aq];decide),Oj,hF,Fi,Gk,q,Aae (by decide),show Af (a:Int) 0=((a:Nat):Int) by rw[Aj];omega,fH (by omega),Aa,Cb (by decide),Aa,z0,
  XN,show((b.getD a 0).toNat:Int)=(Uw b a:Int)from rfl,s0,Q0 _ (by omega),show Af (0:Int) 1=1 by decide,
  Fi,Gk,q,Aae (by decide),show Af (a:Int) 1=((a+1:Nat):Int) by rw[Aj];omega,fH (by omega),Aa,Cb (by decide),Aa,z1,
  XN,show((b.getD (a+1) 0).toNat:Int)=(Uw b (a+1):Int)from rfl,s1,o1,show Af (1:Int) 1=2 by decide,
  Fi,Gk,q,Aae (by decide),show Af (a:Int) 2=((a+2:Nat):Int) by rw[Aj];omega,fH (by omega),Aa,Cb (by decide),Aa,z2,
  XN,show((b.getD (a+2) 0).toNat:Int)=(Uw b (a+2):Int)from rfl,s2,o2,show Af (2:Int) 1=3 by decide,
  Fi,Gk,q,Aaa (by decide),BE,AQ,Cb (by decide),Aa,Aa,z8,c,Bi (by simp;omega),Aa,Kx,AX,q,Aj]
 have e:((if(Uw b a+Uw b (a+1)*2^8+Uw b (a+2)*2^16)*2^8<2147483648 then(((Uw b a+Uw b (a+1)*2^8+Uw b (a+2)*2^16)*2^8:Nat):Int)else(((Uw b a+Uw b (a+1)*2^8+Uw b (a+2)*2^16)*2^8:Nat):Int)-4294967296).fdiv (2^8))=sx 3 b a:=by
  rw[Aqj _ (by omega),sx3];split<;>split<;>omega
 rw[e];rfl
theorem pJ(bits:Int)(n m:Nat)(hn:1<=n)(hm:b.length=m*n)(hl:b.length<=100000)(step:∀(q a:Nat) (acc:List Int32),a+n<=b.length->acc.length<=100000->En bits b (q+1) (a:Int) acc=En bits b q ((a+n:Nat):Int) (acc++[Int32.ofInt (sx n b a)])):
  ∀(j x q:Nat),x+j=m->j<q->En bits b q ((x*n:Nat):Int) (oo n x b)=some (oo n m b,0)
 |0,x,q+1,hx,_=>by
  obtain rfl:x=m:=by omega
  rw[En,Gq,Aaa (by rw[Ae,Ac];simp;omega)];rfl
 |j+1,x,q+1,hx,hq=>by
  have h1:(x+1)*n<=m*n:=Ab5 n (by omega);rw[Ara,Aye]at h1;have h2:m<=m*n:=Axl m hn;rw[step q (x*n) _ (by omega) (by rw[T6];omega),<-qp,show x*n+n=(x+1)*n by rw[Ara,Aye]];exact pJ bits n m hn hm hl step j (x+1) q (by omega) (by omega)
theorem At9{bits:Int}(h:Bn bits)(hl:b.length<=100000)(q a:Nat)(acc:List Int32)(ha:a+wB bits<=b.length)(hc:acc.length<=100000):
  En bits b (q+1) (a:Int) acc=En bits b q ((a+wB bits:Nat):Int) (acc++[Int32.ofInt (sx (wB bits) b a)]):=by
 rw[En];obtain rfl|rfl|rfl:=h
 ·exact Aun b _ a acc ha hl hc _ _
 ·exact Ar6 b _ a acc ha hl hc _ _
 ·exact Asd b _ a acc ha hl hc _ _
theorem Q2{bits:Int}(h:Bn bits){m:Nat}(hm:b.length=m*wB bits)(h4:m<=4000):GG bits b=some (oo (wB bits) m b,0):=by
 have hn:=mR bits;have hl:b.length<=12000:=by rw[hm];exact Aul h4 hn.2
 rw[GG,PG,yD h,Aa];simp only;rw[Aaa (by rw[Ah];simp),tD h,Cb (by rw[Ah];simp;omega),Aa];have hr:Ko (Ac b) (wB bits:Int)=0:=by rw[Ac,dC,hm,Avp];rfl
 have hq:By (Ac b) (wB bits:Int)=(m:Int):=by rw[Ac,tC,hm,Nat.mul_div_cancel _ (by omega)]
 rw[Aaa (by rw[Ah,hr];simp),Aa,hq,Aaa (by rw[Ap];simp;omega),ML];have:=pJ b bits (wB bits) m (by omega) hm (by omega) (λq a acc ha hc=>At9 b h (by omega) q a acc ha hc) m 0 Ba (by omega) (by have:=Ax;omega);simpa [oo]using this
theorem Aou{bits:Int}(h:Bn bits)(hl:b.length<=100000)(q a:Nat)(acc:List Int32)(ha:a+wB bits<=b.length)(hc:acc.length<=100000):
  Dj bits b (hB bits) (q+1) (a:Int) acc=Dj bits b (hB bits) q ((a+wB bits:Nat):Int) (acc++[Int32.ofInt (sx (wB bits) b a)]):=by
 have h0:=nJ b a;have h1:=nJ b (a+1);have h2:=nJ b (a+2);have gc:∀k,(Ad (b.getD k 0):Int)=(Uw b k:Int):=λk=>OU _;have gx:∀z:Int,(Ad z:Int32)=Int32.ofInt z:=λz=>rfl;have hF:Ba=(Ba-7)+1+1+1+1+1+1+1:=by have:=Ax;omega
 have hw1:wB bits=1\/wB bits=2\/wB bits=3:=by have:=mR bits;omega
 have hend:∀(bk:Int->List Int32->Option (List Int32×Int)) (z:Int),0<=z->z<2*hB bits->z=(if bits=8 then(Uw b a:Int)else if bits=16 then((Uw b a+256*Uw b (a+1):Nat):Int)else((Uw b a+256*Uw b (a+1)+65536*Uw b (a+2):Nat):Int))->
   Jh bk bits b (hB bits) (a:Int) z acc=bk ((a+wB bits:Nat):Int) (acc++[Int32.ofInt (sx (wB bits) b a)]):=by
  intro bk z z0 z1 z2;rw[Jh,Ul];have e28:∀Acu,Nb bk bits b (hB bits) (a:Int) Acu=bk ((a+wB bits:Nat):Int) Acu:=by
   intro Acu;rw[Nb,GK,tD h,Aj];rfl
  simp only[e28];obtain rfl|rfl|rfl:=h
  ·rw[Aae (by decide),Bw (by omega) (by simp[hB]at z1;omega),Bi (by simp;omega),Aa,gx,z2];rfl
  ·rw[Aaa (by decide)];have e9:hB 16=32768:=rfl;rw[e9]at z1⊢;simp only[show ¬(16:Int)=8 by decide,Awd,Ayc]at z2;have e10:wB 16=2:=rfl;rw[e10,sx2];by_cases hz:32768<=z
   ·rw[Aae (by rw[Ej];simpa using hz),Hi,Bw,Bi (by simp;omega),Aa,gx,Aaa (by omega),z2];rfl
   ·rw[Aaa (by rw[Ej];simpa using hz),Bi (by simp;omega),Aa,gx,Aae (by omega),z2]
  ·rw[Aaa (by decide)];have e9:hB 24=8388608:=rfl;rw[e9]at z1⊢;simp only[show ¬(24:Int)=8 by decide,show ¬(24:Int)=16 by decide,Awd]at z2;have e10:wB 24=3:=rfl;rw[e10,sx3];by_cases hz:8388608<=z
   ·rw[Aae (by rw[Ej];simpa using hz),Hi,Bw,Bi (by simp;omega),Aa,gx,Aaa (by omega),z2];rfl
   ·rw[Aaa (by rw[Ej];simpa using hz),Bi (by simp;omega),Aa,gx,Aae (by omega),z2]
 have step:∀(bk:Int->List Int32->Option (List Int32×Int)) (q2:Nat) (k:Int) (i:Nat),a+i<b.length->0<=k->k<65536->Dx bk bits b (hB bits) (a:Int) acc (q2+1) k (i:Int)=Dx bk bits b (hB bits) (a:Int) acc q2 (256*k+(Uw b (a+i):Int)) ((i:Int)-1):=by
  intro bk q2 k i hi hk hk2;have:=nJ b (a+i);rw[Dx,Nf,Aae (by rw[Ej];simp),Aj (a:=(a:Int)) (by omega) (by omega),show(a:Int)+(i:Int)=((a+i:Nat):Int) by omega,fH (by omega),Aa,gc,Hi,Aj,Bw]
 have last:∀(bk:Int->List Int32->Option (List Int32×Int)) (q2:Nat) (k:Int),Dx bk bits b (hB bits) (a:Int) acc (q2+1) k (-1)=Jh bk bits b (hB bits) (a:Int) k acc:=by
  intro bk q2 k;rw[Dx,Nf,Aaa (by rw[Ej];decide)]
 rw[Dj,Nc,Aae (by rw[Ae,Ac];simp;omega),Uj,hF];generalize Dj bits b (hB bits) q=bk at*
 have hwq:=tD h;rw[hwq,Bw];obtain rfl|rfl|rfl:=h
 ·have e10:wB 8=1:=rfl;rw[e10]at ha⊢;rw[show(((1:Nat):Int)-1)=((0:Nat):Int) by omega,step _ _ 0 0 (by omega) (by omega) (by omega),show(((0:Nat):Int)-1)= -1 by omega,last];exact hend bk _ (by omega) (by simp[hB];omega) (by simp)
 ·have e10:wB 16=2:=rfl;rw[e10]at ha⊢;rw[show(((2:Nat):Int)-1)=((1:Nat):Int) by omega,step _ _ 0 1 (by omega) (by omega) (by omega),show(((1:Nat):Int)-1)=((0:Nat):Int) by omega,step _ _ _ 0 (by omega) (by omega) (by omega),show(((0:Nat):Int)-1)= -1 by omega,last];exact hend bk _ (by omega) (by simp[hB];omega) (by simp;omega)
 ·have e10:wB 24=3:=rfl;rw[e10]at ha⊢;rw[show(((3:Nat):Int)-1)=((2:Nat):Int) by omega,step _ _ 0 2 (by omega) (by omega) (by omega),show(((2:Nat):Int)-1)=((1:Nat):Int) by omega,step _ _ _ 1 (by omega) (by omega) (by omega),show(((1:Nat):Int)-1)=((0:Nat):Int) by omega,step _ _ _ 0 (by omega) (by omega) (by omega),show(((0:Nat):Int)-1)= -1 by omega,last];exact hend bk _ (by omega) (by simp[hB];omega) (by simp;omega)
theorem bP{bits:Int}(h:Bn bits){m:Nat}(hm:b.length=m*wB bits)(hl:b.length<=100000):
  ∀(j x q:Nat),x+j=m->j<q->Dj bits b (hB bits) q ((x*wB bits:Nat):Int) (oo (wB bits) x b)=some (oo (wB bits) m b,0)
 |0,x,q+1,hx,_=>by
  obtain rfl:x=m:=by omega
  rw[Dj,Nc,Aaa (by rw[Ae,Ac];simp;omega)];rfl
 |j+1,x,q+1,hx,hq=>by
  have hn:=mR bits;have h1:(x+1)*wB bits<=m*wB bits:=Ab5 _ (by omega);rw[Ara,Aye]at h1;have h2:m<=m*wB bits:=Axl m hn.1;rw[Aou b h hl q (x*wB bits) _ (by omega) (by rw[T6];omega),<-qp,show x*wB bits+wB bits=(x+1)*wB bits by rw[Ara,Aye]];exact bP h hm hl j (x+1) q (by omega) (by omega)
theorem Y9{bits:Int}(h:Bn bits){m:Nat}(hm:b.length=m*wB bits)(h4:m<=4000):Tz bits b=some (oo (wB bits) m b,0):=by
 have hn:=mR bits;have hl:b.length<=12000:=by rw[hm];exact Aul h4 hn.2
 have hpos:=OO bits;rw[Tz,Vu,TP h,Aa,Aaa (by rw[Aq];simp;omega),tD h,Cb (by rw[Ah];simp;omega),Aa];have hr:Ko (Ac b) (wB bits:Int)=0:=by rw[Ac,dC,hm,Avp];rfl
 have hq:By (Ac b) (wB bits:Int)=(m:Int):=by rw[Ac,tC,hm,Nat.mul_div_cancel _ (by omega)]
 rw[Aaa (by rw[Ap,hr];simp),Aa,hq,Aaa (by rw[Ap];simp;omega),Uf];have:=bP b h hm (by omega) m 0 Ba (by omega) (by have:=Ax;omega);simpa [oo]using this
end Go.Pl
namespace Go.Pl
open Go Go.Lv
theorem Ar7{c:Nat}{w:Nat}(hc:c<=6)(hw:Bn (w:Int)):By (Bm (c:Int) (w:Int)) 8=((c*wB (w:Int):Nat):Int):=by
 have h:w=8\/w=16\/w=24:=by unfold Bn at hw;omega
 have:c=0\/c=1\/c=2\/c=3\/c=4\/c=5\/c=6:=by omega
 rcases h with rfl|rfl|rfl<;>rcases this with rfl|rfl|rfl|rfl|rfl|rfl|rfl<;>rfl
theorem Aq7{w:Nat}(hw:Bn (w:Int)):8*wB (w:Int)=w/\w<=24:=by
 have h:w=8\/w=16\/w=24:=by unfold Bn at hw;omega
 rcases h with rfl|rfl|rfl<;>exact⟨rfl,by omega⟩
theorem Ast{t c w:Nat}(ht:t<=4000)(hc:c<=6)(hw:Bn (w:Int)):By (Bm (Bm (t:Int) (c:Int)) (w:Int)) 8=((t*(c*wB (w:Int)):Nat):Int):=by
 obtain⟨h1,h2⟩:=Aq7 hw;have e1:(t:Int)*(c:Int)=((t*c:Nat):Int):=by simp
 have b1:t*c<=4000*6:=Aul ht hc;have b2:t*c*w<=24000*24:=Aul b1 h2;rw[Hi (a:=(t:Int)) (by rw[e1];omega) (by rw[e1];omega),e1,Hi (by rw[<-Ath];omega) (by rw[<-Ath];omega),<-Ath,show(8:Int)=((8:Nat):Int)from rfl,tC];congr 1;generalize wB (w:Int)=W at*
 subst h1;rw[Nat.mul_left_comm,Nat.mul_div_cancel_left _ (by omega),Av3]
def uH(w:Nat)(y:List UInt8×Int):List Int32:=if y.2≠0 then []else oo (wB (w:Int)) (y.1.length/wB (w:Int)) y.1
theorem sP(z:Int):(u8 z).toNat=(z %256).toNat:=by
 have:(z %256).toNat<256:=by omega
 rw[u8,Aph,Aah (by omega)]
theorem wX{bits:Int}(h:Bn bits):∀(l:List Int32) (i j:Nat),i<l.length->j<wB bits-> (Dq bits l).getD (i*wB bits+j) 0=(NA bits (l.getD i 0).toInt).getD j 0
 |[],i,j,hi,_=>by simp at hi
 |x::l,0,j,_,hj=>by
  have h1:=rN h x.toInt;have e:Dq bits (x::l)=NA bits x.toInt++Dq bits l:=by simp[Dq]
  rw[e,Nat.zero_mul,Avg,List.getD_eq_getElem?_getD,List.getD_eq_getElem?_getD,List.getElem?_append_left (by omega)];rfl
 |x::l,i+1,j,hi,hj=>by
  have h1:=rN h x.toInt;have e:Dq bits (x::l)=NA bits x.toInt++Dq bits l:=by simp[Dq]
  have ih:=wX h l i j (by simpa using hi) hj;have e2:(i+1)*wB bits+j=(NA bits x.toInt).length+(i*wB bits+j):=by rw[Ara,Aye,h1];omega
  rw[e,e2,List.getD_eq_getElem?_getD,List.getElem?_append_right (by omega),Axk,<-List.getD_eq_getElem?_getD,ih];rfl
theorem Ape{bits:Int}(h:Bn bits)(l:List Int32)(hr:inR bits l)(i:Nat)(hi:i<l.length):Int32.ofInt (sx (wB bits) (Dq bits l) (i*wB bits))=l.getD i 0:=by
 have hm:l.getD i 0∈l:=by rw[List.getD_eq_getElem?_getD,List.getElem?_eq_getElem hi];exact Anw hi
 have hv:=hr _ hm;have g:∀j,j<wB bits->Uw (Dq bits l) (i*wB bits+j)=((NA bits (l.getD i 0).toInt).getD j 0).toNat:=λj hj=>by rw[Uw,wX h l i j hi hj]
 generalize l.getD i 0=x at*
 have key:sx (wB bits) (Dq bits l) (i*wB bits)=x.toInt:=by
  generalize hA:i*wB bits=a at*
  obtain rfl|rfl|rfl:=h
  ·have g0:=g 0 (by decide);have e1:(NA 8 x.toInt).getD 0 0=u8 (x.toInt+128):=rfl;rw[Aw2,e1,sP]at g0;simp only[hB]at hv;simp at hv;have e2:wB 8=1:=rfl;rw[e2,sx,Aae rfl,g0];omega
  ·have g0:=g 0 (by decide);have g1:=g 1 (by decide);have e0:(NA 16 x.toInt).getD 0 0=u8 x.toInt:=rfl;have e1:(NA 16 x.toInt).getD 1 0=u8 (x.toInt/256):=rfl;rw[Aw2,e0,sP]at g0;rw[e1,sP]at g1;simp only[hB]at hv;simp at hv;have e2:wB 16=2:=rfl;rw[e2,sx2,g0,g1];split<;>omega
  ·have g0:=g 0 (by decide);have g1:=g 1 (by decide);have g2:=g 2 (by decide);have e0:(NA 24 x.toInt).getD 0 0=u8 x.toInt:=rfl;have e1:(NA 24 x.toInt).getD 1 0=u8 (x.toInt/256):=rfl;have e3:(NA 24 x.toInt).getD 2 0=u8 (x.toInt/65536):=rfl;rw[Aw2,e0,sP]at g0;rw[e1,sP]at g1;rw[e3,sP]at g2;simp only[hB]at hv;simp at hv;have e2:wB 24=3:=rfl;rw[e2,sx3,g0,g1,g2];split<;>omega
 rw[key];simp
theorem D2{bits:Int}(h:Bn bits)(l:List Int32)(hr:inR bits l):oo (wB bits) l.length (Dq bits l)=l:=by
 refine Avl (T6 _ _ _) λi h1 h2=>?_;have:=Ape h l hr i h2;simp only[oo,Axj,Axg];rw[this,List.getD_eq_getElem?_getD,List.getElem?_eq_getElem h2];rfl
theorem Gts.uJ{b p:List UInt8}{f c w r n A:Nat}{l:List Int}{k m:Nat}{x:List Int32}{s:List UInt8}{e:Int}(hw:Bn (w:Int))(g:Gts b p f c w r n A l k m x s e):uH w (s,e)=x:=by
 have hwb:=mR (w:Int);by_cases he:e=0
 ·obtain⟨h1,h2,h3,_⟩:=g.some' he;have h4:=g.pos;have h5:=IG hw x;rw[uH,Aaa (by simpa using he)];simp only;rw[h1,h5,Nat.mul_div_cancel _ (by omega)];exact D2 hw x (cV hw (by omega) h3)
 ·rw[uH,Aae he,(g.none' he).2]
abbrev C5:=Int×Int×Int×List Int32×Int
def mK(e:Int):C5:=(0,0,0,[],e)
theorem yB{seg p:List UInt8}(hs:seg.length=8)(hp:p.length<=64):Pw seg p=some (seg==Xa (BT p).toNat 8,0):=by
 rw[Pw,rX p hp,Aa];simp only;rw[Aaa (by rw[Ah,Ah,Ac,Ac,Ch,hs];simp),Il,Aa]
theorem Aml(b p:List UInt8)(m c w h o q n g y ab:Int)(k v:List Int){e:Int}(he:e≠0):We b p m c w h o q n g k e y ab v=some (mK e):=by
 rw[We,WZ,Aae (by rw[Ah];simpa using he)];rfl
theorem vS(b p:List UInt8)(m c w h o q n g y ab:Int)(k:List Int){e:Int}(he:e≠0):CN b p m c w h o q n g y ab k e=some (mK e):=by
 rw[CN,XD,Aae (by rw[Ah];simpa using he)];rfl
theorem Akk(b p:List UInt8)(m c w h o q n g y ab:Int)(k:List Int):CN b p m c w h o q n g y ab k 0=LN b p m c w h o q n g y ab k:=by
 rw[CN,XD,Aaa (by rw[Ah];simp)]
def YP(X:Nat->List Int32)(E:Nat->Int)(be:Int):Nat->Nat->List Int32->List Int32×Int
 |0,_,acc=>if be≠0 then([],38)else(acc,0)
 |j+1,k,acc=>if E k≠0 then([],E k)else YP X E be j (k+1) (acc++X k)
def QY(c w r:Nat)(y:List Int32×Int):C5:=if y.2≠0 then mK y.2 else((c:Int),(w:Int),(r:Int),y.1,0)
def lD(b p:List UInt8)(f c w r n A:Nat)(l:List Int):C5:=
 QY c w r (YP (λk=>uH w (Kq b p f c w r n A l k)) (λk=>(Kq b p f c w r n A l k).2) (fB b A l) l.length 0 [])
section
variable {b p:List UInt8} {f c w r n A:Nat} {l:List Int} (o:Opn b p f c w r n A l)
include o
theorem O1(a1 a2 a3 a4:Int):∀(j k q:Nat) (acc:List Int32),k+j=l.length->j<q-> (k=l.length-> (A:Int)+l.sum<=b.length)->acc.length<=4000*k->
  CM b l (f:Int) (c:Int) (w:Int) (r:Int) (n:Int) a1 a2 a3 (A:Int) a4 (DF p) (Ak (Am r) n) q ((A:Int)+(l.take k).sum) (k:Int) acc=
   some (QY c w r (YP (λk=>uH w (Kq b p f c w r n A l k)) (λk=>(Kq b p f c w r n A l k).2) (fB b A l) j k acc))
 |0,k,q+1,acc,hk,_,hfit,_=>by
  have hA:=o.at';have Aac:=o.file;have hs1:=o.some1;have hsum:=o.sum;have b1:=Ic o.five l.length;have hf:=hfit (by omega);obtain rfl:k=l.length:=by omega
  rw[Atb]at b1⊢;rw[CM,XK,Aaa (by rw[Ae,Ac];simp),jC,hH,Cg,Aa,uD _ (by rw[Ahp];omega),Aa,YP,fB];generalize Tt (b.drop ((A:Int)+l.sum).toNat)=v;obtain⟨v1,v2⟩:=v;simp only;by_cases hv:v2≠0
  ·rw[Aae hv,Aae (by rw[Ah];simpa using hv),QY,Aae (by simp)];rfl
  ·rw[Aaa hv,Aaa (by rw[Ah];simpa using hv),QY,Aaa (by simp)]
 |j+1,k,q+1,acc,hk,hq,hfit,hacc=>by
  have hA:=o.at';have Aac:=o.file;have hs1:=o.some1;have hsum:=o.sum;have b1:=Ic o.five k;have b2:=Ic o.five (k+1);have hkl:k<l.length:=by omega
  have e2:=Ks hkl;have h5:=o.five l[k] (Anw _);obtain⟨m,x,s,e,g⟩:=IF o k hkl;obtain⟨hc,hw,hr,hn,_⟩:=Mk o.shape;have hl:=g.lens hw;rw[CM,XK,Aae (by rw[Ae,Ac];simp;omega),Ce hkl,Aa,Aa,Aj (a:=(A:Int)+(l.take k).sum) (by omega) (by omega),Ax0,<-e2,Ac,YP,g.eq];simp only;rcases g.way with⟨h1,h2⟩|⟨h1,h2,_⟩
  ·rw[Aae (by rw[Ae,Aaf];omega),Aae (by rw[h2];simp),h2,QY,Aae (by simp)];rfl
  ·rw[Aaa (by rw[Ae,Aaf];omega),g.mom];simp only[Aa];rw[Zn,Aa,show(b.take ((A:Int)+(l.take (k+1)).sum).toNat).drop ((A:Int)+(l.take k).sum).toNat=H5 b A l k from rfl,h2,Aa];simp only;rw[iY,iX];by_cases he:e≠0
   ·rw[Aae (by rw[Ah];simpa using he),Aae he,QY,Aae he];rfl
   ·have he0:e=0:=by simpa using he
    have Aad:=(g.some' he0).2.2.2.2;rw[Aaa (by rw[Ah];simpa using he),Aaa he,g.uJ hw,Bi,Aa,Aj (a:=(A:Int)+(l.take k).sum) (by omega) (by omega),Ax0,<-e2,Aj];exact O1 a1 a2 a3 a4 j (k+1) q (acc++x) (by omega) (by omega) (λh=>by rw[h,Atb]at Aad;exact Aad) (by rw[Aai];omega)
theorem nG:∀(j k q:Nat) (acc:List Int32),k+j=l.length->j<q-> (k=l.length-> (A:Int)+l.sum<=b.length)->acc.length<=4000*k->
  Np b (f:Int) (c:Int) (w:Int) (r:Int) (n:Int) l (Ak (Am r) n) (DF p) q ((A:Int)+(l.take k).sum) (k:Int) acc=
   some (QY c w r (YP (λk=>uH w (Kq b p f c w r n A l k)) (λk=>(Kq b p f c w r n A l k).2) (fB b A l) j k acc))
 |0,k,q+1,acc,hk,_,hfit,_=>by
  have hA:=o.at';have Aac:=o.file;have hs1:=o.some1;have hsum:=o.sum;have b1:=Ic o.five l.length;have hf:=hfit (by omega);obtain rfl:k=l.length:=by omega
  rw[Atb]at b1⊢;rw[Np,DR,Aaa (by rw[Ae,Ac];simp),OA,NJ,Cg,Aa,oY _ (by rw[Ahp];omega),Aa,YP,fB];generalize Tt (b.drop ((A:Int)+l.sum).toNat)=v;obtain⟨v1,v2⟩:=v;simp only;by_cases hv:v2≠0
  ·rw[Aae hv,Aae (by rw[Ah];simpa using hv),QY,Aae (by simp)];rfl
  ·rw[Aaa hv,Aaa (by rw[Ah];simpa using hv),QY,Aaa (by simp)]
 |j+1,k,q+1,acc,hk,hq,hfit,hacc=>by
  have hA:=o.at';have Aac:=o.file;have hs1:=o.some1;have hsum:=o.sum;have b1:=Ic o.five k;have b2:=Ic o.five (k+1);have hkl:k<l.length:=by omega
  have e2:=Ks hkl;have h5:=o.five l[k] (Anw _);obtain⟨m,x,s,e,g⟩:=IF o k hkl;obtain⟨hc,hw,hr,hn,_⟩:=Mk o.shape;have hl:=g.lens hw;rw[Np,DR,Aae (by rw[Ae,Ac];simp;omega),Ce hkl,Aa,Aa,Ac,Bw,YP,g.eq];simp only;rcases g.way with⟨h1,h2⟩|⟨h1,_,h2⟩
  ·rw[Aae (by rw[Ae,Aaf];omega),Aae (by rw[h2];simp),h2,QY,Aae (by simp)];rfl
  ·rw[Aaa (by rw[Ae,Aaf];omega),g.mom];simp only[Aa];rw[Aj (a:=(A:Int)+(l.take k).sum) (by omega) (by omega),Ax0,<-e2,Zn,Aa,show(b.take ((A:Int)+(l.take (k+1)).sum).toNat).drop ((A:Int)+(l.take k).sum).toNat=H5 b A l k from rfl,h2,Aa];simp only;rw[OC,NK];by_cases he:e≠0
   ·rw[Aae (by rw[Ah];simpa using he),Aae he,QY,Aae he];rfl
   ·have he0:e=0:=by simpa using he
    have Aad:=(g.some' he0).2.2.2.2;rw[Aaa (by rw[Ah];simpa using he),Aaa he,g.uJ hw,Bi,Aa,Ce hkl,Aa,Aa,Aj (a:=(A:Int)+(l.take k).sum) (by omega) (by omega),Ax0,<-e2,Aj];exact nG j (k+1) q (acc++x) (by omega) (by omega) (λh=>by rw[h,Atb]at Aad;exact Aad) (by rw[Aai];omega)
end
theorem J6(l:List Int)(b p:List UInt8)(m c w h o q n g:Int)(k:List Int)(hl:l.length<=1000)(h5:∀x∈l,5<=x)(A:Int)(hA:0<=A)(hb:A+l.sum<=1000000):∀(j i z:Nat),i+j=l.length->j<z->BZ l b p m c w h o q n g k z (i:Int) (A+(l.take i).sum)=WC b p l m c w h o q n g (A+l.sum) k
 |0,i,z+1,hi,_=>by
  rw[BZ,WJ,Aaa (by rw[Ae,Ac];simp;omega),show i=l.length by omega,Atb]
 |j+1,i,z+1,hi,hz=>by
  have hlt:i<l.length:=by omega
  have b1:=Ic h5 i;have b2:=Ic h5 (i+1);have e:=Ks hlt;have ih:=J6 l b p m c w h o q n g k hl h5 A hA hb j (i+1) z (by omega) (by omega);rw[e,<-Ax0]at ih;rw[BZ,WJ,Aae (by rw[Ae,Ac];simp;omega),Ce hlt,Aa,Aa,Aj,Aj];exact ih
theorem Aaq(b p:List UInt8)(hb:b.length<=100100)(hp:p.length<=64):
  (∃e:Int,e≠0/\Ee b p=some (YR e)/\Qu b p=some (mK e)/\Le b p=some (mK e))\/
  (∃f c w r n T:Nat,∃q d:Int,T<=b.length/\b.length<=100000/\Hq f c w r n=true/\FN c r n=true/\
   Ee b p=Wl b (f:Int) (c:Int) (w:Int) (r:Int) (n:Int) (T:Int)/\
   Qu b p=LN b p (f:Int) (c:Int) (w:Int) (r:Int) (n:Int) q d (T:Int) 0 0 (Ak (Am r) n)/\
   Le b p=(HO b (T:Int) (f:Int) (c:Int) (w:Int) (r:Int) (n:Int)).bind λ(h,ae)=>if Bq ae 0=true then some (mK ae)else(Ec (r:Int) (n:Int)).bind λp2=>(Kv p).bind λ(u,ap)=>QV b (f:Int) (c:Int) (w:Int) (r:Int) (n:Int) h p2 u (Af (T:Int) (Af (Bm 4 (Ac h)) 4)) 0 []):=by
 have hO:Ee b p=Ee b p:=rfl;have hV:Qu b p=Qu b p:=rfl;have hR:Le b p=Le b p:=rfl
 conv at hO=>rhs;rw[Ee,CJ,Aaa (by rw[Ap,Ac];simp;omega)]
 conv at hV=>rhs;rw[Qu,mQ,Aaa (by rw[Ap,Ac];simp;omega),tM]
 conv at hR=>rhs;rw[Le,QX,Aaa (by rw[Ap,Ac];simp;omega),WY]
 by_cases h1:100000<b.length
 ·rw[Aae (by rw[Ap,Ac];simp;omega)]at hO hV hR;refine .inl ⟨4,by omega,hO,?_,?_⟩
  ·rw[hV,Aa];rfl
  ·rw[hR,Aa];rfl
 rw[Aaa (by rw[Ap,Ac];simp;omega)]at hO hV hR;rw[Vw b (by omega),Aa]at hO hV;rw[EJ b (by omega),Aa]at hR;by_cases h2:(Bu b).2=0
 ·obtain⟨p0,p1,p2⟩:=EA h2;have hc:=Cg (l:=b) p0 p1;simp only[h2]at hO hV hR;rw[Aaa (by rw[Ah];simp),hc,Aa,show b.drop (Bu b).1.toNat=Iv b from rfl]at hO hV hR;rw[VA _ (by simp[Iv];omega),Aa]at hO hV;rw[bL _ (by simp[Iv];omega),Aa]at hR;by_cases h3:(Ep (Iv b)).2.2.2.2.2=0
  ·obtain⟨g1,g2,g3,g4⟩:=kH h3;have hlen:(Iv b).length=b.length-(Bu b).1.toNat:=by simp[Iv]
   generalize hF:(Bu b).1.toNat=F at*
   have hF':(Bu b).1=(F:Int):=by omega
   rw[g1,hF']at hO hV hR;simp only at hO hV hR;generalize f0 (Iv b)=f at*
   generalize f1 (Iv b)=c at*
   generalize f2 (Iv b)=w at*
   generalize f3 (Iv b)=r at*
   generalize f4 (Iv b)=n at*
   have t22:Af (F:Int) 22=((F+22:Nat):Int):=by rw[Aj];omega
   have t30:Af ((F+22:Nat):Int) 8=((F+30:Nat):Int):=by rw[Aj];omega
   have Avj:f=1\/f=2:=by simp only[Hq,Aaf]at g3;omega
   rw[Aaa (by rw[Ah];simp),t22,t30]at hO;rw[Aaa (by rw[Ah];simp),jL g3 g4,Aa,t22,t30]at hV;rw[Aa]at hR;simp only at hV hR;rw[Aaa (by rw[Ah];simp),t22,TT,t30]at hR;by_cases MZ:((p==([]:List UInt8)) !=(geq (f:Int) (1:Int)))=true
   ·rw[Aae MZ]at hO hR;refine .inl ⟨26,by omega,hO,?_,?_⟩
    ·rw[hV];by_cases h5:f=2
     ·rw[Aae (by rw[Aq,h5];rfl),Aa];simp only;rw[Aaa (by rw[Ah];simp),Aae MZ,vS _ _ _ _ _ _ _ _ _ _ _ _ _ (by omega)]
     ·rw[Aaa (by rw[Aq];simp;omega),Aa];simp only;rw[Aaa (by rw[Ah];simp),Aae MZ,vS _ _ _ _ _ _ _ _ _ _ _ _ _ (by omega)]
    ·rw[hR,Aa];rfl
   ·rw[Aaa MZ]at hO hR;have hpf:(p=[]↔f=1):=by
     rw[Aq]at MZ;have h5:(p==([]:List UInt8))=((f:Int)==1):=by simpa using MZ
     have h6:(p==([]:List UInt8))=true↔((f:Int)==1)=true:=by rw[h5]
     rw[Asc,Asc]at h6;rw[h6];omega
    by_cases h5:f=2
    ·have Aho:p≠ []:=λe=>by have:=hpf.1 e;omega
     rw[Aae (by rw[Aq,h5];rfl),Aa]at hV;simp only at hV;rw[Aaa (by rw[Ah];simp),Aaa MZ,Aaa (by rw[Aq];simp;omega)]at hV;rw[Aae (by simpa using Aho)]at hO;rw[Aaa (by simpa using Aho)]at hR;by_cases h6:b.length<F+30
     ·rw[Aae (by rw[Ae,Ac];simp;omega)]at hO hV hR;refine .inl ⟨24,by omega,hO,?_,?_⟩
      ·rw[hV,vS _ _ _ _ _ _ _ _ _ _ _ _ _ (by omega)]
      ·rw[hR,Aa];rfl
     ·have hseg:((b.take (F+30)).drop (F+22)).length=8:=by simp;omega
      rw[Aaa (by rw[Ae,Ac];simp;omega),Zn,Aa,show((F+30:Nat):Int).toNat=F+30 from rfl,show((F+22:Nat):Int).toNat=F+22 from rfl]at hO hV hR;rw[yB hseg hp,Aa]at hO hV;rw[bF p hp,Aa]at hR;simp only at hO hV;rw[Aaa (by rw[Ah];simp)]at hO;generalize(b.take (F+30)).drop (F+22)=seg at*
      by_cases h7:seg=Xa (BT p).toNat 8
      ·rw[Aaa (by simp[h7])]at hO hV;rw[Aaa (by simp[h7]),Aa]at hR;simp only at hR;rw[Aaa (by rw[Ah];simp)]at hR;rw[Akk]at hV;exact .inr ⟨f,c,w,r,n,F+30,(F:Int),((F+22:Nat):Int),by omega,by omega,g3,g4,hO,hV,hR⟩
      ·rw[Aae (by simpa using h7)]at hO hV;rw[Aae (by simpa using h7)]at hR;refine .inl ⟨26,by omega,hO,?_,?_⟩
       ·rw[hV,vS _ _ _ _ _ _ _ _ _ _ _ _ _ (by omega)]
       ·rw[hR,Aa];rfl
    ·have hpe:p=[]:=hpf.2 (by omega);rw[Aaa (by rw[Aq];simp;omega),Aa]at hV;simp only at hV;rw[Aaa (by rw[Ah];simp),Aaa MZ,Aae (by rw[Aq];simp;omega),Akk]at hV;rw[Aaa (by rw[hpe];simp)]at hO;rw[Aae (by rw[hpe];rfl),Aa]at hR;simp only at hR;rw[Aaa (by rw[Ah];simp)]at hR;exact .inr ⟨f,c,w,r,n,F+22,(F:Int),((F+22:Nat):Int),by omega,by omega,g3,g4,hO,hV,hR⟩
  ·generalize Ep (Iv b)=v at*
   obtain⟨v1,v2,v3,v4,v5,v6⟩:=v;simp only at h3 hO hV hR;rw[Aae (by rw[Ah];simpa using h3)]at hO hV;refine .inl ⟨v6,h3,hO,?_,?_⟩
   ·rw[hV,Aa];simp only;rw[Aae (by rw[Ah];simpa using h3)];rfl
   ·rw[hR,Aa];simp only;rw[Aae (by rw[Ah];simpa using h3)];rfl
 ·generalize Bu b=v at*
  obtain⟨v,e⟩:=v;simp only at h2 hO hV hR;rw[Aae (by rw[Ah];simpa using h2)]at hO hV hR;refine .inl ⟨e,h2,hO,?_,?_⟩
  ·rw[hV,Aa];simp only;rw[Aae (by rw[Ah];simpa using h2)];rfl
  ·rw[hR,Aa];simp only;rw[Aae (by rw[Ah];simpa using h2)];rfl
theorem pK(b p:List UInt8)(hb:b.length<=100100)(hp:p.length<=64):
  (∃e:Int,e≠0/\Ee b p=some (YR e)/\Ez b p=some (YR e)/\Qu b p=some (mK e)/\Le b p=some (mK e))\/
  (∃f c w r n A l,Opn b p f c w r n A l/\Qu b p=some (lD b p f c w r n A l)/\Le b p=some (lD b p f c w r n A l)):=by
 have Aqp:∀{e e2:Int},YR e=YR e2->e=e2:=λh=>by simpa [YR]using h
 rcases Aaq b p hb hp with⟨e,he,h1,h2,h3⟩|⟨f,c,w,r,n,T,q,d,hT,Aac,g3,g4,hO,hV,hR⟩
 ·rcases wG b p hb hp with⟨e',he',k1,k2⟩|⟨f,c,w,r,n,A,l,o⟩
  ·rw[h1]at k1;have:=Aqp (Ap6 k1);subst this;exact .inl ⟨e,he,h1,k2,h2,h3⟩
  ·have:=o.prog;rw[h1]at this;have:=Ap6 this;simp only[YR,Adm]at this;exact absurd this.2.2.2.2.2.2.2 he
 ·obtain⟨hc,hw,hr,hn,_⟩:=Mk g3;have hfit:n<=4000/c:=by simp only[FN,Aaf]at g4;exact g4.1
  have hn4:n<=4000:=by have:=Ar4 4000 c;omega
  rw[sI g3 g4 b hb T hT]at hO;have hcut:=Cg (l:=b) (a:=(T:Int)) (by omega) (by omega);rw[Al6]at hcut;have hdl:(b.drop T).length<=100100:=by simp;omega
  rw[LN,jS,Aaa (by rw[Ae,Ac];simp;omega),hcut,Aa,Ac,mJ _ _ hdl,Aa]at hV;rw[HO,hcut,Aa,cA hr.2 hn hn4,Aa,Ac,D0 _ _ hdl,Aa,Aa]at hR;by_cases h:(Em (b.drop T) (Ak (Am r) n).length).2≠0
  ·rw[Aae h]at hO;generalize Em (b.drop T) (Ak (Am r) n).length=v at*
   obtain⟨v1,v2⟩:=v;simp only at h hO hV hR;rcases wG b p hb hp with⟨e',he',k1,k2⟩|⟨f,c,w,r,n,A,l,o⟩
   ·rw[hO]at k1;have:=Aqp (Ap6 k1);subst this;refine .inl ⟨_,h,hO,k2,?_,?_⟩
    ·rw[hV,VF,VP,Aae (by rw[Ah];simpa using h),Aml _ _ _ _ _ _ _ _ _ _ _ _ _ _ h]
    ·rw[hR,Aae (by rw[Ah];simpa using h)]
   ·have:=o.prog;rw[hO]at this;have:=Ap6 this;simp only[YR,Adm]at this;exact absurd this.2.2.2.2.2.2.2 h
  ·have h0:(Em (b.drop T) (Ak (Am r) n).length).2=0:=by simpa using h
   rw[Aaa h]at hO;generalize hsv:Em (b.drop T) (Ak (Am r) n).length=v at*
   obtain⟨v1,v2⟩:=v;simp only at h0 hO hV hR;subst h0;rcases wG b p hb hp with⟨e',he',k1,k2⟩|⟨f',c',w',r',n',A,l,o⟩
   ·rw[hO]at k1;have:=Ap6 k1;simp only[YR,Adm]at this;exact absurd this.2.2.2.2.2.2.2.symm he'
   ·have hp2:=o.prog;rw[hO]at hp2;have hp3:=Ap6 hp2;simp only[Adm]at hp3;obtain⟨i1,i2,i3,i4,i5,i6,i7,_⟩:=hp3;obtain rfl:f=f':=by omega
    obtain rfl:c=c':=by omega
    obtain rfl:w=w':=by omega
    obtain rfl:r=r':=by omega
    obtain rfl:n=n':=by omega
    subst i7;have hlen:=o.len;have hs1:=o.some1;have hsum:=o.sum;have hA:=o.at';have hAT:(A:Int)=(T:Int)+4*(v1.length:Int)+4:=by omega
    have a1:Bm 4 (v1.length:Int)=4*(v1.length:Int):=Hi;have eV:Af (Af (T:Int) (Bm 4 (Ac v1))) 4=(A:Int):=by
     rw[Ac,a1,Aj (a:=(T:Int)) (by omega) (by omega),Aj];omega
    have eR:Af (T:Int) (Af (Bm 4 (Ac v1)) 4)=(A:Int):=by
     rw[Ac,a1,Aj (a:=4*(v1.length:Int)) (by omega) (by omega),Aj];omega
    have hlv:=O1 o q d (T:Int) ((A:Int)+v1.sum) v1.length 0 Ba [] (by omega) (by have:=Ax;omega) (by omega) (by simp);have hlr:=nG o v1.length 0 Ba [] (by omega) (by have:=Ax;omega) (by omega) (by simp);rw[Avn,Axe,Int.add_zero]at hlv hlr;refine .inr ⟨f,c,w,r,n,A,v1,o,?_,?_⟩
    ·have hs:=J6 v1 b p (f:Int) (c:Int) (w:Int) (r:Int) (n:Int) q d (T:Int) (Ak (Am r) n) hs1.2 o.five (A:Int) (by omega) (by omega) v1.length 0 Ba (by omega) (by have:=Ax;omega);rw[Avn,Axe,Int.add_zero]at hs;rw[hV,VF,VP,Aaa (by rw[Ah];simp),gY,eV];refine Awq hs ?_;rw[WC,iG,eV,We,WZ,Aaa (by rw[Ah];simp),sW p o.pass,Aa];exact hlv
    ·rw[hR,Aaa (by rw[Ah];simp),Aa,RN p o.pass,Aa,eR];exact hlr
def rL(b:List UInt8):List Int:=Ak (Am (f3 (Iv b))) (f4 (Iv b))
theorem Ar3{ch:Nat}{bits:Int}(hb:Bn bits)(h1:1<=ch)(h6:ch<=6):Jg (ch:Int) bits=some 0:=by
 have hr:∃x y,Ua bits=some (x,y,0):=⟨_,_,yD hb⟩;obtain⟨x,y,hr⟩:=hr;rw[Jg,hr,Aa];simp only;rw[Aaa (by simp[Ah,Ae,Ap];omega)]
abbrev P6':=Int×Int×Int×List Int32×List Int×Int
def Ajw(e:Int):P6':=(0,0,0,[],[],e)
theorem tV(l:List Int32)(hl:l.length<=4000000):∀(j i q:Nat),i+j=l.length->j<q->Kc l l q (i:Int)=some true
 |0,i,q+1,hi,_=>by
  rw[Kc,Tm,Aaa (by rw[Ae,Ac];simp;omega)];rfl
 |j+1,i,q+1,hi,hq=>by
  rw[Kc,Tm,Aae (by rw[Ae,Ac];simp;omega),Ce,Aa,Aa,Aaa (by rw[Amv];simp),Aj];exact tV l hl j (i+1) q (by omega) (by omega)
theorem Arw(l:List Int32)(hl:l.length<=4000000):BB l l=some true:=by
 rw[BB,CC,Aaa (by rw[Ah];simp)];exact tV l hl l.length 0 Ba (by omega) (by have:=Ax;omega)
theorem Asi(a b c:Int)(l:List Int32)(hl:l.length<=4000000):BJ a b c l a b c l=some true:=by
 have e:∀a:Int,geq a a=true:=λa=>by rw[Aq];simp
 rw[BJ,e,e,e,Aae (by decide),Arw l hl,Aa]
theorem zO{c r n:Nat}(h:FN c r n=true):1<= (Ak (Am r) n).length/\ (Ak (Am r) n).length<=1000:=by
 simp only[FN,Aaf]at h;rw[YZ];exact⟨Nat.le_add_left _ _,h.2⟩
end Go.Pl
