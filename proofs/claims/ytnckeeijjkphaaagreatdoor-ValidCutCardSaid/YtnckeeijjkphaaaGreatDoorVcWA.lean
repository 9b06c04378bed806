/- A part of a proof (see the text that ends in Proof). No conditions. -/
import Derived.Test.YtnckeeijjkphaaaGreatDoorVcPA
set_option linter.unusedVariables false
set_option linter.unusedSimpArgs false
namespace Go.Lv
theorem Ag{a b:Int}(h: -9223372036854775808<=a+b:=by omega)(h':a+b<=9223372036854775807:=by omega):Ae a b=a+b:=by rw[Atk,Bp h h']
theorem Bg{a b:Int}(h: -9223372036854775808<=a-b:=by omega)(h':a-b<=9223372036854775807:=by omega):Ah a b=a-b:=by rw[Atv,Bp h h']
theorem Gt{a b:Int}(h: -9223372036854775808<=a*b:=by omega)(h':a*b<=9223372036854775807:=by omega):Bd a b=a*b:=by rw[Aj6,Bp h h']
theorem NY(c:UInt8):(Ad c:Int)=(c.toNat:Int):=by rw[Aly,Bp]<;>have:=c.toNat_lt<;>omega
theorem wS(c:UInt32):(Ad c:Int)=(c.toNat:Int):=by rw[Ah7,Bp]<;>have:=c.toNat_lt<;>omega
theorem nD(c:UInt8):(Ad c:UInt64)=UInt64.ofNat c.toNat:=by simp only[Ad,Zh,Ha]
theorem Cn(c:UInt32):(Ad c:UInt64)=UInt64.ofNat c.toNat:=by simp only[Ad,Vr,Ha]
theorem RH(c:UInt64):(Ad c:UInt8)=UInt8.ofNat c.toNat:=by simp only[Ad,Ig,Ls]
theorem nM(c:UInt32):(Ad c:UInt8)=UInt8.ofNat c.toNat:=by simp only[Ad,Vr,Ls]
theorem Sn(n:Nat):(Ad (n:Int):UInt64)=UInt64.ofNat n:=by simp only[Ad];exact Ha n
theorem P9(n:Nat):(Ad (n:Int):UInt32)=UInt32.ofNat n:=by simp only[Ad];exact Ej n
theorem Alj(n:Nat):(Ad (n:Int):UInt8)=UInt8.ofNat n:=by simp only[Ad];exact Ls n
theorem tO{c:UInt64}(h:c.toNat<9223372036854775808):(Ad c:Int)=(c.toNat:Int):=by rw[Ah3,Bp]<;>omega
theorem Afs:ko=17179869184:=by decide
theorem Am:36893488147419103231<Ar:=by decide
theorem Ck{α:Type}{l:List α}{n:Nat}(h:n<l.length:=by omega):Aj l (n:Int)=some l[n]:=by simp[Aj,h]
theorem Rg{α:Type}{l:List α}{n:Nat}(x:α)(h:n<l.length):Je l (n:Int) x=some (l.set n x):=by simp[Je,h]
theorem Pp{α:Type}{l:List α}{a b:Int}(h:0<=a:=by omega)(h1:a<=b:=by omega)(h2:b<=l.length:=by omega):Bw l a b=some ((l.take b.toNat).drop a.toNat):=by rw[Bw,Abb ⟨h,h1,h2⟩]
theorem Fw{α:Type}{l:List α}{a:Int}(h:0<=a:=by omega)(h1:a<=l.length:=by omega):Bw l a (Ac l)=some (l.drop a.toNat):=by
 unfold Ac;rw[Pp h h1 (Int.le_refl _),Aiq,Axc]
theorem If{α:Type}{l:List α}{b:Int}(h:0<=b:=by omega)(h1:b<=l.length:=by omega):Bw l 0 b=some (l.take b.toNat):=by rw[Pp (Int.le_refl _) h h1];rfl
theorem Cx{α:Type}{l m:List α}(h:l.length+m.length<=17179869184:=by omega):Db l m=some (l++m):=by rw[Db,Afs,Abb h]
theorem qQ{α:Type}{n:Int}{z:α}(h:0<=n:=by omega)(h':n<=17179869184:=by omega):mkI n z=some (List.replicate n.toNat z):=by rw[mkI,Afs,Abb ⟨h,h'⟩]
theorem Be{b:Bool}(h:b=true):Ik b=some ():=by rw[h];rfl
theorem Aa{α β:Type}(a:α)(f:α->Option β):Option.bind (some a) f=f a:=rfl
theorem drop_cons{α:Type}{l:List α}{n:Nat}(h:n<l.length):l.drop n=l[n]::l.drop (n+1):=List.drop_eq_getElem_cons h
theorem Nf{α:Type}{l:List α}{n:Nat}(h:n<l.length):l.take (n+1)=l.take n++[l[n]]:=by rw[List.take_add_one,List.getElem?_eq_getElem h];rfl
def Ek:List UInt8->Nat
 |[]=>0
 |x::r=>x.toNat+256*Ek r
theorem Z8:∀l:List UInt8,Ek l<256^l.length
 |[]=>by simp[Ek]
 |x::r=>by
  have h:=Z8 r;have:=x.toNat_lt;simp only[Ek,Aj1,Atw];omega
theorem yS:∀l m:List UInt8,Ek (l++m)=Ek l+256^l.length*Ek m
 |[],m=>by simp[Ek]
 |x::r,m=>by
  simp only[Ek,Axs,yS r m,Aj1,Atw,Nat.mul_add];rw[Aoi (256^r.length) 256,Ay2];omega
def lX(l:List UInt8):UInt64:=UInt64.ofNat (Ek l)
theorem Aon{l:List UInt8}(h:l.length<=8):Ek l<18446744073709551616:=by
 have h1:=Z8 l;have h2:256^l.length<=256^8:=Aeb (by omega) h;exact Aj4 h1 (by simpa using h2)
theorem Af4{l:List UInt8}(h:l.length<=4):Ek l<4294967296:=by
 have h1:=Z8 l;have h2:256^l.length<=256^4:=Aeb (by omega) h;exact Aj4 h1 (by simpa using h2)
theorem TX{l:List UInt8}(h:l.length<=8):(lX l).toNat=Ek l:=by
 rw[lX,Ajt,Abk (Aon h)]
theorem HY{l:List UInt8}(h:l.length<=4):(Ad (lX l):Int)=(Ek l:Int):=by
 have:=Af4 h;rw[tO]<;>rw[TX (by omega)];omega
def On(n:Nat):Nat->List UInt8
 |0=>[]
 |w+1=>UInt8.ofNat n::On (n/256) w
theorem Bn:∀(w n:Nat),(On n w).length=w
 |0,_=>rfl
 |w+1,n=>by simp[On,Bn w]
theorem uj:∀(w n:Nat),On n (w+1)=On n w++[UInt8.ofNat (n/256^w)]
 |0,n=>by simp[On]
 |w+1,n=>by
  rw[On,uj w (n/256),On];simp[Axk,Atw,Aoi]
def Fs(p:List UInt8)(i:Nat):Nat:=(p.getD (i/8) 0).toNat/2^(i %8) %2
theorem Xr(p:List UInt8)(i:Nat):Fs p i<2:=Aw3 _ (by omega)
def Bj(p:List UInt8):Nat->Nat->Nat
 |_,0=>0
 |a,n+1=>Fs p a+2*Bj p (a+1) n
theorem Mo(p:List UInt8):∀(n a:Nat),Bj p a n<2^n
 |0,_=>by simp[Bj]
 |n+1,a=>by
  have:=Mo p n (a+1);have:=Xr p a;rw[Bj,Atw];omega
theorem JF(p:List UInt8):∀(m n a:Nat),Bj p a (m+n)=Bj p a m+2^m*Bj p (a+m) n
 |0,n,a=>by simp[Bj]
 |m+1,n,a=>by
  rw[show m+1+n=(m+n)+1 by omega,Bj,Bj,JF p m n (a+1),show a+1+m=a+(m+1) by omega,Atw,Nat.mul_add,Aoi (2^m) 2,Ay2];omega
theorem pR(p:List UInt8)(a:Nat):Bj p a 1=Fs p a:=by simp[Bj]
theorem jU(p:List UInt8)(a n:Nat):Bj p a (n+1)=Bj p a n+2^n*Fs p (a+n):=by rw[JF p n 1 a,pR]
theorem XQ(p:List UInt8)(a:Nat):∀t:Nat,a %8+t<=8->Bj p a t=(p.getD (a/8) 0).toNat/2^(a %8) %2^t
 |0,_=>by simp[Bj,Nat.mod_one]
 |t+1,h=>by
  have h1:(a+t)/8=a/8:=by omega
  have h2:(a+t) %8=a %8+t:=by omega
  rw[jU,XQ p a t (by omega),Fs,h1,h2,Nat.mod_pow_succ,Azn,Axk]
theorem sG{p:List UInt8}:∀(n a:Nat),(∀k,k<n->Fs p (a+k)=0)->Bj p a n=0
 |0,_,_=>rfl
 |n+1,a,h=>by
  have h0:=h 0 (by omega);rw[Bj,sG n (a+1) λk hk=>by have:=h (k+1) (by omega);rwa [show a+1+k=a+(k+1) by omega]];rw[Aw6]at h0;omega
def okB(p:List UInt8)(n:Nat):Prop:=n<=330000/\p.length=(n+7)/8/\∀k,n<=k->k<8*p.length->Fs p k=0
def Nh(p:List UInt8)(a n:Nat):List UInt8:=(List.range ((n+7)/8)).map λj=>UInt8.ofNat (Bj p (a+8*j) (min 8 (n-8*j)))
theorem Hh(p:List UInt8)(a n:Nat):(Nh p a n).length=(n+7)/8:=by simp[Nh]
theorem ug(p:List UInt8):∀(n a k:Nat),k<n->Bj p a n/2^k %2=Fs p (a+k)
 |n+1,a,0,_=>by have:=Xr p a;rw[Bj];simp;omega
 |n+1,a,k+1,h=>by
  have hb:=Xr p a;have e:(Fs p a+2*Bj p (a+1) n)/2=Bj p (a+1) n:=by omega
  rw[Bj,Atw,Aoi (2^k) 2,<-Axk,e,ug p n (a+1) k (by omega),show a+1+k=a+(k+1) by omega]
theorem Ah8(p:List UInt8)(n a k:Nat)(h:n<=k):Bj p a n/2^k %2=0:=by
 have:=Mo p n a;rw[Aw1 (Aj4 this (Aeb (by omega) h))]
theorem oK(p:List UInt8)(a n k:Nat):Fs (Nh p a n) k=if k<n then Fs p (a+k)else 0:=by
 rw[Fs];by_cases hj:k/8<(n+7)/8
 ·have e:(Nh p a n).getD (k/8) 0=UInt8.ofNat (Bj p (a+8*(k/8)) (min 8 (n-8*(k/8)))):=by
   rw[List.getD_eq_getElem?_getD,List.getElem?_eq_getElem (by rw[Hh];exact hj)];simp[Nh]
  have hlt:Bj p (a+8*(k/8)) (min 8 (n-8*(k/8)))<256:=by
   have:=Mo p (min 8 (n-8*(k/8))) (a+8*(k/8));have h2:2^(min 8 (n-8*(k/8)))<=2^8:=Aeb (by omega) (by omega);omega
  have hu:(UInt8.ofNat (Bj p (a+8*(k/8)) (min 8 (n-8*(k/8))))).toNat=Bj p (a+8*(k/8)) (min 8 (n-8*(k/8))):=by
   rw[An9];exact Abk hlt
  rw[e,hu];by_cases hk:k<n
  ·rw[Abb hk,ug p _ _ _ (by omega),show a+8*(k/8)+k %8=a+k by omega]
  ·rw[Aba hk,Ah8 p _ _ _ (by omega)]
 ·have e:(Nh p a n).getD (k/8) 0=0:=by
   rw[List.getD_eq_getElem?_getD,List.getElem?_eq_none (by rw[Hh];omega)];rfl
  rw[e,Aba (by omega)];simp
theorem oX(p:List UInt8)(a n:Nat)(h:n<=330000):okB (Nh p a n) n:=⟨h,Hh p a n,λk hk _=>by rw[oK,Aba (by omega)]⟩
theorem oo{p q:List UInt8}(hl:p.length=q.length)(h:∀k,k<8*p.length->Fs p k=Fs q k):p=q:=by
 apply Au5 hl;intro i h1 h2;have hp:Bj p (8*i) 8=Bj q (8*i) 8:=by
  have key:∀(n a:Nat),a+n<=8*p.length->Bj p a n=Bj q a n:=by
   intro n
   induction n with
   |zero=>intros;rfl
   |succ n ih=>intro a ha;rw[Bj,Bj,h a (by omega),ih (a+1) (by omega)]
  exact key 8 (8*i) (by omega)
 rw[XQ p _ 8 (by omega),XQ q _ 8 (by omega)]at hp;have e1:8*i/8=i:=by omega
 have e2:8*i %8=0:=by omega
 rw[e1,e2]at hp;have a1:p.getD i 0=p[i]:=by simp[List.getD_eq_getElem?_getD,h1]
 have a2:q.getD i 0=q[i]:=by simp[List.getD_eq_getElem?_getD,h2]
 rw[a1,a2]at hp;apply UInt8.toNat_inj.1;have:=p[i].toNat_lt;have:=q[i].toNat_lt;simp at hp;omega
end Go.Lv
namespace Go.Pl
open Go Go.Lv
theorem Ak0(b:List UInt8)(hb:b.length<4611686018427387904):∀(j q:Nat),j<=b.length->j<q->Me b q (lX (b.drop j)) ((j:Int)-1)=some (lX b)
 |0,q+1,_,_=>by
  rw[Me,Zg,Aba (by rw[Dc];simp)];simp[QT,OM]
 |j+1,q+1,hj,hq=>by
  rw[Me,Zg,Abb (by rw[Dc];simp),show((j+1:Nat):Int)-1=(j:Int) by omega,Ck,Aa,Bg];have h:Ae (Bd (256:UInt64) (lX (b.drop (j+1)))) (Ad b[j]:UInt64)=lX (b.drop j):=by
   rw[JT,JN,nD,drop_cons (n:=j) (by omega),lX,lX,Ek,UInt64.ofNat_add,UInt64.ofNat_mul];exact UInt64.add_comm _ _
  rw[h];exact Ak0 b hb j q (by omega) (by omega)
theorem Aaj(b:List UInt8)(hb:b.length<4611686018427387904):Cz b=some (lX b):=by
 have h:=Ak0 b hb b.length Ar (Aj0 _) (by have:=Am;omega);rw[Cz,PO,PT];have e:Ah (Ac b) 1=(b.length:Int)-1:=Bg (by unfold Ac;omega) (by unfold Ac;omega);rw[e,<-h,Axw];rfl
theorem Amq{n c:UInt64}{i:Nat}(hn:n.toNat<2^i)(hc:c.toNat*2^i<18446744073709551616):sY n (Cw c i)=UInt64.ofNat (n.toNat+c.toNat*2^i):=by
 rw[Arn];apply UInt64.toNat_inj.1;rw[UInt64.toNat_or,SB,Abk hc,Aoi,Nat.or_comm,<-Avw hn,Ajt,Abk,Ay9,Aoi];have h:=Avw hn c.toNat;have h2:2^i*c.toNat+n.toNat<2^64:=by
  rw[h];exact Nat.or_lt_two_pow (by rw[Aoi];simpa using hc) n.toNat_lt
 rw[Ay9];first|exact h2|(rw[Aoi];exact h2)
theorem Q3(b:List UInt8)(hb:b.length<=8):∀(j i q:Nat),i+j=b.length->j<q->Zn b q (lX (b.take i)) (i:Int)=some (lX b,0)
 |0,i,q+1,hi,_=>by
  rw[Zn,TF,Aba (by rw[Af,Ac];simp;omega),show i=b.length by omega,Axc];rfl
 |j+1,i,q+1,hi,hq=>by
  have hlt:i<b.length:=by omega
  rw[Zn,TF,Abb (by rw[Af,Ac];simp;omega),Ck hlt,Aa,Gt,Be (by rw[Dc];simp;omega),Aa,Ag];have h:sY (lX (b.take i)) (Cw (Ad b[i]:UInt64) (GI.toZ ((8:Int)*(i:Int))).toNat)=lX (b.take (i+1)):=by
   have e:(GI.toZ ((8:Int)*(i:Int))).toNat=8*i:=by show((8:Int)*(i:Int)).toNat=_;omega
   have e2:(2:Nat)^(8*i)=256^i:=by rw[Nat.pow_mul]
   have h1:=Z8 (b.take i);rw[Afw,Au6 (by omega)]at h1;have h3:=b[i].toNat_lt;have hle:(256:Nat)^(i+1)<=256^8:=Aeb (by omega) (by omega);rw[Atw]at hle;have h4:(Ad b[i]:UInt64).toNat=b[i].toNat:=by rw[nD,Ajt];omega
   have h5:b[i].toNat*256^i<18446744073709551616:=by
    have:b[i].toNat*256^i<256*256^i:=Nat.mul_lt_mul_of_pos_right (by simpa using h3) (Axe (by omega));simp at hle;omega
   rw[e,Amq (by rw[TX (by simp;omega),e2];exact h1) (by rw[h4,e2];exact h5),TX (by simp;omega),h4,e2,Nf hlt];rw[lX,yS];simp only[Ek,Afw,Au6 (Nat.le_of_lt hlt),Nat.mul_zero,Aw6];rw[Aoi]
  rw[h];exact Q3 b hb j (i+1) q (by omega) (by omega)
theorem Aas(b:List UInt8)(h1:1<=b.length)(h2:b.length<=8):fL b=some (lX b,0):=by
 have h:=Q3 b h2 b.length 0 Ar (by omega) (by have:=Am;omega);rw[fL,jK,Aba (by simp[Af,Al,Ac];omega),hH];exact h
def part(b:List UInt8)(at' w:Nat):List UInt8:=(b.take (at'+w)).drop at'
theorem Dk{b:List UInt8}{a w:Nat}(h:a+w<=b.length:=by omega):(part b a w).length=w:=by simp[part];omega
theorem L8(b:List UInt8)(a w:Nat)(h1:1<=w)(h2:w<=8)(h3:a+w<=b.length)(hb:b.length<4611686018427387904):XK b (a:Int) (w:Int)=some (lX (part b a w),0):=by
 rw[XK,Aba (by simp[Af,Al];omega),Aba (by rw[Al,Bg (by unfold Ac;omega) (by unfold Ac;omega),Ac];simp;omega),Ag,Pp,Aa];rw[show((a:Int)+(w:Int)).toNat=a+w by omega,show(a:Int).toNat=a by omega];rw[Aas _ (by rw[show((b.take (a+w)).drop a).length=_ from Dk h3];exact h1) (by rw[show((b.take (a+w)).drop a).length=_ from Dk h3];exact h2),Aa];rfl
theorem uE(w:Nat)(hw:w<=1000):∀(j i q:Nat) (n:UInt64) (acc:List UInt8),i+j=w->j<q->acc.length+j<=1000000->Gx (w:Int) q n (i:Int) acc=some (acc++On n.toNat j)
 |0,i,q+1,n,acc,hi,_,_=>by
  rw[Gx,Qc,Aba (by rw[Af];simp;omega)];simp[Zl,Zy,On]
 |j+1,i,q+1,n,acc,hi,hq,ha=>by
  rw[Gx,Qc,Abb (by rw[Af];simp;omega)];have e:(Ad (AR n (256:UInt64)):UInt8)=UInt8.ofNat n.toNat:=by
   rw[RH,qm];apply UInt8.toNat_inj.1;rw[An9,An9,UInt64.toNat_mod]
   show n.toNat %256 %256=_;omega
  have e2:(Bz n (256:UInt64)).toNat=n.toNat/256:=by rw[qP,Azq];rfl
  rw[Cx (by simp;omega),Aa,Ag,e];have h:=uE w hw j (i+1) q (Bz n 256) (acc++[UInt8.ofNat n.toNat]) (by omega) (by omega) (by simp;omega);rw[e2]at h;rw[show((i:Int)+1)=((i+1:Nat):Int) by omega,h,On];simp
theorem B8(n:UInt64)(w:Nat)(hw:w<=1000):Dt n (w:Int)=some (On n.toNat w):=by
 rw[Dt,AG,Zx];have h:=uE w hw w 0 Ar n [] (by omega) (by have:=Am;omega) (by simp;omega);simpa using h
theorem YN{α:Type}{l m:List α}{x y:α}{i:Nat}(h:l.length=i):(l++x::m).set i y=l++y::m:=by subst h;simp
theorem K5(n:UInt64)(l4:List UInt8)(w:Nat)(hl:l4.length=w)(hw:w<=8):∀(j i q:Nat),i+j=w->j<q->AI n l4 q (i:Int) (On n.toNat i++List.replicate j 0)=some (On n.toNat w,0)
 |0,i,q+1,hi,_=>by
  rw[AI,TA,Aba (by rw[Af,Ac];simp;omega)];obtain rfl:i=w:=by omega
  simp[eJ,uZ]
 |j+1,i,q+1,hi,hq=>by
  have hlen:(On n.toNat i++List.replicate (j+1) 0).length=i+(j+1):=by simp[Bn]
  rw[AI,TA,Abb (by rw[Af,Ac];simp;omega),Gt,Be (by rw[Dc];simp;omega),Aa,Ck (by rw[hlen];omega),Aa,Rg _ (by rw[hlen];omega),Aa,Ag];have e:(Ad (Bt n (GI.toZ ((8:Int)*(i:Int))).toNat):UInt8)=UInt8.ofNat (n.toNat/256^i):=by
   have e:(GI.toZ ((8:Int)*(i:Int))).toNat=8*i:=by show((8:Int)*(i:Int)).toNat=_;omega
   rw[e,RH,ED,Nat.pow_mul]
  rw[e,Avq,YN (Bn _ _)];have h:=K5 n l4 w hl hw j (i+1) q (by omega) (by omega);rw[uj]at h;simpa using h
theorem Arx(n:UInt64)(w:Nat)(h1:1<=w)(h2:w<=8)(h:n.toNat<256^w):wM n (w:Int)=some true:=by
 rw[wM];by_cases h8:w=8
 ·subst h8;rw[Abb (by rw[Bc];rfl)]
 ·rw[Aba (by rw[Bc];simp;omega),Gt,Be (by rw[Dc];simp;omega),Aa];have e:(GI.toZ ((8:Int)*(w:Int))).toNat=8*w:=by show((8:Int)*(w:Int)).toNat=_;omega
  rw[e,wA];have:Bt n (8*w)=0:=by
   apply UInt64.toNat_inj.1;rw[ED,Nat.pow_mul];exact Aw1 h
  rw[this];rfl
theorem RE(n:UInt64)(w:Nat)(h1:1<=w)(h2:w<=8)(h:n.toNat<256^w):Ln n (w:Int)=some (On n.toNat w,0):=by
 rw[Ln,gJ,Aba (by simp[Af,Al];omega),Arx n w h1 h2 h,Aa,Aba (by simp),qQ,Aa,Be (by rw[Bc];simp),Aa,gS];have h:=K5 n (List.replicate (w:Int).toNat 0) w (by simp) h2 w 0 Ar (by omega) (by have:=Am;omega);simpa [On]using h
theorem uY(n:Nat)(h:n<4611686018427387904):Di (n:Int) (7:Int)=((n %8:Nat):Int):=by
 have e:Di (n:Int) (7:Int)=wrap64 ((BitVec.ofInt 64 (n:Int)&&&BitVec.ofInt 64 7).toNat:Int):=rfl;rw[e,Azz,Awl,Awl];have h1:((n:Int) %((2^64:Nat):Int)).toNat=n:=by omega
 have h2:((7:Int) %((2^64:Nat):Int)).toNat=2^3-1:=by decide
 rw[h1,h2,Awr,Bp (by omega) (by omega)]
theorem Avd(n:Nat):Y4 (n:Int) (GI.toZ (3:UInt64)).toNat=((n/8:Nat):Int):=by
 have e:Y4 (n:Int) (GI.toZ (3:UInt64)).toNat=(n:Int).fdiv 8:=rfl;rw[e,Asr _ (by omega)];omega
theorem Awd{t:Nat}(h:t<=8):Ah (Cw (1:UInt8) t) (1:UInt8)=UInt8.ofNat (2^t-1):=by
 have:t=0\/t=1\/t=2\/t=3\/t=4\/t=5\/t=6\/t=7\/t=8:=by omega
 rcases this with rfl|rfl|rfl|rfl|rfl|rfl|rfl|rfl|rfl<;>decide
theorem bitsOf(c:UInt8)(off t:Nat)(h:t<=8):(Di (Bt c off) (Ah (Cw (1:UInt8) t) (1:UInt8))).toNat=c.toNat/2^off %2^t:=by
 have hp:2^t<=2^8:=Aeb (by omega) h;rw[Awd h,Ael,UInt8.toNat_and,dw,An9,Abk (by have:=Axe (n:=t) (show 0<2 by omega);omega),Awr]
theorem C0{p:List UInt8}{k:Nat}(h:k<p.length):Aj p (k:Int)=some (p.getD k 0):=by
 rw[Ck h];simp[List.getD_eq_getElem?_getD,h]
def Ms(p:List UInt8)(a n:Nat):UInt64:=UInt64.ofNat (Bj p a n)
theorem Vh(p:List UInt8)(a n:Nat)(h:n<=64):(Ms p a n).toNat=Bj p a n:=by
 have h1:=Mo p n a;have h2:2^n<=2^64:=Aeb (by omega) h;rw[Ms,Ajt,Abk (by omega)]
theorem xu(p:List UInt8)(N:Int)(a n:Nat)(hn:n<=64)(ha:a+n<=8*p.length)(hp:p.length<=1000000):∀(j h q:Nat),h+j=n->j<q->JI (a:Int) (n:Int) p N q (Ms p a h) (h:Int)=some (Ms p a n)
 |j,h,q+1,hj,hq=>by
  rw[JI,gP];by_cases hlt:h<n
  ·have e1:Ae (a:Int) (h:Int)=((a+h:Nat):Int):=by rw[Ag];omega
   have e2:Du (Ah (n:Int) (h:Int)) (Ah (8:Int) (((a+h) %8:Nat):Int))=((min (n-h) (8-(a+h) %8):Nat):Int):=by
    rw[GB,Bg,Bg];omega
   have hm:(a+h)/8<p.length:=by omega
   rw[Abb (by rw[Af];simp;omega),e1,Avd,C0 hm,Aa,uY _ (by omega),Be (by rw[Dc];simp;omega),Aa,e2,Be (by rw[Dc];simp),Aa,Be (by rw[Dc];simp),Aa];generalize hT:min (n-h) (8-(a+h) %8)=T;have hT8:T<=8:=by omega
   have hT1:1<=T:=by omega
   have hb:(a+h) %8+T<=8:=by omega
   have hv:=XQ p (a+h) T hb;have z1:(GI.toZ (((a+h) %8:Nat):Int)).toNat=(a+h) %8:=rfl;have z2:(GI.toZ ((T:Nat):Int)).toNat=T:=rfl;have z3:(GI.toZ ((h:Nat):Int)).toNat=h:=rfl;rw[z1,z2,z3];have hx:(Ad (Di (Bt (p.getD ((a+h)/8) 0) ((a+h) %8)) (Ah (Cw (1:UInt8) T) (1:UInt8))):UInt64).toNat=Bj p (a+h) T:=by
    rw[nD,Ajt,bitsOf _ _ _ hT8,<-hv];have:=Mo p T (a+h);have h2:2^T<=2^8:=Aeb (by omega) hT8;omega
   have hlt2:=Mo p (h+T) a;rw[JF]at hlt2;have h64:2^(h+T)<=2^64:=Aeb (by omega) (by omega);have hor:sY (Ms p a h) (Cw (Ad (Di (Bt (p.getD ((a+h)/8) 0) ((a+h) %8)) (Ah (Cw (1:UInt8) T) (1:UInt8))):UInt64) h)=Ms p a (h+T):=by
    rw[Amq (by rw[Vh p a h (by omega)];exact Mo p h a) (by rw[hx,Aoi];omega),hx,Vh p a h (by omega),Ms,JF,Aoi (2^h)]
   rw[hor,Ag,show(h:Int)+((T:Nat):Int)=((h+T:Nat):Int) by omega];exact xu p N a n hn ha hp (j-T) (h+T) q (by omega) (by omega)
  ·rw[Aba (by rw[Af];simp;omega),show h=n by omega];rfl
theorem get_eq(p:List UInt8)(N:Int)(a n:Nat)(hn:n<=64)(ha:a+n<=8*p.length)(hp:p.length<=1000000):qO p N (a:Int) (n:Int)=some (Ms p a n):=by
 have:=xu p N a n hn ha hp n 0 Ar (by omega) (by have:=Am;omega);exact this
theorem Vs{p:List UInt8}{n:Nat}(h:okB p n):Hr p (n:Int)=some 0:=by
 obtain⟨h1,h2,h3⟩:=h;have e7:Ae (n:Int) 7=((n+7:Nat):Int):=by rw[Ag];omega
 rw[Hr,e7,Avd,Aba (by simp[Af,Al,Ak,Ac,h2];omega),uY _ (by omega)];by_cases hz:n %8=0
 ·rw[Aba (by rw[Al];simp;omega)]
 ·have el:Ah (Ac p) 1=((p.length-1:Nat):Int):=by rw[Ac,Bg];omega
  rw[Abb (by rw[Al];simp;omega),el,C0 (by omega),Aa,Be (by rw[Dc];simp;omega),Aa];have z:(GI.toZ ((n %8:Nat):Int)).toNat=n %8:=rfl;have hs:Bt (p.getD (p.length-1) 0) (n %8)=0:=by
   apply UInt8.toNat_inj.1;rw[dw];have hv:=XQ p n (8-n %8) (by omega);have h0:Bj p n (8-n %8)=0:=sG _ _ λk hk=>h3 _ (by omega) (by omega);rw[h0,show n/8=p.length-1 by omega]at hv;have hlt:(p.getD (p.length-1) 0).toNat/2^(n %8)<2^(8-n %8):=by
    have:=(p.getD (p.length-1) 0).toNat_lt;rw[Nat.div_lt_iff_lt_mul (Axe (by omega)),<-Azn,show 8-n %8+n %8=8 by omega];simpa using this
   rw[Abk hlt]at hv;exact hv.symm
  rw[z,hs,Aba (by rw[Adg];simp)]
theorem tS{p:List UInt8}{N:Nat}(h:okB p N)(a n:Nat)(hn:n<=64):DJ p (N:Int) (a:Int) (n:Int)=some (if N<a+n then(0,24)else(Ms p a n,0)):=by
 obtain⟨h1,h2,h3⟩:=h;rw[DJ,Vs ⟨h1,h2,h3⟩,Aa,Aba (by rw[Ak];simp),Aba (by simp[Af,Al];omega),Bg];by_cases hl:N<a+n
 ·rw[Abb (by rw[Al];simp;omega),Abb hl]
 ·rw[Aba (by rw[Al];simp;omega),get_eq p N a n hn (by omega) (by omega),Aa,Aba hl]
theorem Axo(c:Nat)(h:c<4611686018427387904):Bz (c:Int) (2:Int)=((c/2:Nat):Int):=by
 rw[LA,Avz (by omega),Bp (by omega) (by omega)];omega
theorem Ave(c:Nat)(h:c<4611686018427387904):Bz (c:Int) (8:Int)=((c/8:Nat):Int):=by
 rw[LA,Avz (by omega),Bp (by omega) (by omega)];omega
theorem Ako(c:Nat):Gc (c:Int) (8:Int)=((c %8:Nat):Int):=by rw[Gc,Ayd (by omega)];omega
theorem Axz(c:Nat):Gc (c:Int) (2:Int)=((c %2:Nat):Int):=by rw[Gc,Ayd (by omega)];omega
theorem Afe(i c:Nat)(hc:c<256):∀(j k q:Nat),k+j=i %8->j<q->Mi (i:Int) q ((c/2^k:Nat):Int) (k:Int)=some (((c/2^(i %8) %2:Nat):Int))
 |0,k,q+1,hk,_=>by
  rw[Mi,Yz,Ako,Aba (by rw[Af];simp;omega),SC,RP,Axz,show k=i %8 by omega]
 |j+1,k,q+1,hk,hq=>by
  have hle:c/2^k<=c:=Asv _ _;rw[Mi,Yz,Ako,Abb (by rw[Af];simp;omega),Axo _ (by omega),Ag,Axk,<-Atw];exact Afe i c hc j (k+1) q (by omega) (by omega)
theorem rX(p:List UInt8)(N:Int)(i:Nat)(h:i/8<p.length)(hi:i<4611686018427387904):Ki p N (i:Int)=some ((Fs p i:Nat):Int):=by
 have hc:=(p.getD (i/8) 0).toNat_lt;have:=Afe i (p.getD (i/8) 0).toNat (by simpa using hc) (i %8) 0 Ar (by omega) (by have:=Am;omega);rw[Ki,RT,Ave _ hi,C0 h,Aa,NY,RQ];simpa [Fs]using this
theorem zT(p:List UInt8)(N:Int)(a n:Nat)(ha:a+n<=8*p.length)(hp:p.length<=1000000):∀(j q:Nat),j<=n->j<q->Il (a:Int) p N q (Ms p (a+j) (n-j)) ((j:Int)-1)=some (Ms p a n)
 |0,q+1,_,_=>by
  rw[Il,Tj,Aba (by rw[Dc];simp)];rfl
 |j+1,q+1,hj,hq=>by
  have hb:=Xr p (a+j);rw[Il,Tj,show((j+1:Nat):Int)-1=(j:Int) by omega,Abb (by rw[Dc];simp),Ag (a:=(a:Int)) (by omega) (by omega),show(a:Int)+(j:Int)=((a+j:Nat):Int) by omega,rX p N (a+j) (by omega) (by omega),Aa,Bg];have e:Ae (Bd (2:UInt64) (Ms p (a+(j+1)) (n-(j+1)))) (Ad ((Fs p (a+j):Nat):Int):UInt64)=Ms p (a+j) (n-j):=by
   rw[JT,JN,Sn,Ms,Ms,show n-j=(n-(j+1))+1 by omega,Bj,show a+j+1=a+(j+1) by omega,UInt64.ofNat_add,UInt64.ofNat_mul];exact UInt64.add_comm _ _
  rw[e];exact zT p N a n ha hp j q (by omega) (by omega)
theorem mP(p:List UInt8)(N:Int)(a n:Nat)(ha:a+n<=8*p.length)(hp:p.length<=1000000):Rj p N (a:Int) (n:Int)=some (Ms p a n):=by
 have:=zT p N a n ha hp n Ar (Aj0 _) (by have:=Am;omega);have hz:Ms p (a+n) (n-n)=0:=by rw[Nat.sub_self];rfl
 rw[hz]at this;rw[Rj,FL,FC,Bg];exact this
theorem Agm(bit:Int)(N:Nat)(l:List UInt8):∀(j k q:Nat),k+j=N %8->j<q->Ku bit (N:Int) l q ((2^k:Nat):Int) (k:Int)=Wg bit ((2^(N %8):Nat):Int) (N:Int) l
 |0,k,q+1,hk,_=>by
  rw[Ku,Xe,Ako,Aba (by rw[Af];simp;omega),show k=N %8 by omega]
 |j+1,k,q+1,hk,hq=>by
  have hp:2^k<=2^8:=Aeb (by omega) (by omega);have e:Bd ((2^k:Nat):Int) 2=((2^(k+1):Nat):Int):=by
   rw[Atw];generalize 2^k=K at*
   rw[Gt];omega
  rw[Ku,Xe,Ako,Abb (by rw[Af];simp;omega),e,Ag];exact Agm bit N l j (k+1) q (by omega) (by omega)
theorem C7(p:List UInt8)(a n j:Nat)(h:j<(n+7)/8):(Nh p a n)[j]'(by rw[Hh];exact h)=UInt8.ofNat (Bj p (a+8*j) (min 8 (n-8*j))):=by simp[Nh]
theorem rJ(p:List UInt8)(a t:Nat)(h:t<=8):Bj p a t<256:=by
 have h1:=Mo p t a;have h2:2^t<=2^8:=Aeb (by omega) h;omega
def room(p:List UInt8)(a n:Nat):List UInt8:=if n %8=0 then Nh p a n++[0]else Nh p a n
theorem Lz(p:List UInt8)(a n:Nat):(room p a n).length=n/8+1:=by
 rw[room];split<;>simp[Hh]<;>omega
theorem Abh(p:List UInt8)(a n j:Nat)(h:j<n/8+1):(room p a n)[j]'(by rw[Lz];exact h)=UInt8.ofNat (Bj p (a+8*j) (min 8 (n-8*j))):=by
 have h0:(room p a n)[j]? =some (UInt8.ofNat (Bj p (a+8*j) (min 8 (n-8*j)))):=by
  rw[room];split
  ·by_cases hj:j<(n+7)/8
   ·rw[List.getElem?_append_left (by rw[Hh];exact hj),List.getElem?_eq_getElem (by rw[Hh];exact hj),C7 p a n j hj]
   ·rw[List.getElem?_append_right (by rw[Hh];omega),Hh,show j-(n+7)/8=0 by omega,show n-8*j=0 by omega];rfl
  ·rw[List.getElem?_eq_getElem (by rw[Hh];omega),C7 p a n j (by omega)]
 rw[List.getElem?_eq_getElem (by rw[Lz];exact h)]at h0;exact At5 h0
theorem qV(p:List UInt8)(a n T:Nat)(h1:1<=T)(h:n %8+T<=8):(room p a n).set (n/8) (UInt8.ofNat (Bj p (a+8*(n/8)) (n %8+T)))=Nh p a (n+T):=by
 apply Au5 (by rw[Axa,Lz,Hh];omega);intro j g1 g2;rw[Axa,Lz]at g1;rw[Azr,C7 p a (n+T) j (by rw[Hh]at g2;exact g2)];split
 ·rename_i e;subst e;rw[show min 8 (n+T-8*(n/8))=n %8+T by omega]
 ·rw[Abh p a n j g1,show min 8 (n-8*j)=8 by omega,show min 8 (n+T-8*j)=8 by omega]
theorem kA(p:List UInt8)(a n:Nat):(room p a n)[n/8]'(by rw[Lz];omega)=UInt8.ofNat (Bj p (a+8*(n/8)) (n %8)):=by
 rw[Abh p a n _ (by omega),show min 8 (n-8*(n/8))=n %8 by omega]
theorem Akh(p:List UInt8)(a n:Nat)(hn:n<=400000):Vp (Nh p a n) (n:Int) ((Fs p (a+n):Nat):Int)=some (Nh p a (n+1),((n+1:Nat):Int)):=by
 have hb:=Xr p (a+n);have hp:2^(n %8)<=2^7:=Aeb (by omega) (by omega);have hroom:Vp (Nh p a n) (n:Int) ((Fs p (a+n):Nat):Int)=Wj ((Fs p (a+n):Nat):Int) (n:Int) (room p a n):=by
  rw[Vp,MO,Ako,room];by_cases h0:n %8=0
  ·rw[Abb (by rw[Bc,h0];rfl),Cx (by rw[Hh];simp;omega),Aa,Abb h0]
  ·rw[Aba (by rw[Bc];simp;omega),Aba h0]
 have hl:=Agm ((Fs p (a+n):Nat):Int) n (room p a n) (n %8) 0 Ar (by omega) (by have:=Am;omega);rw[hroom,Wj,MU,ML];refine Awn hl ?_;have hg:Aj (room p a n) ((n/8:Nat):Int)=some (UInt8.ofNat (Bj p (a+8*(n/8)) (n %8))):=by
  rw[Ck (by rw[Lz];omega),kA]
 have hlt:=rJ p (a+8*(n/8)) (n %8+1) (by omega);have hsn:=jU p (a+8*(n/8)) (n %8);rw[show a+8*(n/8)+n %8=a+n by omega]at hsn;have hm:Bd ((Fs p (a+n):Nat):Int) ((2^(n %8):Nat):Int)=((2^(n %8)*Fs p (a+n):Nat):Int):=by
  have hle:2^(n %8)*Fs p (a+n)<=2^7*1:=Azg hp (by omega);rw[Aj6,<-Awx,Bp (by omega) (by rw[Aoi];omega),Aoi]
 have hx:Ae (UInt8.ofNat (Bj p (a+8*(n/8)) (n %8))) (Ad (((2^(n %8)*Fs p (a+n):Nat):Int)):UInt8)=UInt8.ofNat (Bj p (a+8*(n/8)) (n %8+1)):=by
  rw[Arj,Alj,hsn,UInt8.ofNat_add]
 rw[Wg,MM,Ave _ (by omega),hg,Aa,Aa,Aa,hm,hx,Rg _ (by rw[Lz];omega),Aa,qV p a n 1 (by omega) (by omega),Ag];rfl
theorem qS(p:List UInt8)(N:Int)(a n:Nat)(ha:a+n<=8*p.length)(hp:p.length<=1000000)(hn:n<=300000):∀(j m q:Nat),m+j=n->j<q->Gz ((a+n:Nat):Int) p N q ((a+m:Nat):Int) (m:Int) (Nh p a m)=some (Nh p a n,(n:Int))
 |0,m,q+1,hm,_=>by
  rw[Gz,Qb,Aba (by rw[Af];simp;omega),show m=n by omega];rfl
 |j+1,m,q+1,hm,hq=>by
  rw[Gz,Qb,Abb (by rw[Af];simp;omega),rX p N (a+m) (by omega) (by omega),Aa,Akh p a m (by omega),Aa];simp only;rw[Ag];exact qS p N a n ha hp hn j (m+1) q (by omega) (by omega)
theorem og(p:List UInt8)(N:Int)(a n:Nat)(ha:a+n<=8*p.length)(hp:p.length<=1000000)(hn:n<=300000):JM p N (a:Int) ((a+n:Nat):Int)=some (Nh p a n,(n:Int)):=by
 have:=qS p N a n ha hp hn n 0 Ar (by omega) (by have:=Am;omega);exact this
theorem As8{t:Nat}(h:t<=8):Ah (Cw (1:UInt64) t) (1:UInt64)=UInt64.ofNat (2^t-1):=by
 have:t=0\/t=1\/t=2\/t=3\/t=4\/t=5\/t=6\/t=7\/t=8:=by omega
 rcases this with rfl|rfl|rfl|rfl|rfl|rfl|rfl|rfl|rfl<;>decide
theorem Av9(v:UInt64){t:Nat}(h:t<=8):(Di v (Ah (Cw (1:UInt64) t) (1:UInt64))).toNat=v.toNat %2^t:=by
 have hp:2^t<=2^8:=Aeb (by omega) h;rw[As8 h,B6,UInt64.toNat_and,Ajt,Abk (by have:=Axe (n:=t) (show 0<2 by omega);omega),Awr]
theorem or8{v w i:Nat}(hv:v<2^i)(hw:w*2^i<256)(hi:i<8):sY (UInt8.ofNat v) (Cw (UInt8.ofNat w) i)=UInt8.ofNat (v+w*2^i):=by
 have hp:2^i<=2^8:=Aeb (by omega) (by omega);have hpos:0<2^i:=Axe (by omega);have hw2:w<256:=Aw8 (Nat.le_mul_of_pos_right w hpos) hw;rw[Ath];apply UInt8.toNat_inj.1;have e1:(UInt8.ofNat v).toNat=v:=by rw[An9,Abk (by omega)]
 have e2:(UInt8.ofNat w).toNat=w:=by rw[An9,Abk (by omega)]
 rw[UInt8.toNat_or,Aqb,e1,e2,Abk hw,Aoi w,Nat.or_comm,<-Avw hv,An9,Ay9 v];rw[Aoi]at hw;have hb:2^i*w+v<256:=by
  rw[Avw hv];exact Nat.or_lt_two_pow (n:=8) hw (by omega)
 rw[Abk hb]
theorem yg(p:List UInt8)(a n T:Nat)(h:T<=n)(hn:n<=64):Bt (Ms p a n) T=Ms p (a+T) (n-T):=by
 apply UInt64.toNat_inj.1;rw[ED,Vh p a n hn,Vh p (a+T) (n-T) (by omega)];have:=Mo p T a
 conv=>lhs;rw[show n=T+(n-T) by omega,JF,Nat.add_mul_div_left _ _ (Axe (by omega)),Aw1 this,Au1]
theorem Aa5(p:List UInt8)(a n T:Nat)(h:T<=n)(hn:n<=64):(Ms p a n).toNat %2^T=Bj p a T:=by
 have:=Mo p T a;rw[Vh p a n hn]
 conv=>lhs;rw[show n=T+(n-T) by omega,JF,Nat.add_mul_mod_self_left,Abk this]
theorem A8(bk:Int->Int->List UInt8->Option (List UInt8×Int×Int))(to':Int)(p:List UInt8)(N fr:Int)(r6:UInt64)(a:Nat):∀(j m q:Nat),m+j<=300000->j<=64->j<q->
  Nk bk to' p N fr r6 q (Ms p (a+m) j) (j:Int) (m:Int) (Nh p a m)=NC bk to' p N fr ((m+j:Nat):Int) (Nh p a (m+j))
 |0,m,q+1,_,_,_=>by
  rw[Nk,NK,Aba (by rw[Al];simp)];rfl
 |j+1,m,q+1,hm,hj,hq=>by
  have hroom:Nk bk to' p N fr r6 (q+1) (Ms p (a+m) (j+1)) ((j+1:Nat):Int) (m:Int) (Nh p a m)=NN (Nk bk to' p N fr r6 q) to' fr p N r6 (Ms p (a+m) (j+1)) ((j+1:Nat):Int) (m:Int) (room p a m):=by
   rw[Nk,NK,Abb (by rw[Al];simp),uY m (by omega),room];by_cases h0:m %8=0
   ·rw[Abb (by rw[Bc,h0];rfl),Cx (by rw[Hh];simp;omega),Aa,Abb h0]
   ·rw[Aba (by rw[Bc];simp;omega),Aba h0]
  have hl:Ah (Ac (room p a m)) 1=((m/8:Nat):Int):=by
   rw[Ac,Lz,Bg];omega
  have e2:Du ((j+1:Nat):Int) (Ah (8:Int) ((m %8:Nat):Int))=((min (j+1) (8-m %8):Nat):Int):=by
   rw[GB,Bg];omega
  rw[hroom,NN,bN,uY m (by omega),e2,hl];generalize hT:min (j+1) (8-m %8)=T;have hT1:1<=T:=by omega
  have hT8:m %8+T<=8:=by omega
  have hg:Aj (room p a m) ((m/8:Nat):Int)=some (UInt8.ofNat (Bj p (a+8*(m/8)) (m %8))):=by
   rw[Ck (by rw[Lz];omega),kA]
  have z1:(GI.toZ ((m %8:Nat):Int)).toNat=m %8:=rfl;have z2:(GI.toZ ((T:Nat):Int)).toNat=T:=rfl;have hlt:=rJ p (a+8*(m/8)) (m %8+T) (by omega);have hadd:=JF p (m %8) T (a+8*(m/8));rw[show a+8*(m/8)+m %8=a+m by omega]at hadd;have hbyte:(Ad (Di (Ms p (a+m) (j+1)) (Ah (Cw (1:UInt64) T) (1:UInt64))):UInt8)=UInt8.ofNat (Bj p (a+m) T):=by
   rw[RH,Av9 _ (by omega),Aa5 p (a+m) (j+1) T (by omega) hj]
  have hnew:sY (UInt8.ofNat (Bj p (a+8*(m/8)) (m %8))) (Cw (UInt8.ofNat (Bj p (a+m) T)) (m %8))=UInt8.ofNat (Bj p (a+8*(m/8)) (m %8+T)):=by
   rw[or8 (Mo _ _ _) (by rw[Aoi];omega) (by omega),hadd,Aoi (2^(m %8))]
  rw[hg,z1,z2,hbyte];simp only[Aa];rw[Be (by rw[Dc];simp),Aa,Be (by rw[Dc];simp;omega),Aa,hnew,Rg _ (by rw[Lz];omega),Aa,qV p a m T hT1 hT8,aN,pP,uY m (by omega),e2,hT,Be (by rw[Dc];simp),Aa,z2,yg p (a+m) (j+1) T (by omega) hj,Bg,Ag];have ih:=A8 bk to' p N fr r6 a (j+1-T) (m+T) q (by omega) (by omega) (by omega);rw[show m+T+(j+1-T)=m+(j+1) by omega]at ih;rw[<-ih,show a+m+T=a+(m+T) by omega,show((j+1:Nat):Int)-((T:Nat):Int)=((j+1-T:Nat):Int) by omega,show(m:Int)+((T:Nat):Int)=((m+T:Nat):Int) by omega]
theorem wz(p:List UInt8)(N:Int)(a n:Nat)(ha:a+n<=8*p.length)(hp:p.length<=1000000)(hn:n<=300000):∀(j m f q:Nat),(f=m\/n<=f/\m=n)->m+j=n->f<=n+64->j<q->Vm ((a+n:Nat):Int) p N q ((a+f:Nat):Int) (m:Int) (Nh p a m)=some (Nh p a n,(n:Int),0)
 |j,m,f,q+1,hf,hm,hf2,hq=>by
  rw[Vm,aO];by_cases hlt:f<n
  ·obtain rfl:f=m:=by omega
   have e1:Du (64:Int) (Ah ((a+n:Nat):Int) ((a+f:Nat):Int))=((min 64 (n-f):Nat):Int):=by
    rw[GB,Bg];omega
   rw[Abb (by rw[Af];simp;omega),e1,get_eq p N (a+f) _ (by omega) (by omega) hp,Aa,aQ];have h1:=A8 (Vm ((a+n:Nat):Int) p N q) ((a+n:Nat):Int) p N ((a+f:Nat):Int) (Ms p (a+f) (min 64 (n-f))) a (min 64 (n-f)) f Ar (by omega) (by omega) (by have:=Am;omega);refine Awn h1 ?_;rw[NC,pN,Ag,show((a+f:Nat):Int)+64=((a+(f+64):Nat):Int) by omega];exact wz p N a n ha hp hn (j-min 64 (n-f)) (f+min 64 (n-f)) (f+64) q (by omega) (by omega) (by omega) (by omega)
  ·rw[Aba (by rw[Af];simp;omega),ZA,qR,show m=n by omega]
theorem Atj{p:List UInt8}{N:Nat}(h:okB p N)(a n:Nat)(ha:a+n<=N)(hn:n<=300000):gL p (N:Int) (a:Int) ((a+n:Nat):Int)=some (Nh p a n,(n:Int),0):=by
 obtain⟨h1,h2,h3⟩:=h;have:=wz p N a n (by omega) (by omega) hn n 0 0 Ar (by omega) (by omega) (by omega) (by have:=Am;omega);rw[gL,gV,Vs ⟨h1,h2,h3⟩,Aa,Aba (by rw[Ak];simp),Aba (by simp[Af,Al];omega),YK];exact this
def Fb(p:List UInt8):Nat->Nat->Nat
 |_,0=>0
 |a,m+1=>if Fs p a=1 then 1+Fb p (a+1) m else 0
theorem SY(p:List UInt8):∀(m a:Nat),Fb p a m<=m
 |0,_=>Aj0 _
 |m+1,a=>by rw[Fb];split<;>have:=SY p m (a+1)<;>omega
theorem zh(p:List UInt8):∀(m a:Nat),∃s,Bj p a m+1=2^(Fb p a m+1)*s+2^Fb p a m/\ (Fb p a m=m->s=0)
 |0,a=>⟨0,by simp[Bj,Fb],λ_=>rfl⟩
 |m+1,a=>by
  have hb:=Xr p a;obtain⟨s,h1,h2⟩:=zh p m (a+1);by_cases h:Fs p a=1
  ·refine⟨s,?_,λe=>h2 ?_⟩
   ·rw[Fb,Abb h,Bj,h,show 1+Fb p (a+1) m+1=(Fb p (a+1) m+1)+1 by omega,show 1+Fb p (a+1) m=Fb p (a+1) m+1 by omega,Atw,Atw (n:=2) (m:=Fb p (a+1) m)];rw[Atw]at h1;generalize Bj p (a+1) m=V at*
    generalize 2^Fb p (a+1) m=W at*
    have e1:W*2*2*s=2*(W*2*s):=by rw[Nat.mul_right_comm (W*2) 2 s,Aoi]
    omega
   ·rw[Fb,Abb h]at e;omega
  ·refine⟨Bj p (a+1) m,?_,λe=>?_⟩
   ·rw[Fb,Aba h,Bj];simp;omega
   ·rw[Fb,Aba h]at e;omega
theorem Arf{n t s:Nat}(h:2^(t+1)*s+2^t<=2^n)(ht:t<n)(x:Nat)(hx:x=2^n-(2^(t+1)*s+2^t)):x&&& (2^(t+1)*s+2^t)=2^t:=by
 have hpos:0<2^t:=Axe (by omega);have hlt:2^t<2^(t+1):=by rw[Atw];omega
 have e:x=2^n-((2^(t+1)*s+(2^t-1))+1):=by rw[hx];congr 1;omega
 apply Nat.eq_of_testBit_eq;intro i;rw[Nat.testBit_and,e,Nat.testBit_two_pow_sub_succ (by omega),Nat.testBit_two_pow_mul_add _ (by omega),Nat.testBit_two_pow_mul_add _ hlt];by_cases hi:i<t+1
 ·rw[Abb hi,Abb hi,Nat.testBit_two_pow_sub_one,Nat.testBit_two_pow];by_cases hit:t=i
  ·subst hit;simp;exact ht
  ·have:¬i=t:=λe=>hit e.symm;simp[hit]
 ·rw[Aba hi,Aba hi,Nat.testBit_two_pow];have:¬t=i:=by omega
  simp[this]
theorem Am9(a:UInt64):(C4 a).toNat=18446744073709551615-a.toNat:=by
 have h:=a.toNat_lt;have e:C4 a=UInt64.ofNat (BitVec.ofInt 64 18446744073709551615^^^BitVec.ofInt 64 (a.toNat:Int)).toNat:=Ha _;have h1:BitVec.ofInt 64 (a.toNat:Int)=a.toBitVec:=Y6 a;have h2:(BitVec.ofInt 64 18446744073709551615:BitVec 64)=BitVec.allOnes 64:=by decide
 rw[e,Ajt,h1,h2,BitVec.allOnes_xor,BitVec.toNat_not];show(18446744073709551616-1-a.toNat) %18446744073709551616=18446744073709551615-a.toNat;omega
theorem Al9(a:UInt64):(oU a).toNat=(18446744073709551616-a.toNat) %18446744073709551616:=by
 have h:=a.toNat_lt;have e:oU a=UInt64.ofNat ((0-(a.toNat:Int)) %18446744073709551616).toNat:=U2 _;rw[e,Ajt];show((0-(a.toNat:Int)) %18446744073709551616).toNat %18446744073709551616=_;omega
def Av8:List UInt8:=[0,1,56,2,57,49,28,3,61,58,42,50,38,29,17,4,62,47,59,36,45,43,51,22,53,39,33,30,24,18,12,5,63,55,48,27,60,41,37,16,46,35,44,21,52,32,23,11,54,26,40,15,34,20,31,10,25,14,19,9,13,8,7,6]
theorem Ahh:∀t:Fin 64,Aj Av8 (GI.toZ (Bt (Bd (UInt64.ofNat (2^t.val)) (285870213051353865:UInt64)) (GI.toZ (58:UInt64)).toNat))=some (UInt8.ofNat t.val):=by decide +kernel
theorem Avt(x:UInt64)(t s:Nat)(ht:t<64)(h:x.toNat+(2^(t+1)*s+2^t)=18446744073709551616):Fx x=some (t:Int):=by
 have hpos:0<2^t:=Axe (by omega);have hx:x.toNat=2^64-(2^(t+1)*s+2^t):=by show x.toNat=18446744073709551616-_;omega
 have hle:2^t<=2^63:=Aeb (by omega) (by omega);have hne:x≠0:=by
  intro e;rw[e]at h;have h':2^t*(2*s+1)=2^64:=by
   rw[Nat.mul_add,Azh,<-Ay2,<-Atw]
   show _=18446744073709551616;simpa using h
  have h2:2^64=2^t*2^(64-t):=by rw[<-Azn];congr 1;omega
  rw[h2]at h';have h3:=Nat.eq_of_mul_eq_mul_left hpos h';rw[show 64-t=(63-t)+1 by omega,Atw]at h3;omega
 have hx0:x.toNat≠0:=λe=>hne (UInt64.toNat_inj.1 e);have hl:Di x (oU x)=UInt64.ofNat (2^t):=by
  apply UInt64.toNat_inj.1;rw[B6,UInt64.toNat_and,Al9,show(18446744073709551616-x.toNat) %18446744073709551616=2^(t+1)*s+2^t by omega,Arf (n:=64) (by show _<=18446744073709551616;omega) ht _ hx,Ajt,Abk];exact Aw8 hle (by decide)
 have hb:=Ahh ⟨t,ht⟩;rw[Fx,Aba (by rw[wA];simpa using hne),hl];refine Awn (congrArg (λo=>Option.bind o λc=>some (Ad c:Int)) hb) ?_;rw[Aa,NY,An9,Abk (by show t<256;omega)]
theorem Arp(p:List UInt8)(a m:Nat)(hm:m<=48):Fx (C4 (Ms p a m))=some ((Fb p a m:Nat):Int):=by
 obtain⟨s,h1,h2⟩:=zh p m a;have hle:=SY p m a;have hlt:=Mo p m a;have h48:2^m<=2^48:=Aeb (by omega) hm;have hn:(C4 (Ms p a m)).toNat=18446744073709551615-Bj p a m:=by rw[Am9,Vh p a m (by omega)]
 have h3:(281474976710656:Nat)=2^48:=rfl;refine Avt _ (Fb p a m) s (by omega) ?_;rw[hn];omega
def ql(p:List UInt8)(N a:Nat):Int×Int×Int:=
 if Fb p a (min 48 (N-a))<min 48 (N-a)then((Fb p a (min 48 (N-a)):Nat),((a+Fb p a (min 48 (N-a))+1:Nat):Int),0)else
 if Fb p a (min 48 (N-a))=48 then(48,((a+48:Nat):Int),0)else(0,0,24)
theorem Amx{p:List UInt8}{N:Nat}(h:okB p N)(a:Nat)(ha:a<N):HA p (N:Int) (a:Int)=some (ql p N a):=by
 have hN:=h.1;have e1:Du (48:Int) (Ah (N:Int) (a:Int))=((min 48 (N-a):Nat):Int):=by rw[GB,Bg];omega
 have hle:=SY p (min 48 (N-a)) a;rw[HA,Xw,Vs h,Aa,Aba (by rw[Ak];simp),Aba (by rw[Af];simp),Aba (by rw[Dc];simp;omega),e1,tS h a _ (by omega),Aba (by omega),Aa];simp only;rw[UP,VE,Aba (by rw[Ak];simp),Arp p a _ (by omega),Aa,VH,UW,e1,ql];by_cases h1:Fb p a (min 48 (N-a))<min 48 (N-a)
 ·rw[Abb (by rw[Af];simp;omega),Abb h1,Ag (a:=(a:Int)) (by omega) (by omega),show Ae (0:Int) 1=1 by decide,Ag];congr 3;omega
 ·rw[Aba (by rw[Af];simp;omega),Aba h1,VB,US];by_cases h2:Fb p a (min 48 (N-a))=48
  ·rw[Abb (by rw[Bc,h2];rfl),Abb h2,h2,Ag (a:=(a:Int)) (by omega) (by omega),Ag];congr 3;omega
  ·rw[Aba (by rw[Bc];simp;omega),Aba h2];rfl
theorem P0(p:List UInt8):∀(m a:Nat),Fb p a m<m->Fs p (a+Fb p a m)≠1
 |0,_,h=>by simp[Fb]at h
 |m+1,a,h=>by
  by_cases hb:Fs p a=1
  ·rw[Fb,Abb hb]at h⊢;have:=P0 p m (a+1) (by omega);rwa [show a+(1+Fb p (a+1) m)=a+1+Fb p (a+1) m by omega]
  ·rw[Fb,Aba hb];exact hb
theorem M8(p:List UInt8):∀(m a k:Nat),k<Fb p a m->Fs p (a+k)=1
 |0,a,k,h=>by simp[Fb]at h
 |m+1,a,k,h=>by
  by_cases hb:Fs p a=1
  ·rw[Fb,Abb hb]at h;cases k with
   |zero=>exact hb
   |succ k=>
    have:=M8 p m (a+1) k (by omega);rwa [show a+(k+1)=a+1+k by omega]
  ·rw[Fb,Aba hb]at h;omega
def unR(p:List UInt8)(N a:Nat):Int×Int:=if(ql p N a).2.2=0 then((ql p N a).1,(ql p N a).2.1)else(-1,0)
theorem E0{p:List UInt8}{N:Nat}(h:okB p N)(a:Nat)(ha:a<N):∀(j k q:Nat),k+j=Fb p a (min 48 (N-a))->j<q->Kn (a:Int) p (N:Int) q (k:Int)=some (unR p N a)
 |0,k,q+1,hk,_=>by
  obtain⟨hN,hl,hz⟩:=h;have hle:=SY p (min 48 (N-a)) a;have hk':k=Fb p a (min 48 (N-a)):=by omega
  have e1:Ae (a:Int) (k:Int)=((a+k:Nat):Int):=by rw[Ag];omega
  have hend:Xd (a:Int) (k:Int) p (N:Int)=some (unR p N a):=by
   rw[Xd,MX,e1];by_cases h48:k=48
   ·have hu:ql p N a=(48,((a+48:Nat):Int),0):=by rw[ql,<-hk',Aba (by omega),Abb h48]
    rw[Abb (by rw[Bc,h48];rfl),unR,hu,h48];rfl
   ·rw[Aba (by rw[Bc];simp;omega)];by_cases hN2:N<=a+k
    ·have hu:ql p N a=(0,0,24):=by rw[ql,<-hk',Aba (by omega),Aba h48]
     rw[Abb (by rw[Dc];simp;omega),unR,hu];rfl
    ·have hu:ql p N a=(((k:Nat):Int),((a+k+1:Nat):Int),0):=by rw[ql,<-hk',Abb (by omega)]
     rw[Aba (by rw[Dc];simp;omega),unR,hu,Ag];rfl
  rw[Kn,Wy,e1];by_cases hc:a+k<N/\k<48
  ·have hb:=Xr p (a+k);have hs:=P0 p (min 48 (N-a)) a (by omega);rw[<-hk']at hs;rw[Abb (by simp[Af];omega),rX p _ (a+k) (by omega) (by omega),Aa,Aba (by rw[Bc];simp;omega),hend]
  ·rw[Aba (by simp[Af];omega),hend]
 |j+1,k,q+1,hk,hq=>by
  obtain⟨hN,hl,hz⟩:=h;have hle:=SY p (min 48 (N-a)) a;have hb:=M8 p (min 48 (N-a)) a k (by omega);have e1:Ae (a:Int) (k:Int)=((a+k:Nat):Int):=by rw[Ag];omega
  rw[Kn,Wy,e1,Abb (by simp[Af];omega),rX p _ (a+k) (by omega) (by omega),Aa,hb,Abb (by decide),Ag];exact E0 ⟨hN,hl,hz⟩ a ha j (k+1) q (by omega) (by omega)
theorem Alc{p:List UInt8}{N:Nat}(h:okB p N)(a:Nat)(ha:a<N):WO p (N:Int) (a:Int)=some (unR p N a):=by
 have hle:=SY p (min 48 (N-a)) a;have:=E0 h a ha (Fb p a (min 48 (N-a))) 0 Ar (by omega) (by have:=Am;omega);exact this
theorem Als{p:List UInt8}{N a:Nat}(h:Fb p a (min 48 (N-a))<min 48 (N-a)):ql p N a=(((Fb p a (min 48 (N-a)):Nat):Int),((a+Fb p a (min 48 (N-a))+1:Nat):Int),0):=by rw[ql,Abb h]
theorem Am0{p:List UInt8}{N a:Nat}(h:¬Fb p a (min 48 (N-a))<min 48 (N-a))(h2:Fb p a (min 48 (N-a))=48):ql p N a=(48,((a+48:Nat):Int),0):=by rw[ql,Aba h,Abb h2]
theorem Aku{p:List UInt8}{N a:Nat}(h:¬Fb p a (min 48 (N-a))<min 48 (N-a))(h2:¬Fb p a (min 48 (N-a))=48):ql p N a=(0,0,24):=by rw[ql,Aba h,Aba h2]
theorem Ahx{p:List UInt8}{N:Nat}(h:okB p N)(a:Nat)(ha:N<=a):HA p (N:Int) (a:Int)=some (0,0,24):=by
 rw[HA,Xw,Vs h,Aa,Aba (by rw[Ak];simp),Aba (by rw[Af];simp),Abb (by rw[Dc];simp;omega)]
def SJ(p:List UInt8)(N a k:Nat):UInt32×Int×Int:=
 if N<=a then(0,0,24)else
 if Fb p a (min 48 (N-a))<min 48 (N-a)then
  (if N<a+Fb p a (min 48 (N-a))+1+k then(0,0,24)else(UInt32.ofNat (Fb p a (min 48 (N-a))*2^k+Bj p (a+Fb p a (min 48 (N-a))+1) k),((a+Fb p a (min 48 (N-a))+1+k:Nat):Int),0))
 else if Fb p a (min 48 (N-a))=48 then
  (if N<a+48+32 then(0,0,24)else if Bj p (a+48) 32/2^k<48 then(0,0,12)else(UInt32.ofNat (Bj p (a+48) 32),((a+48+32:Nat):Int),0))
 else(0,0,24)
theorem pI{p:List UInt8}{a n:Nat}(h:n<=32):(Ad (Ms p a n):UInt32)=UInt32.ofNat (Bj p a n):=by
 have e:(Ad (Ms p a n):UInt32)=UInt32.ofNat (Ms p a n).toNat:=by simp only[Ad,Ig,Ej]
 rw[e,Vh p a n (by omega)]
theorem SZ{n:Nat}(h:n<4294967296):(UInt32.ofNat n).toNat=n:=by rw[Ajz];exact Abk h
theorem yx(p:List UInt8)(a:Nat){n:Nat}(h:n<=32):Bj p a n<4294967296:=by
 have h1:=Mo p n a;have h2:2^n<=2^32:=Aeb (by omega) h;omega
theorem At8{q v k:Nat}(hq:q<48)(hv:v<2^k)(hk:k<=24):sY (Cw (Ad (q:Int):UInt32) k) (UInt32.ofNat v)=UInt32.ofNat (q*2^k+v):=by
 have hp:2^k<=2^24:=Aeb (by omega) hk;have h1:q*2^k<=47*2^24:=Azg (by omega) hp;rw[Ap9];apply UInt32.toNat_inj.1;rw[UInt32.toNat_or,dX,P9,SZ (by omega),SZ (n:=v) (by omega),Abk (by omega),Aoi q,<-Avw hv,SZ (by rw[Aoi];omega)]
theorem Ap2{p:List UInt8}{N:Nat}(h:okB p N)(a k:Nat)(hk:k<=24):kH p (N:Int) (a:Int) (k:Int)=some (SJ p N a k):=by
 have hN:=h.1;rw[kH,aE,Vs h,Aa,Aba (by rw[Ak];simp),Aba (by simp[Af,Al];omega)];by_cases ha:N<=a
 ·rw[Ahx h a ha,Aa,SJ,Abb ha];rfl
 have hle:=SY p (min 48 (N-a)) a;rw[Amx h a (by omega),Aa];by_cases h1:Fb p a (min 48 (N-a))<min 48 (N-a)
 ·have hS:SJ p N a k=if N<a+Fb p a (min 48 (N-a))+1+k then(0,0,24)else(UInt32.ofNat (Fb p a (min 48 (N-a))*2^k+Bj p (a+Fb p a (min 48 (N-a))+1) k),((a+Fb p a (min 48 (N-a))+1+k:Nat):Int),0):=by rw[SJ,Aba ha,Abb h1]
  rw[Als h1,hS];generalize Fb p a (min 48 (N-a))=q at*
  simp only;rw[Aba (by rw[Ak];simp),Aba (by rw[Bc];simp;omega),NT,ZW,tS h _ k (by omega),Aa];by_cases h2:N<a+q+1+k
  ·rw[Abb h2,Abb h2];rfl
  ·rw[Aba h2,Aba h2];simp only;have z:(GI.toZ (k:Int)).toNat=k:=rfl;rw[Aba (by rw[Ak];simp),Abb (by rw[Af];simp;omega),Be (by rw[Dc];simp),Aa,z,pI (by omega),At8 (by omega) (Mo _ _ _) hk,Ag];rfl
 ·by_cases h2:Fb p a (min 48 (N-a))=48
  ·have hS:SJ p N a k=if N<a+48+32 then(0,0,24)else if Bj p (a+48) 32/2^k<48 then(0,0,12)else(UInt32.ofNat (Bj p (a+48) 32),((a+48+32:Nat):Int),0):=by rw[SJ,Aba ha,Aba h1,Abb h2]
   have hg:=tS h (a+48) 32 (by omega);rw[Am0 h1 h2,hS];simp only;rw[Aba (by rw[Ak];simp),Abb (by rw[Bc];rfl),NT,ZW];refine Awn (congrArg (λo=>Option.bind o _) hg) ?_;rw[Aa];by_cases h3:N<a+48+32
   ·rw[Abb h3,Abb h3];rfl
   ·rw[Aba h3,Aba h3];simp only;have z:(GI.toZ (k:Int)).toNat=k:=rfl;have hv:=yx p (a+48) (n:=32) (by omega);rw[Aba (by rw[Ak];simp),Aba (by rw[Af];simp),Vy,Be (by rw[Dc];simp),Aa,Aa,z,pI (by omega),Ae2];have e:(decide ((48:UInt32).toNat<= (Bt (UInt32.ofNat (Bj p (a+48) 32)) k).toNat))=decide (¬Bj p (a+48) 32/2^k<48):=by
     rw[IJ,SZ hv];simp
    rw[e];by_cases h4:Bj p (a+48) 32/2^k<48
    ·rw[Abb (by simp[h4]),Abb h4]
    ·rw[Aba (by simp;omega),Aba h4,Ag];rfl
  ·rw[Aku h1 h2,SJ,Aba ha,Aba h1,Aba h2];rfl
theorem A4(k:Nat)(hk:k<=63):∀(j i q:Nat),i+j=k->j<q->Ij (k:Int) q (UInt64.ofNat (2^i)) (i:Int)=some (UInt64.ofNat (2^k))
 |0,i,q+1,hi,_=>by
  rw[Ij,Tn,Aba (by rw[Af];simp;omega),show i=k by omega];rfl
 |j+1,i,q+1,hi,hq=>by
  have e:Bd (UInt64.ofNat (2^i)) (2:UInt64)=UInt64.ofNat (2^(i+1)):=by
   rw[JN,Atw,UInt64.ofNat_mul];rfl
  rw[Ij,Tn,Abb (by rw[Af];simp;omega),Ag,e];exact A4 k hk j (i+1) q (by omega) (by omega)
theorem JQ(k:Nat)(hk:k<=63):Fj (k:Int)=some (UInt64.ofNat (2^k)):=
 A4 k hk k 0 Ar (by omega) (by have:=Am;omega)
theorem SV{k:Nat}(hk:k<=63):(UInt64.ofNat (2^k)).toNat=2^k:=by
 have hp:2^k<=2^63:=Aeb (by omega) hk;rw[Ajt,Abk (by omega)]
theorem Apj(v:UInt32)(k:Nat)(hk:k<=24):BB v (k:Int)=some ((min 48 (v.toNat/2^k):Nat):Int):=by
 have hpos:0<2^k:=Axe (by omega);have hv:=v.toNat_lt;rw[BB,JQ k (by omega),Aa,Be (by rw[NH];simp only[Az1,ne_eq,<-Ay7,SV (show k<=63 by omega)];simp),Aa];have e:(Bz (Ad v:UInt64) (UInt64.ofNat (2^k))).toNat=v.toNat/2^k:=by
  rw[qP,Azq,Cn,SV (by omega),Ajt,Abk (by omega)]
 have hle:v.toNat/2^k<=v.toNat:=Asv _ _;have e2:Du (48:UInt64) (Bz (Ad v:UInt64) (UInt64.ofNat (2^k)))=UInt64.ofNat (min 48 (v.toNat/2^k)):=by
  apply UInt64.toNat_inj.1;rw[Ajt,Abk (by omega)];show(if _ then _ else _:UInt64).toNat=_;rw[show(GI.toZ (Bz (Ad v:UInt64) (UInt64.ofNat (2^k))))=((v.toNat/2^k:Nat):Int) by rw[Ig,e],show GI.toZ (48:UInt64)=48 from rfl];split
  ·rw[e];omega
  ·show 48=_;omega
 rw[e2,tO (by rw[Ajt,Abk]<;>omega),Ajt,Abk (by omega)]
theorem Ak8{p:List UInt8}{N:Nat}(h:okB p N)(a k:Nat)(hk:k<=24):GW p (N:Int) (a:Int) (k:Int)=some (SJ p N a k):=by
 obtain⟨hN,hl,hz⟩:=h;have h:okB p N:=⟨hN,hl,hz⟩;rw[GW,MJ];by_cases ha:N<=a
 ·rw[Abb (by rw[Dc];simp;omega),SJ,Abb ha]
 have hle:=SY p (min 48 (N-a)) a;rw[Aba (by rw[Dc];simp;omega),Alc h a (by omega),Aa,unR];by_cases h1:Fb p a (min 48 (N-a))<min 48 (N-a)
 ·have hS:SJ p N a k=if N<a+Fb p a (min 48 (N-a))+1+k then(0,0,24)else(UInt32.ofNat (Fb p a (min 48 (N-a))*2^k+Bj p (a+Fb p a (min 48 (N-a))+1) k),((a+Fb p a (min 48 (N-a))+1+k:Nat):Int),0):=by rw[SJ,Aba ha,Abb h1]
  rw[Als h1,hS];generalize Fb p a (min 48 (N-a))=q at*
  rw[Abb rfl];simp only;rw[Aba (by rw[Bc];simp;omega),Xa,Wo,Bg];by_cases h2:N<a+q+1+k
  ·rw[Abb (by simp[Af];omega),Abb h2]
  ·have hp:2^k<=2^24:=Aeb (by omega) hk;have hm:q*2^k<=47*2^24:=Azg (by omega) hp;have hv:=Mo p k (a+q+1);have e:(Ad (Ae (Bd (Ad (q:Int):UInt64) (UInt64.ofNat (2^k))) (Ms p (a+q+1) k)):UInt32)=UInt32.ofNat (q*2^k+Bj p (a+q+1) k):=by
    have e1:Ae (Bd (Ad (q:Int):UInt64) (UInt64.ofNat (2^k))) (Ms p (a+q+1) k)=UInt64.ofNat (q*2^k+Bj p (a+q+1) k):=by
     rw[JT,JN,Sn,Ms,UInt64.ofNat_add,UInt64.ofNat_mul]
    rw[e1];have e2:∀x:UInt64,(Ad x:UInt32)=UInt32.ofNat x.toNat:=λx=>by simp only[Ad,Ig,Ej]
    rw[e2,Ajt,Abk (by omega)]
   rw[Aba (by simp[Af];omega),Aba h2,mP p _ _ k (by omega) (by omega),Aa,Abb (by rw[Af];simp;omega),JQ k (by omega),Aa,e,Ag];rfl
 ·by_cases h2:Fb p a (min 48 (N-a))=48
  ·have hS:SJ p N a k=if N<a+48+32 then(0,0,24)else if Bj p (a+48) 32/2^k<48 then(0,0,12)else(UInt32.ofNat (Bj p (a+48) 32),((a+48+32:Nat):Int),0):=by rw[SJ,Aba ha,Aba h1,Abb h2]
   rw[Am0 h1 h2,hS,Abb rfl];simp only;rw[Abb (by rw[Bc];rfl),Xa,Wo,Bg];by_cases h3:N<a+48+32
   ·rw[Abb (by simp[Af];omega),Abb h3]
   ·have hg:=mP p (N:Int) (a+48) 32 (by omega) (by omega);have hv:=yx p (a+48) (n:=32) (by omega);rw[Aba (by simp[Af];omega),Aba h3];refine Awn (congrArg (λo=>Option.bind o _) hg) ?_;rw[Aa,Aba (by rw[Af];simp),pI (by omega),Apj _ k hk,Aa,SZ hv];by_cases h4:Bj p (a+48) 32/2^k<48
    ·rw[Abb (by rw[Af];simp;omega),Abb h4]
    ·rw[Aba (by rw[Af];simp;omega),Aba h4,Ag];rfl
  ·rw[Aku h1 h2,SJ,Aba ha,Aba h1,Aba h2];have e:(if((0:Int),(0:Int),(24:Int)).2.2=0 then(((0:Int),(0:Int),(24:Int)).1,((0:Int),(0:Int),(24:Int)).2.1)else((-1:Int),(0:Int)))=(-1,0):=by decide
   rw[e];rfl
theorem Atf{p:List UInt8}{N a k:Nat}{v:UInt32}{n:Int}(h:SJ p N a k=(v,n,0)):(a:Int)<n/\n<=N:=by
 unfold SJ at h;split at h
 ·simp at h
 split at h
 ·split at h
  ·simp at h
  ·simp only[Auu]at h;omega
 ·split at h
  ·split at h
   ·simp at h
   ·split at h
    ·simp at h
    ·simp only[Auu]at h;omega
  ·simp at h
def okD(k l:Nat)(s t:UInt64):Prop:=k<=24/\l<=24/\s.toNat<=68719476735/\t.toNat<=68719476735
theorem zf(a b:UInt64)(h:a.toNat<=b.toNat):Du a b=a:=by
 show(if _ then _ else _)=_;rw[Ig,Ig,Aba (by omega)]
theorem oO(a:UInt64):geq a a=true:=by rw[wA];simp
theorem Akd{k l:Nat}{s t:UInt64}(h:okD k l s t):RI (k:Int) (l:Int) s t=some 0:=by
 obtain⟨h1,h2,h3,h4⟩:=h;have e1:Du (lC (k:Int) 0) 24=(k:Int):=by rw[GB,Z2];omega
 have e2:Du (lC (l:Int) 0) 24=(l:Int):=by rw[GB,Z2];omega
 have e3:Du s (68719476735:UInt64)=s:=zf _ _ (by simpa using h3);have e4:Du t (68719476735:UInt64)=t:=zf _ _ (by simpa using h4);have e5:∀a:Int,geq a a=true:=λa=>by rw[Bc];simp
 rw[RI,HT,VO,HM,UB,lN,e1,e2,e3,e4,e5,e5,oO,oO];rfl
def Tz(s n:UInt64):UInt64:=s+n-s/16
def kS(k:Nat)(s:UInt64):Nat:=if 0<k/\s.toNat<2^(k+4)then k-1 else if k<24/\2^(k+5)<s.toNat then k+1 else k
theorem Asj{k:Nat}(h:k<=24)(s:UInt64):kS k s<=24:=by
 unfold kS;by_cases h1:0<k/\s.toNat<2^(k+4)
 ·rw[Abb h1];omega
 ·rw[Aba h1];split<;>omega
theorem Ae1{k:Nat}{s:UInt64}(h:¬(0<k/\s.toNat<2^(k+4))):(if k<24/\2^(k+5)<s.toNat then((k+1:Nat):Int)else(k:Int))=((kS k s:Nat):Int):=by
 rw[kS,Aba h];split<;>rfl
theorem Ae3{s n:UInt64}(h:s.toNat<=68719476735)(hn:n.toNat<=4294967295):(Tz s n).toNat<=68719476735:=by
 have h1:=s.toNat_lt;have e:(s+n).toNat=s.toNat+n.toNat:=by rw[UInt64.toNat_add];omega
 have e2:(s/16).toNat=s.toNat/16:=by rw[Azq];rfl
 rw[Tz,UInt64.toNat_sub_of_le _ _ (by rw[UInt64.le_iff_toNat_le,e,e2];omega),e,e2];omega
theorem WC(s n:UInt64):Ae s (Ah n (Bt s (GI.toZ (4:UInt64)).toNat))=Tz s n:=by
 have e:Bt s (GI.toZ (4:UInt64)).toNat=s/16:=by
  apply UInt64.toNat_inj.1;rw[ED,Azq];rfl
 rw[e,JT,qY,Tz,UInt64.sub_eq_add_neg,UInt64.sub_eq_add_neg,UInt64.add_assoc]
theorem Afb(s n:UInt64):Ah (Ae s n) (Bz s (16:UInt64))=Tz s n:=by rw[JT,qY,qP,Tz]
theorem Avf{k:Nat}(h:k<=24):(Cw (16:UInt64) k).toNat=2^(k+4):=by
 have hp:2^k<=2^24:=Aeb (by omega) h;rw[SB,Azn]
 show 16*2^k %_=2^k*16;rw[Abk (by omega),Aoi]
theorem Aui{k:Nat}(h:k<=24):(Cw (32:UInt64) k).toNat=2^(k+5):=by
 have hp:2^k<=2^24:=Aeb (by omega) h;rw[SB,Azn]
 show 32*2^k %_=2^k*32;rw[Abk (by omega),Aoi]
theorem Asd{k:Nat}{s:UInt64}(h:0<k)(h2:s.toNat<2^(k+4)):kS k s=k-1:=by rw[kS,Abb ⟨h,h2⟩]
theorem Aso{k:Nat}{s:UInt64}(h:¬(0<k/\s.toNat<2^(k+4)))(h2:k<24)(h3:2^(k+5)<s.toNat):kS k s=k+1:=by rw[kS,Aba h,Abb ⟨h2,h3⟩]
theorem Ae8{k:Nat}{s:UInt64}(h:¬(0<k/\s.toNat<2^(k+4)))(h2:¬(k<24/\2^(k+5)<s.toNat)):kS k s=k:=by rw[kS,Aba h,Aba h2]
theorem Agq{α:Type}(k:Nat)(hk:k<=24)(s:UInt64)(f:Int->Option α):
  (if(Eu (k:Int) (0:Int))=true then(
   Option.bind (Ik (Ll (k:Int) (0:Int))) λ_=>
   if(Cc s (Cw (16:UInt64) (GI.toZ (k:Int)).toNat))=true then f (Ah (k:Int) (1:Int))
   else(if(Cc (k:Int) (24:Int))=true then(
    Option.bind (Ik (Ll (k:Int) (0:Int))) λ_=>
    if(Eu s (Cw (32:UInt64) (GI.toZ (k:Int)).toNat))=true then f (Ae (k:Int) (1:Int))else f (k:Int))
    else f (k:Int)))
  else(if(Cc (k:Int) (24:Int))=true then(
    Option.bind (Ik (Ll (k:Int) (0:Int))) λ_=>
    if(Eu s (Cw (32:UInt64) (GI.toZ (k:Int)).toNat))=true then f (Ae (k:Int) (1:Int))else f (k:Int))
    else f (k:Int)))=f ((kS k s:Nat):Int):=by
 have z:(GI.toZ (k:Int)).toNat=k:=rfl;rw[z,Be (by rw[Dc];simp)];simp only[Aa];rw[wI,TD,Avf hk,Aui hk];by_cases h0:0<k
 ·rw[Abb (by rw[Al];simp;omega)];by_cases h1:s.toNat<2^(k+4)
  ·rw[Abb (by simp[h1]),Asd h0 h1,Bg];congr 1;omega
  ·rw[Aba (by simp;omega)];by_cases h2:k<24
   ·rw[Abb (by rw[Af];simp;omega)];by_cases h3:2^(k+5)<s.toNat
    ·rw[Abb (by simp[h3]),Aso (λh=>h1 h.2) h2 h3,Ag];rfl
    ·rw[Aba (by simp;omega),Ae8 (λh=>h1 h.2) (λh=>h3 h.2)]
   ·rw[Aba (by rw[Af];simp;omega),Ae8 (λh=>h1 h.2) (λh=>h2 h.1)]
 ·rw[Aba (by rw[Al];simp;omega)];by_cases h2:k<24
  ·rw[Abb (by rw[Af];simp;omega)];by_cases h3:2^(k+5)<s.toNat
   ·rw[Abb (by simp[h3]),Aso (λh=>h0 h.1) h2 h3,Ag];rfl
   ·rw[Aba (by simp;omega),Ae8 (λh=>h0 h.1) (λh=>h3 h.2)]
  ·rw[Aba (by rw[Af];simp;omega),Ae8 (λh=>h0 h.1) (λh=>h2 h.1)]
theorem Agf(k:Nat)(hk:k<=24)(s n:UInt64):Tu (k:Int) s n=some (((kS k (Tz s n):Nat):Int),Tz s n):=by
 have g1:Ae (k:Int) 4=((k+4:Nat):Int):=by rw[Ag];omega
 have g2:Ae (k:Int) 5=((k+5:Nat):Int):=by rw[Ag];omega
 have hp:Ue (k:Int) s n=some (if k<24/\2^(k+5)<(Tz s n).toNat then((k+1:Nat):Int)else(k:Int),Tz s n):=by
  rw[Ue,KN,g2,JQ _ (by omega),Aa,Afb,TD,SV (by omega)];by_cases h2:k<24
  ·rw[Abb (by rw[Af];simp;omega)];by_cases h3:2^(k+5)<(Tz s n).toNat
   ·rw[Abb (by simp[h3]),Abb ⟨h2,h3⟩,Ag];rfl
   ·rw[Aba (by simp;omega),Aba (λh=>h3 h.2)]
  ·rw[Aba (by rw[Af];simp;omega),Aba (λh=>h2 h.1)]
 rw[Tu,JD,g1,JQ _ (by omega),Aa,Afb,wI,SV (by omega),hp];by_cases h0:0<k
 ·rw[Abb (by rw[Al];simp;omega)];by_cases h1:(Tz s n).toNat<2^(k+4)
  ·rw[Abb (by simp[h1]),Asd h0 h1,Bg];congr 2;omega
  ·rw[Aba (by simp;omega),Ae1 (λh=>h1 h.2)]
 ·rw[Aba (by rw[Al];simp;omega),Ae1 (λh=>h0 h.1)]
def vY(v:UInt32):UInt64:=UInt64.ofNat v.toNat
theorem Alm(v:UInt32):(vY v).toNat<=4294967295:=by have:=v.toNat_lt;rw[vY,Ajt,Abk (by omega)];omega
def cE(k:Nat)(v:UInt32):UInt32:=UInt32.ofNat (v.toNat-2^k)
def lK(l:Nat)(t:UInt64)(k:Nat)(v:UInt32):Nat:=if v.toNat<2^k then l else kS l (Tz t (vY (cE k v)))
def lT(t:UInt64)(k:Nat)(v:UInt32):UInt64:=if v.toNat<2^k then t else Tz t (vY (cE k v))
theorem Akm{k l:Nat}{s t:UInt64}(h:okD k l s t)(v:UInt32):okD (kS k (Tz s (vY v))) (lK l t k v) (Tz s (vY v)) (lT t k v):=by
 obtain⟨h1,h2,h3,h4⟩:=h;refine⟨Asj h1 _,?_,Ae3 h3 (Alm v),?_⟩
 ·unfold lK;split; · exact h2
  exact Asj h2 _
 ·unfold lT;split; · exact h4
  exact Ae3 h4 (Alm _)
theorem Ats(k l:Nat)(s t:UInt64)(hk:k<=24)(v:UInt32):GO (k:Int) (l:Int) s t v=some (decide (v.toNat<2^k)):=by
 have:=v.toNat_lt;rw[GO,JQ k (by omega),Aa,wI,SV (by omega),Cn,Ajt,Abk (by omega)]
theorem left_eq(k l:Nat)(s t:UInt64)(hk:k<=24)(v:UInt32)(h:¬v.toNat<2^k):CX (k:Int) (l:Int) s t v=some (cE k v):=by
 have:=v.toNat_lt;have e2:∀x:UInt64,(Ad x:UInt32)=UInt32.ofNat x.toNat:=λx=>by simp only[Ad,Ig,Ej]
 have e3:(UInt64.ofNat v.toNat).toNat=v.toNat:=by rw[Ajt,Abk (by omega)]
 rw[CX,JQ k (by omega),Aa,e2,qY,Cn,UInt64.toNat_sub_of_le _ _ (by rw[UInt64.le_iff_toNat_le,SV (by omega),e3];omega),SV (by omega),e3,cE]
theorem Ajc{k l:Nat}{s t:UInt64}(h:okD k l s t)(v:UInt32):Wf (k:Int) (l:Int) s t v=some (((kS k (Tz s (vY v)):Nat):Int),((lK l t k v:Nat):Int),Tz s (vY v),lT t k v):=by
 obtain⟨h1,h2,h3,h4⟩:=h;have hp:∀(r1:Int) (r2:UInt64),Qw v (k:Int) (l:Int) s t r1 r2=some (((kS k (Tz s (vY v)):Nat):Int),r1,Tz s (vY v),r2):=by
  intro r1 r2;rw[Qw,DO,Cn,Agf k h1,Aa];rfl
 rw[Wf,BH,Ats k l s t h1,Aa];by_cases hv:v.toNat<2^k
 ·rw[Aba (by simp[hv]),hp,lK,Abb hv,lT,Abb hv]
 ·rw[Abb (by simp;omega),left_eq k l s t h1 v hv,Aa,Cn,Agf l h2,Aa];simp only;rw[hp,lK,Aba hv,lT,Aba hv];rfl
theorem yU(k l:Nat)(s t:UInt64)(hk:k<=24)(v:UInt32):HC (k:Int) (l:Int) s t v=some (if v.toNat<2^k then(0,v)else(1,cE k v)):=by
 have hp:2^k<=2^24:=Aeb (by omega) hk;have hpos:0<2^k:=Axe (by omega);have hl:=v.toNat_lt;have z:(GI.toZ (k:Int)).toNat=k:=rfl;have e1:geq (Bt v k) (0:UInt32)=decide (v.toNat<2^k):=by
  rw[T7,An0];simp only[Axd,<-UInt32.toNat_inj,IJ,Ab2]
  show _/_=0↔_;rw[Nat.div_eq_zero_iff];omega
 have e2:¬v.toNat<2^k->Ah v (Cw (1:UInt32) k)=cE k v:=by
  intro h;have e3:(Cw (1:UInt32) k).toNat=2^k:=by rw[dX];show 1*2^k %_=_;rw[Abk (by omega),Nat.one_mul]
  apply UInt32.toNat_inj.1;rw[xY,UInt32.toNat_sub_of_le _ _ (by rw[UInt32.le_iff_toNat_le,e3];omega),e3,cE,SZ (by omega)]
 rw[HC,Be (by rw[Dc];simp),Aa,Aa,z,e1];by_cases h:v.toNat<2^k
 ·rw[Abb (by simp[h]),Abb h]
 ·rw[Aba (by simp;omega),Aba h,e2 h]
abbrev Rd:=UInt32×Int×Int×Int×UInt64×UInt64×Int
theorem xJ{k l:Nat}{s t:UInt64}(h:okD k l s t)(v:UInt32)(r:Int):NJ (k:Int) (l:Int) s t v r=some (v,r,((kS k (Tz s (vY v)):Nat):Int),((lK l t k v:Nat):Int),Tz s (vY v),lT t k v,0):=by
 obtain⟨h1,h2,h3,h4⟩:=h;have hp:∀(x:Int) (y:UInt64),EB v r (k:Int) s x y=some (v,r,((kS k (Tz s (vY v)):Nat):Int),x,Tz s (vY v),y,0):=by
  intro x y;rw[EB,bH,Cn,WC,Agq k h1];rw[YO,aT,UT,lM,Cn,WC];rfl
 rw[NJ,ZB,yU k l s t h1,Aa];by_cases hv:v.toNat<2^k
 ·rw[Abb hv];simp only;rw[Aba (by rw[Bc];simp),hp,lK,Abb hv,lT,Abb hv]
 ·rw[Aba hv];simp only;rw[Abb (by rw[Bc];rfl),Cn,WC,Agq l h2 _ (λx=>EB v r (k:Int) s x (Tz t (UInt64.ofNat (cE k v).toNat))),hp,lK,Aba hv,lT,Aba hv];rfl
def YJ(p:List UInt8)(N a k l:Nat):UInt32×Int×Int:=
 if N<=a then(0,0,24)else
 if Fs p a=0 then(if N<a+1+k then(0,0,24)else(UInt32.ofNat (Bj p (a+1) k),((a+1+k:Nat):Int),0))else
 if(SJ p N (a+1) l).2.2≠0 then(0,0,(SJ p N (a+1) l).2.2)else
 if 4294967295<(SJ p N (a+1) l).1.toNat+2^k then(0,0,12)else(UInt32.ofNat ((SJ p N (a+1) l).1.toNat+2^k),(SJ p N (a+1) l).2.1,0)
theorem At2{p:List UInt8}{N a k l:Nat}(h:(YJ p N a k l).2.2=0):(a:Int)<(YJ p N a k l).2.1/\ (YJ p N a k l).2.1<=N:=by
 revert h
 unfold YJ;split
 ·simp
 split
 ·split
  ·simp
  ·simp only;omega
 ·split
  ·intro h;contradiction
  ·rename_i h1;split
   ·simp
   ·intro _;have:=Atf (p:=p) (N:=N) (a:=a+1) (k:=l) (v:=(SJ p N (a+1) l).1) (n:=(SJ p N (a+1) l).2.1) (by
     have e:(SJ p N (a+1) l).2.2=0:=by simpa using h1
     rw[<-e])
    simp only;omega
theorem Ap0{p:List UInt8}{N:Nat}(h:okB p N)(a:Nat){k l:Nat}{s t:UInt64}(hd:okD k l s t):GQ p (N:Int) (a:Int) (k:Int) (l:Int) s t=
  some (if(YJ p N a k l).2.2≠0 then(0,0,0,0,0,0,(YJ p N a k l).2.2)else((YJ p N a k l).1,(YJ p N a k l).2.1,((kS k (Tz s (vY (YJ p N a k l).1)):Nat):Int),((lK l t k (YJ p N a k l).1:Nat):Int),Tz s (vY (YJ p N a k l).1),lT t k (YJ p N a k l).1,0)):=by
 obtain⟨h1,h2,h3,h4⟩:=hd;have hd:okD k l s t:=⟨h1,h2,h3,h4⟩;have hN:=h.1;have hg:=tS h a 1 (by omega);have hb:=Xr p a;rw[GQ,bQ,Vs h,Aa,Aba (by rw[Ak];simp),Akd hd,Aa,Aba (by rw[Ak];simp),bL,ZH];refine Awn (congrArg (λo=>Option.bind o _) hg) ?_;rw[Aa];by_cases ha:N<=a
 ·have hS:YJ p N a k l=(0,0,24):=by rw[YJ,Abb ha]
  rw[Abb (by omega),hS];rfl
 rw[Aba (by omega)];simp only;have e0:geq (Ms p a 1) (0:UInt64)=decide (Fs p a=0):=by
  rw[wA,An0];simp only[Axd,<-Ay7,Ab2,Vh p a 1 (by omega),pR];rfl
 have e1:Ae (a:Int) 1=((a+1:Nat):Int):=by rw[Ag];omega
 rw[Aba (by rw[Ak];simp),e0,e1];by_cases hz:Fs p a=0
 ·rw[Abb (by simp[hz]),tS h (a+1) k (by omega),Aa];by_cases h5:N<a+1+k
  ·have hS:YJ p N a k l=(0,0,24):=by rw[YJ,Aba ha,Abb hz,Abb h5]
   rw[Abb h5,hS];rfl
  ·have hS:YJ p N a k l=(UInt32.ofNat (Bj p (a+1) k),((a+1+k:Nat):Int),0):=by rw[YJ,Aba ha,Abb hz,Aba h5]
   rw[Aba h5,hS];simp only;rw[Aba (by rw[Ak];simp),xJ hd,pI (by omega),Ag];rfl
 ·rw[Aba (by simp[hz]),Ap2 h (a+1) l h2,Aa];have hp:2^k<=2^24:=Aeb (by omega) h1;by_cases h5:(SJ p N (a+1) l).2.2≠0
  ·have hS:YJ p N a k l=(0,0,(SJ p N (a+1) l).2.2):=by rw[YJ,Aba ha,Aba hz,Abb h5]
   rw[hS];generalize SJ p N (a+1) l=R at*
   obtain⟨v,n,e⟩:=R;simp only at*
   rw[Abb (by rw[Ak];simpa using h5),Abb h5]
  ·have hv:=(SJ p N (a+1) l).1.toNat_lt;have z:(GI.toZ (k:Int)).toNat=k:=rfl;have e3:(Cw (1:UInt32) k).toNat=2^k:=by rw[dX];show 1*2^k %_=_;rw[Abk (by omega),Nat.one_mul]
   by_cases h6:4294967295<(SJ p N (a+1) l).1.toNat+2^k
   ·have hS:YJ p N a k l=(0,0,12):=by rw[YJ,Aba ha,Aba hz,Aba h5,Abb h6]
    rw[hS];generalize SJ p N (a+1) l=R at*
    obtain⟨v,n,e⟩:=R;simp only at*
    rw[Aba (by rw[Ak];simpa using h5),Be (by rw[Dc];simp),Aa,z,Abb (by rw[Ae4,wR,UInt32.toNat_add,e3];simp;omega),Abb (by decide)]
   ·have hS:YJ p N a k l=(UInt32.ofNat ((SJ p N (a+1) l).1.toNat+2^k),(SJ p N (a+1) l).2.1,0):=by rw[YJ,Aba ha,Aba hz,Aba h5,Aba h6]
    rw[hS];generalize SJ p N (a+1) l=R at*
    obtain⟨v,n,e⟩:=R;simp only at*
    have e4:Ae v (Cw (1:UInt32) k)=UInt32.ofNat (v.toNat+2^k):=by
     apply UInt32.toNat_inj.1;rw[wR,UInt32.toNat_add,e3,SZ (by omega),Abk (by omega)]
    rw[Aba (by rw[Ak];simpa using h5),Be (by rw[Dc];simp),Aa,z,Aba (by rw[Ae4,wR,UInt32.toNat_add,e3];simp;omega),e4,xJ hd];rfl
theorem Anb{p:List UInt8}{N:Nat}(h:okB p N)(a:Nat)(k l:Nat)(s t:UInt64)(h1:k<=24)(h2:l<=24):GR p (N:Int) (a:Int) (k:Int) (l:Int) s t=some (YJ p N a k l):=by
 have hN:=h.1;have hl:=h.2.1;have hb:=Xr p a;rw[GR];by_cases ha:N<=a
 ·rw[Abb (by rw[Dc];simp;omega),YJ,Abb ha]
 rw[Aba (by rw[Dc];simp;omega),rX p _ a (by omega) (by omega),Aa,Bg (a:=(N:Int)) (b:=(a:Int)) (by omega) (by omega),Bg];have e1:Ae (a:Int) 1=((a+1:Nat):Int):=by rw[Ag];omega
 rw[e1];by_cases hz:Fs p a=0
 ·rw[Abb (by rw[Bc];simp[hz])];by_cases h5:N<a+1+k
  ·rw[Abb (by rw[Af];simp;omega),YJ,Aba ha,Abb hz,Abb h5]
  ·rw[Aba (by rw[Af];simp;omega),mP p _ (a+1) k (by omega) (by omega),Aa,YJ,Aba ha,Abb hz,Aba h5,pI (by omega),Ag];rfl
 ·rw[Aba (by rw[Bc];simp;omega),Ak8 h (a+1) l h2,Aa];have hp:2^k<=2^24:=Aeb (by omega) h1;have hv:=(SJ p N (a+1) l).1.toNat_lt;have e2:∀x:UInt64,(Ad x:UInt32)=UInt32.ofNat x.toNat:=λx=>by simp only[Ad,Ig,Ej]
  by_cases h5:(SJ p N (a+1) l).2.2≠0
  ·have hS:YJ p N a k l=(0,0,(SJ p N (a+1) l).2.2):=by rw[YJ,Aba ha,Aba hz,Abb h5]
   rw[hS];generalize SJ p N (a+1) l=R at*
   obtain⟨v,n,e⟩:=R;simp only at*
   rw[Abb (by rw[Ak];simpa using h5)]
  ·have hsum:∀v:UInt32,(Ae (Ad v:UInt64) (UInt64.ofNat (2^k))).toNat=v.toNat+2^k:=by
    intro v;have:=v.toNat_lt;have:=Axe (n:=k) (show 0<2 by omega);rw[JT,UInt64.toNat_add,Cn,SV (by omega),Ajt];omega
   by_cases h6:4294967295<(SJ p N (a+1) l).1.toNat+2^k
   ·have hS:YJ p N a k l=(0,0,12):=by rw[YJ,Aba ha,Aba hz,Aba h5,Abb h6]
    rw[hS];generalize SJ p N (a+1) l=R at*
    obtain⟨v,n,e⟩:=R;simp only at*
    rw[Aba (by rw[Ak];simpa using h5),JQ k (by omega),Aa,Abb (by rw[TD,hsum];simpa using h6)]
   ·have hS:YJ p N a k l=(UInt32.ofNat ((SJ p N (a+1) l).1.toNat+2^k),(SJ p N (a+1) l).2.1,0):=by rw[YJ,Aba ha,Aba hz,Aba h5,Aba h6]
    rw[hS];generalize SJ p N (a+1) l=R at*
    obtain⟨v,n,e⟩:=R;simp only at*
    rw[Aba (by rw[Ak];simpa using h5),JQ k (by omega),Aa,Aba (by rw[TD,hsum];simpa using h6),e2,hsum]
abbrev DuN:=Nat×Nat×UInt64×UInt64
def okN(d:DuN):Prop:=okD d.1 d.2.1 d.2.2.1 d.2.2.2
def nxt(d:DuN)(v:UInt32):DuN:=(kS d.1 (Tz d.2.2.1 (vY v)),lK d.2.1 d.2.2.2 d.1 v,Tz d.2.2.1 (vY v),lT d.2.2.2 d.1 v)
def cu:DuN:=(10,10,16384,16384)
theorem Alv:okN cu:=⟨by decide,by decide,by decide,by decide⟩
theorem At4{d:DuN}(h:okN d)(v:UInt32):okN (nxt d v):=Akm h v
abbrev DuL:=Int×Int×UInt64×UInt64×Unit
def toI(d:DuN):DuL:=((d.1:Int),(d.2.1:Int),d.2.2.1,d.2.2.2,())
def dJ(ch:Nat)(v:List UInt32)(c:Nat):Nat->DuN
 |0=>cu
 |m+1=>if m %ch=c then nxt (dJ ch v c m) (v.getD m 0)else dJ ch v c m
theorem gH(ch:Nat)(v:List UInt32)(c:Nat):∀m,okN (dJ ch v c m)
 |0=>Alv
 |m+1=>by rw[dJ];split;exact At4 (gH ch v c m) _;exact gH ch v c m
theorem Agk(ch:Nat)(v w:List UInt32)(c:Nat):∀m,m<=v.length->dJ ch (v++w) c m=dJ ch v c m
 |0,_=>rfl
 |m+1,h=>by
  have e:(v++w).getD m 0=v.getD m 0:=by simp[List.getD_eq_getElem?_getD,List.getElem?_append_left (show m<v.length by omega)]
  rw[dJ,dJ,Agk ch v w c m (by omega),e]
theorem T4(ch:Nat)(v:List UInt32)(c:Nat):∀m,m<=c->c<ch->dJ ch v c m=cu
 |0,_,_=>rfl
 |m+1,h,h2=>by rw[dJ,Aba (by rw[Abk (by omega)];omega),T4 ch v c m (by omega) h2]
theorem Aaq(ch:Nat)(v:List UInt32)(c i:Nat)(hi:i %ch=c)(hc:c<ch):∀j,j<ch->dJ ch v c (i+1+j)=dJ ch v c (i+1)
 |0,_=>rfl
 |j+1,h=>by
  have hne:(i+1+j) %ch≠c:=by
   intro e;have h1:(i+(1+j)) %ch=i %ch:=by rw[hi,<-e];congr 1;omega
   have h2:(1+j) %ch=0:=by
    have h3:=Nat.sub_mod_eq_zero_of_mod_eq h1;rwa [Av7]at h3
   rw[Abk (by omega)]at h2;omega
  rw[show i+1+(j+1)=(i+1+j)+1 by omega,dJ,Aba hne,Aaq ch v c i hi hc j (by omega)]
theorem Amf(ch:Nat)(v:List UInt32)(c i:Nat)(hi:i %ch=c)(hc:c<ch):dJ ch v c (i+ch)=nxt (dJ ch v c i) (v.getD i 0):=by
 have h:=Aaq ch v c i hi hc (ch-1) (by omega);rw[show i+1+(ch-1)=i+ch by omega]at h;rw[h,dJ,Abb hi]
theorem qZ{l:List UInt32}{k:Nat}(h:k<l.length):Aj l (k:Int)=some (l.getD k 0):=by
 rw[Ck h];simp[List.getD_eq_getElem?_getD,h]
theorem OO(a b:Nat):Gc (a:Int) (b:Int)=((a %b:Nat):Int):=by rw[Gc,Ayd (by omega)];omega
theorem vH(ch:Nat)(v:List UInt32)(hch:1<=ch)(Auy:ch<=6)(hv:v.length<=4000):∀(j i q:Nat),i %ch=v.length %ch->i<=v.length->v.length-i<=j->j<q->
  Lb (ch:Int) v q (i:Int) ((dJ ch v (v.length %ch) i).1:Int) ((dJ ch v (v.length %ch) i).2.1:Int) (dJ ch v (v.length %ch) i).2.2.1 (dJ ch v (v.length %ch) i).2.2.2=
   some (((dJ ch v (v.length %ch) v.length).1:Int),((dJ ch v (v.length %ch) v.length).2.1:Int),(dJ ch v (v.length %ch) v.length).2.2.1,(dJ ch v (v.length %ch) v.length).2.2.2)
 |j,i,q+1,hi,hl,hj,hq=>by
  have hc:v.length %ch<ch:=Aw3 _ (by omega);rw[Lb,DM];by_cases h:i<v.length
  ·have h1:=Ajc (gH ch v (v.length %ch) i) (v.getD i 0);rw[Abb (by rw[Af,Ac];simp;omega),qZ h,Aa,h1,Aa];have hle:i+ch<=v.length:=by
    have h2:=Azc i ch;have h3:=Azc v.length ch;rw[hi]at h2;have h4:ch*(i/ch)<ch*(v.length/ch):=by omega
    have h5:=Nat.lt_of_mul_lt_mul_left h4;have h6:ch*(i/ch+1)<=ch*(v.length/ch):=Nat.mul_le_mul_left _ h5;rw[Nat.mul_add]at h6;omega
   have ih:=vH ch v hch Auy hv (j-ch) (i+ch) q (by rw[Azl];exact hi) hle (by omega) (by omega);rw[Amf ch v _ i hi hc]at ih;simp only;rw[Ag];exact ih
  ·rw[Aba (by rw[Af,Ac];simp;omega),show i=v.length by omega];rfl
theorem Aig(ch:Nat)(v:List UInt32)(hch:1<=ch)(Auy:ch<=6)(hv:v.length<=4000):Om (ch:Int) v=some (((dJ ch v (v.length %ch) v.length).1:Int),((dJ ch v (v.length %ch) v.length).2.1:Int),(dJ ch v (v.length %ch) v.length).2.2.1,(dJ ch v (v.length %ch) v.length).2.2.2):=by
 have hc:v.length %ch<ch:=Aw3 _ (by omega);have hle:v.length %ch<=v.length:=Nat.mod_le _ _;have h:=vH ch v hch Auy hv v.length (v.length %ch) Ar (by rw[Nat.mod_mod]) hle (by omega) (by have:=Am;omega);rw[T4 ch v _ _ (Aj0 _) hc]at h;rw[Om,CD,Lu,Aa];simp only;rw[Be (by rw[Ak];simp;omega),Aa,Ac,OO];exact h
def now(ch:Nat)(v:List UInt32):DuN:=dJ ch v (v.length %ch) v.length
def rN(N a:Nat):Nat:=min 81 (N-a)
def Ka(ch:Nat)(p:List UInt8)(N a:Nat)(out:List UInt32):UInt32×Int×Int:=YJ (Nh p a (rN N a)) (rN N a) 0 (now ch out).1 (now ch out).2.1
def Vz(ch:Nat)(p:List UInt8)(N:Nat):Nat->Nat->List UInt32->List UInt32×Nat×Int
 |0,a,out=>(out,a,0)
 |j+1,a,out=>if(Ka ch p N a out).2.2≠0 then(out,a,(Ka ch p N a out).2.2)else Vz ch p N j (a+(Ka ch p N a out).2.1.toNat) (out++[(Ka ch p N a out).1])
theorem kE{ch:Nat}{p:List UInt8}{N a:Nat}{out:List UInt32}(h:(Ka ch p N a out).2.2=0):0<(Ka ch p N a out).2.1/\ (Ka ch p N a out).2.1<=rN N a:=by
 have:=At2 h;exact⟨this.1,this.2⟩
theorem Q0{ch:Nat}{p:List UInt8}{N a:Nat}{out:List UInt32}(h:(Ka ch p N a out).2.2=0):((a:Int)+(Ka ch p N a out).2.1)=((a+(Ka ch p N a out).2.1.toNat:Nat):Int):=by
 have:=kE h;omega
def sts(ch:Nat)(v:List UInt32):List DuL:=(List.range 6).map λc=>toI (dJ ch v c v.length)
theorem U7{ch:Nat}{v:List UInt32}{c:Nat}(h:c<6):Aj (sts ch v) (c:Int)=some (toI (dJ ch v c v.length)):=by
 rw[Ck (by simp[sts];exact h)];simp[sts]
theorem Agl{ch:Nat}{v:List UInt32}{c:Nat}(x:UInt32)(h:c<6)(hc:c=v.length %ch):Je (sts ch v) (c:Int) (toI (nxt (dJ ch v c v.length) x))=some (sts ch (v++[x])):=by
 rw[Rg _ (by simp[sts];exact h)];congr 1;apply Au5 (by simp[sts]);intro i h1 h2;rw[Azr];simp only[sts,Aya,Ax1];have e:(v++[x]).getD v.length 0=x:=by simp
 rw[Aby,List.length_singleton,dJ,e,Agk ch v [x] i v.length (Aj0 _)];by_cases hi:c=i
 ·subst hi;rw[Abb rfl,Abb hc.symm]
 ·rw[Aba hi,Aba (by omega)]
theorem Aro{ch:Nat}{v:List UInt32}{c:Nat}(hc:c=v.length %ch):dJ ch v c v.length=now ch v:=by rw[now,hc]
section
variable {p:List UInt8} {N ch n:Nat}
theorem mq(hp:okB p N)(h1:1<=ch)(h6:ch<=6)(hn:n*ch<=4000):∀(j a q:Nat) (out:List UInt32),out.length+j=n*ch->j<q->a<=N->
  Lo (ch:Int) (n:Int) p (N:Int) q (a:Int) (out.length:Int) (sts ch out) out=
   some (if(Vz ch p N j a out).2.2≠0 then([],0,(Vz ch p N j a out).2.2)else((Vz ch p N j a out).1,((Vz ch p N j a out).2.1:Int),0))
 |j,a,q+1,out,hj,hq,ha=>by
  have hN:=hp.1;have hnn:n<=n*ch:=Nat.le_mul_of_pos_right n (by omega);have em:Bd (n:Int) (ch:Int)=((n*ch:Nat):Int):=by rw[Gt (by rw[<-Awx];omega) (by rw[<-Awx];omega),Awx]
  rw[Lo,Rp,em];cases j with
  |zero=>
   rw[Aba (by rw[Af];simp;omega)];rfl
  |succ j=>
   have hc:out.length %ch<6:=Aj4 (Aw3 _ (by omega)) h6;have ew:Du (Ae (a:Int) 81) (N:Int)=((a+rN N a:Nat):Int):=by rw[GB,Ag];unfold rN;omega
   have hw:a+rN N a<=N:=by unfold rN;omega
   have hw2:rN N a<=81:=by unfold rN;omega
   have hd:=Ap0 (oX p a (rN N a) (by omega)) 0 (gH ch out (out.length %ch) out.length);have Aog:YJ (Nh p a (rN N a)) (rN N a) 0 (dJ ch out (out.length %ch) out.length).1 (dJ ch out (out.length %ch) out.length).2.1=Ka ch p N a out:=rfl;rw[Abb (by rw[Af];simp;omega),ew,Atj hp a _ hw (by omega),Aa];simp only;rw[Aba (by rw[Ak];simp),Be (by rw[Ak];simp;omega),Aa,OO,U7 hc,Aa,Aa];refine Awn (congrArg (λo=>Option.bind o _) hd) ?_;rw[Aa,Aog,Vz];by_cases he:(Ka ch p N a out).2.2≠0
   ·rw[Abb he,Abb he];simp only;rw[Qz,Qy,Abb (by rw[Ak];simpa using he),Abb he]
   ·have he0:(Ka ch p N a out).2.2=0:=by simpa using he
    have hok:=kE he0;have hset:=Agl (ch:=ch) (v:=out) (Ka ch p N a out).1 hc rfl;rw[Aba he,Aba he];simp only;rw[Qz,Qy,Aba (by rw[Ak];simp),Be (by rw[Ak];simp;omega),Aa,OO,U7 hc,Aa];refine Awn (congrArg (λo=>Option.bind o _) hset) ?_;rw[Aa,Yo,RD,Cx (by simp;omega),Aa,Ag,Ag,Q0 he0];have ih:=mq hp h1 h6 hn j (a+(Ka ch p N a out).2.1.toNat) q (out++[(Ka ch p N a out).1]) (by simp;omega) (by omega) (by omega);rw[Aby,List.length_singleton]at ih;exact ih
theorem Ag4{p:List UInt8}(hN:N=8*p.length)(hN2:N<=330000)(h1:1<=ch)(h6:ch<=6)(hn:n*ch<=4000):∀(j a q:Nat) (out:List UInt32),out.length+j=n*ch->j<q->a<=N->
  Eo (ch:Int) (n:Int) p q (a:Int) (out.length:Int) out=
   if(Vz ch p N j a out).2.2≠0 then some ((Vz ch p N j a out).1,(Vz ch p N j a out).2.2)else Tp ((Vz ch p N j a out).2.1:Int) p (Vz ch p N j a out).1
 |j,a,q+1,out,hj,hq,ha=>by
  have hnn:n<=n*ch:=Nat.le_mul_of_pos_right n (by omega);have em:Bd (n:Int) (ch:Int)=((n*ch:Nat):Int):=by rw[Gt (by rw[<-Awx];omega) (by rw[<-Awx];omega),Awx]
  have e8:Bd (8:Int) (Ac p)=(N:Int):=by rw[Ac,Gt];omega
  rw[Eo,FR,em];cases j with
  |zero=>
   rw[Aba (by rw[Af];simp;omega)];rfl
  |succ j=>
   have ew:Du (Ae (a:Int) 81) (N:Int)=((a+rN N a:Nat):Int):=by rw[GB,Ag];unfold rN;omega
   have hw:a+rN N a<=N:=by unfold rN;omega
   have hw2:rN N a<=81:=by unfold rN;omega
   have hpre:(Option.bind Lu λ(r_4,r_5,r_6,r_7)=>
     if(Ll (out.length:Int) (ch:Int))=true then(
     Option.bind (Om (ch:Int) out) λ(r_8,r_9,r_10,r_11)=>
     Io (Eo (ch:Int) (n:Int) p q) (ch:Int) (n:Int) p (a:Int) (out.length:Int) out r_8 r_9 r_10 r_11)
     else Io (Eo (ch:Int) (n:Int) p q) (ch:Int) (n:Int) p (a:Int) (out.length:Int) out r_4 r_5 r_6 r_7)=
     Io (Eo (ch:Int) (n:Int) p q) (ch:Int) (n:Int) p (a:Int) (out.length:Int) out ((now ch out).1:Int) ((now ch out).2.1:Int) (now ch out).2.2.1 (now ch out).2.2.2:=by
    rw[Lu,Aa];by_cases hc:ch<=out.length
    ·simp only;rw[Abb (by rw[Dc];simp;omega),Aig ch out h1 h6 (by omega),Aa];rfl
    ·have e:now ch out=cu:=by rw[now,Abk (by omega),T4 ch out _ _ (Aj0 _) (by omega)]
     simp only;rw[Aba (by rw[Dc];simp;omega),e];rfl
   have hd:=Anb (oX p a (rN N a) (by omega)) 0 (now ch out).1 (now ch out).2.1 (now ch out).2.2.1 (now ch out).2.2.2 (gH ch out _ _).1 (gH ch out _ _).2.1;have Aog:YJ (Nh p a (rN N a)) (rN N a) 0 (now ch out).1 (now ch out).2.1=Ka ch p N a out:=rfl;rw[Abb (by rw[Af];simp;omega),hpre,Io,FM,e8,ew,og p (N:Int) a _ (by omega) (by omega) (by omega),Aa];simp only;refine Awn (congrArg (λo=>Option.bind o _) hd) ?_;rw[Aa,Aog,Vz];by_cases he:(Ka ch p N a out).2.2≠0
   ·rw[Abb he,Abb (by rw[Ak];simpa using he),Abb he]
   ·have he0:(Ka ch p N a out).2.2=0:=by simpa using he
    have hok:=kE he0;have ih:=Ag4 hN hN2 h1 h6 hn j (a+(Ka ch p N a out).2.1.toNat) q (out++[(Ka ch p N a out).1]) (by simp;omega) (by omega) (by omega);have hx:=Q0 he0;rw[Aby,List.length_singleton]at ih;rw[Aba he];generalize Ka ch p N a out=R at*
    obtain⟨v,nx,e⟩:=R;simp only at*
    rw[Aba (by rw[Ak];simpa using he),Cx (by simp;omega),Aa,Ag,Ag,hx];exact ih
end
theorem S2{ch:Nat}{p:List UInt8}{N:Nat}:∀(j a:Nat) (out:List UInt32),a<=N-> (Vz ch p N j a out).2.1<=N/\ (Vz ch p N j a out).1.length<=out.length+j/\ ((Vz ch p N j a out).2.2=0-> (Vz ch p N j a out).1.length=out.length+j)
 |0,a,out,h=>⟨h,Aj0 _,λ_=>rfl⟩
 |j+1,a,out,h=>by
  rw[Vz];split
  ·rename_i he;exact⟨h,by simp,λe=>absurd e he⟩
  ·rename_i he;have hok:=kE (ch:=ch) (p:=p) (N:=N) (a:=a) (out:=out) (by simpa using he);have hw:a+rN N a<=N:=by unfold rN;omega
   have ih:=S2 (ch:=ch) (p:=p) (N:=N) j (a+(Ka ch p N a out).2.1.toNat) (out++[(Ka ch p N a out).1]) (by omega);rw[Aby,List.length_singleton]at ih;exact⟨ih.1,by omega,λe=>by have:=ih.2.2 e;omega⟩
theorem pz(ch n:Int)(b:List UInt8)(N:Int):Rq ch n b N 0 (List.replicate 6 ((0:Int),(0:Int),(0:UInt64),(0:UInt64),()))=Yl ch n b N (List.replicate 6 ((10:Int),(10:Int),(16384:UInt64),(16384:UInt64),())):=by
 have e:Ar=(Ar-7)+1+1+1+1+1+1+1:=by have:=Am;omega
 rw[Rq,e];rfl
theorem values_eq{p:List UInt8}{N ch n:Nat}(hp:okB p N)(h1:1<=ch)(h6:ch<=6)(hn:n*ch<=4000):CV (ch:Int) (n:Int) p (N:Int)=
  some (if(Vz ch p N (n*ch) 0 []).2.2≠0 then([],0,(Vz ch p N (n*ch) 0 []).2.2)else((Vz ch p N (n*ch) 0 []).1,((Vz ch p N (n*ch) 0 []).2.1:Int),0)):=by
 have h:=mq hp h1 h6 hn (n*ch) 0 Ar [] (by simp) (by have:=Am;omega) (by omega);rw[CV,CU,pz];exact h
theorem O1(p:List UInt8)(x:List UInt32)(N:Nat)(hN:N=8*p.length)(hN2:N<=330000):∀(j a q:Nat),a+j=N->j<q->Ip p x q (a:Int)=some (x,if Bj p a j=0 then 0 else 12)
 |0,a,q+1,ha,_=>by
  have e8:Bd (8:Int) (Ac p)=(N:Int):=by rw[Ac,Gt];omega
  rw[Ip,Te,e8,Aba (by rw[Af];simp;omega),Bj,Abb rfl];rfl
 |j+1,a,q+1,ha,hq=>by
  have e8:Bd (8:Int) (Ac p)=(N:Int):=by rw[Ac,Gt];omega
  have hb:=Xr p a;rw[Ip,Te,e8,Abb (by rw[Af];simp;omega),rX p _ a (by omega) (by omega),Aa,Bj];by_cases h:Fs p a=0
  ·rw[Aba (by rw[Ak];simp[h]),Ag,h];have ih:=O1 p x N hN hN2 j (a+1) q (by omega) (by omega);rw[show((a:Int)+1)=((a+1:Nat):Int) by omega,ih];congr 2;by_cases hv:Bj p (a+1) j=0
   ·rw[Abb hv,Abb (by omega)]
   ·rw[Aba hv,Aba (by omega)]
  ·rw[Abb (by rw[Ak];simp;omega),Aba (by omega)]
theorem Afk{p:List UInt8}{N ch n:Nat}(hN:N=8*p.length)(hN2:N<=330000)(h1:1<=ch)(h6:ch<=6)(hn:n*ch<=4000):BD (ch:Int) (n:Int) p=
  some (if(Vz ch p N (n*ch) 0 []).2.2≠0 then((Vz ch p N (n*ch) 0 []).1,(Vz ch p N (n*ch) 0 []).2.2)else
   ((Vz ch p N (n*ch) 0 []).1,if 7<N-(Vz ch p N (n*ch) 0 []).2.1\/Bj p (Vz ch p N (n*ch) 0 []).2.1 (N-(Vz ch p N (n*ch) 0 []).2.1)≠0 then 12 else 0)):=by
 have h:=Ag4 hN hN2 h1 h6 hn (n*ch) 0 Ar [] (by simp) (by have:=Am;omega) (by omega);have hat:=(S2 (ch:=ch) (p:=p) (N:=N) (n*ch) 0 [] (by omega)).1;have e8:Bd (8:Int) (Ac p)=(N:Int):=by rw[Ac,Gt];omega
 rw[BD,JY];refine Awn h ?_;generalize Vz ch p N (n*ch) 0 []=V at*
 obtain⟨v,a,e⟩:=V;simp only at*
 by_cases he:e≠0
 ·rw[Abb he,Abb he]
 ·rw[Aba he,Aba he,Tp,EW,e8,Bg];by_cases h7:7<N-a
  ·rw[Abb (by rw[Al];simp;omega),Abb (.inl h7)]
  ·rw[Aba (by rw[Al];simp;omega),FD,O1 p v N hN hN2 (N-a) a Ar (by omega) (by have:=Am;omega)];by_cases hv:Bj p a (N-a)=0
   ·rw[Abb hv,Aba (by omega)]
   ·rw[Aba hv,Abb (.inr hv)]
theorem ji(n:Int):(GI.ofZ n:Int32)=Int32.ofInt n:=rfl
theorem TO(a:Int32):GI.toZ a=a.toInt:=rfl
theorem WM(a b:Int32):Ae a b=a+b:=by
 rw[Ae,TO,TO,ji,Int32.ofInt_add,Au7,Au7]
theorem PU(a b:Int32):Ah a b=a-b:=by
 rw[Ah,TO,TO,ji,Int32.ofInt_sub,Au7,Au7]
theorem Ae5(a b:Int32):geq a b=(a==b):=by
 rw[geq,TO,TO,An0];simp[Int32.toInt_inj]
def ZJ(p:Nat->Bool)(a b:List Int32):List Int32:=(List.range a.length).map λk=>if p k=true then a.getD k 0 else b.getD k 0
section
variable {p q:Nat->Bool} {a b:List Int32}
theorem HX:(ZJ p a b).length=a.length:=by simp[ZJ]
theorem Hi{k:Nat}(h:k<a.length):a.getD k 0=a[k]:=by simp[List.getD_eq_getElem?_getD,h]
theorem Qj{k:Nat}(h:k<(ZJ p a b).length):(ZJ p a b)[k]=if p k=true then a.getD k 0 else b.getD k 0:=by simp[ZJ]
theorem Ye{k:Nat}(h:k<a.length):Aj (ZJ p a b) (k:Int)=some (if p k=true then a.getD k 0 else b.getD k 0):=by
 rw[Ck (by rw[HX];exact h),Qj]
theorem Sc(h:∀k,k<a.length->p k=q k):ZJ p a b=ZJ q a b:=by
 apply List.map_congr_left;intro k hk;rw[h k (List.mem_range.1 hk)]
theorem aY{k:Nat}(h:k<a.length):Je (ZJ p a b) (k:Int) (a.getD k 0)=some (ZJ (λj=>p j||decide (j=k)) a b):=by
 rw[Rg _ (by rw[HX];exact h)];congr 1;apply Au5 (by simp[HX]);intro i h1 h2;rw[Azr,Qj,Qj];by_cases hi:k=i
 ·subst hi;simp
 ·have:¬i=k:=λe=>hi e.symm;simp[hi,this]
theorem kJ(h:∀k,k<a.length->p k=true):ZJ p a b=a:=by
 apply Au5 (by simp[HX]);intro i h1 h2;rw[Qj,Abb (h i h2),Hi h2]
theorem eF(hl:b.length=a.length)(h:∀k,k<a.length->p k=false):ZJ p a b=b:=by
 apply Au5 (by simp[HX,hl]);intro i h1 h2;rw[Qj,h i (by omega)];simp[List.getD_eq_getElem?_getD,h2]
end
theorem wZ(a b:Int32):Bd a b=a*b:=by
 rw[Bd,TO,TO,ji,Int32.ofInt_mul,Au7,Au7]
theorem Wx(a:Int32): -2147483648<=a.toInt/\a.toInt<2147483648:=⟨a.le_toInt,a.toInt_lt⟩
theorem Ei(a:Int32):(Ad a:Int)=a.toInt:=by
 have:=Wx a
 show wrap64 a.toInt=_;rw[Bp]<;>omega
theorem OA(n:Int):(Ad n:Int32)=Int32.ofInt n:=rfl
theorem Aiz(x:Int):Int32.ofInt (x %4294967296)=Int32.ofInt x:=by
 apply Int32.toInt_inj.1;rw[Ayu,Ayu];exact Int.emod_bmod x 4294967296
theorem wH(x:Int):Ch x=some (Int32.ofInt x):=by
 have e1:(Ad x:UInt64).toNat=(x %18446744073709551616).toNat:=by
  rw[yu,Ajt,Abk (by omega)]
 have e2:(Ad (Ad x:UInt64):UInt32).toNat=(x %4294967296).toNat:=by
  have e:(Ad (Ad x:UInt64):UInt32)=UInt32.ofNat (Ad x:UInt64).toNat:=by simp only[Ad,Ig,Ej]
  rw[e,Ajz,e1];show(x %18446744073709551616).toNat %4294967296=_;omega
 have e3:(Ad (Ad (Ad x:UInt64):UInt32):Int32)=Int32.ofInt ((Ad (Ad x:UInt64):UInt32).toNat:Int):=rfl;rw[Ch,e3,e2,<-Aiz x];congr 2;omega
theorem oW(a b:Int32):Ch (Ae (Ad a:Int) (Ad b:Int))=some (a+b):=by
 have:=Wx a;have:=Wx b;rw[Ei,Ei,Ag,wH,Int32.ofInt_add,Au7,Au7]
theorem Amw(a b:Int32):Ch (Bd (Ad a:Int) (Ad b:Int))=some (a*b):=by
 have ha:=Wx a;have hb:=Wx b;have h1: -9223372036854775808<=a.toInt*b.toInt/\a.toInt*b.toInt<=9223372036854775807:=by
  have h2:(a.toInt*b.toInt).natAbs<=2147483648*2147483648:=by
   rw[Int.natAbs_mul];exact Azg (by omega) (by omega)
  omega
 rw[Ei,Ei,Gt h1.1 h1.2,wH,Int32.ofInt_mul,Au7,Au7]
def OkF(s:Int)(t p:List Int32):Prop:=(s=9\/s=10)/\t.length=16/\p.length=16
theorem sJ{s:Int}{t p:List Int32}(h:OkF s t p):GX s t p=some 0:=by
 obtain⟨rfl|rfl,_,_⟩:=h<;>rfl
theorem g32{l:List Int32}{k:Nat}(h:k<l.length):Aj l (k:Int)=some (l.getD k 0):=by
 rw[Ck h];simp[List.getD_eq_getElem?_getD,h]
def gQ(t p:List Int32):Nat->Int32
 |0=>0
 |i+1=>gQ t p i+t.getD i 0*p.getD i 0
def half(s:Int):Int32:=if s=9 then 256 else 512
def gF(s:Int)(t p:List Int32):Int32:=Int32.ofInt ((half s+gQ t p 16).toInt.fdiv (if s=9 then 512 else 1024))
theorem N1{s:Int}{t p:List Int32}(h:OkF s t p):∀(j i q:Nat),i+j=16->j<q->Sk t s p q (half s+gQ t p i) (i:Int)=some (gF s t p,0)
 |0,i,q+1,hi,_=>by
  obtain rfl:i=16:=by omega
  have hs:=h.1;rw[Sk,HQ,Aba (by rw[Af];simp),UR,mI,Be (by rw[Dc];simp;omega),Aa];obtain rfl|rfl:=hs<;>rfl
 |j+1,i,q+1,hi,hq=>by
  obtain⟨hs,ht,hp⟩:=h;rw[Sk,HQ,Abb (by rw[Af];simp;omega),g32 (by omega),Aa,g32 (by omega),Aa,Aa,Ag (b:=1) (by omega) (by omega),WM,wZ,Int32.add_assoc];exact N1 ⟨hs,ht,hp⟩ j (i+1) q (by omega) (by omega)
theorem zn{s:Int}{t p:List Int32}(h:OkF s t p):QQ s t p=some (gF s t p,0):=by
 have hs:=h.1;have h1:=N1 h 16 0 Ar (by omega) (by have:=Am;omega);have e:Cw (1:Int32) (GI.toZ (Ah s (1:Int))).toNat=half s+gQ t p 0:=by
  obtain rfl|rfl:=hs<;>rfl
 rw[QQ,UL,sJ h,Aa,Aba (by rw[Ak];simp),Be (by rw[Dc,Bg];simp;omega),Aa,VA,e];exact h1
theorem G3{s:Int}{t p:List Int32}(ht:t.length=16)(hp:p.length=16){g:Int32}(hg:gQ t p 16=g):∀(j i q:Nat),i+j=16->j<q->Ks s t p q (gQ t p i).toInt (i:Int)=some g
 |0,i,q+1,hi,_=>by
  obtain rfl:i=16:=by omega
  rw[Ks,We,Aba (by rw[Af];simp),MK,NA,OA,Au7,hg]
 |j+1,i,q+1,hi,hq=>by
  have ih:=G3 (s:=s) ht hp hg j (i+1) q (by omega) (by omega);rw[gQ]at ih;rw[Ks,We,Abb (by rw[Af];simp;omega),g32 (by omega),g32 (by omega),Aa,Aa,Aa,Aa,Amw,Aa,<-Ei (gQ t p i),oW,Aa,Ei,Ag];exact ih
theorem Alq{s:Int}{t p:List Int32}(h:OkF s t p):WI s t p=some (gQ t p 16):=
 G3 h.2.1 h.2.2 rfl 16 0 Ar (by omega) (by have:=Am;omega)
theorem Ajg(x n:Int)(hn:n=512\/n=1024\/n=16\/n=32):(if x.tmod n<0 then x.tdiv n-1 else x.tdiv n)=x.fdiv n:=by
 have hs:n.sign=1:=by obtain rfl|rfl|rfl|rfl:=hn<;>rfl
 rw[Int.tdiv_eq_ediv,Int.tmod_eq_emod,hs,Asr _ (by omega)];by_cases h:0<=x\/n∣x
 ·rw[Abb h,Abb h];obtain rfl|rfl|rfl|rfl:=hn<;>(rw[Aba (by omega)];omega)
 ·rw[Aba h,Aba h];obtain rfl|rfl|rfl|rfl:=hn<;>(rw[Abb (by omega)];omega)
theorem H0(x n:Int)(hn:n=512\/n=1024\/n=16\/n=32)(h: -1000000000000<=x)(h':x<=1000000000000): -1000000000000<=x.tdiv n/\x.tdiv n<=1000000000000:=by
 have hs:n.sign=1:=by obtain rfl|rfl|rfl|rfl:=hn<;>rfl
 rw[Int.tdiv_eq_ediv,hs];by_cases h:0<=x\/n∣x
 ·rw[Abb h];obtain rfl|rfl|rfl|rfl:=hn<;>omega
 ·rw[Aba h];obtain rfl|rfl|rfl|rfl:=hn<;>omega
theorem Avv(x n:Int)(hn:n=512\/n=1024\/n=16\/n=32)(h: -1000000000000<=x)(h':x<=1000000000000):Bz x n=x.tdiv n:=by
 have:=H0 x n hn h h';rw[LA,Bp (by omega) (by omega)]
theorem Aab(x n:Int)(hn:n=512\/n=1024\/n=16\/n=32)(h: -1000000000000<=x)(h':x<=1000000000000):
  (if(Cc (Gc x n) (0:Int))=true then some (Ad (Ah (Bz x n) (1:Int)):Int32)else some (Ad (Bz x n):Int32))=some (Int32.ofInt (x.fdiv n)):=by
 have hb:=H0 x n hn h h';rw[Af,Gc,Avv x n hn h h',Bg,OA,OA,<-Ajg x n hn];by_cases hx:x.tmod n<0
 ·rw[Abb (by simpa using hx),Abb hx]
 ·rw[Aba (by simpa using hx),Aba hx]
theorem Apb{s:Int}{t p:List Int32}(h:OkF s t p):CP s t p=some (gF s t p):=by
 obtain⟨hs,ht,hp⟩:=h;have h:OkF s t p:=⟨hs,ht,hp⟩;have hx:=Wx (gQ t p 16+half s);have key:∀n:Int,(n=512\/n=1024)-> (half s).toInt=n/2->gF s t p=Int32.ofInt ((half s+gQ t p 16).toInt.fdiv n)->Vg s t p n=some (gF s t p):=by
  intro n hn hh hg;have e2:Bz n (2:Int)=(half s).toInt:=by rw[hh];obtain rfl|rfl:=hn<;>rfl
  rw[Vg,II,Alq h,Aa,e2,<-Ei (half s),oW,Aa,Be (by rw[Ak];simp;omega),Aa,Aa,Ei,Aab _ n (by omega) (by omega) (by omega),hg,Int32.add_comm]
 rw[CP,IQ];obtain rfl|rfl:=hs
 ·rw[Abb (by rw[Bc];rfl)];exact key 512 (.inl rfl) rfl rfl
 ·rw[Aba (by rw[Bc];decide)];exact key 1024 (.inr rfl) rfl rfl
def ku(i:Nat):Int32:=if i=0 then 4 else if i<4 then 2 else 1
def sg(x:Int32):Int32:=if x.toInt<0 then -1 else if 0<x.toInt then 1 else 0
def xA(t p:List Int32)(w:Int32):List Int32:=(List.range 16).map λi=>t.getD i 0+ku i*sg (p.getD i 0)*sg w
theorem DU(t p:List Int32)(w:Int32):(xA t p w).length=16:=by simp[xA]
theorem X1(t p:List Int32)(w:Int32){i:Nat}(h:i<16):(xA t p w).getD i 0=t.getD i 0+ku i*sg (p.getD i 0)*sg w:=by
 rw[Hi (by rw[DU];exact h)];simp[xA]
theorem step_eq(i:Nat):WR (i:Int)=some (ku i):=by
 rw[WR,ku];by_cases h:i=0
 ·rw[Abb (by rw[Bc];simp[h]),Abb h]
 ·rw[Aba (by rw[Bc];simp;omega),Aba h];by_cases h2:i<4
  ·rw[Abb (by rw[Af];simp;omega),Abb h2]
  ·rw[Aba (by rw[Af];simp;omega),Aba h2]
theorem Aic(i:Nat):EA (i:Int)=some (ku i):=by
 rw[EA,ku];by_cases h:i=0
 ·rw[Abb (by rw[Bc];simp[h]),Abb h]
 ·rw[Aba (by rw[Bc];simp;omega),Aba h];by_cases h2:i<4
  ·rw[Abb (by rw[D6];simp;omega),Abb h2]
  ·rw[Aba (by rw[D6];simp;omega),Aba h2]
theorem X3(a b:Int32):Cc a b=decide (a.toInt<b.toInt):=rfl
theorem Acs(a b:Int32):Eu a b=decide (b.toInt<a.toInt):=rfl
theorem sign_eq(x:Int32):Tq x=some (sg x):=by
 rw[Tq,sg,X3,Acs,show(0:Int32).toInt=0 from rfl];by_cases h:x.toInt<0
 ·rw[Abb (by simpa using h),Abb h]
 ·rw[Aba (by simpa using h),Aba h];by_cases h2:0<x.toInt
  ·rw[Abb (by simpa using h2),Abb h2]
  ·rw[Aba (by simpa using h2),Aba h2]
theorem Afo:sg 0=0:=rfl
theorem toInt_ne{x:Int32}(h:x≠0):x.toInt≠0:=λe=>h (Int32.toInt_inj.1 (by rw[e];rfl))
theorem S8{x:Int32}(h:x.toInt<0):sg x= -1:=by rw[sg,Abb h]
theorem S9{x:Int32}(h:x≠0)(h2:¬x.toInt<0):sg x=1:=by
 have:=toInt_ne h;rw[sg,Aba h2,Abb (by omega)]
theorem kG(i:Nat):ku i=4\/ku i=2\/ku i=1:=by
 unfold ku;by_cases h:i=0
 ·rw[Abb h];exact .inl rfl
 ·rw[Aba h];split;exact .inr (.inl rfl);exact .inr (.inr rfl)
theorem Aim{x w:Int32}(hx:x≠0)(hw:w≠0)(h:(x.toInt<0)=(w.toInt<0))(i:Nat):ku i*sg x*sg w=ku i:=by
 by_cases h1:x.toInt<0
 ·rw[S8 h1,S8 (by rw[<-h];exact h1)];obtain e|e|e:=kG i<;>rw[e]<;>decide
 ·rw[S9 hx h1,S9 hw (by rw[<-h];exact h1)];obtain e|e|e:=kG i<;>rw[e]<;>decide
theorem Acd{x w:Int32}(hx:x≠0)(hw:w≠0)(h:¬(x.toInt<0)=(w.toInt<0))(i:Nat)(a:Int32):a+ku i*sg x*sg w=a-ku i:=by
 have key:ku i*sg x*sg w=-ku i:=by
  by_cases h1:x.toInt<0
  ·have h2:¬w.toInt<0:=λh2=>h (propext ⟨λ_=>h2,λ_=>h1⟩);rw[S8 h1,S9 hw h2];obtain e|e|e:=kG i<;>rw[e]<;>decide
  ·have h2:w.toInt<0:=Decidable.by_contra λh2=>h (propext ⟨λh3=>absurd h3 h1,λh3=>absurd h3 h2⟩);rw[S9 hx h1,S8 h2];obtain e|e|e:=kG i<;>rw[e]<;>decide
 rw[key,Int32.sub_eq_add_neg]
def qN(i:Nat):Nat->Bool:=λj=>decide (j<i)
theorem H5{a b:List Int32}{i:Nat}(h:i<a.length):Je (ZJ (qN i) a b) (i:Int) (a.getD i 0)=some (ZJ (qN (i+1)) a b):=by
 rw[aY h];congr 1;apply Sc;intro k _;rw[An0];simp only[qN,Awf,Ab2];omega
theorem Ai7{a b:List Int32}{i:Nat}(e:a.getD i 0=b.getD i 0):ZJ (qN i) a b=ZJ (qN (i+1)) a b:=by
 apply List.map_congr_left;intro k _;simp only[qN,Ab2];by_cases h1:k<i
 ·rw[Abb h1,Abb (by omega)]
 ·by_cases h2:k=i
  ·subst h2;rw[Aba h1,Abb (by omega),e]
  ·rw[Aba h1,Aba (by omega)]
theorem Aa0{a b:List Int32}{i:Nat}(h:i<a.length):Aj (ZJ (qN i) a b) (i:Int)=some (b.getD i 0):=by
 rw[Ye h,Aba (by simp[qN])]
theorem Q8{s:Int}{t p:List Int32}{w:Int32}(hw:w≠0)(ht:t.length=16)(hp:p.length=16):∀(j i q:Nat),i+j=16->j<q->Sa w p s q (i:Int) (ZJ (qN i) (xA t p w) t)=some (s,xA t p w,p,0)
 |0,i,q+1,hi,_=>by
  obtain rfl:i=16:=by omega
  rw[Sa,HR,Aba (by rw[Af];simp),kJ (λk hk=>by rw[DU]at hk;simpa [qN]using hk)];rfl
 |j+1,i,q+1,hi,hq=>by
  have hl:=DU t p w;have hg:=X1 t p w (i:=i) (by omega);rw[Sa,HR,Abb (by rw[Af];simp;omega),g32 (by omega),Aa,Ag (b:=1) (by omega) (by omega),Aa0 (by omega),step_eq];simp only[Aa];rw[WM,PU,Ae5,X3,X3,show(0:Int32).toInt=0 from rfl];have ih:=Q8 (s:=s) hw ht hp j (i+1) q (by omega) (by omega);by_cases hx:p.getD i 0=0
  ·rw[Abb (by rw[hx];rfl),Ai7 (by rw[hg,hx,Afo,Int32.mul_zero,Int32.zero_mul,Int32.add_zero])];exact ih
  ·rw[Aba (by simpa using hx)];by_cases hs:((p.getD i 0).toInt<0)=(w.toInt<0)
   ·rw[Abb (by rw[Axd];simp only[hs]),show t.getD i 0+ku i=(xA t p w).getD i 0 by rw[hg,Aim hx hw hs],H5 (by omega),Aa];exact ih
   ·rw[Aba (by rw[Axd,decide_eq_decide];exact λh=>hs (propext h)),show t.getD i 0-ku i=(xA t p w).getD i 0 by rw[hg,Acd hx hw hs],H5 (by omega),Aa];exact ih
theorem Aka{t:List Int32}(p:List Int32)(ht:t.length=16):xA t p 0=t:=by
 apply Au5 (by rw[DU,ht]);intro i h1 h2;have:=X1 t p 0 (i:=i) (by omega);rw[Hi h1,Hi h2]at this;rw[this,Afo,Int32.mul_zero,Int32.add_zero]
theorem yt{s:Int}{t p:List Int32}(h:OkF s t p)(w:Int32):bT s t p w=some (s,xA t p w,p,0):=by
 rw[bT,VG,sJ h,Aa,Aba (by rw[Ak];simp),Ae5];by_cases hw:w=0
 ·rw[Abb (by simpa using hw),hw,Aka p h.2.1]
 ·have h1:=Q8 (s:=s) hw h.2.1 h.2.2 16 0 Ar (by omega) (by have:=Am;omega);rw[eF (by rw[DU,h.2.1]) (λk _=>by simp[qN])]at h1;rw[Aba (by simpa using hw)];exact h1
theorem pV{s:Int}{t p:List Int32}{w:Int32}(ht:t.length=16)(hp:p.length=16):∀(j i q:Nat),i+j=16->j<q->Hb w s p q (i:Int) (ZJ (qN i) (xA t p w) t)=some (s,xA t p w,p)
 |0,i,q+1,hi,_=>by
  obtain rfl:i=16:=by omega
  rw[Hb,Pj,Aba (by rw[Af];simp),kJ (λk hk=>by rw[DU]at hk;simpa [qN]using hk)];rfl
 |j+1,i,q+1,hi,hq=>by
  have hl:=DU t p w;have hg:=X1 t p w (i:=i) (by omega);rw[Hb,Pj,Abb (by rw[Af];simp;omega),g32 (l:=p) (by omega),Ag (b:=1) (by omega) (by omega),Aa0 (by omega),Aic,sign_eq w,Aa,Aa,Aa,Aa,Aa,sign_eq,Aa,Aa,Aa,WM,wZ,wZ,<-hg,H5 (by omega),Aa];exact pV ht hp j (i+1) q (by omega) (by omega)
theorem Adx{s:Int}{t p:List Int32}(h:OkF s t p)(w:Int32):IH s t p w=some (s,xA t p w,p):=by
 have h1:=pV (s:=s) (w:=w) h.2.1 h.2.2 16 0 Ar (by omega) (by have:=Am;omega);rw[eF (by rw[DU,h.2.1]) (λk _=>by simp[qN])]at h1;exact h1
theorem Apm{p:List Int32}(h:p.length=16):∃a0 a1 a2 a3 a4 a5 a6 a7 a8 a9 b0 b1 b2 b3 b4 b5,p=[a0,a1,a2,a3,a4,a5,a6,a7,a8,a9,b0,b1,b2,b3,b4,b5]:=by
 match p,h with
 |[a0,a1,a2,a3,a4,a5,a6,a7,a8,a9,b0,b1,b2,b3,b4,b5],_=>exact⟨a0,a1,a2,a3,a4,a5,a6,a7,a8,a9,b0,b1,b2,b3,b4,b5,rfl⟩
theorem Aej{s:Int}{t p:List Int32}(h:OkF s t p)(x:Int32):kQ s t p x=some (s,t,x::p.take 15,0):=by
 obtain⟨hs,ht,hp⟩:=h;rw[kQ,NO,sJ ⟨hs,ht,hp⟩,Aa,Aba (by rw[Ak];simp),show cG (16:Int) 1 16=some ()from rfl,Aa,show cG (16:Int) 0 16=some ()from rfl,Aa,aG,oS];obtain⟨a0,a1,a2,a3,a4,a5,a6,a7,a8,a9,b0,b1,b2,b3,b4,b5,rfl⟩:=Apm hp;rfl
def U3(p:List Int32)(i:Nat):List Int32:=(List.range 16).map λk=>if k<=i then p.getD k 0 else p.getD (k-1) 0
theorem Yi(p:List Int32)(i:Nat):(U3 p i).length=16:=by simp[U3]
theorem Aqc(p:List Int32)(i k:Nat)(h:k<16):(U3 p i).getD k 0=if k<=i then p.getD k 0 else p.getD (k-1) 0:=by
 rw[Hi (by rw[Yi];exact h)];simp[U3]
theorem Aqm(p:List Int32)(i:Nat)(h:i+1<16):Je (U3 p (i+1)) ((i+1:Nat):Int) (p.getD i 0)=some (U3 p i):=by
 rw[Rg _ (by rw[Yi];exact h)];congr 1;apply Au5 (by simp[Yi]);intro k h1 h2;rw[Yi]at h2;rw[Azr];simp only[U3,Aya,Ax1];by_cases hk:i+1=k
 ·subst hk;rw[Abb rfl,Aba (by omega)];rfl
 ·rw[Aba hk];by_cases h3:k<=i
  ·rw[Abb (by omega),Abb h3]
  ·rw[Aba (by omega),Aba h3]
theorem vF(s:Int)(t p:List Int32)(x:Int32)(hp:p.length=16):∀(i q:Nat),i<16->i<q->Hq x s t q (i:Int) (U3 p i)=some (s,t,x::p.take 15)
 |0,q+1,_,_=>by
  have hg:Aj (U3 p 0) (0:Int)=some ((U3 p 0).getD 0 0):=g32 (l:=U3 p 0) (k:=0) (by rw[Yi];omega);have hset:Je (U3 p 0) (0:Int) x=some ((U3 p 0).set 0 x):=Rg (l:=U3 p 0) (n:=0) x (by rw[Yi];omega);rw[Hq,Rn,Aba (by rw[Al];simp),AZ,CC,hg,Aa,hset,Aa];congr 3;apply Au5 (by simp[Yi,hp]);intro k h1 h2;rw[Axa,Yi]at h1;rw[Azr];cases k with
  |zero=>rw[Abb rfl];rfl
  |succ k=>
   rw[Aba (by omega)];simp only[U3,Aya,Ax1,List.getElem_cons_succ,List.getElem_take];rw[Aba (by omega),Nat.add_sub_cancel,Hi (by omega)]
 |i+1,q+1,hi,hq=>by
  have hg:=g32 (l:=U3 p (i+1)) (k:=i) (by rw[Yi];omega);rw[Aqc p (i+1) i (by omega),Abb (by omega)]at hg;have e1:Ah ((i+1:Nat):Int) (1:Int)=(i:Int):=by rw[Bg];omega
  have hg2:=g32 (l:=U3 p (i+1)) (k:=i+1) (by rw[Yi];omega);rw[Hq,Rn,Abb (by rw[Al];simp),e1,hg,Aa,Aa,hg2,Aa,Aqm p i hi,Aa];exact vF s t p x hp i q (by omega) (by omega)
theorem Ai0{s:Int}{t p:List Int32}(hp:p.length=16)(x:Int32):MG s t p x=some (s,t,x::p.take 15):=by
 have h:=vF s t p x hp 15 Ar (by omega) (by have:=Am;omega);have e:U3 p 15=p:=by
  apply Au5 (by rw[Yi,hp]);intro k h1 h2;rw[Yi]at h1;simp only[U3,Aya,Ax1];rw[Abb (by omega),Hi h2]
 rw[e]at h;exact h
theorem Akx{s:Int}{t p:List Int32}(h:OkF s t p)(w x:Int32):OkF s (xA t p w) (x::p.take 15):=⟨h.1,DU _ _ _,by simp[h.2.2]⟩
theorem Aqv{s:Int}{t p:List Int32}(h:OkF s t p)(y:Int32):jA s t p y=some (y+gF s t p,s,xA t p y,(y+gF s t p)::p.take 15,0):=by
 rw[jA,zn h,Aa];simp only;rw[Aba (by rw[Ak];simp),WM,ON,yt h,Aa];simp only;rw[Aej (s:=s) (t:=xA t p y) (p:=p) ⟨h.1,DU _ _ _,h.2.2⟩,Aa];rfl
theorem Aha{s:Int}{t p:List Int32}(h:OkF s t p)(y:Int32):Ui s t p y=some (y+gF s t p,s,xA t p y,(y+gF s t p)::p.take 15):=by
 rw[Ui,Apb h,Aa,oW,Aa,Adx h,Aa];simp only;rw[Ai0 h.2.2,Aa]
def sB(bits:Int):Int:=if bits=16 then 9 else 10
def shB(bits:Int):Int:=if bits=8 then 4 else 5
def Cf(bits:Int):Prop:=bits=8\/bits=16\/bits=24
def gs(sh:Int)(last:Int32):Int32:=Ad (Y4 (Ah (Cw (Ad last:Int) sh.toNat) (Ad last)) sh.toNat)
theorem Av0(bits:Int):sB bits=9\/sB bits=10:=by unfold sB;split<;>simp
theorem Aqo(bits:Int):0<=shB bits:=by unfold shB;split<;>omega
theorem Axx{bits:Int}(h:Cf bits)(t:List Int32):qH bits t=some (sB bits,t,List.replicate 16 0,0):=by
 obtain rfl|rfl|rfl:=h<;>rfl
theorem Auo{bits:Int}(h:Cf bits):gB bits=some (shB bits,0):=by
 obtain rfl|rfl|rfl:=h<;>rfl
theorem Ati{sh:Int}(h:0<=sh)(last:Int32):SR sh last=some (gs sh last):=by
 rw[SR,Be (by rw[Dc];simpa using h),Aa,Aa];rfl
theorem Al1{bits:Int}(h:Cf bits)(last:Int32):Uo bits last=some (gs (shB bits) last,0):=by
 rw[Uo,Auo h,Aa];simp only;rw[Aba (by rw[Ak];simp),Ati (Aqo bits),Aa]
theorem G5{bits:Int}(h:Cf bits)(last:Int32)(t p:List Int32):Um bits last (sB bits) t p=some 0:=by
 rw[Um,Axx h,Aa];simp only;rw[Aba (by rw[Ak,Ak];simp)]
theorem Ah0{bits:Int}(h:Cf bits){t p:List Int32}(hF:OkF (sB bits) t p)(last y:Int32):
  Kk bits last (sB bits) t p y=some (y+gF (sB bits) t p+gs (shB bits) last,bits,y+gF (sB bits) t p+gs (shB bits) last,sB bits,xA t p y,(y+gF (sB bits) t p)::p.take 15,0):=by
 rw[Kk,G5 h,Aa,Aba (by rw[Ak];simp),Al1 h,Aa];simp only;rw[Aqv hF,Aa];simp only;rw[WM]
theorem tH(sh:Int)(hs:sh=4\/sh=5)(last:Int32):Ot sh last=some (gs sh last):=by
 have hl:=Wx last;have key:∀n:Int,n=16\/n=32->gs sh last=Int32.ofInt (((n-1)*last.toInt).fdiv n)->Rh last n=some (gs sh last):=by
  intro n hn hg;have e:Bd (Ah n (1:Int)) (Ad last:Int)=(n-1)*last.toInt:=by
   obtain rfl|rfl:=hn<;>(rw[Ei,Bg,Gt])
  rw[Rh,BC,Be (by rw[Ak];simp;omega),Aa,Aa,e,Aab _ n (by omega) (by obtain rfl|rfl:=hn<;>omega) (by obtain rfl|rfl:=hn<;>omega),hg]
 rw[Ot,DS];obtain rfl|rfl:=hs
 ·rw[Aba (by rw[Bc];decide)];refine key 16 (.inl rfl) ?_;have e:Cw (Ad last:Int) (4:Int).toNat=last.toInt*16:=by
   rw[Ei];show wrap64 (last.toInt*2^4)=_;rw[Bp]<;>omega
  rw[gs,e,Ei,Bg,OA]
  show Int32.ofInt ((last.toInt*16-last.toInt).fdiv 16)=_;congr 2;omega
 ·rw[Abb (by rw[Bc];rfl)];refine key 32 (.inr rfl) ?_;have e:Cw (Ad last:Int) (5:Int).toNat=last.toInt*32:=by
   rw[Ei];show wrap64 (last.toInt*2^5)=_;rw[Bp]<;>omega
  rw[gs,e,Ei,Bg,OA]
  show Int32.ofInt ((last.toInt*32-last.toInt).fdiv 32)=_;congr 2;omega
theorem Ajo{bits:Int}(h:Cf bits){t p:List Int32}(hF:OkF (sB bits) t p)(last y:Int32):
  Uf bits last (sB bits) t p y=some (y+gF (sB bits) t p+gs (shB bits) last,bits,y+gF (sB bits) t p+gs (shB bits) last,sB bits,xA t p y,(y+gF (sB bits) t p)::p.take 15):=by
 have hb:Wu bits last (sB bits) t p=some (Ad (gs (shB bits) last):Int):=by
  rw[Wu];obtain rfl|rfl|rfl:=h
  ·rw[Abb (by rw[Bc];rfl),tH 4 (.inl rfl),Aa];rfl
  ·rw[Aba (by rw[Bc];decide),tH 5 (.inr rfl),Aa];rfl
  ·rw[Aba (by rw[Bc];decide),tH 5 (.inr rfl),Aa];rfl
 rw[Uf,Aha hF,Aa];simp only;rw[hb,Aa,oW,Aa]
theorem Awi{bits:Int}(h:Cf bits)(t:List Int32):VY bits t=some (bits,0,sB bits,t,List.replicate 16 0,0):=by
 obtain rfl|rfl|rfl:=h<;>rfl
def OK(n:UInt32):Int32:=if n.toNat %2=0 then Int32.ofInt ((n.toNat/2:Nat):Int)else Int32.ofInt (-((n.toNat/2:Nat):Int)-1)
theorem Aan(a b:Int32):(Rk a b).toBitVec=a.toBitVec^^^b.toBitVec:=by
 show(Int32.ofInt ((BitVec.ofInt 32 a.toBitVec.toInt^^^BitVec.ofInt 32 b.toBitVec.toInt).toNat:Int)).toBitVec=_;rw[BitVec.ofInt_toInt,BitVec.ofInt_toInt,Int32.toBitVec_ofInt,BitVec.ofInt_natCast,BitVec.ofNat_toNat,BitVec.setWidth_eq]
theorem Awh(m:Nat)(h:m<2147483648):Rk (Int32.ofInt (m:Int)) (Int32.ofInt (-1))=Int32.ofInt (-(m:Int)-1):=by
 apply Int32.toBitVec_inj.1;have e1:(Int32.ofInt (-1)).toBitVec=BitVec.allOnes 32:=by decide
 rw[Aan,e1,BitVec.xor_allOnes,Int32.toBitVec_ofInt,Int32.toBitVec_ofInt];apply Ay5;rw[BitVec.toNat_not,Awl,Awl];omega
theorem Amd(n:UInt32):Vv n=some (OK n):=by
 have hn:=n.toNat_lt;have e1:(Ad (Bt n (GI.toZ (1:UInt64)).toNat):Int32)=Int32.ofInt ((n.toNat/2:Nat):Int):=by
  show Int32.ofInt ((Bt n 1).toNat:Int)=_;rw[IJ]
 have e2:(Ad (Di n (1:UInt32)):Int32)=Int32.ofInt ((n.toNat %2:Nat):Int):=by
  show Int32.ofInt ((Di n (1:UInt32)).toNat:Int)=_;rw[zA,UInt32.toNat_and]
  show Int32.ofInt ((n.toNat&&&1:Nat):Int)=_;rw[Nat.and_one_is_mod]
 rw[Vv,e1,e2,OK];congr 1;by_cases h:n.toNat %2=0
 ·have e3:oU (Int32.ofInt ((n.toNat %2:Nat):Int))=Int32.ofInt 0:=by rw[h];decide
  rw[Abb h,e3];apply Int32.toBitVec_inj.1;rw[Aan,show(Int32.ofInt 0).toBitVec=0#32 from rfl,BitVec.xor_zero]
 ·have e3:oU (Int32.ofInt ((n.toNat %2:Nat):Int))=Int32.ofInt (-1):=by rw[show n.toNat %2=1 by omega];decide
  rw[Aba h,e3,Awh _ (by omega)]
theorem Apk(n:UInt32):BZ n=some (OK n):=by
 have hn:=n.toNat_lt;have e1:geq (AR n (2:UInt32)) (0:UInt32)=decide (n.toNat %2=0):=by
  rw[T7,qb,An0];simp only[Axd,<-UInt32.toNat_inj,UInt32.toNat_mod,Ab2];rfl
 rw[BZ,e1,OK];by_cases h:n.toNat %2=0
 ·rw[Abb (by simpa using h),Abb h,qx];rfl
 ·have e2:(Ad n:Int)=(n.toNat:Int):=wS n;rw[Aba (by simpa using h),Aba h,e2,Ag,U0,Bp (by omega) (by omega),LA,Int.tdiv_eq_ediv,OA];congr 2;rw[Abb (.inr (by omega)),Bp (by omega) (by omega)];omega
theorem lU{c:Prop} [Decidable c](h:c):Ik (decide c)=some ():=by rw[decide_eq_true h];rfl
def lg(f:Nat->Int32)(ch:Nat):Nat->Int32
 |0=>if 1<ch then f (ch-1)+Bz (f (ch-2)) (2:Int32)else f (ch-1)
 |j+1=>lg f ch j-f (ch-2-j)
def wE(ch:Nat)(m:List Int32):List Int32:=(List.range m.length).map λk=>lg (λi=>m.getD (k-k %ch+i) 0) ch (ch-1-k %ch)
theorem aF(ch:Nat)(m:List Int32):(wE ch m).length=m.length:=by simp[wE]
theorem qM{ch:Nat}{m:List Int32}{a i:Nat}(ha:a %ch=0)(hi:i<ch)(h:a+i<m.length):(wE ch m).getD (a+i) 0=lg (λi=>m.getD (a+i) 0) ch (ch-1-i):=by
 have hb:(a+i) %ch=i:=by rw[Nat.add_mod,ha,Au1,Nat.mod_mod,Abk hi]
 rw[Hi (by rw[aF];exact h)];simp only[wE,Aya,Ax1,hb];rw[show a+i-i=a by omega]
section
variable (ch:Nat) (m:List Int32)
theorem su(h1:1<=ch)(h6:ch<=6)(hm:m.length %ch=0)(hl2:m.length<=4000):XH (ch:Int) m=some 0:=by
 rw[XH,Aba (by simp[Af,Al];omega),Aba (by rw[Al,Ac];simp;omega),Be (by rw[Ak];simp;omega),Aa,Aba];rw[Ak,Gc,Ac,<-Int.ofNat_tmod,hm];simp
theorem wW(bk:Int->List Int32->Option (List Int32×Int))(at':Nat)(h1:1<=ch)(h6:ch<=6)(hm:at' %ch=0)(hl:at'+ch<=m.length)(hl2:m.length<=4000):∀(i q:Nat),i<=ch-1->i<q->
  Vu bk (ch:Int) (at':Int) q ((i:Int)-1) (ZJ (λk=>decide (k<at'\/ (at'+i<=k/\k<at'+ch))) (wE ch m) m)=bk ((at'+ch:Nat):Int) (ZJ (λk=>decide (k<at'+ch)) (wE ch m) m)
 |0,q+1,hi,_=>by
  have e4:Ae (at':Int) (ch:Int)=((at'+ch:Nat):Int):=by rw[Ag];omega
  rw[Vu,NG,Aba (by rw[Dc];simp),aB,pX,e4];congr 1;apply Sc;intro k _;rw[An0];simp;omega
 |i+1,q+1,hi,hq=>by
  have hlen:=aF ch m;have e2:Ae (at':Int) (ch:Int)-(at':Int)=(ch:Int):=by rw[Ag];omega
  have e3:Ae (i:Int) 1=((i+1:Nat):Int):=by rw[Ag];omega
  have hv:((wE ch m).getD (at'+(i+1)) 0-m.getD (at'+i) 0)=(wE ch m).getD (at'+i) 0:=by
   rw[qM hm (by omega) (by omega),qM hm (by omega) (by omega),show ch-1-i=(ch-1-(i+1))+1 by omega,lg,show ch-2-(ch-1-(i+1))=i by omega]
  rw[Vu,NG,show((i+1:Nat):Int)-1=(i:Int) by omega,Abb (by rw[Dc];simp),e2,e3,lU (by omega),Aa,lU (by omega),Aa,
   show(at':Int)+((i+1:Nat):Int)=((at'+(i+1):Nat):Int) by omega,show(at':Int)+(i:Int)=((at'+i:Nat):Int) by omega,
   Ye (by omega),Aa,Ye (by omega),Aa,Aa,Abb (by simp;omega),Aba (by simp;omega),PU,hv,aY (by omega),Aa,Bg]
  have ih:=wW bk at' h1 h6 hm hl hl2 i q (by omega) (by omega);rw[<-ih];congr 1;apply Sc;intro k _;rw[An0];simp;omega
theorem qE{at' ch n:Nat}(ha:at' %ch=0)(hm:n %ch=0)(h:at'<n):at'+ch<=n:=by
 have d1:=Azc at' ch;have d2:=Azc n ch;rw[ha,Aw6]at d1;rw[hm,Aw6]at d2;have hlt:at'/ch<n/ch:=by
  rcases Ay8 (at'/ch) (n/ch)with h'|h'
  ·exact h'
  ·have:=Nat.mul_le_mul_left ch h';omega
 have:=Nat.mul_le_mul_left ch (show at'/ch+1<=n/ch from hlt);rw[Nat.mul_add]at this;omega
theorem L9(h1:1<=ch)(h6:ch<=6)(hm:m.length %ch=0)(hl2:m.length<=4000):∀(j at' q:Nat),at' %ch=0->at'<=m.length->m.length-at'<=j->j<q->
  Rb (ch:Int) q (at':Int) (ZJ (λk=>decide (k<at')) (wE ch m) m)=some (wE ch m,0)
 |j,at',q+1,ha,hle,hj,hq=>by
  have hlen:=aF ch m;have hl:Ac (ZJ (λk=>decide (k<at')) (wE ch m) m)=(m.length:Int):=by rw[Ac,HX,hlen]
  rw[Rb,YU,hl];by_cases h:at'<m.length
  ·have hb:=qE ha hm h;obtain⟨j,rfl⟩:∃k,j=k+1:=⟨j-1,by omega⟩;have e1:Ah (Ae (at':Int) (ch:Int)-(at':Int)) 1=((ch-1:Nat):Int):=by rw[Ag,Bg];omega
   have e2:Ae (at':Int) (ch:Int)-(at':Int)=(ch:Int):=by rw[Ag];omega
   have e4:Ae (at':Int) (ch:Int)=((at'+ch:Nat):Int):=by rw[Ag];omega
   have hi:=wW ch m (Rb (ch:Int) q) at' h1 h6 ha hb hl2 (ch-1) Ar (by omega) (by have:=Am;omega);have hrest:=L9 h1 h6 hm hl2 j (at'+ch) q (by rw[Azl,ha]) hb (by omega) (by omega);have hstart:NS (Rb (ch:Int) q) (ch:Int) (at':Int) (ZJ (λk=>decide (k<at'\/ (at'+(ch-1)<=k/\k<at'+ch))) (wE ch m) m)=some (wE ch m,0):=by
    have e6:Ah ((ch-1:Nat):Int) 1=((ch-1:Nat):Int)-1:=Bg;rw[NS,YM,YZ,e1,e6];exact Awn hi hrest
   rw[Abb (by rw[Af];simp;omega),show cG (m.length:Int) (at':Int) (Ae (at':Int) (ch:Int))=some () by rw[e4,cG,lU];omega,Aa,e1,e2];have hlast:=qM (m:=m) ha (show ch-1<ch by omega) (by omega);rw[show ch-1-(ch-1)=0 by omega,lg]at hlast;by_cases hc:1<ch
   ·have e5:Ah ((ch-1:Nat):Int) 1=((ch-2:Nat):Int):=by rw[Bg];omega
    rw[Abb hc]at hlast;rw[Abb (by rw[Al];simp;omega),lU (by omega),Aa,e5,lU (by omega),Aa,show(at':Int)+((ch-1:Nat):Int)=((at'+(ch-1):Nat):Int) by omega,show(at':Int)+((ch-2:Nat):Int)=((at'+(ch-2):Nat):Int) by omega,
     Ye (by omega),Aa,Ye (by omega),Aa,Aa,Aba (by simp),Aba (by simp),WM,<-hlast,aY (by omega),Aa]
    rw[<-hstart];congr 1;apply Sc;intro k _;rw[An0];simp;omega
   ·have hc1:ch=1:=by omega
    rw[Aba (by rw[Al];simp;omega),<-hstart];congr 1;rw[Aba hc]at hlast;apply List.map_congr_left;intro k hk;by_cases hk2:k=at'
    ·subst hk2;rw[Aba (by simp),Abb (by simp;omega)];rw[show k+(ch-1)=k by omega]at hlast;exact hlast.symm
    ·by_cases hk3:k<at'
     ·rw[Abb (by simp;omega),Abb (by simp;omega)]
     ·rw[Aba (by simp;omega),Aba (by simp;omega)]
  ·rw[Aba (by rw[Af];simp;omega),kJ (λk hk=>by simp;omega)];rfl
theorem Apt(h1:1<=ch)(h6:ch<=6)(hm:m.length %ch=0)(hl2:m.length<=4000):pK (ch:Int) m=some (wE ch m,0):=by
 have hlen:=aF ch m;have h:=L9 ch m h1 h6 hm hl2 m.length 0 Ar (by simp) (by omega) (by omega) (by have:=Am;omega);rw[pK,jE,su ch m h1 h6 hm hl2,Aa,Aba (by rw[Ak];simp),Dd,Cx (by simp;omega),Aa,Aa,Avj,aI];rw[eF hlen.symm (λk _=>by simp)]at h;exact h
end
def tP(f:Nat->Int32)(ch:Nat):List Int32:=(List.range ch).map λi=>lg f ch (ch-1-i)
theorem XB(f:Nat->Int32)(ch:Nat):(tP f ch).length=ch:=by simp[tP]
theorem rB(f:Nat->Int32){ch i:Nat}(h:i<ch):(tP f ch).getD i 0=lg f ch (ch-1-i):=by
 rw[Hi (by rw[XB];exact h)];simp[tP]
theorem Am4(a b:Int32):Ch (Ah (Ad a:Int) (Ad b:Int))=some (a-b):=by
 have:=Wx a;have:=Wx b;rw[Ei,Ei,Bg,wH,Int32.ofInt_sub,Au7,Au7]
theorem Aiw(a b:Int32):Ch (Ae (Ad a:Int) (Bz (Ad b:Int) (2:Int)))=some (a+Bz b (2:Int32)):=by
 have:=Wx a;have hb:=Wx b;have hd: -2147483648<=b.toInt.tdiv 2/\b.toInt.tdiv 2<=2147483648:=by
  rw[Int.tdiv_eq_ediv,show Int.sign 2=1 from rfl];by_cases h:0<=b.toInt\/2∣b.toInt
  ·rw[Abb h];omega
  ·rw[Aba h];omega
 have e:Bz b (2:Int32)=Int32.ofInt (b.toInt.tdiv 2):=rfl;rw[Ei,Ei,LA,Bp (by omega) (by omega),Ag,wH,Int32.ofInt_add,Au7,e]
theorem pE(seg z:List Int32)(ch:Nat)(h6:ch<=6)(hs:seg.length=ch)(hz:z.length=ch):∀(i q:Nat),i+1<=ch->i<q->
  Gy seg q ((i:Int)-1) (ZJ (λk=>decide (i<=k)) (tP (λi=>seg.getD i 0) ch) z)=some (tP (λi=>seg.getD i 0) ch)
 |0,q+1,hi,_=>by
  rw[Gy,Py,Aba (by rw[Dc];simp),kJ (λk hk=>by simp)];rfl
 |i+1,q+1,hi,hq=>by
  have hlen:=XB (λi=>seg.getD i 0) ch;have e3:Ae (i:Int) 1=((i+1:Nat):Int):=by rw[Ag];omega
  have hv:(tP (λi=>seg.getD i 0) ch).getD (i+1) 0-seg.getD i 0=(tP (λi=>seg.getD i 0) ch).getD i 0:=by
   rw[rB _ (by omega),rB _ (by omega),show ch-1-i=(ch-1-(i+1))+1 by omega,lg,show ch-2-(ch-1-(i+1))=i by omega]
  rw[Gy,Py,show((i+1:Nat):Int)-1=(i:Int) by omega,Abb (by rw[Dc];simp),e3,Ye (by omega),Aa,g32 (by omega),Aa,Aa,Abb (by simp),Am4,Aa,Ye (by omega),Aa,hv,aY (by omega),Aa,Bg];have ih:=pE seg z ch h6 hs hz i q (by omega) (by omega);rw[<-ih];congr 1;apply Sc;intro k _;rw[An0];simp;omega
theorem Aar{l:List Int32}{i:Nat}(v:Int32)(h:i<l.length):(l.set i v).getD i 0=v:=by
 rw[Hi (by rw[Axa];exact h)];simp
theorem Ab6(seg:List Int32)(ch:Nat)(h1:1<=ch)(h6:ch<=6)(hs:seg.length=ch):Uz seg=some (tP (λi=>seg.getD i 0) ch):=by
 have hlen:=XB (λi=>seg.getD i 0) ch;have hzl:(List.replicate ch (0:Int32)).length=ch:=by simp
 have e1:Ah (Ac seg) 1=((ch-1:Nat):Int):=by rw[Ac,hs,Bg];omega
 have e2:Ah (Ac seg) 2=((ch-1:Nat):Int)-1:=by rw[Ac,hs,Bg];omega
 have hlast:=rB (λi=>seg.getD i 0) (show ch-1<ch by omega);rw[show ch-1-(ch-1)=0 by omega,lg]at hlast;have hend:∀z:List Int32,z.length=ch->z.getD (ch-1) 0=(tP (λi=>seg.getD i 0) ch).getD (ch-1) 0->Pn seg z=some (tP (λi=>seg.getD i 0) ch):=by
  intro z hz hzl;have h:=pE seg z ch h6 hs hz (ch-1) Ar (by omega) (by have:=Am;omega);have e:ZJ (λk=>decide (ch-1<=k)) (tP (λi=>seg.getD i 0) ch) z=z:=by
   apply Au5 (by rw[HX,hlen,hz]);intro k k1 k2;rw[Qj];by_cases hk:ch-1<=k
   ·obtain rfl:k=ch-1:=by omega
    rw[Abb (by simp),<-hzl,Hi k2]
   ·rw[Aba (by simpa using hk),Hi k2]
  rw[e]at h;rw[Pn,AN,e2];exact h
 rw[Uz,Zo,Ac,hs,qQ,Aa,Be (by rw[Bc];simp),Aa];rw[Ac,hs]at e1;rw[Ac,hs]at e2;have hz1:(List.replicate (Int.toNat (ch:Int)) (0:Int32)).length=ch:=by simp
 have hs1:=g32 (l:=seg) (k:=ch-1) (by omega);rw[e1,hs1,Aa,g32 (by omega),Aa,Rg _ (by omega),Aa];by_cases hc:1<ch
 ·rw[Abb hc]at hlast;have e3:((ch-1:Nat):Int)-1=((ch-2:Nat):Int):=by omega
  have hs2:=g32 (l:=seg) (k:=ch-2) (by omega);rw[Abb (by rw[Al];simp;omega),Aa,e2,e3,hs2,Aa,Aiw,Aa,g32 (by rw[Axa];omega),Aa,Rg _ (by rw[Axa];omega),Aa];refine hend _ (by simp) ?_;rw[hlast,Aar _ (by rw[Axa];omega)]
 ·rw[Aba hc]at hlast;rw[Aba (by rw[Al];simp;omega)];refine hend _ (by simp) ?_;rw[hlast,Aar _ (by omega)]
theorem Aqs(ch:Nat)(m:List Int32)(h1:1<=ch)(h6:ch<=6)(hm:m.length %ch=0)(hl2:m.length<=4000):Qx (ch:Int) m=some 0:=by
 rw[Qx,Aba (by simp[Af,Al];omega),Aba (by rw[Al,Ac];simp;omega),Be (by rw[Ak];simp;omega),Aa,Aba];rw[Al,Gc,Ac,<-Int.ofNat_tmod,hm];simp
theorem uG(ch:Nat)(m:List Int32)(h1:1<=ch)(h6:ch<=6)(hm:m.length %ch=0)(hl2:m.length<=4000):∀(j at' q:Nat),at' %ch=0->at'<=m.length->m.length-at'<=j->j<q->
  Nn (ch:Int) m q (at':Int) ((wE ch m).take at')=some (wE ch m,0)
 |j,at',q+1,ha,hle,hj,hq=>by
  have hlen:=aF ch m;rw[Nn,KP];by_cases h:at'<m.length
  ·have hb:=qE ha hm h;have e4:Ae (at':Int) (ch:Int)=((at'+ch:Nat):Int):=by rw[Ag];omega
   have hrest:=uG ch m h1 h6 hm hl2 (j-1) (at'+ch) q (by rw[Azl,ha]) hb (by omega) (by omega);have hseg:((m.take (at'+ch)).drop at').length=ch:=by simp;omega
   have htl:((wE ch m).take at').length=at':=by simp[hlen];omega
   rw[Abb (by rw[Af,Ac];simp;omega),e4,Pp,Aa,show((at'+ch:Nat):Int).toNat=at'+ch from rfl,show(at':Int).toNat=at' from rfl,Ab6 _ ch h1 h6 hseg,Aa,Cx (by rw[htl,XB];omega),Aa];have e:(wE ch m).take at'++tP (λi=>((m.take (at'+ch)).drop at').getD i 0) ch=(wE ch m).take (at'+ch):=by
    apply Au5 (by rw[Aby,htl,XB,Afw,hlen];omega);intro k k1 k2;rw[Afw,hlen]at k2;rw[List.getElem_append,List.getElem_take];by_cases hk:k<at'
    ·rw[dif_pos (by rw[htl];exact hk),List.getElem_take]
    ·rw[dif_neg (by rw[htl];exact hk)];have hu:=qM (m:=m) ha (show k-at'<ch by omega) (by omega);rw[show at'+(k-at')=k by omega,Hi (by omega)]at hu;have hx:∀n,n<=ch->lg (λi=>((m.take (at'+ch)).drop at').getD i 0) ch n=lg (λi=>m.getD (at'+i) 0) ch n:=by
      have hf:∀i,i<ch-> ((m.take (at'+ch)).drop at').getD i 0=m.getD (at'+i) 0:=by
       intro i hi;rw[Hi (by omega),Hi (by omega)];simp
      intro n
      induction n with
      |zero=>
       intro _;rw[lg,lg,hf _ (by omega)];split
       ·rw[hf _ (by omega)]
       ·rfl
      |succ n ih=>intro hn;rw[lg,lg,ih (by omega),hf _ (by omega)]
     have hy:=rB (λi=>((m.take (at'+ch)).drop at').getD i 0) (show k-at'<ch by omega);rw[Hi (by rw[XB];omega)]at hy;rw[hu,<-hx _ (by omega),<-hy];congr 1;rw[htl]
   rw[e];exact hrest
  ·rw[Aba (by rw[Af,Ac];simp;omega),Aoy (by omega)];rfl
theorem Aij(ch:Nat)(m:List Int32)(h1:1<=ch)(h6:ch<=6)(hm:m.length %ch=0)(hl2:m.length<=4000):CB (ch:Int) m=some (wE ch m,0):=by
 have h:=uG ch m h1 h6 hm hl2 m.length 0 Ar (by simp) (by omega) (by omega) (by have:=Am;omega);rw[CB,IM,Aqs ch m h1 h6 hm hl2,Aa,Aba (by rw[Ak];simp)];exact h
def pre{α:Type}(ch c:Nat)(f:α->Nat->α)(a0:α):Nat->α
 |0=>a0
 |m+1=>if m %ch=c then f (pre ch c f a0 m) m else pre ch c f a0 m
theorem Agr{α:Type}(ch c:Nat)(f:α->Nat->α)(a0:α):∀m,m<=c->c<ch->pre ch c f a0 m=a0
 |0,_,_=>rfl
 |m+1,h,h2=>by rw[pre,Aba (by rw[Abk (by omega)];omega),Agr ch c f a0 m (by omega) h2]
theorem lu{α:Type}(ch c i:Nat)(f:α->Nat->α)(a0:α)(hi:i %ch=c)(hc:c<ch):∀j,j<ch->pre ch c f a0 (i+1+j)=pre ch c f a0 (i+1)
 |0,_=>rfl
 |j+1,h=>by
  have hne:(i+1+j) %ch≠c:=by
   intro e;have h1:(i+(1+j)) %ch=i %ch:=by rw[hi,<-e];congr 1;omega
   have h2:(1+j) %ch=0:=by
    have h3:=Nat.sub_mod_eq_zero_of_mod_eq h1;rwa [Av7]at h3
   rw[Abk (by omega)]at h2;omega
  rw[show i+1+(j+1)=(i+1+j)+1 by omega,pre,Aba hne,lu ch c i f a0 hi hc j (by omega)]
theorem Alp{α:Type}(ch c i:Nat)(f:α->Nat->α)(a0:α)(hi:i %ch=c)(hc:c<ch):pre ch c f a0 (i+ch)=f (pre ch c f a0 i) i:=by
 have h:=lu ch c i f a0 hi hc (ch-1) (by omega);rw[show i+1+(ch-1)=i+ch by omega]at h;rw[h,pre,Abb hi]
abbrev CS:=Int32×List Int32×List Int32
def nk(bits:Int)(s:CS)(y:Int32):Int32:=y+gF (sB bits) s.2.1 s.2.2+gs (shB bits) s.1
def N6(bits:Int)(s:CS)(y:Int32):CS:=(nk bits s y,xA s.2.1 s.2.2 y,(y+gF (sB bits) s.2.1 s.2.2)::s.2.2.take 15)
def cst(bits:Int)(ch:Nat)(t:List Int32)(v:List UInt32)(c:Nat):Nat->CS:=pre ch c (λs i=>N6 bits s (OK (v.getD i 0))) (0,t,List.replicate 16 0)
def OkC(bits:Int)(s:CS):Prop:=OkF (sB bits) s.2.1 s.2.2
theorem iq(bits:Int)(ch:Nat){t:List Int32}(ht:t.length=16)(v:List UInt32)(c:Nat):∀m,OkC bits (cst bits ch t v c m)
 |0=>⟨Av0 bits,ht,by simp[cst,pre]⟩
 |m+1=>by
  have ih:=iq bits ch ht v c m;rw[cst,pre];split
  ·exact Akx ih _ _
  ·exact ih
def rK(bits:Int)(ch:Nat)(t:List Int32)(v:List UInt32):List Int32:=(List.range v.length).map λi=>nk bits (cst bits ch t v (i %ch) i) (OK (v.getD i 0))
theorem aX(bits:Int)(ch:Nat)(t:List Int32)(v:List UInt32):(rK bits ch t v).length=v.length:=by simp[rK]
theorem Z4(bits:Int)(ch:Nat)(t:List Int32)(v:List UInt32){i:Nat}(h:i<v.length):(rK bits ch t v).getD i 0=nk bits (cst bits ch t v (i %ch) i) (OK (v.getD i 0)):=by
 rw[Hi (by rw[aX];exact h)];simp[rK]
abbrev CL:=Int×Int32×(Int×(List Int32)×(List Int32)×Unit)×Unit
def toC(bits:Int)(s:CS):CL:=(bits,s.1,(sB bits,s.2.1,s.2.2,()),())
def cts(bits:Int)(ch:Nat)(t:List Int32)(v:List UInt32)(i:Nat):List CL:=(List.range 6).map λc=>toC bits (cst bits ch t v c i)
theorem Agi{bits:Int}{ch:Nat}{t:List Int32}{v:List UInt32}{i c:Nat}(h:c<6):Aj (cts bits ch t v i) (c:Int)=some (toC bits (cst bits ch t v c i)):=by
 rw[Ck (by simp[cts];exact h)];simp[cts]
theorem qz(bits:Int)(ch:Nat)(t:List Int32)(v:List UInt32)(c m:Nat):cst bits ch t v c (m+1)=if m %ch=c then N6 bits (cst bits ch t v c m) (OK (v.getD m 0))else cst bits ch t v c m:=rfl
theorem Afx{bits:Int}{ch:Nat}{t:List Int32}{v:List UInt32}{i c:Nat}(h:c<6)(hc:i %ch=c):Je (cts bits ch t v i) (c:Int) (toC bits (N6 bits (cst bits ch t v c i) (OK (v.getD i 0))))=some (cts bits ch t v (i+1)):=by
 rw[Rg _ (by simp[cts];exact h)];congr 1;apply Au5 (by simp[cts]);intro k h1 h2;rw[Azr];simp only[cts,Aya,Ax1];by_cases hk:c=k
 ·subst hk;rw[Abb rfl,qz,Abb hc]
 ·rw[Aba hk,qz,Aba (by omega)]
section
variable {bits:Int} {ch:Nat} {t:List Int32} {v:List UInt32}
theorem om(hb:Cf bits)(ht:t.length=16)(h1:1<=ch)(h6:ch<=6)(hv:v.length<=4000):∀(j i q:Nat),i+j=v.length->j<q->
  Hv v (ch:Int) bits q (i:Int) (cts bits ch t v i) ((rK bits ch t v).take i)=Kr (ch:Int) bits (rK bits ch t v)
 |0,i,q+1,hi,_=>by
  rw[Hv,Kq,Aba (by rw[Af,Ac];simp;omega),Aoy (by rw[aX];omega)]
 |j+1,i,q+1,hi,hq=>by
  have hlen:=aX bits ch t v;have hc:i %ch<6:=Aj4 (Aw3 _ (by omega)) h6;have hok:=iq bits ch ht v (i %ch) i;have hs:=Afx (bits:=bits) (ch:=ch) (t:=t) (v:=v) (i:=i) hc rfl;have hx:=Z4 bits ch t v (i:=i) (by omega);have hcb:=Ah0 hb hok (cst bits ch t v (i %ch) i).1 (OK (v.getD i 0));have ih:=om hb ht h1 h6 hv j (i+1) q (by omega) (by omega);rw[Nf (by omega),<-Hi (by omega),hx]at ih;rw[Hv,Kq,Abb (by rw[Af,Ac];simp;omega),qZ (by omega),Aa,Be (by rw[Ak];simp;omega),Aa,OO,Agi hc,Aa,Aa,Amd,Aa];refine Awn (congrArg (λo=>Option.bind o _) hcb) ?_;rw[Aa];simp only;rw[Wr,MQ,Aba (by rw[Ak];simp),OO];refine Awn (congrArg (λo=>Option.bind o _) hs) ?_;rw[Aa,Cx (by simp;omega),Aa,Ag];exact ih
theorem Ajj(hb:Cf bits)(ht:t.length=16)(h1:1<=ch)(h6:ch<=6)(hv:v.length<=4000):Rv (ch:Int) bits t v=Kr (ch:Int) bits (rK bits ch t v):=by
 have h:=om hb ht h1 h6 hv v.length 0 Ar (by omega) (by have:=Am;omega);have e:Ar=(Ar-7)+1+1+1+1+1+1+1:=by have:=Am;omega
 have hs:Ox v (ch:Int) bits t 0 (List.replicate 6 ((0:Int),(0:Int32),((0:Int),(List.replicate 16 (0:Int32)),(List.replicate 16 (0:Int32)),()),()))=Xc v (ch:Int) bits (cts bits ch t v 0):=by
  rw[Ox,e];obtain rfl|rfl|rfl:=hb<;>rfl
 rw[Rv,Zc,hs];exact h
theorem M6(bk:Int->List Int32->Option (List Int32))(hb:Cf bits)(ht:t.length=16)(h1:1<=ch)(h6:ch<=6)(hv:v.length<=4000)(z:List Int32)(c:Nat)(hc:c<ch):∀(j i q:Nat),i %ch=c->v.length-i<=j->i<=5000->j<q->
  Jw bk v (ch:Int) bits t (c:Int) q (i:Int) (ZJ (λk=>decide (k %ch<c\/ (k %ch=c/\k<i))) (rK bits ch t v) z) bits (cst bits ch t v c i).1 (sB bits) (cst bits ch t v c i).2.1 (cst bits ch t v c i).2.2=
   bk ((c+1:Nat):Int) (ZJ (λk=>decide (k %ch<c+1)) (rK bits ch t v) z)
 |j,i,q+1,hi,hj,hi5,hq=>by
  have hlen:=aX bits ch t v;rw[Jw,Zz];by_cases h:i<v.length
  ·have hok:=iq bits ch ht v c i;have hst:=Ajo hb hok (cst bits ch t v c i).1 (OK (v.getD i 0));have hx:=Z4 bits ch t v (i:=i) h;rw[hi]at hx;have ih:=M6 bk hb ht h1 h6 hv z c hc (j-1) (i+ch) q (by rw[Azl];exact hi) (by omega) (by omega) (by omega);have E7:cst bits ch t v c (i+ch)=N6 bits (cst bits ch t v c i) (OK (v.getD i 0)):=Alp ch c i _ _ hi hc;rw[E7]at ih;have hset:=aY (p:=λk=>decide (k %ch<c\/ (k %ch=c/\k<i))) (a:=rK bits ch t v) (b:=z) (k:=i) (by omega);rw[hx]at hset;have Ab0:ZJ (λj=>decide (j %ch<c\/ (j %ch=c/\j<i))||decide (j=i)) (rK bits ch t v) z=ZJ (λk=>decide (k %ch<c\/ (k %ch=c/\k<i+ch))) (rK bits ch t v) z:=by
    apply Sc;intro k _;rw[An0];simp only[Awf,Ab2];constructor
    ·rintro((h1|h1)|h1)
     ·exact .inl h1
     ·exact .inr ⟨h1.1,by omega⟩
     ·subst h1;exact .inr ⟨hi,by omega⟩
    ·rintro(h1|⟨h1,h2⟩)
     ·exact .inl (.inl h1)
     ·by_cases h3:k<i
      ·exact .inl (.inr ⟨h1,h3⟩)
      ·refine .inr ?_;have h4:(i+(k-i)) %ch=i %ch:=by rw[show i+(k-i)=k by omega,h1,hi]
       have h5:=Nat.sub_mod_eq_zero_of_mod_eq h4;rw[Av7,Abk (by omega)]at h5;omega
   rw[Ab0]at hset;rw[Abb (by rw[Af,Ac];simp;omega),qZ h,Aa,Apk,Aa];refine Awn (congrArg (λo=>Option.bind o _) hst) ?_;rw[Aa];simp only;rw[AH,AA,Ye (by omega),Aa];refine Awn (congrArg (λo=>Option.bind o _) hset) ?_;rw[Aa,Zk,Zs,Ag];exact ih
  ·rw[Aba (by rw[Af,Ac];simp;omega),Zq,AF,Ag];have Ab0:ZJ (λk=>decide (k %ch<c\/ (k %ch=c/\k<i))) (rK bits ch t v) z=ZJ (λk=>decide (k %ch<c+1)) (rK bits ch t v) z:=by
    apply Sc;intro k hk;rw[An0];simp only[Ab2];omega
   rw[Ab0];rfl
theorem O8(hb:Cf bits)(ht:t.length=16)(h1:1<=ch)(h6:ch<=6)(hv:v.length<=4000)(z:List Int32):∀(j c q:Nat),c+j=ch->j<q->
  Ez v (ch:Int) bits t q (c:Int) (ZJ (λk=>decide (k %ch<c)) (rK bits ch t v) z)=Pk (ch:Int) bits (rK bits ch t v)
 |0,c,q+1,hc,_=>by
  rw[Ez,Pm,Aba (by rw[Af];simp;omega),kJ (λk hk=>by have:=Aw3 k (show 0<ch by omega);simp;omega)]
 |j+1,c,q+1,hc,hq=>by
  have ih:=O8 hb ht h1 h6 hv z j (c+1) q (by omega) (by omega);have hin:=M6 (Ez v (ch:Int) bits t q) hb ht h1 h6 hv z c (by omega) v.length c Ar (Abk (by omega)) (by omega) (by omega) (by have:=Am;omega);have h0:cst bits ch t v c c=(0,t,List.replicate 16 0):=Agr ch c _ _ c (Aj0 _) (by omega);rw[h0]at hin;have Ab0:ZJ (λk=>decide (k %ch<c\/ (k %ch=c/\k<c))) (rK bits ch t v) z=ZJ (λk=>decide (k %ch<c)) (rK bits ch t v) z:=by
   apply Sc;intro k hk;have:=Nat.mod_le k ch;rw[An0];simp only[Ab2];omega
  rw[Ab0]at hin;rw[Ez,Pm,Abb (by rw[Af];simp;omega),Awi hb,Aa];simp only;rw[AE];exact Awn hin ih
theorem O9(hb:Cf bits)(ht:t.length=16)(h1:1<=ch)(h6:ch<=6)(hv:v.length<=4000)(hm:v.length %ch=0):Oo (ch:Int) bits t v=some (wE ch (rK bits ch t v)):=by
 have hlen:=aX bits ch t v;have h:=O8 hb ht h1 h6 hv (List.replicate v.length 0) ch 0 Ar (by omega) (by have:=Am;omega);rw[eF (by rw[hlen];simp) (λk _=>by simp)]at h;rw[Oo,BS,Ac,qQ,Aa,Be (by rw[Bc];simp),Aa,AO];refine Awn h ?_;rw[Pk,AB,Aij ch _ h1 h6 (by rw[hlen];exact hm) (by omega),Aa]
end
def hB(bits:Int):Int:=if bits=8 then 128 else if bits=16 then 32768 else 8388608
theorem T6{bits:Int}(h:Cf bits):Qm bits=some (Int32.ofInt (-(hB bits)),Int32.ofInt (hB bits-1),0):=by
 obtain rfl|rfl|rfl:=h<;>decide
theorem WV{bits:Int}(h:Cf bits):Ht bits=some (hB bits):=by
 obtain rfl|rfl|rfl:=h<;>rfl
theorem UM(bits:Int):0<hB bits/\hB bits<=8388608:=by
 unfold hB;split; · omega
 ·split<;>omega
theorem zY{bits:Int}(h:Cf bits)(l:List Int32)(hl:l.length<=4000):∀(j i q:Nat),i+j=l.length->j<q->
  Ph (Int32.ofInt (-(hB bits))) (Int32.ofInt (hB bits-1)) l q (i:Int)=Ax l (hB bits) q (i:Int)
 |0,i,q+1,hi,_=>by
  rw[Ph,BE,Ax,Ca,Aba (by rw[Af,Ac];simp;omega),Aba (by rw[Af,Ac];simp;omega)];rfl
 |j+1,i,q+1,hi,hq=>by
  have hh:=UM bits;have ih:=zY h l hl j (i+1) q (by omega) (by omega);have e1:(Int32.ofInt (-(hB bits))).toInt= -(hB bits):=by rw[Ayu,Azx (by show -(4294967296/2:Int)<= _;omega) (by show _<(4294967296+1)/2;omega)]
  have e2:(Int32.ofInt (hB bits-1)).toInt=hB bits-1:=by rw[Ayu,Azx (by show -(4294967296/2:Int)<= _;omega) (by show _<(4294967296+1)/2;omega)]
  rw[Ph,BE,Ax,Ca,Abb (by rw[Af,Ac];simp;omega),Abb (by rw[Af,Ac];simp;omega),g32 (by omega),Aa,Aa,Aa,Ei,U0,Bp (by omega) (by omega),Ag,X3,Acs,e1,e2,Af,Dc];generalize(l.getD i 0).toInt=X;by_cases h1:X< -(hB bits)
  ·rw[Abb (by simp;omega),Abb (by simp;omega)]
  ·rw[Aba (c:=decide (X<0-hB bits)=true) (by simp;omega)];by_cases h2:hB bits<=X
   ·rw[Abb (by simp;omega),Abb (by simp;omega)]
   ·rw[Aba (by simp;omega),Aba (by simp;omega)];exact ih
theorem aM{bits:Int}(h:Cf bits)(l:List Int32)(hl:l.length<=4000):Un bits l=Ao bits l:=by
 have hh:=UM bits;rw[Un,QV,T6 h,Aa,Ao,Cr,WV h,Aa];simp only;rw[Aba (by rw[Ak];simp),Aba (by rw[Al,Ac];simp;omega),Aba (by rw[Bc];simp;omega),Aba (by rw[Al,Ac];simp;omega)];exact zY h l hl l.length 0 Ar (by omega) (by have:=Am;omega)
theorem Ad3{bits:Int}(h:Cf bits)(l:List Int32)(hl:l.length<=4000):∃e,Ao bits l=some e:=by
 have hh:=UM bits;have key:∀(j i q:Nat),i+j=l.length->j<q->∃e,Ax l (hB bits) q (i:Int)=some e:=by
  intro j
  induction j with
  |zero=>
   intro i q hi hq;obtain⟨q,rfl⟩:∃k,q=k+1:=⟨q-1,by omega⟩;rw[Ax,Ca,Aba (by rw[Af,Ac];simp;omega)];exact⟨_,rfl⟩
  |succ j ih=>
   intro i q hi hq;obtain⟨q,rfl⟩:∃k,q=k+1:=⟨q-1,by omega⟩;rw[Ax,Ca,Abb (by rw[Af,Ac];simp;omega),g32 (by omega),Aa,Aa,Ag];split
   ·exact⟨_,rfl⟩
   ·split
    ·exact⟨_,rfl⟩
    ·exact ih (i+1) q (by omega) (by omega)
 obtain⟨e,he⟩:=key l.length 0 Ar (by omega) (by have:=Am;omega);rw[Ao,Cr,WV h,Aa,Aba (by rw[Bc];simp;omega),Aba (by rw[Al,Ac];simp;omega)];exact⟨e,he⟩
theorem V9{bits:Int}{ch:Nat}{t:List Int32}{v:List UInt32}(hb:Cf bits)(ht:t.length=16)(h1:1<=ch)(h6:ch<=6)(hv:v.length<=4000)(hm:v.length %ch=0):
  ∃l e,Oo (ch:Int) bits t v=some l/\Pa (ch:Int) bits l=some (if e≠0 then([],e)else(l,0))/\Rv (ch:Int) bits t v=some (if e≠0 then([],e)else(l,0))/\Ao bits l=some e/\l.length=v.length:=by
 have hlen:=aX bits ch t v;have hul:=aF ch (rK bits ch t v);obtain⟨e,he⟩:=Ad3 hb (wE ch (rK bits ch t v)) (by omega);refine⟨wE ch (rK bits ch t v),e,O9 hb ht h1 h6 hv hm,?_,?_,he,by omega⟩
 ·rw[Pa,he,Aa];by_cases h:e=0
  ·rw[Aba (by rw[Ak];simpa using h),Aba (by simpa using h)]
  ·rw[Abb (by rw[Ak];simpa using h),Abb h]
 ·rw[Ajj hb ht h1 h6 hv,Kr,MH,Apt ch _ h1 h6 (by rw[hlen];exact hm) (by omega),Aa];simp only;rw[Aba (by rw[Ak];simp),aM hb _ (by omega),he,Aa];by_cases h:e=0
  ·rw[Aba (by rw[Ak];simpa using h),Aba (by simpa using h)]
  ·rw[Abb (by rw[Ak];simpa using h),Abb h]
def fW(s:Nat):Nat:=(s/2)^^^ (if s %2=1 then 3988292384 else 0)
theorem G2{s:Nat}(h:s<4294967296):fW s<4294967296:=by
 unfold fW;exact Avo (n:=32) (by simp;omega) (by split<;>decide)
theorem wo(x y:Nat):(x^^^y)/2=(x/2)^^^ (y/2):=by
 have:=Nat.shiftRight_xor_distrib (a:=x) (b:=y) (i:=1);simpa [Nat.shiftRight_eq_div_pow]using this
theorem Ain(x y:Nat):fW (x^^^y)=fW x^^^fW y:=by
 have h:(x^^^y) %2=(x %2+y %2) %2:=by
  have:=Nat.xor_mod_two_eq_one (a:=x) (b:=y);have h1:(x^^^y) %2<2:=Aw3 _ (by omega);omega
 simp only[fW,wo,h];have hx:x %2=0\/x %2=1:=by omega
 have hy:y %2=0\/y %2=1:=by omega
 rcases hx with hx|hx<;>rcases hy with hy|hy<;>simp only[hx,hy]<;>simp
 ·rw[Aw9]
 ·rw[Aw9,Az2 (y/2),Aw9,Az2 3988292384 (y/2)]
 ·rw[Aw9,Az2 3988292384,Aw9,Nat.xor_self];simp
def Wc:Nat->Nat->Nat
 |0,s=>s
 |k+1,s=>Wc k (fW s)
theorem O0:∀(k x y:Nat),Wc k (x^^^y)=Wc k x^^^Wc k y
 |0,_,_=>rfl
 |k+1,x,y=>by rw[Wc,Ain,O0 k];rfl
theorem M0:∀(k h:Nat),Wc k (2^k*h)=h
 |0,h=>by simp[Wc]
 |k+1,h=>by
  have:fW (2^(k+1)*h)=2^k*h:=by
   rw[Atw,Aoi (2^k) 2,Ay2,fW,Aba (by omega),Nat.mul_div_cancel_left _ (by omega)];simp
  rw[Wc,this,M0 k]
theorem xS:∀(k:Nat) {s:Nat},s<4294967296->Wc k s<4294967296
 |0,_,h=>h
 |k+1,_,h=>xS k (G2 h)
def uV(s c:Nat):Nat:=Wc 8 (s^^^c)
theorem xM{s c:Nat}(h:s<4294967296)(hc:c<256):uV s c<4294967296:=xS 8 (Avo (n:=32) (by simpa using h) (by simp;omega))
theorem vg{s c:Nat}(hc:c<256):uV s c=(s/256)^^^Wc 8 ((s %256)^^^c):=by
 have h:s=(2^8*(s/256))^^^ (s %256):=by
  have h1:s %256<2^8:=by simpa using Aw3 s (by omega:256>0)
  have:=Avw h1 (s/256);have h2:2^8*(s/256)|||s %256=(2^8*(s/256))^^^ (s %256):=by
   apply Nat.eq_of_testBit_eq;intro i;rw[Nat.testBit_or,Nat.testBit_xor];by_cases hi:i<8
   ·have:(2^8*(s/256)).testBit i=false:=by rw[Nat.testBit_two_pow_mul];simp;omega
    rw[this];simp
   ·have:(s %256).testBit i=false:=Nat.testBit_lt_two_pow (Aj4 h1 (Aeb (by omega) (by omega)));rw[this];simp
  omega
 rw[uV]
 conv=>lhs;rw[h]
 rw[Aw9,O0,M0]
def Ah1(s:Nat)(l:List UInt8):Nat:=l.foldl (λs c=>uV s c.toNat) s
def Da(b:List UInt8):UInt32:=4294967295-UInt32.ofNat (Ah1 4294967295 b)
theorem Ape(s:UInt32)(c:Nat)(hc:c<256):DP s (Ad (AR (UInt8.ofNat c) (2:UInt8)):Int)=some (UInt32.ofNat (s.toNat/2^^^ (if(s.toNat^^^c) %2=1 then 3988292384 else 0))):=by
 have h1:(Ad (AR (UInt8.ofNat c) (2:UInt8)):Int)=((c %2:Nat):Int):=by
  rw[NY,Aq7,UInt8.toNat_mod,An9];show((c %256 %2:Nat):Int)=_;omega
 have h2:geq (AR s (2:UInt32)) (1:UInt32)=decide (s.toNat %2=1):=by
  rw[T7,qb,An0];simp only[Axd,Ab2];rw[<-UInt32.toNat_inj,UInt32.toNat_mod];rfl
 have h3:Bz s (2:UInt32)=UInt32.ofNat (s.toNat/2):=by
  apply UInt32.toNat_inj.1;rw[qx,UInt32.toNat_div,Ajz]
  show s.toNat/2=_;have:=s.toNat_lt;omega
 have h4:Rk (Bz s (2:UInt32)) (3988292384:UInt32)=UInt32.ofNat (s.toNat/2^^^3988292384):=by
  apply UInt32.toNat_inj.1;rw[h3,WJ,Azp,Ajz,Ajz];have:=s.toNat_lt;rw[Abk (a:=s.toNat/2) (by omega),Abk]
  ·rfl
  ·exact Avo (n:=32) (by omega) (by decide)
 have hx:(s.toNat^^^c) %2=(s.toNat %2+c %2) %2:=by
  have:=Nat.xor_mod_two_eq_one (a:=s.toNat) (b:=c);have h1:(s.toNat^^^c) %2<2:=Aw3 _ (by omega);omega
 have hs:s.toNat %2=0\/s.toNat %2=1:=by omega
 have hc2:c %2=0\/c %2=1:=by omega
 rw[DP,IB,h1,h2,hx];rcases hs with hs|hs<;>rcases hc2 with hc2|hc2<;>simp[hs,hc2,Bc,IP,JO,WJ,h3]
theorem uL:∀(j i q:Nat) (s:UInt32) (c:Nat),i+j=8->j<q->c<2^j->Jl q s (UInt8.ofNat c) (i:Int)=some (UInt32.ofNat (Wc j (s.toNat^^^c)))
 |0,i,q+1,s,c,hi,_,hc=>by
  obtain rfl:i=8:=by omega
  obtain rfl:c=0:=by simpa using hc
  rw[Jl,Va,Aba (by rw[Af];simp),KS,KB,Wc];simp
 |j+1,i,q+1,s,c,hi,hq,hc=>by
  have hc8:c<256:=Aj4 hc (show 2^(j+1)<=2^8 from Aeb (by omega) (by omega));rw[Jl,Va,Abb (by rw[Af];simp;omega),Ape s c hc8,Aa,Ag];have e:Bz (UInt8.ofNat c) (2:UInt8)=UInt8.ofNat (c/2):=by
   apply UInt8.toNat_inj.1;rw[Aqt,UInt8.toNat_div,An9,An9]
   show c %256/2=_;omega
  rw[e];have h:=uL j (i+1) q (UInt32.ofNat (s.toNat/2^^^ (if(s.toNat^^^c) %2=1 then 3988292384 else 0))) (c/2) (by omega) (by omega) (by rw[Atw]at hc;omega);rw[show((i:Int)+1)=((i+1:Nat):Int) by omega,h,Ajz,Wc];congr 3;have:=s.toNat_lt;rw[Abk,fW,wo,Aw9,Aw9,Az2 (c/2)];exact Avo (n:=32) (by omega) (by split<;>decide)
theorem Aqp(s:UInt32)(c:UInt8):TQ s c=some (UInt32.ofNat (uV s.toNat c.toNat)):=by
 have h:=uL 8 0 Ar s c.toNat (by omega) (by have:=Am;omega) (by simpa using c.toNat_lt);rw[UInt8.ofNat_toNat]at h;exact h
theorem lW(b:List UInt8)(hb:b.length<4611686018427387904):∀(j i q:Nat) (s:UInt32),i+j=b.length->j<q->Hn b q s (i:Int)=some (UInt32.ofNat (Ah1 s.toNat (b.drop i)))
 |0,i,q+1,s,hi,_=>by
  rw[Hn,Qt,Aba (by rw[Af,Ac];simp;omega),show i=b.length by omega,Axw];simp[EI,CT,Ah1]
 |j+1,i,q+1,s,hi,hq=>by
  have hlt:i<b.length:=by omega
  rw[Hn,Qt,Abb (by rw[Af,Ac];simp;omega),Ck hlt,Aa,Aqp,Aa,Ag];have h:=lW b hb j (i+1) q (UInt32.ofNat (uV s.toNat b[i].toNat)) (by omega) (by omega);rw[show((i:Int)+1)=((i+1:Nat):Int) by omega,h,drop_cons hlt,Ajz,Abk (xM s.toNat_lt b[i].toNat_lt)];rfl
theorem Akn(b:List UInt8)(hb:b.length<4611686018427387904):Rw b=some (Da b):=by
 have h:=lW b hb b.length 0 Ar 4294967295 (by omega) (by have:=Am;omega);rw[Rw,MI,CI,DH,show((0:Int))=((0:Nat):Int)from rfl,h,Aa,xY];rfl
theorem Aq8(c:UInt32):Rk (Bt c (GI.toZ (1:UInt64)).toNat) (Bd (3988292384:UInt32) (Di c (1:UInt32)))=UInt32.ofNat (fW c.toNat):=by
 apply UInt32.toNat_inj.1;have e:(GI.toZ (1:UInt64)).toNat=1:=rfl;have h1:(Bt c 1).toNat=c.toNat/2:=by rw[IJ]
 have h2:(Bd (3988292384:UInt32) (Di c (1:UInt32))).toNat=if c.toNat %2=1 then 3988292384 else 0:=by
  rw[Ane,zA,UInt32.toNat_mul,UInt32.toNat_and]
  show 3988292384*(c.toNat&&&1) %4294967296=_;rw[Nat.and_one_is_mod];have:c.toNat %2=0\/c.toNat %2=1:=by omega
  rcases this with h|h<;>simp[h]
 rw[e,WJ,Azp,h1,h2,Ajz,Abk (G2 c.toNat_lt)];rfl
theorem ny(Lk:Int->List UInt32->Option (UInt32×Int))(s:UInt32)(b:List UInt8)(x:Int)(t:List UInt32):∀(j i q:Nat) (c:UInt32),i+j=8->j<q->
  Pg Lk s b x t q c (i:Int)=CG Lk s b x (UInt32.ofNat (Wc j c.toNat)) t
 |0,i,q+1,c,hi,_=>by
  obtain rfl:i=8:=by omega
  rw[Pg,BP,Aba (by rw[Af];simp),Wc,UInt32.ofNat_toNat]
 |j+1,i,q+1,c,hi,hq=>by
  rw[Pg,BP,Abb (by rw[Af];simp;omega),Aq8,Ag,show((i:Int)+1)=((i+1:Nat):Int) by omega,ny Lk s b x t j (i+1) q _ (by omega) (by omega),Ajz,Abk (G2 c.toNat_lt)];rfl
def tbl(n:Nat):List UInt32:=(List.range n).map λi=>UInt32.ofNat (Wc 8 i)
theorem Ags(s:UInt32)(b:List UInt8):∀(j i q:Nat),i+j=256->j<q->Lr s b q (i:Int) (tbl i++List.replicate j 0)=CO s b (tbl 256)
 |0,i,q+1,hi,_=>by
  obtain rfl:i=256:=by omega
  rw[Lr,DV,Aba (by rw[Af];simp)];simp
 |j+1,i,q+1,hi,hq=>by
  have hlen:(tbl i++List.replicate (j+1) 0).length=i+(j+1):=by simp[tbl]
  rw[Lr,DV,Abb (by rw[Af];simp;omega),OI];have h:=ny (Lr s b q) s b (i:Int) (tbl i++List.replicate (j+1) 0) 8 0 Ar (Ad (i:Int)) (by omega) (by have:=Am;omega);rw[show((0:Int))=((0:Nat):Int)from rfl,h,CG,QC,Ck (by rw[hlen];omega),Aa,Rg _ (by rw[hlen];omega),Aa,RN,eW,Ag];have e:(Ad (i:Int):UInt32).toNat=i:=by rw[P9,Ajz,Abk (by omega)]
  rw[e,Avq,YN (by simp[tbl])];have h2:=Ags s b j (i+1) q (by omega) (by omega);have h3:tbl (i+1)=tbl i++[UInt32.ofNat (Wc 8 i)]:=by simp[tbl,List.range_succ]
  rw[h3]at h2;rw[show((i:Int)+1)=((i+1:Nat):Int) by omega,<-h2];simp
theorem Apz{i:Nat}(h:i<256):Aj (tbl 256) (i:Int)=some (UInt32.ofNat (Wc 8 i)):=by
 rw[Ck (by simpa [tbl]using h)];simp[tbl]
theorem Anv(s:UInt32)(c:UInt8):Aj (tbl 256) (GI.toZ (Rk (Ad s:UInt8) c))=some (UInt32.ofNat (Wc 8 ((s.toNat %256)^^^c.toNat))):=by
 have e:GI.toZ (Rk (Ad s:UInt8) c)=(((s.toNat %256)^^^c.toNat:Nat):Int):=by
  rw[Zh,Aes,UInt8.toNat_xor,nM,An9]
 rw[e,Apz];exact Avo (n:=8) (by simp;omega) (by simpa using c.toNat_lt)
theorem Aik(s:UInt32)(c:UInt8):Rk (Bt s (GI.toZ (8:UInt64)).toNat) (UInt32.ofNat (Wc 8 ((s.toNat %256)^^^c.toNat)))=UInt32.ofNat (uV s.toNat c.toNat):=by
 apply UInt32.toNat_inj.1;have hlt:Wc 8 ((s.toNat %256)^^^c.toNat)<4294967296:=xS 8 (Avo (n:=32) (by simp;omega) (by have:=c.toNat_lt;simp;omega));have e:(GI.toZ (8:UInt64)).toNat=8:=rfl;rw[e,WJ,Azp,IJ,Ajz,Ajz,Abk hlt,Abk (xM s.toNat_lt c.toNat_lt),vg c.toNat_lt]
theorem Aaf(b:List UInt8)(hb:b.length<4611686018427387904):∀(j i q:Nat) (s:UInt32),i+j=b.length->j<q->Ps b (tbl 256) q s (i:Int)=some (UInt32.ofNat (Ah1 s.toNat (b.drop i)),0)
 |0,i,q+1,s,hi,_=>by
  rw[Ps,DT,Aba (by rw[Af,Ac];simp;omega),show i=b.length by omega,Axw];simp[PB,fM,Ah1]
 |j+1,i,q+1,s,hi,hq=>by
  have hlt:i<b.length:=by omega
  rw[Ps,DT,Abb (by rw[Af,Ac];simp;omega),Ck hlt,Aa,Anv,Aa,Aa,Aik,Ag];have h:=Aaf b hb j (i+1) q (UInt32.ofNat (uV s.toNat b[i].toNat)) (by omega) (by omega);rw[show((i:Int)+1)=((i+1:Nat):Int) by omega,h,drop_cons hlt,Ajz,Abk (xM s.toNat_lt b[i].toNat_lt)];rfl
theorem Ao8(s:UInt32)(b:List UInt8)(hb:b.length<=100000):bF s b=some (UInt32.ofNat (Ah1 s.toNat b),0):=by
 have h:=Ags s b 256 0 Ar (by omega) (by have:=Am;omega);have h2:=Aaf b (by omega) b.length 0 Ar s (by omega) (by have:=Am;omega);rw[bF,UU,Aba (by rw[Al,Ac];simp;omega),OY];refine Awn h ?_;rw[CO,PF,PH,PQ,QE];exact h2
theorem Ald(a:UInt32):C4 a=4294967295-a:=by
 have h:=a.toNat_lt;have e:C4 a=UInt32.ofNat (BitVec.ofInt 32 4294967295^^^BitVec.ofInt 32 (a.toNat:Int)).toNat:=Ej _;apply UInt32.toNat_inj.1;rw[e,Ajz,UInt32.toNat_sub_of_le _ _ (by rw[UInt32.le_iff_toNat_le];show a.toNat<=4294967295;omega)];have h1:BitVec.ofInt 32 (a.toNat:Int)=a.toBitVec:=Z5 a;have h2:(BitVec.ofInt 32 4294967295:BitVec 32)=BitVec.allOnes 32:=by decide
 rw[h1,h2,BitVec.allOnes_xor,BitVec.toNat_not];show(4294967296-1-a.toNat) %4294967296=4294967295-a.toNat;omega
theorem sR(b:List UInt8)(hb:b.length<=100000):Vo b=some (Da b,0):=by
 rw[Vo,Ao8 _ _ hb,Aa];simp only[Ak,Ald];rfl
theorem Aeh:∀{l m:List UInt8},l.length=m.length->Ek l=Ek m->l=m
 |[],[],_,_=>rfl
 |x::l,y::m,h,e=>by
  simp only[Ek]at e;have hx:=x.toNat_lt;have hy:=y.toNat_lt;have h1:x=y:=UInt8.toNat_inj.1 (by omega);rw[h1,Aeh (l:=l) (m:=m) (by simpa using h) (by omega)]
theorem Yc:∀(w n:Nat),Ek (On n w)=n %256^w
 |0,n=>by simp[On,Ek,Nat.mod_one]
 |w+1,n=>by
  rw[On,Ek,Yc w (n/256),An9,show(256:Nat)^(w+1)=256*256^w by rw[Atw,Aoi],Nat.mod_mul]
def Wb(b:List UInt8):Int:=
 if b.length<5 then 24 else if 41254<b.length then 4 else if(Da (b.take (b.length-4))).toNat≠Ek (b.drop (b.length-4))then 22 else 0
theorem zx(b:List UInt8):CW b=some (if Wb b≠0 then([],Wb b)else(b.take (b.length-4),0)):=by
 rw[CW];by_cases h1:b.length<5
 ·have hS:Wb b=24:=by rw[Wb,Abb h1]
  rw[Abb (by rw[Af,Ac];simp;omega),hS];rfl
 rw[Aba (by rw[Af,Ac];simp;omega)];by_cases h2:41254<b.length
 ·have hS:Wb b=4:=by rw[Wb,Aba h1,Abb h2]
  rw[Abb (by rw[Al,Ac];simp;omega),hS];rfl
 have e4:Ah (Ac b) 4=((b.length-4:Nat):Int):=by rw[Ac,Bg];omega
 have hd:(b.drop (b.length-4)).length=4:=by simp;omega
 rw[Aba (by rw[Al,Ac];simp;omega),e4,If,Aa,show((b.length-4:Nat):Int).toNat=b.length-4 from rfl,sR _ (by simp;omega),Aa];simp only;rw[Aba (by rw[Ak];simp),Fw,Aa,show((b.length-4:Nat):Int).toNat=b.length-4 from rfl,Aas _ (by omega) (by omega),Aa];have hne:Bm (lX (b.drop (b.length-4))) (Ad (Da (b.take (b.length-4))):UInt64)=decide ((Da (b.take (b.length-4))).toNat≠Ek (b.drop (b.length-4))):=by
  have hlt:=(Da (b.take (b.length-4))).toNat_lt;rw[NH,An0];simp only[Az1,ne_eq,<-Ay7,Ab2];rw[TX (by omega),Cn,Ajt,Abk (by omega)];exact⟨λh e=>h e.symm,λh e=>h e.symm⟩
 simp only;rw[hne,Aa];by_cases h3:(Da (b.take (b.length-4))).toNat≠Ek (b.drop (b.length-4))
 ·have hS:Wb b=22:=by rw[Wb,Aba h1,Aba h2,Abb h3]
  rw[Abb (by simp[h3]),hS];rfl
 ·have hS:Wb b=0:=by rw[Wb,Aba h1,Aba h2,Aba h3]
  rw[Aba (by rw[Ay4 h3];decide),hS];rfl
theorem Aiu(b:List UInt8)(hb:b.length<=1000000):Wl b=some (b++On (Da b).toNat 4):=by
 have h:∀k:Nat,(Ad (Bt (Da b) k):UInt8)=UInt8.ofNat ((Da b).toNat/2^k):=by
  intro k;rw[nM,IJ]
 have h0:(Ad (Da b):UInt8)=UInt8.ofNat (Da b).toNat:=nM _;have h1:=h 8;have h2:=h 16;have h3:=h 24;rw[Wl,Akn b (by omega),Aa,Cx (by simp;omega),Aa,Cx (by simp;omega),Aa,h0,show(GI.toZ (8:UInt64)).toNat=8 from rfl,show(GI.toZ (16:UInt64)).toNat=16 from rfl,show(GI.toZ (24:UInt64)).toNat=24 from rfl,h1,h2,h3];simp only[On,Axk,Avj]
theorem yN(b:List UInt8):Oq b=some (Wb b):=by
 rw[Oq];by_cases h1:b.length<5
 ·rw[Abb (by rw[Af,Ac];simp;omega),Wb,Abb h1]
 rw[Aba (by rw[Af,Ac];simp;omega)];by_cases h2:41254<b.length
 ·rw[Abb (by rw[Al,Ac];simp;omega),Wb,Aba h1,Abb h2]
 have e4:Ah (Ac b) 4=((b.length-4:Nat):Int):=by rw[Ac,Bg];omega
 have hd:(b.drop (b.length-4)).length=4:=by simp;omega
 rw[Aba (by rw[Al,Ac];simp;omega),e4,If,Aa,show((b.length-4:Nat):Int).toNat=b.length-4 from rfl,Aiu _ (by simp;omega),Aa];have hlt:=(Da (b.take (b.length-4))).toNat_lt;have hiff:(b.take (b.length-4)++On (Da (b.take (b.length-4))).toNat 4 !=b)=decide ((Da (b.take (b.length-4))).toNat≠Ek (b.drop (b.length-4))):=by
  rw[An0];simp only[Az1,ne_eq,Ab2];constructor
  ·intro h e;apply h;have:On (Da (b.take (b.length-4))).toNat 4=b.drop (b.length-4):=Aeh (by rw[Bn,hd]) (by rw[Yc,Abk (by omega),e]);rw[this,Awu]
  ·intro h e;apply h;have hx:On (Da (b.take (b.length-4))).toNat 4=b.drop (b.length-4):=by
    have e2:b.take (b.length-4)++On (Da (b.take (b.length-4))).toNat 4=b.take (b.length-4)++b.drop (b.length-4):=by rw[e,Awu]
    exact List.append_cancel_left e2
   rw[<-hx,Yc,Abk (by omega)]
 rw[hiff];by_cases h3:(Da (b.take (b.length-4))).toNat≠Ek (b.drop (b.length-4))
 ·rw[Abb (by simp[h3]),Wb,Aba h1,Aba h2,Abb h3]
 ·rw[Aba (by rw[Ay4 h3];decide),Wb,Aba h1,Aba h2,Aba h3]
theorem Ani{b:List UInt8}(h:Wb b=0):5<=b.length/\b.length<=41254:=by
 unfold Wb at h;split at h
 ·simp at h
 ·split at h
  ·simp at h
  ·omega
theorem R5{c:Nat}(h1:1<=c)(h6:c<=6):Bz (4000:Int) (c:Int)=((4000/c:Nat):Int):=by
 have:c=1\/c=2\/c=3\/c=4\/c=5\/c=6:=by omega
 rcases this with rfl|rfl|rfl|rfl|rfl|rfl<;>rfl
theorem Aot(p:List UInt8)(h:p.length<=41250):okB p (8*p.length):=⟨by omega,by omega,λk h1 h2=>by omega⟩
theorem uO{bits:Int}{ch n:Nat}{t:List Int32}(b:List UInt8)(hb:Cf bits)(ht:t.length=16)(h1:1<=ch)(h6:ch<=6)(n1:1<=n)(n2:n<=4000/ch):
  ∃l e,Lm (ch:Int) bits t (n:Int) b=some (l,e)/\Dm (ch:Int) bits t (n:Int) b=some (l,e)/\ (e=0->Ao bits l=some 0/\l.length<=4000/\l.length=n*ch)/\ (e≠0->l=[]):=by
 have hn:n*ch<=4000:=by
  have:=Ab4 ch n2;have h2:=Axb 4000 ch;omega
 have hq4:=R5 h1 h6;generalize 4000/ch=mm at*
 have hck:Fp (ch:Int) bits=some 0:=by
  have hr:∃x y,Qm bits=some (x,y,0):=⟨_,_,T6 hb⟩;obtain⟨x,y,hr⟩:=hr;rw[Fp,hr,Aa];simp only;rw[Aba (by simp[Ak,Af,Al];omega)]
 have hh:=UM bits;have Aec:Dy (ch:Int) bits (n:Int)=some 0:=by
  rw[Dy,Cq,Aba (by simp[Af,Al];omega),WV hb,Aa,Aba (by rw[Bc];simp;omega),Aa,Aba (by simp[Ak,Af];omega),Be (by rw[Ak];simp;omega),Aa,hq4,Aba (by rw[Al];simp;omega)]
 rw[Lm,Dm,Rs,hck,Aec,Aa,Aa,Aba (by rw[Ak];simp),Aba (by rw[Af];simp;omega),Be (by rw[Ak];simp;omega),Aa,hq4,Aba (by rw[Al];simp;omega),Aba (by rw[Ak];simp),zx,yN];by_cases hs:Wb b≠0
 ·rw[Abb hs];simp only[Aa];rw[Abb (by rw[Ak];simpa using hs),Abb (by rw[Ak];simpa using hs)];exact⟨[],Wb b,rfl,rfl,λe=>absurd e hs,λ_=>rfl⟩
 have hs0:Wb b=0:=by simpa using hs
 have hlen:=Ani hs0;have e4:Ah (Ac b) 4=((b.length-4:Nat):Int):=by rw[Ac,Bg];omega
 rw[Aba hs,hs0];simp only[Aa];rw[Aba (by rw[Ak];simp),Aba (by rw[Ak];simp),e4,If,Aa,show((b.length-4:Nat):Int).toNat=b.length-4 from rfl];have hpl:(b.take (b.length-4)).length=b.length-4:=by simp
 generalize b.take (b.length-4)=p at*
 have e8:Bd (8:Int) (Ac p)=((8*p.length:Nat):Int):=by rw[Ac,Gt];omega
 have hp:=Aot p (by omega);have hv:=values_eq hp h1 h6 hn;have hr:=Afk (N:=8*p.length) (p:=p) rfl (by omega) h1 h6 hn;have hat:=S2 (ch:=ch) (p:=p) (N:=8*p.length) (n*ch) 0 [] (by omega);rw[Z7,Aba (by rw[Al,Ac];simp;omega),Eb,Cx (by simp;omega),Aa,Aa,Aa,Avj,e8];simp only;rw[Aba (by rw[Ak];simp),hv,hr,Aa,Aa];generalize Vz ch p (8*p.length) (n*ch) 0 []=V at*
 obtain⟨v,at',e⟩:=V;simp only at*
 by_cases he:e≠0
 ·rw[Abb he,Abb he];simp only;rw[Abb (by rw[Ak];simpa using he),Ky,Lc,Abb (by rw[Ak];simpa using he)];exact⟨[],e,rfl,rfl,λh=>absurd h he,λ_=>rfl⟩
 have he0:e=0:=by simpa using he
 have hvl:=hat.2.2 he0;simp only[List.length_nil,Au1]at hvl;rw[Aba he,Aba he];simp only;rw[Aba (by rw[Ak];simp),Bg,show((8*p.length:Nat):Int)-(at':Int)=((8*p.length-at':Nat):Int) by omega,Ky,Lc];by_cases h7:7<8*p.length-at'
 ·have hE:(if 7<8*p.length-at'\/Bj p at' (8*p.length-at')≠0 then(12:Int)else 0)=12:=Abb (.inl h7);rw[Abb (by rw[Dc];simp;omega),hE,Abb (by decide)];exact⟨[],12,rfl,rfl,λh=>absurd h (by decide),λ_=>rfl⟩
 rw[Aba (by rw[Dc];simp;omega),tS hp at' _ (by omega),Aba (by omega),Aa];have hz:Bm (Ms p at' (8*p.length-at')) (0:UInt64)=decide (Bj p at' (8*p.length-at')≠0):=by
  rw[NH,An0];simp only[Az1,ne_eq,<-Ay7,Ab2];rw[Vh p _ _ (by omega)];rfl
 simp only;rw[hz];by_cases hv0:Bj p at' (8*p.length-at')≠0
 ·have hE:(if 7<8*p.length-at'\/Bj p at' (8*p.length-at')≠0 then(12:Int)else 0)=12:=Abb (.inr hv0);rw[Abb (by simp[hv0]),hE,Abb (by decide)];exact⟨[],12,rfl,rfl,λh=>absurd h (by decide),λ_=>rfl⟩
 have hm:v.length %ch=0:=by rw[hvl];exact Axv n ch
 obtain⟨l,e,g1,g2,g3,g4,g5⟩:=V9 (v:=v) hb ht h1 h6 (by omega) hm;have hE:(if 7<8*p.length-at'\/Bj p at' (8*p.length-at')≠0 then(12:Int)else 0)=0:=Aba (by omega);rw[Aba (by rw[Ay4 hv0];decide),hE,Aba (by decide),g1,g3,Aa,Aa,g2];by_cases hl:e≠0
 ·rw[Abb hl];exact⟨[],e,rfl,rfl,λh=>absurd h hl,λ_=>rfl⟩
 ·rw[Aba hl];have hl0:e=0:=by simpa using hl
  exact⟨l,0,rfl,rfl,λ_=>⟨by rw[g4,hl0],by omega,by omega⟩,λe=>absurd rfl e⟩
theorem Aks(a b:Int32):a-(a-b)=b:=by
 apply Int32.toBitVec_inj.1;simp only[Int32.toBitVec_sub];apply Ay5;simp only[BitVec.toNat_sub];have:=a.toBitVec.isLt;have:=b.toBitVec.isLt;omega
theorem TK(a b:Int32):a-b+b=a:=by
 apply Int32.toBitVec_inj.1;simp only[Int32.toBitVec_sub,Int32.toBitVec_add];apply Ay5;simp only[BitVec.toNat_sub,BitVec.toNat_add];have:=a.toBitVec.isLt;have:=b.toBitVec.isLt;omega
def mxV(f:Nat->Int32)(ch i:Nat):Int32:=if i+1<ch then f (i+1)-f i else if 1<ch then f (ch-1)-Bz (f (ch-1)-f (ch-2)) (2:Int32)else f (ch-1)
theorem Amc{f g:Nat->Int32}{ch:Nat}(h1:1<=ch)(h:∀i,i<ch->f i=mxV g ch i):∀j,j<ch->lg f ch j=g (ch-1-j)
 |0,_=>by
  rw[lg];by_cases h2:1<ch
  ·rw[Abb h2,h (ch-1) (by omega),h (ch-2) (by omega),mxV,mxV,Aba (by omega),Abb h2,Abb (by omega),show ch-2+1=ch-1 by omega,TK,Nat.sub_zero]
  ·rw[Aba h2,h (ch-1) (by omega),mxV,Aba (by omega),Aba h2,Nat.sub_zero]
 |j+1,hj=>by
  rw[lg,Amc h1 h j (by omega),h (ch-2-j) (by omega),mxV,Abb (by omega),show ch-2-j+1=ch-1-j by omega,Aks];congr 1;omega
def mx(ch:Nat)(x:List Int32):List Int32:=(List.range x.length).map λk=>mxV (λi=>x.getD (k-k %ch+i) 0) ch (k %ch)
theorem OW(ch:Nat)(x:List Int32):(mx ch x).length=x.length:=by simp[mx]
theorem Ak6{ch:Nat}{x:List Int32}{k:Nat}(h:k<x.length):(mx ch x).getD k 0=mxV (λi=>x.getD (k-k %ch+i) 0) ch (k %ch):=by
 rw[Hi (by rw[OW];exact h)];simp[mx]
theorem Auh{ch:Nat}{x:List Int32}(h1:1<=ch)(hm:x.length %ch=0):wE ch (mx ch x)=x:=by
 apply Au5 (by rw[aF,OW]);intro k hk1 hk2;have hr:=Aw3 k (show 0<ch by omega);have hle:=Nat.mod_le k ch;have ha:(k-k %ch) %ch=0:=Nat.mod_eq_zero_of_dvd (Nat.dvd_sub_mod k);have hb:=qE ha hm (by omega);have e:=qM (m:=mx ch x) ha hr (by rw[OW];omega);rw[show k-k %ch+k %ch=k by omega]at e;rw[<-Hi hk1,<-Hi hk2,e];rw[Amc (g:=λi=>x.getD (k-k %ch+i) 0) h1 (λi hi=>?_) (ch-1-k %ch) (by omega)]
 ·congr 1;omega
 ·rw[Ak6 (by omega)];have h2:(k-k %ch+i) %ch=i:=by rw[Nat.add_mod,ha,Au1,Nat.mod_mod,Abk hi]
  rw[h2,show k-k %ch+i-i=k-k %ch by omega]
def iJ(x:Int32):UInt32:=UInt32.ofNat (if 0<=x.toInt then 2*x.toInt.toNat else 2*(-x.toInt-1).toNat+1)
theorem Al5(x:Int32):OK (iJ x)=x:=by
 have h:=Wx x;have e:(iJ x).toNat=if 0<=x.toInt then 2*x.toInt.toNat else 2*(-x.toInt-1).toNat+1:=by
  rw[iJ,Ajz];split<;>exact Abk (by omega)
 rw[OK,e];by_cases h0:0<=x.toInt
 ·rw[Abb h0,Abb (by omega),show((2*x.toInt.toNat/2:Nat):Int)=x.toInt by omega,Au7]
 ·rw[Aba h0,Aba (by omega),show -(((2*(-x.toInt-1).toNat+1)/2:Nat):Int)-1=x.toInt by omega,Au7]
theorem L7{α:Type}(ch c:Nat)(f g:α->Nat->α)(a0:α):∀m:Nat,(∀i,i<m->∀a,f a i=g a i)->pre ch c f a0 m=pre ch c g a0 m
 |0,_=>rfl
 |m+1,h=>by
  rw[pre,pre,L7 ch c f g a0 m λi hi=>h i (by omega),h m (by omega)]
theorem Afu(bits:Int)(ch:Nat)(t:List Int32)(v w:List UInt32)(c i:Nat)(h:i<=v.length):cst bits ch t (v++w) c i=cst bits ch t v c i:=by
 unfold cst;apply L7;intro j hj a;have:(v++w).getD j 0=v.getD j 0:=by
  rw[List.getD_eq_getElem?_getD,List.getD_eq_getElem?_getD,List.getElem?_append_left (by omega)]
 rw[this]
def vQ(bits:Int)(s:CS)(x:Int32):Int32:=x-gs (shB bits) s.1-gF (sB bits) s.2.1 s.2.2
theorem M2(bits:Int)(s:CS)(x:Int32):nk bits s (vQ bits s x)=x:=by
 rw[nk,vQ,TK,TK]
def evl(bits:Int)(ch:Nat)(t m:List Int32):Nat->List UInt32
 |0=>[]
 |i+1=>evl bits ch t m i++[iJ (vQ bits (cst bits ch t (evl bits ch t m i) (i %ch) i) (m.getD i 0))]
theorem kO(bits:Int)(ch:Nat)(t m:List Int32):∀i,(evl bits ch t m i).length=i
 |0=>rfl
 |i+1=>by rw[evl,Aby,kO bits ch t m i];rfl
theorem dz(bits:Int)(ch:Nat)(t m:List Int32):∀(j i:Nat),∃w,evl bits ch t m (i+j)=evl bits ch t m i++w
 |0,i=>⟨[],by simp⟩
 |j+1,i=>by
  obtain⟨w,hw⟩:=dz bits ch t m j i;rw[<-Auz,evl,hw];exact⟨_,Adn _ _ _⟩
theorem Aos(bits:Int)(ch:Nat)(t m:List Int32):rK bits ch t (evl bits ch t m m.length)=m:=by
 have hl:=kO bits ch t m m.length;apply Au5 (by rw[aX,hl]);intro i h1 h2;rw[<-Hi h1,<-Hi h2,Z4 _ _ _ _ (by omega)];obtain⟨w,hw⟩:=dz bits ch t m (m.length-(i+1)) (i+1);rw[show i+1+(m.length-(i+1))=m.length by omega,evl,Adn]at hw;have hli:=kO bits ch t m i;rw[hw,Afu _ _ _ _ _ _ _ (by omega)];have hg:(evl bits ch t m i++([iJ (vQ bits (cst bits ch t (evl bits ch t m i) (i %ch) i) (m.getD i 0))]++w)).getD i 0=iJ (vQ bits (cst bits ch t (evl bits ch t m i) (i %ch) i) (m.getD i 0)):=by
  rw[List.getD_eq_getElem?_getD,List.getElem?_append_right (by omega),hli,Nat.sub_self];rfl
 rw[hg,Al5,M2]
def tb(l:List Bool)(k:Nat):Nat:=if l.getD k false=true then 1 else 0
theorem Aef(b:Bool)(l:List Bool):tb (b::l) 0=if b=true then 1 else 0:=rfl
theorem Ae9(b:Bool)(l:List Bool)(k:Nat):tb (b::l) (k+1)=tb l k:=by simp[tb]
theorem Afg{a b:List Bool}{k:Nat}(h:k<a.length):tb (a++b) k=tb a k:=by
 rw[tb,tb,List.getD_eq_getElem?_getD,List.getD_eq_getElem?_getD,List.getElem?_append_left h]
theorem T2(a b:List Bool)(k:Nat):tb (a++b) (a.length+k)=tb b k:=by
 rw[tb,tb,List.getD_eq_getElem?_getD,List.getD_eq_getElem?_getD,List.getElem?_append_right (by omega),Av7]
theorem Y2{l:List Bool}{k:Nat}(h:l.length<=k):tb l k=0:=by
 rw[tb,List.getD_eq_getElem?_getD,List.getElem?_eq_none h];rfl
def At(p:List UInt8)(a:Nat)(c:List Bool):Prop:=∀i,i<c.length->Fs p (a+i)=tb c i
theorem At.left{p:List UInt8}{a:Nat}{c d:List Bool}(h:At p a (c++d)):At p a c:=λi hi=>by
 rw[h i (by rw[Aby];omega),Afg hi]
theorem At.right{p:List UInt8}{a:Nat}{c d:List Bool}(h:At p a (c++d)):At p (a+c.length) d:=λi hi=>by
 rw[Auz,h (c.length+i) (by rw[Aby];omega),T2]
theorem At.cons{p:List UInt8}{a:Nat}{b:Bool}{c:List Bool}(h:At p a (b::c)):Fs p a=(if b=true then 1 else 0)/\At p (a+1) c:=by
 have h0:=h 0 (by simp);rw[Aw6,Aef]at h0;refine⟨h0,λi hi=>?_⟩;have:=h (i+1) (by simp;omega);rw[Ae9]at this;rw[show a+1+i=a+(i+1) by omega,this]
def bV:Nat->Nat->List Bool
 |_,0=>[]
 |v,n+1=>decide (v %2=1)::bV (v/2) n
theorem Pd:∀(v n:Nat),(bV v n).length=n
 |_,0=>rfl
 |v,n+1=>by rw[bV,Aj1,Pd (v/2) n]
theorem GG(p:List UInt8):∀(n a v:Nat),At p a (bV v n)->Bj p a n=v %2^n
 |0,a,v,_=>by rw[Bj,Nat.pow_zero,Nat.mod_one]
 |n+1,a,v,h=>by
  rw[bV]at h;obtain⟨h0,h1⟩:=h.cons;rw[Bj,h0,GG p n (a+1) (v/2) h1,Atw,Aoi (2^n) 2,Nat.mod_mul];have:=Nat.mod_two_eq_zero_or_one v;rcases this with e|e<;>simp[e]
theorem yD(p:List UInt8):∀(q m a:Nat) (c:List Bool),At p a (List.replicate q true++c)->q<=m->Fb p a m=q+Fb p (a+q) (m-q)
 |0,m,a,c,h,hm=>by simp
 |q+1,m,a,c,h,hm=>by
  rw[Avq,Axs]at h;obtain⟨h0,h1⟩:=h.cons;obtain⟨m,rfl⟩:∃k,m=k+1:=⟨m-1,by omega⟩;rw[Fb,Abb (by rw[h0];rfl),yD p q m (a+1) c h1 (by omega),show a+1+q=a+(q+1) by omega,show m+1-(q+1)=m-q by omega];omega
theorem Aov{p:List UInt8}{a m:Nat}(h:Fs p a=0):Fb p a m=0:=by
 cases m with
 |zero=>rfl
 |succ m=>rw[Fb,Aba (by omega)]
def PC(l v:Nat):List Bool:=if 48<=v/2^l then List.replicate 48 true++bV v 32 else List.replicate (v/2^l) true++(false::bV (v %2^l) l)
theorem Aix{l v:Nat}(hl:l<=24):1<= (PC l v).length/\ (PC l v).length<=80:=by
 rw[PC];generalize v/2^l=q;split
 ·rw[Aby,Ash,Pd];omega
 ·rw[Aby,Ash,Aj1,Pd];omega
theorem Ag7{p:List UInt8}{N a l v:Nat}(hl:l<=24)(hv:v<2^32)(h:At p a (PC l v))(hN:a+(PC l v).length<=N):SJ p N a l=(UInt32.ofNat v,((a+(PC l v).length:Nat):Int),0):=by
 rw[PC]at h hN⊢;by_cases h48:48<=v/2^l
 ·rw[Abb h48]at h hN⊢;rw[Aby,Ash,Pd]at hN⊢;have hm:min 48 (N-a)=48:=by omega
  have ho:=yD p 48 48 a (bV v 32) h (Aj0 _);rw[Nat.sub_self,Fb,Aw6]at ho;have hr:=h.right;rw[Ash]at hr;have hval:=GG p 32 (a+48) v hr;rw[Abk hv]at hval;rw[SJ,Aba (by omega),hm,ho,Aba (by omega),Abb rfl,Aba (by omega),hval,Aba (by omega)]
 ·rw[Aba h48]at h hN⊢;rw[Aby,Ash,Aj1,Pd]at hN⊢;generalize hq:v/2^l=q at*
  have hr:=h.right;rw[Ash]at hr;obtain⟨h0,h1⟩:=hr.cons;have hm:q<min 48 (N-a):=by omega
  have ho:=yD p q (min 48 (N-a)) a _ h (by omega);rw[Aov (a:=a+q) (m:=min 48 (N-a)-q) (by rw[h0];rfl),Aw6]at ho;have hval:=GG p l (a+q+1) (v %2^l) h1;rw[Nat.mod_mod]at hval;have hdm:=Azc v (2^l);rw[hq,Aoi]at hdm;rw[SJ,Aba (by omega),ho,Abb hm,Aba (by omega),hval,hdm,show a+q+1+l=a+(q+(l+1)) by omega]
def Ok(k l:Nat)(v:UInt32):List Bool:=if v.toNat<2^k then false::bV v.toNat k else true::PC l (v.toNat-2^k)
theorem WE{k l:Nat}(v:UInt32)(hk:k<=24)(hl:l<=24):1<= (Ok k l v).length/\ (Ok k l v).length<=81:=by
 have:=Aix (v:=v.toNat-2^k) hl;rw[Ok];split
 ·rw[Aj1,Pd];omega
 ·rw[Aj1];omega
theorem Ai5{p:List UInt8}{N a k l:Nat}{v:UInt32}(hk:k<=24)(hl:l<=24)(h:At p a (Ok k l v))(hN:a+(Ok k l v).length<=N):YJ p N a k l=(v,((a+(Ok k l v).length:Nat):Int),0):=by
 have Bbg:=v.toNat_lt;have hof:UInt32.ofNat v.toNat=v:=by simp
 rw[Ok]at h hN⊢;by_cases hs:v.toNat<2^k
 ·rw[Abb hs]at h hN⊢;rw[Aj1,Pd]at hN⊢;obtain⟨h0,h1⟩:=h.cons;have hval:=GG p k (a+1) v.toNat h1;rw[Abk hs]at hval;rw[YJ,Aba (by omega),Abb (by rw[h0];rfl),Aba (by omega),hval,hof,show a+1+k=a+(k+1) by omega]
 ·rw[Aba hs]at h hN⊢;rw[Aj1]at hN⊢;obtain⟨h0,h1⟩:=h.cons;have hsub:=Nat.sub_le v.toNat (2^k);have hr:=Ag7 hl (by omega:v.toNat-2^k<2^32) h1 (by omega:a+1+_<=N);have ht:(UInt32.ofNat (v.toNat-2^k)).toNat=v.toNat-2^k:=by rw[Ajz];exact Abk (by omega)
  rw[YJ,Aba (by omega),Aba (by rw[h0];decide),hr];simp only;rw[Aba (by decide),ht,Aba (by omega),show v.toNat-2^k+2^k=v.toNat by omega,hof,show a+1+(PC l (v.toNat-2^k)).length=a+((PC l (v.toNat-2^k)).length+1) by omega]
def bv:List Bool->Nat
 |[]=>0
 |b::r=>(if b=true then 1 else 0)+2*bv r
theorem Ass:∀l:List Bool,bv l<2^l.length
 |[]=>by decide
 |b::r=>by
  have:=Ass r;rw[bv,Aj1,Atw];split<;>omega
theorem Ame:∀(l:List Bool) (k:Nat),bv l/2^k %2=tb l k
 |[],k=>by simp[bv,tb]
 |b::r,0=>by
  rw[bv,Aef,Nat.pow_zero,Nat.div_one];split<;>omega
 |b::r,k+1=>by
  have:((if b=true then 1 else 0)+2*bv r)/2=bv r:=by split<;>omega
  rw[bv,Ae9,Atw,Aoi (2^k) 2,<-Axk,this,Ame r k]
def Jh(c:List Bool):List UInt8:=(List.range ((c.length+7)/8)).map λj=>UInt8.ofNat (bv ((c.drop (8*j)).take 8))
theorem Vn(c:List Bool):(Jh c).length=(c.length+7)/8:=by simp[Jh]
theorem Zt(c:List Bool)(i:Nat):Fs (Jh c) i=tb c i:=by
 rw[Fs];by_cases h:i/8<(c.length+7)/8
 ·have hg:(Jh c).getD (i/8) 0=UInt8.ofNat (bv ((c.drop (8*(i/8))).take 8)):=by
   rw[List.getD_eq_getElem?_getD,List.getElem?_eq_getElem (by rw[Vn];exact h)];simp[Jh]
  have hlt:=Ass ((c.drop (8*(i/8))).take 8);have hl8:((c.drop (8*(i/8))).take 8).length<=8:=by rw[Afw];omega
  have hp:=Aeb (show 0<2 by omega) hl8;have hn:(UInt8.ofNat (bv ((c.drop (8*(i/8))).take 8))).toNat=bv ((c.drop (8*(i/8))).take 8):=by
   rw[An9];exact Abk (by omega)
  rw[hg,hn,Ame,tb,tb];have:((c.drop (8*(i/8))).take 8).getD (i %8) false=c.getD i false:=by
   rw[List.getD_eq_getElem?_getD,List.getD_eq_getElem?_getD,List.getElem?_take,Abb (by omega),List.getElem?_drop,show 8*(i/8)+i %8=i by omega]
  rw[this]
 ·have hg:(Jh c).getD (i/8) 0=0:=by
   rw[List.getD_eq_getElem?_getD,List.getElem?_eq_none (by rw[Vn];omega)];rfl
  rw[hg,Y2 (by omega)];simp
def Oc(ch:Nat)(V:List UInt32):Nat->List Bool
 |0=>[]
 |i+1=>Oc ch V i++Ok (now ch (V.take i)).1 (now ch (V.take i)).2.1 (V.getD i 0)
theorem R7(ch:Nat)(v:List UInt32):(now ch v).1<=24/\ (now ch v).2.1<=24:=by
 have:=gH ch v (v.length %ch) v.length;exact⟨this.1,this.2.1⟩
theorem xk(ch:Nat)(V:List UInt32):∀(j i:Nat),∃w,Oc ch V (i+j)=Oc ch V i++w
 |0,i=>⟨[],by simp⟩
 |j+1,i=>by
  obtain⟨w,hw⟩:=xk ch V j i;rw[<-Auz,Oc,hw];exact⟨_,Adn _ _ _⟩
theorem eK(ch:Nat)(V:List UInt32):∀i,(Oc ch V i).length<=81*i
 |0=>by simp[Oc]
 |i+1=>by
  have h:=R7 ch (V.take i);have:=WE (V.getD i 0) h.1 h.2;rw[Oc,Aby];have:=eK ch V i;omega
theorem P7(ch:Nat)(V:List UInt32)(N:Nat)(hN:(Oc ch V V.length).length<=N):∀(j i:Nat),i+j=V.length->Vz ch (Jh (Oc ch V V.length)) N j (Oc ch V i).length (V.take i)=(V,(Oc ch V V.length).length,0)
 |0,i,h=>by
  obtain rfl:i=V.length:=by omega
  rw[Vz,Axc]
 |j+1,i,h=>by
  obtain⟨w,hw⟩:=xk ch V j (i+1);rw[show i+1+j=V.length by omega]at hw;have hk:=R7 ch (V.take i);have hcl:=WE (V.getD i 0) hk.1 hk.2;have hAt:At (Jh (Oc ch V V.length)) (Oc ch V i).length (Ok (now ch (V.take i)).1 (now ch (V.take i)).2.1 (V.getD i 0)):=by
   intro m hm;rw[Zt,hw,Oc,Adn,T2,Afg hm]
  have hlen:(Oc ch V i).length+(Ok (now ch (V.take i)).1 (now ch (V.take i)).2.1 (V.getD i 0)).length<= (Oc ch V V.length).length:=by
   rw[hw,Oc,Aby,Aby];omega
  have ih:=P7 ch V N hN j (i+1) (by omega);rw[Oc,Aby]at ih;generalize Jh (Oc ch V V.length)=p at*
  generalize(Oc ch V i).length=a at*
  have hw2:(Ok (now ch (V.take i)).1 (now ch (V.take i)).2.1 (V.getD i 0)).length<=rN N a:=by unfold rN;omega
  have hAt2:At (Nh p a (rN N a)) 0 (Ok (now ch (V.take i)).1 (now ch (V.take i)).2.1 (V.getD i 0)):=by
   intro m hm;rw[Au1,oK,Abb (by omega),hAt m hm]
  have hb:=Ai5 hk.1 hk.2 hAt2 (by omega:0+_<=rN N a);have hcode:Ka ch p N a (V.take i)=(V.getD i 0,((0+(Ok (now ch (V.take i)).1 (now ch (V.take i)).2.1 (V.getD i 0)).length:Nat):Int),0):=hb;rw[Vz,hcode];simp only;rw[Aba (by decide),Au1,Aiq];have ht:V.take i++[V.getD i 0]=V.take (i+1):=by
   have hg:V.getD i 0=V[i]:=by rw[List.getD_eq_getElem?_getD,List.getElem?_eq_getElem (by omega)];rfl
   rw[hg,Nf (by omega)]
  rw[ht];exact ih
def P64:Nat:=4823603603198064275
def LW(s:Nat):Nat:=(2*s %18446744073709551616)^^^ (s/9223372036854775808*P64)
theorem YB{s:Nat}(h:s<18446744073709551616):LW s<18446744073709551616:=by
 have h1:s/9223372036854775808=0\/s/9223372036854775808=1:=by omega
 exact Avo (n:=64) (Aw3 _ (by decide)) (by rcases h1 with e|e<;>rw[e]<;>decide)
theorem Agv(x y:Nat):(x^^^y)/9223372036854775808=(x/9223372036854775808)^^^ (y/9223372036854775808):=by
 have:=Nat.shiftRight_xor_distrib (a:=x) (b:=y) (i:=63);simpa [Nat.shiftRight_eq_div_pow]using this
theorem Afp(x y:Nat):2*(x^^^y) %18446744073709551616=(2*x %18446744073709551616)^^^ (2*y %18446744073709551616):=by
 have h1:=Nat.shiftLeft_xor_distrib (a:=x) (b:=y) (i:=1);have h2:=Nat.xor_mod_two_pow (a:=2*x) (b:=2*y) (n:=64);have e:2*(x^^^y)=(2*x)^^^ (2*y):=by simpa [Nat.shiftLeft_eq,Aoi]using h1
 rw[e];exact h2
theorem Ap8{a b:Nat}(ha:a=0\/a=1)(hb:b=0\/b=1)(p:Nat):(a^^^b)*p=(a*p)^^^ (b*p):=by
 rcases ha with rfl|rfl<;>rcases hb with rfl|rfl<;>simp
theorem Axp(a b c d:Nat):(a^^^b)^^^ (c^^^d)=(a^^^c)^^^ (b^^^d):=by
 rw[Aw9,Aw9,<-Aw9 b c d,Az2 b c,Aw9 c b d]
theorem Acx{x y:Nat}(hx:x<18446744073709551616)(hy:y<18446744073709551616):LW (x^^^y)=LW x^^^LW y:=by
 rw[LW,LW,LW,Afp,Agv,Ap8 (by omega) (by omega),Axp]
def My:Nat->Nat->Nat
 |0,s=>s
 |k+1,s=>My k (LW s)
theorem rW:∀(k:Nat) {s:Nat},s<18446744073709551616->My k s<18446744073709551616
 |0,_,h=>h
 |k+1,_,h=>rW k (YB h)
theorem zS:∀(k:Nat) {x y:Nat},x<18446744073709551616->y<18446744073709551616->My k (x^^^y)=My k x^^^My k y
 |0,_,_,_,_=>rfl
 |k+1,x,y,hx,hy=>by rw[My,Acx hx hy,zS k (YB hx) (YB hy)];rfl
theorem wY:∀(k h:Nat),2^k*h<18446744073709551616->My k h=2^k*h
 |0,h,_=>by simp[My]
 |k+1,h,hl=>by
  have hpos:0<2^k:=Axe (by omega);rw[Atw,Ay2]at hl;have h2:2*h<18446744073709551616:=Aw8 (Nat.le_mul_of_pos_left _ hpos) hl;have:LW h=2*h:=by rw[LW,Abk h2,show h/9223372036854775808=0 by omega];simp
  rw[My,this,wY k _ hl,Atw,Ay2]
def iK(s c:Nat):Nat:=My 8 (s^^^ (c*72057594037927936))
theorem c56{c:Nat}(hc:c<256):c*72057594037927936<18446744073709551616:=by omega
theorem tC{s c:Nat}(h:s<18446744073709551616)(hc:c<256):iK s c<18446744073709551616:=rW 8 (Avo (n:=64) h (c56 hc))
theorem Apv(s:Nat):s=(s/72057594037927936*72057594037927936)^^^ (s %72057594037927936):=by
 have h1:s %72057594037927936<2^56:=Aw3 _ (by decide);have:=Avw h1 (s/72057594037927936);have h2:2^56*(s/72057594037927936)|||s %72057594037927936=(2^56*(s/72057594037927936))^^^ (s %72057594037927936):=by
  apply Nat.eq_of_testBit_eq;intro i;rw[Nat.testBit_or,Nat.testBit_xor];by_cases hi:i<56
  ·have:(2^56*(s/72057594037927936)).testBit i=false:=by rw[Nat.testBit_two_pow_mul];simp;omega
   rw[this];simp
  ·have:(s %72057594037927936).testBit i=false:=Nat.testBit_lt_two_pow (Aj4 h1 (Aeb (by omega) (by omega)));rw[this];simp
 rw[Aoi (s/72057594037927936)]
 show s=(2^56*(s/72057594037927936))^^^ _;rw[<-h2,<-this];have:=Azc s 72057594037927936
 show s=72057594037927936*_+_;omega
theorem Ahq(a c:Nat):(a^^^c)*72057594037927936=(a*72057594037927936)^^^ (c*72057594037927936):=by
 have h1:=Nat.shiftLeft_xor_distrib (a:=a) (b:=c) (i:=56);simpa [Nat.shiftLeft_eq]using h1
theorem T5{s c:Nat}(h:s<18446744073709551616)(hc:c<256):iK s c=(256*s %18446744073709551616)^^^My 8 (((s/72057594037927936)^^^c)*72057594037927936):=by
 have hs:s/72057594037927936<2^8:=by show _<256;omega
 have hx:(s/72057594037927936)^^^c<256:=Avo (n:=8) hs (by simpa using hc);have hl:s %72057594037927936<72057594037927936:=Aw3 _ (by decide);rw[iK]
 conv=>lhs;rw[Apv s]
 rw[Az2 (s/72057594037927936*72057594037927936),Aw9,<-Ahq,zS 8 (by omega) (c56 hx),wY 8 _ (by show 256*_<_;omega)];congr 1
 show 256*(s %72057594037927936)=_;omega
def yW(s:Nat)(l:List UInt8):Nat:=l.foldl (λs c=>iK s c.toNat) s
theorem I6{n:Nat}(h:n<18446744073709551616):(UInt64.ofNat n).toNat=n:=by rw[Ajt];exact Abk h
theorem As2(s:UInt64)(bit:Nat)(hb:bit=0\/bit=1):DQ s (bit:Int)=some (UInt64.ofNat ((2*s.toNat %18446744073709551616)^^^ (((s.toNat/9223372036854775808)^^^bit)*P64))):=by
 have hs:=s.toNat_lt;have ht:s.toNat/9223372036854775808=0\/s.toNat/9223372036854775808=1:=by omega
 have e1:(Bd s (2:UInt64)).toNat=2*s.toNat %18446744073709551616:=by
  rw[JN,UInt64.toNat_mul];show s.toNat*2 %_=_;rw[Aoi]
 have hlt:2*s.toNat %18446744073709551616<18446744073709551616:=Aw3 _ (by decide);have ey:Rk (Bd s (2:UInt64)) (4823603603198064275:UInt64)=UInt64.ofNat ((2*s.toNat %18446744073709551616)^^^P64):=by
  apply UInt64.toNat_inj.1;rw[xI,UInt64.toNat_xor,e1,I6 (Avo (n:=64) hlt (by decide))];rfl
 have en:Bd s (2:UInt64)=UInt64.ofNat (2*s.toNat %18446744073709551616):=by
  apply UInt64.toNat_inj.1;rw[e1,I6 hlt]
 have eg:Ll s (9223372036854775808:UInt64)=decide (s.toNat/9223372036854775808=1):=by
  rw[Aor,decide_eq_decide]
  show 9223372036854775808<=s.toNat↔_;omega
 have hp:∀b:Bool,Ud s b=some (if b=true then UInt64.ofNat ((2*s.toNat %18446744073709551616)^^^P64)else UInt64.ofNat (2*s.toNat %18446744073709551616)):=by
  intro b;rw[Ud,KD,ey,en];cases b<;>rfl
 rw[DQ,JG,hp,hp,eg];rcases hb with rfl|rfl<;>rcases ht with h|h<;>rw[h]<;>simp[Bc]
theorem vI(c:UInt8):∀(j q:Nat) (s:UInt64),j<=8->j<q->Jm c q s ((2^j/2:Nat):Int)=some (UInt64.ofNat (My j (s.toNat^^^ (c.toNat %2^j*2^(64-j)))))
 |0,q+1,s,_,_=>by
  rw[Jm,Vl,Aba (by rw[Al];simp),ID,KJ];simp[My,Nat.mod_one]
 |j+1,q+1,s,hj,hq=>by
  have hc:=c.toNat_lt;have hs:=s.toNat_lt;have hj2:2^j<=2^7:=Aeb (by omega) (by omega);have hpos:0<2^j:=Axe (by omega);have e1:2^(j+1)/2=2^j:=by rw[Atw];omega
  have e2:Bz ((2^j:Nat):Int) 2=((2^j/2:Nat):Int):=by
   generalize 2^j=K at*
   rw[LA,Avz (by omega),Bp (by omega) (by omega)];omega
  have e3:Gc (Bz (Ad c:Int) ((2^j:Nat):Int)) (2:Int)=((c.toNat/2^j %2:Nat):Int):=by
   have hX:=Asv c.toNat (2^j);rw[NY,LA,<-Int.ofNat_tdiv];generalize c.toNat/2^j=X at*
   rw[Bp (by omega) (by omega),Gc,Ayd (by omega)];omega
  have hbit:c.toNat/2^j %2=0\/c.toNat/2^j %2=1:=by omega
  rw[Jm,Vl,e1,Abb (by rw[Al,Ab2];omega),Be (by rw[Ak,Az1];omega),Aa,e3,As2 s _ hbit,Aa,e2,vI c j q _ (by omega) (by omega)];congr 2;rw[My];congr 1;have hx:c.toNat %2^(j+1)*2^(64-(j+1))=(c.toNat/2^j %2)*9223372036854775808+c.toNat %2^j*2^(63-j):=by
   have h63:(9223372036854775808:Nat)=2^j*2^(63-j):=by rw[<-Azn,show j+(63-j)=63 by omega]
   rw[Nat.mod_pow_succ,h63,show 64-(j+1)=63-j by omega,Aux,Ay9,Ay2,Nat.mul_left_comm]
  have hr:c.toNat %2^j<2^j:=Aw3 _ hpos;have Bbi:c.toNat %2^j*2^(63-j)<9223372036854775808:=by
   have h63:(9223372036854775808:Nat)=2^j*2^(63-j):=by rw[<-Azn,show j+(63-j)=63 by omega]
   rw[h63];exact Nat.mul_lt_mul_of_pos_right hr (Axe (by omega))
  have h64:c.toNat %2^j*2^(64-j)=2*(c.toNat %2^j*2^(63-j)):=by
   rw[show 64-j=(63-j)+1 by omega,Atw,<-Ay2,Aoi]
  rw[hx,h64];generalize c.toNat %2^j*2^(63-j)=R at*
  generalize c.toNat/2^j %2=b at*
  have ht:s.toNat/9223372036854775808=0\/s.toNat/9223372036854775808=1:=by omega
  have hp:((s.toNat/9223372036854775808^^^b)*P64)<18446744073709551616:=by
   rcases ht with h|h<;>rcases hbit with h2|h2<;>rw[h,h2]<;>decide
  rw[I6 (Avo (n:=64) (Aw3 _ (by decide)) hp),LW,Afp,Agv,show(b*9223372036854775808+R)/9223372036854775808=b by omega,show 2*(b*9223372036854775808+R) %18446744073709551616=2*R by omega,Aw9,Aw9,Az2 (2*R)]
theorem As9(c:UInt8)(s:UInt64):SQ s c=some (UInt64.ofNat (iK s.toNat c.toNat)):=by
 have h:=vI c 8 Ar s (Aj0 _) (by have:=Am;omega);have hc:=c.toNat_lt;rw[Abk (show c.toNat<2^8 by simpa using hc)]at h;exact h
theorem mC(b:List UInt8)(hb:b.length<4611686018427387904):∀(j i q:Nat) (s:UInt64),i+j=b.length->j<q->Hm b q s (i:Int)=some (UInt64.ofNat (yW s.toNat (b.drop i)))
 |0,i,q+1,s,hi,_=>by
  rw[Hm,Ra,Aba (by rw[Af,Ac];simp;omega),show i=b.length by omega,Axw];simp[DE,DG,yW]
 |j+1,i,q+1,s,hi,hq=>by
  have hlt:i<b.length:=by omega
  have hc:=b[i].toNat_lt;rw[Hm,Ra,Abb (by rw[Af,Ac];simp;omega),Ck hlt,Aa,As9,Aa,Ag];have h:=mC b hb j (i+1) q (UInt64.ofNat (iK s.toNat b[i].toNat)) (by omega) (by omega);rw[show((i:Int)+1)=((i+1:Nat):Int) by omega,h,drop_cons hlt,I6 (tC s.toNat_lt (by simpa using hc))];rfl
def Wa(b:List UInt8):UInt64:=UInt64.ofNat (yW 0 b)
theorem Aae(b:List UInt8)(hb:b.length<=100000):Wi 0 b=some (Wa b):=
 mC b (by omega) b.length 0 Ar 0 (by omega) (by have:=Am;omega)
theorem Ac1(c:UInt64):Rk (Cw c (GI.toZ (1:UInt64)).toNat) (Bd (4823603603198064275:UInt64) (Bt c (GI.toZ (63:UInt64)).toNat))=UInt64.ofNat (LW c.toNat):=by
 have hc:=c.toNat_lt;apply UInt64.toNat_inj.1;have h1:(Cw c (GI.toZ (1:UInt64)).toNat).toNat=2*c.toNat %18446744073709551616:=by
  rw[show(GI.toZ (1:UInt64)).toNat=1 from rfl,SB,Aoi]
 have h2:(Bd (4823603603198064275:UInt64) (Bt c (GI.toZ (63:UInt64)).toNat)).toNat=c.toNat/9223372036854775808*P64:=by
  rw[show(GI.toZ (63:UInt64)).toNat=63 from rfl,JN,UInt64.toNat_mul,ED]
  show 4823603603198064275*(c.toNat/9223372036854775808) %18446744073709551616=_;have h1:c.toNat/9223372036854775808=0\/c.toNat/9223372036854775808=1:=by omega
  rcases h1 with e|e<;>rw[e]<;>decide
 rw[xI,UInt64.toNat_xor,h1,h2,I6 (YB hc)];rfl
theorem uI(Lk:Int->List UInt64->Option (UInt64×Int))(s:UInt64)(b:List UInt8)(x:Int)(t:List UInt64):∀(j i q:Nat) (c:UInt64),i+j=8->j<q->
  Pz Lk s b x t q c (i:Int)=BQ Lk s b x (UInt64.ofNat (My j c.toNat)) t
 |0,i,q+1,c,hi,_=>by
  obtain rfl:i=8:=by omega
  rw[Pz,AX,Aba (by rw[Af];simp),My,UInt64.ofNat_toNat]
 |j+1,i,q+1,c,hi,hq=>by
  rw[Pz,AX,Abb (by rw[Af];simp;omega),Ac1,Ag,show((i:Int)+1)=((i+1:Nat):Int) by omega,uI Lk s b x t j (i+1) q _ (by omega) (by omega),I6 (YB c.toNat_lt)];rfl
def TV(n:Nat):List UInt64:=(List.range n).map λi=>UInt64.ofNat (My 8 (i*72057594037927936))
theorem zE(s:UInt64)(b:List UInt8):∀(j i q:Nat),i+j=256->j<q->Mf s b q (i:Int) (TV i++List.replicate j 0)=CZ s b (TV 256)
 |0,i,q+1,hi,_=>by
  obtain rfl:i=256:=by omega
  rw[Mf,CQ,Aba (by rw[Af];simp)];simp
 |j+1,i,q+1,hi,hq=>by
  have hlen:(TV i++List.replicate (j+1) 0).length=i+(j+1):=by simp[TV]
  rw[Mf,CQ,Abb (by rw[Af];simp;omega),RV];have h:=uI (Mf s b q) s b (i:Int) (TV i++List.replicate (j+1) 0) 8 0 Ar (Cw (Ad (i:Int):UInt64) (GI.toZ (56:UInt64)).toNat) (by omega) (by have:=Am;omega);rw[show((0:Int))=((0:Nat):Int)from rfl,h,BQ,OV,Ck (by rw[hlen];omega),Aa,Rg _ (by rw[hlen];omega),Aa,PG,eC,Ag];have e:(Cw (Ad (i:Int):UInt64) (GI.toZ (56:UInt64)).toNat).toNat=i*72057594037927936:=by
   rw[SB,Sn,I6 (by omega)]
   show i*72057594037927936 %18446744073709551616=_;omega
  rw[e,Avq,YN (by simp[TV])];have h2:=zE s b j (i+1) q (by omega) (by omega);have h3:TV (i+1)=TV i++[UInt64.ofNat (My 8 (i*72057594037927936))]:=by simp[TV,List.range_succ]
  rw[h3]at h2;rw[show((i:Int)+1)=((i+1:Nat):Int) by omega,<-h2];simp
theorem Aiv{i:Nat}(h:i<256):Aj (TV 256) (i:Int)=some (UInt64.ofNat (My 8 (i*72057594037927936))):=by
 rw[Ck (by simpa [TV]using h)];simp[TV]
theorem Abp(s:UInt64)(c:UInt8):Aj (TV 256) (GI.toZ (Rk (Ad (Bt s (GI.toZ (56:UInt64)).toNat):UInt8) c))=some (UInt64.ofNat (My 8 (((s.toNat/72057594037927936)^^^c.toNat)*72057594037927936))):=by
 have hs:=s.toNat_lt;have e:GI.toZ (Rk (Ad (Bt s (GI.toZ (56:UInt64)).toNat):UInt8) c)=(((s.toNat/72057594037927936)^^^c.toNat:Nat):Int):=by
  have e2:((Ad (Bt s (GI.toZ (56:UInt64)).toNat):UInt8)).toNat=s.toNat/72057594037927936:=by
   rw[RH,An9,ED]
   show s.toNat/72057594037927936 %256=_;omega
  rw[Zh,Aes,UInt8.toNat_xor,e2]
 rw[e,Aiv];exact Avo (n:=8) (by show _<256;omega) (by simpa using c.toNat_lt)
theorem T8(s:UInt64)(c:UInt8):Rk (Cw s (GI.toZ (8:UInt64)).toNat) (UInt64.ofNat (My 8 (((s.toNat/72057594037927936)^^^c.toNat)*72057594037927936)))=UInt64.ofNat (iK s.toNat c.toNat):=by
 have hs:=s.toNat_lt;have hc:c.toNat<256:=by simpa using c.toNat_lt
 apply UInt64.toNat_inj.1;have hlt:My 8 (((s.toNat/72057594037927936)^^^c.toNat)*72057594037927936)<18446744073709551616:=rW 8 (c56 (Avo (n:=8) (by show _<256;omega) (by simpa using c.toNat_lt)));have e:(GI.toZ (8:UInt64)).toNat=8:=rfl;rw[e,xI,UInt64.toNat_xor,SB,I6 hlt,I6 (tC hs hc),T5 hs hc,Aoi s.toNat]
theorem uK(b:List UInt8)(s0:UInt64)(hb:b.length<4611686018427387904):∀(j i q:Nat) (s:UInt64),i+j=b.length->j<q->Po b s0 (TV 256) q s (i:Int)=some (UInt64.ofNat (yW s.toNat (b.drop i)),0)
 |0,i,q+1,s,hi,_=>by
  rw[Po,CJ,Aba (by rw[Af,Ac];simp;omega),show i=b.length by omega,Axw];simp[QU,OP,QH,gI,yW]
 |j+1,i,q+1,s,hi,hq=>by
  have hlt:i<b.length:=by omega
  have hc:=b[i].toNat_lt;rw[Po,CJ,Abb (by rw[Af,Ac];simp;omega),Ck hlt,Aa,Abp,Aa,Aa,T8,Ag];have h:=uK b s0 hb j (i+1) q (UInt64.ofNat (iK s.toNat b[i].toNat)) (by omega) (by omega);rw[show((i:Int)+1)=((i+1:Nat):Int) by omega,h,drop_cons hlt,I6 (tC s.toNat_lt (by simpa using hc))];rfl
theorem Aao(b:List UInt8)(hb:b.length<=100000):WY b=some (Wa b,0):=by
 have h:=zE 0 b 256 0 Ar (by omega) (by have:=Am;omega);have h2:=uK b 0 (by omega) b.length 0 Ar 0 (by omega) (by have:=Am;omega);have hn:aP 0 b=some (Wa b,0):=by
  rw[aP,VJ,Aba (by rw[Al,Ac];simp;omega),PY];refine Awn h ?_;rw[CZ,OL,OZ];exact h2
 rw[WY,hn,Aa]
theorem sE(p:List UInt8)(hp:p.length<=64):DD p=some (On (Wa p).toNat 8,0):=by
 rw[DD,tA,Aba (by rw[Al,Ac];simp;omega),Aao p (by omega),Aa,Aa];simp only;have h:=RE (Wa p) 8 (by omega) (by omega) (by simpa using(Wa p).toNat_lt);rw[Aba (by rw[Ak];simp)];exact congrArg (λo=>Option.bind o λx:List UInt8×Int=>some (x.1,x.2)) h
theorem K1(p:List UInt8)(hp:p.length<=64):Jp p=some (On (Wa p).toNat 8):=by
 have h:=B8 (Wa p) 8 (by omega);rw[Jp,TJ,Aae p (by omega),Aa,Aa];exact congrArg (λo=>Option.bind o λl=>some l) h
def s8(n:Nat):Int32:=Int32.ofInt (if n<128 then(n:Int)else(n:Int)-256)
def TH(d:UInt64)(n:Nat):List Int32:=(List.range n).map λi=>s8 (d.toNat/256^i %256)
theorem XF(d:UInt64)(n:Nat):(TH d n).length=n:=by simp[TH]
theorem E9(d:UInt64)(n:Nat):TH d (n+1)=TH d n++[s8 (d.toNat/256^n %256)]:=by simp[TH,List.range_succ]
theorem bm8(z:Nat):(z:Int).bmod Int8.size=if z %256<128 then((z %256:Nat):Int)else((z %256:Nat):Int)-256:=by
 rw[show Int8.size=256 from rfl,Int.bmod_def];split<;>split<;>omega
theorem Afr(d:UInt64):∀(j i q:Nat),i+j=8->j<q->HB d q (i:Int) (TH d i++List.replicate (16-i) 0)=some (TH d 8++List.replicate 8 0)
 |0,i,q+1,hi,_=>by
  obtain rfl:i=8:=by omega
  rw[HB,bS,Aba (by rw[Af];simp)];rfl
 |j+1,i,q+1,hi,hq=>by
  have hlen:(TH d i++List.replicate (16-i) 0).length=16:=by simp[XF];omega
  have ih:=Afr d j (i+1) q (by omega) (by omega);have e8:Bd (8:Int) (i:Int)=((8*i:Nat):Int):=by rw[Gt];omega
  have ev:(Ad (Ad (Bt d (GI.toZ (((8*i:Nat):Int))).toNat):Int8):Int32)=s8 (d.toNat/256^i %256):=by
   have e1:(Bt d (GI.toZ (((8*i:Nat):Int))).toNat).toNat=d.toNat/256^i:=by
    rw[show(GI.toZ (((8*i:Nat):Int))).toNat=8*i from rfl,ED,Nat.pow_mul]
   show Int32.ofInt (Int8.ofInt ((Bt d (GI.toZ (((8*i:Nat):Int))).toNat).toNat:Int)).toInt=_;rw[e1,s8,Int8.toInt_ofInt,bm8]
  rw[HB,bS,Abb (by rw[Af];simp;omega),e8,Be (by rw[Dc];simp;omega),Aa,ev,Ck,Aa,Rg _ (by omega),Aa,Ag,show 16-i=(15-i)+1 by omega,Avq,YN (XF d i)];rw[E9,show 16-(i+1)=15-i by omega,Adn]at ih;exact ih
theorem Ale(d:UInt64):∀(j i q:Nat) (e:UInt64),i+j=8->j<q->e.toNat=d.toNat/256^i->Jg q e (i:Int) (TH d i++List.replicate (16-i) 0)=some (TH d 8++List.replicate 8 0)
 |0,i,q+1,e,hi,_,he=>by
  obtain rfl:i=8:=by omega
  rw[Jg,Yr,Aba (by rw[Af];simp)];rfl
 |j+1,i,q+1,e,hi,hq,he=>by
  have hlen:(TH d i++List.replicate (16-i) 0).length=16:=by simp[XF];omega
  have hq2:(Bz e (256:UInt64)).toNat=d.toNat/256^(i+1):=by
   rw[qP,Azq,he,Atw,<-Axk];rfl
  have ih:=Ale d j (i+1) q (Bz e (256:UInt64)) (by omega) (by omega) hq2;have ev:(Ad (AR e (256:UInt64)):Int32)=Int32.ofInt ((d.toNat/256^i %256:Nat):Int):=by
   show Int32.ofInt ((AR e (256:UInt64)).toNat:Int)=_;rw[qm,UInt64.toNat_mod,he];rfl
  have hz:d.toNat/256^i %256<256:=Aw3 _ (by omega);have et:(Int32.ofInt ((d.toNat/256^i %256:Nat):Int)).toInt=((d.toNat/256^i %256:Nat):Int):=by
   rw[Ayu,Azx (by show -(4294967296/2:Int)<= _;omega) (by show _<(4294967296+1)/2;omega)]
  have hp8:∀x:Int32,x=s8 (d.toNat/256^i %256)->Yy (Jg q) e (i:Int) (TH d i++List.replicate (16-i) 0) x=some (TH d 8++List.replicate 8 0):=by
   intro x hx;rw[Yy,QS,hx,Ck,Aa,Rg _ (by omega),Aa,Ag,show 16-i=(15-i)+1 by omega,Avq,YN (XF d i)];rw[E9,show 16-(i+1)=15-i by omega,Adn]at ih;exact ih
  rw[Jg,Yr,Abb (by rw[Af];simp;omega),ev,Acs,et,show(127:Int32).toInt=127 from rfl];by_cases h:d.toNat/256^i %256<128
  ·rw[Aba (by simp only[Ab2];omega)];exact hp8 _ (by rw[s8,Abb h])
  ·rw[Abb (by simp only[Ab2];omega)];refine hp8 _ ?_;rw[s8,Aba h,PU,Int32.ofInt_sub];rfl
def Wp(p:List UInt8):List Int32:=TH (Wa p) 8++List.replicate 8 0
theorem nC(p:List UInt8):(Wp p).length=16:=by simp[Wp,XF]
theorem O6(p:List UInt8)(hp:p.length<=64):HI p=some (Wp p,0):=by
 have h:=Afr (Wa p) 8 0 Ar (by omega) (by have:=Am;omega);have h2:S7 (Wa p)=some (Wp p):=h;rw[HI,Aba (by rw[Al,Ac];simp;omega),Aao p (by omega),Aa];simp only;rw[Aba (by rw[Ak];simp),h2,Aa]
theorem zl(p:List UInt8)(hp:p.length<=64):Ju p=some (Wp p,0):=by
 have h:=Ale (Wa p) 8 0 Ar (Wa p) (by omega) (by have:=Am;omega) (by simp);have h2:cF (Wa p)=some (Wp p):=h;rw[Ju,Aba (by rw[Al,Ac];simp;omega),XN,TI,Aba (by rw[Al,Ac];simp;omega),Aae p (by omega),Aa,Aa,Aa];simp only;rw[h2,Aa]
def u8(z:Int):UInt8:=UInt8.ofNat (z %256).toNat
theorem S4(z:Int):u8 (z %256)=u8 z:=by rw[u8,u8];congr 2;omega
def wB(bits:Int):Nat:=if bits=8 then 1 else if bits=16 then 2 else 3
theorem Ang{bits:Int}(h:Cf bits):Bz bits 8=(wB bits:Int):=by obtain rfl|rfl|rfl:=h<;>rfl
theorem Akv(bits:Int):1<=wB bits/\wB bits<=3:=by
 unfold wB;split; · omega
 ·split<;>omega
def GH(bits:Int)(x:Int):List UInt8:=if bits=8 then [u8 (x+128)]else if bits=16 then [u8 x,u8 (x/256)]else [u8 x,u8 (x/256),u8 (x/65536)]
theorem lq(bits x:Int):(GH bits x).length<=3:=by
 unfold GH;split; · simp
 ·split<;>simp
theorem Ama(x:Int32)(k:Nat)(hk:k<=32):(Ad (Bt x k):UInt8)=u8 (x.toInt.fdiv (2^k)):=by
 have h:=Wx x;have e:Bt x k=Int32.ofInt (x.toInt.fdiv (2^k)):=by
  show Int32.ofInt (x.toInt.fdiv (2^min k 32))=_;rw[Au6 hk]
 have hb: -2147483648<=x.toInt.fdiv (2^k)/\x.toInt.fdiv (2^k)<2147483648:=by
  have hpos:(0:Int)<2^k:=Int.pow_pos (by omega);rw[Asr _ (by omega)];constructor
  ·refine(Int.le_ediv_iff_mul_le hpos).2 ?_;have:(1:Int)<=2^k:=by omega
   have h2: -2147483648*(2^k:Int)<= -2147483648*1:=Int.mul_le_mul_of_nonpos_left (by omega) this;omega
  ·refine Int.ediv_lt_of_lt_mul hpos ?_;have:(1:Int)<=2^k:=by omega
   have h2:(2147483648:Int)*1<=2147483648*2^k:=Int.mul_le_mul_of_nonneg_left this (by omega);omega
 show UInt8.ofNat ((Bt x k).toInt %256).toNat=_;rw[e,Ayu,Azx (by show -(4294967296/2:Int)<= _;omega) (by show _<(4294967296+1)/2;omega)];rfl
section
variable (bk:Int->List UInt8->Option (List UInt8×Int)) (l:List Int32)
theorem vW{bits:Int}(h:Cf bits)(c:Int32)(x:Int)(i q:Nat)(acc:List UInt8)(hi:i<wB bits)(ha:acc.length<=100000):
  Ib bk bits l c x (q+1) (i:Int) acc=Ib bk bits l c x q ((i+1:Nat):Int) (acc++[u8 (c.toInt.fdiv (2^(8*i)))]):=by
 have hw:=Akv bits;have e8:Bd (8:Int) (i:Int)=((8*i:Nat):Int):=by rw[Gt];omega
 rw[Ib,Xz,Ang h,Abb (by rw[Af];simp;omega),e8,Be (by rw[Dc];simp;omega),Aa,show(GI.toZ (((8*i:Nat):Int))).toNat=8*i from rfl,Ama _ _ (by omega),Cx (by simp;omega),Aa,Ag];rfl
theorem Acy{bits:Int}(h:Cf bits)(c:Int32)(x:Int)(q:Nat)(acc:List UInt8):Ib bk bits l c x (q+1) ((wB bits:Nat):Int) acc=bk (Ae x 1) acc:=by
 rw[Ib,Xz,Ang h,Aba (by rw[Af];simp),LN,cM]
theorem As7{bits:Int}(h:Cf bits)(c:Int32)(x:Int)(acc:List UInt8)(ha:acc.length<=90000)(hr: -(hB bits)<=c.toInt/\c.toInt<hB bits):
  Km bk bits l x acc (if bits=8 then Ae c (128:Int32)else c)=bk (Ae x 1) (acc++GH bits c.toInt):=by
 have e:Ar=(Ar-4)+1+1+1+1:=by have:=Am;omega
 have hc:=Wx c;rw[Km,KT,ME,e];have g0:=λ(c:Int32) q acc ha=>vW bk l h c x 0 q acc (by have:=Akv bits;omega) ha;obtain rfl|rfl|rfl:=h
 ·have hh:hB 8=128:=rfl;rw[hh]at hr;have e1:(Ae c (128:Int32)).toInt=c.toInt+128:=by
   show(Int32.ofInt (c.toInt+(128:Int32).toInt)).toInt=_;rw[show(128:Int32).toInt=128 from rfl,Ayu,Azx (by show -(4294967296/2:Int)<= _;omega) (by show _<(4294967296+1)/2;omega)]
  have g1:=Acy bk l (bits:=8) (.inl rfl) (Ae c (128:Int32)) x (Ar-4+1+1);rw[Abb rfl,show(0:Int)=((0:Nat):Int)from rfl,g0 _ _ _ (by omega)];refine Awn (g1 _) ?_;rw[e1,GH,Abb rfl]
  show bk _ (acc++[u8 ((c.toInt+128).fdiv 1)])=_;rw[Int.fdiv_one]
 ·have g1:=λq acc ha=>vW bk l (bits:=16) (.inr (.inl rfl)) c x 1 q acc (by decide) ha;have g2:=Acy bk l (bits:=16) (.inr (.inl rfl)) c x (Ar-4+1);rw[Aba (by decide),show(0:Int)=((0:Nat):Int)from rfl,g0 _ _ _ (by omega),g1 _ _ (by simp;omega)];refine Awn (g2 _) ?_;rw[GH,Aba (by decide),Abb rfl,Adn]
  show bk _ (acc++[u8 (c.toInt.fdiv 1),u8 (c.toInt.fdiv 256)])=_;rw[Int.fdiv_one,Asr _ (by omega)]
 ·have g1:=λq acc ha=>vW bk l (bits:=24) (.inr (.inr rfl)) c x 1 q acc (by decide) ha;have g2:=λq acc ha=>vW bk l (bits:=24) (.inr (.inr rfl)) c x 2 q acc (by decide) ha;have g3:=Acy bk l (bits:=24) (.inr (.inr rfl)) c x (Ar-4);rw[Aba (by decide),show(0:Int)=((0:Nat):Int)from rfl,g0 _ _ _ (by omega),g1 _ _ (by simp;omega),g2 _ _ (by simp;omega)];refine Awn (g3 _) ?_;rw[GH,Aba (by decide),Aba (by decide),Adn,Adn]
  show bk _ (acc++[u8 (c.toInt.fdiv 1),u8 (c.toInt.fdiv 256),u8 (c.toInt.fdiv 65536)])=_;rw[Int.fdiv_one,Asr _ (by omega),Asr _ (by omega)]
end
def Er(bits:Int)(l:List Int32):List UInt8:=l.flatMap λx=>GH bits x.toInt
theorem bD(bits:Int):∀l:List Int32,(Er bits l).length<=3*l.length
 |[]=>by simp[Er]
 |x::l=>by
  have h1:=bD bits l;have h2:=lq bits x.toInt;simp only[Er,List.flatMap_cons,Aby,Aj1]at*
  omega
def inR(bits:Int)(l:List Int32):Prop:=∀x∈l, -(hB bits)<=x.toInt/\x.toInt<hB bits
theorem Aew{bits:Int}(h:Cf bits)(l:List Int32)(hl:l.length<=4000)(hr:inR bits l):∀(j i q:Nat),i+j=l.length->j<q->Fq bits l q (i:Int) (Er bits (l.take i))=some (Er bits l,0)
 |0,i,q+1,hi,_=>by
  rw[Fq,Yf,Aba (by rw[Af,Ac];simp;omega),Aoy (by omega)];rfl
 |j+1,i,q+1,hi,hq=>by
  have hlt:i<l.length:=by omega
  have ih:=Aew h l hl hr j (i+1) q (by omega) (by omega);have hlen:=bD bits (l.take i);have hx:=hr l[i] (Au9 _);have h1:=As7 (Fq bits l q) l h l[i] (i:Int) (Er bits (l.take i)) (by rw[Afw]at hlen;omega) hx;rw[Fq,Yf,Abb (by rw[Af,Ac];simp;omega),Ck hlt,Aa];have e:(if(geq bits (8:Int))=true then Km (Fq bits l q) bits l (i:Int) (Er bits (l.take i)) (Ae l[i] (128:Int32))else Km (Fq bits l q) bits l (i:Int) (Er bits (l.take i)) l[i])=Km (Fq bits l q) bits l (i:Int) (Er bits (l.take i)) (if bits=8 then Ae l[i] (128:Int32)else l[i]):=by
   by_cases h8:bits=8
   ·rw[Abb (by rw[Bc];simpa using h8),Abb h8]
   ·rw[Aba (by rw[Bc];simpa using h8),Aba h8]
  rw[e,h1,Ag];rw[Nf hlt]at ih;have e2:Er bits (l.take i++[l[i]])=Er bits (l.take i)++GH bits l[i].toInt:=by unfold Er;rw[List.flatMap_append,List.flatMap_singleton]
  rw[e2]at ih;exact ih
theorem kR{bits:Int}(h:Cf bits){l:List Int32}(hl:l.length<=4000)(hc:Ao bits l=some 0):inR bits l:=by
 have hh:=UM bits;have key:∀(j i q:Nat),i+j=l.length->j<q->Ax l (hB bits) q (i:Int)=some 0->∀k,i<=k-> (hk:k<l.length)-> -(hB bits)<=l[k].toInt/\l[k].toInt<hB bits:=by
  intro j
  induction j with
  |zero=>intro i q hi hq _ k h1 h2;omega
  |succ j ih=>
   intro i q hi hq hs k h1 h2;obtain⟨q,rfl⟩:∃k,q=k+1:=⟨q-1,by omega⟩;rw[Ax,Ca,Abb (by rw[Af,Ac];simp;omega),Ck,Aa,Aa,Ei,U0,Bp (by omega) (by omega),Ag,Af,Dc]at hs;by_cases g1:l[i].toInt<0-hB bits
   ·rw[Abb (by simpa using g1)]at hs;simp at hs
   ·rw[Aba (by simpa using g1)]at hs;by_cases g2:hB bits<=l[i].toInt
    ·rw[Abb (by simpa using g2)]at hs;simp at hs
    ·rw[Aba (by simpa using g2)]at hs;by_cases hk:k=i
     ·subst hk;omega
     ·exact ih (i+1) q (by omega) (by omega) hs k (by omega) h2
 rw[Ao,Cr,WV h,Aa,Aba (by rw[Bc];simp;omega),Aba (by rw[Al,Ac];simp;omega)]at hc;have:=key l.length 0 Ar (by omega) (by have:=Am;omega) hc;intro x hx;obtain⟨k,hk,rfl⟩:=List.getElem_of_mem hx;exact this k (by omega) hk
theorem Ac3{bits:Int}(h:Cf bits){l:List Int32}(hl:l.length<=4000)(hc:Ao bits l=some 0):KM bits l=some (Er bits l,0):=by
 have h1:=Aew h l hl (kR h hl hc) l.length 0 Ar (by omega) (by have:=Am;omega);rw[KM,QW,aM h l hl,hc,Aa,Aba (by rw[Ak];simp)];exact h1
theorem Aom{bits:Int}(h:Cf bits)(x:Int32)(hr: -(hB bits)<=x.toInt/\x.toInt<hB bits):FZ bits x=some (GH bits x.toInt):=by
 have hx:=Wx x;have gu:∀z:Int,(Ad z:UInt8)=u8 z:=λz=>rfl;have hq:∀n:Int,0<=n->n<=20000000->Bz n (256:Int)=n/256/\Bz n (65536:Int)=n/65536:=by
  intro n h1 h2;constructor<;>(rw[LA,Avz h1,Bp (by omega) (by omega)])
 have hm:∀n:Int,0<=n->Gc n (256:Int)=n %256:=λn h1=>by rw[Gc,Ayd h1]
 rw[FZ,MT,Ei];obtain rfl|rfl|rfl:=h
 ·rw[Abb (by rw[Bc];rfl),Ag,gu,GH,Abb rfl]
 ·have hh:hB 16=32768:=rfl;rw[hh]at hr;have hp:∀n:Int,0<=n->n<=70000->u8 n=u8 x.toInt->u8 (n/256)=u8 (x.toInt/256)->Kt 16 n=some (GH 16 x.toInt):=by
   intro n h1 h2 h3 h4;rw[Kt,Wv,Aba (by rw[Bc];decide),hm n h1,(hq n h1 (by omega)).1,hm _ (by omega),gu,gu,S4,S4,h3,h4,GH,Aba (by decide),Abb rfl]
  rw[Aba (by rw[Bc];decide)];by_cases hn:x.toInt<0
  ·rw[Abb (by rw[Af];simpa using hn),WV (.inr (.inl rfl)),Aa,hh,Gt,Ag];refine hp _ (by omega) (by omega) ?_ ?_
   ·rw[u8,u8];congr 2;omega
   ·rw[u8,u8];congr 2;omega
  ·rw[Aba (by rw[Af];simpa using hn)];exact hp _ (by omega) (by omega) rfl rfl
 ·have hh:hB 24=8388608:=rfl;rw[hh]at hr;have hp:∀n:Int,0<=n->n<=16777215->u8 n=u8 x.toInt->u8 (n/256)=u8 (x.toInt/256)->u8 (n/65536)=u8 (x.toInt/65536)->Kt 24 n=some (GH 24 x.toInt):=by
   intro n h1 h2 h3 h4 h5;rw[Kt,Wv,Abb (by rw[Bc];rfl),hm n h1,(hq n h1 (by omega)).1,(hq n h1 (by omega)).2,hm _ (by omega),gu,gu,gu,S4,S4,h3,h4,h5,Cx (by simp),Aa,GH,Aba (by decide),Aba (by decide)];rfl
  rw[Aba (by rw[Bc];decide)];by_cases hn:x.toInt<0
  ·rw[Abb (by rw[Af];simpa using hn),WV (.inr (.inr rfl)),Aa,hh,Gt,Ag];refine hp _ (by omega) (by omega) ?_ ?_ ?_
   ·rw[u8,u8];congr 2;omega
   ·rw[u8,u8];congr 2;omega
   ·rw[u8,u8];congr 2;omega
  ·rw[Aba (by rw[Af];simpa using hn)];exact hp _ (by omega) (by omega) rfl rfl rfl
theorem Aen{bits:Int}(h:Cf bits)(l:List Int32)(hl:l.length<=4000)(hr:inR bits l):∀(j i q:Nat),i+j=l.length->j<q->Iq bits l q (i:Int) (Er bits (l.take i))=some (Er bits l,0)
 |0,i,q+1,hi,_=>by
  rw[Iq,Ti,Aba (by rw[Af,Ac];simp;omega),Aoy (by omega)];rfl
 |j+1,i,q+1,hi,hq=>by
  have hlt:i<l.length:=by omega
  have ih:=Aen h l hl hr j (i+1) q (by omega) (by omega);have hlen:=bD bits (l.take i);have hol:=lq bits l[i].toInt;rw[Afw]at hlen;have e2:Er bits (l.take i++[l[i]])=Er bits (l.take i)++GH bits l[i].toInt:=by unfold Er;rw[List.flatMap_append,List.flatMap_singleton]
  rw[Nf hlt,e2]at ih;rw[Iq,Ti,Abb (by rw[Af,Ac];simp;omega),Ck hlt,Aa,Aom h _ (hr l[i] (Au9 _)),Aa,Cx,Aa,Ag];exact ih
theorem Aib{bits:Int}(h:Cf bits){l:List Int32}(hl:l.length<=4000)(hc:Ao bits l=some 0):Qu bits l=some (Er bits l,0):=by
 have h1:=Aen h l hl (kR h hl hc) l.length 0 Ar (by omega) (by have:=Am;omega);rw[Qu,FN,hc,Aa,Aba (by rw[Ak];simp)];exact h1
def WW:List UInt8->Nat->Int×Int
 |[],n=>((n:Int),0)
 |c::r,n=>if 128<=c.toNat then(0,12)else WW r (128*n+c.toNat)
theorem Agu:∀(l:List UInt8) (n k:Nat),n<128^k->0<= (WW l n).1/\ (WW l n).1<((128^(k+l.length):Nat):Int)
 |[],n,k,h=>by simp[WW];exact_mod_cast h
 |c::r,n,k,h=>by
  rw[WW];split
  ·have:0<128^(k+(c::r).length):=Axe (by omega);exact⟨Int.le_refl _,by simp only;exact_mod_cast this⟩
  ·have:=Agu r (128*n+c.toNat) (k+1) (by rw[Atw];omega);rw[Aj1,show k+(r.length+1)=k+1+r.length by omega];exact this
theorem or7(n c:Nat)(hn:n<268435456)(hc:c<128):sY (Cw (n:Int) (GI.toZ (7:UInt64)).toNat) (c:Int)=((128*n+c:Nat):Int):=by
 have e:(GI.toZ (7:UInt64)).toNat=7:=rfl;have h1:Cw (n:Int) 7=((2^7*n:Nat):Int):=by
  have:Cw (n:Int) 7=wrap64 ((n:Int)*2^7):=rfl;rw[this,Bp (by omega) (by omega)];omega
 rw[e,h1];have h2:sY ((2^7*n:Nat):Int) (c:Int)=wrap64 ((BitVec.ofInt 64 ((2^7*n:Nat):Int)|||BitVec.ofInt 64 (c:Int)).toNat:Int):=rfl;rw[h2,BitVec.toNat_or,Awl,Awl];have h3:(((2^7*n:Nat):Int) %((2^64:Nat):Int)).toNat=2^7*n:=by omega
 have h4:((c:Int) %((2^64:Nat):Int)).toNat=c:=by omega
 rw[h3,h4,<-Avw (by simpa using hc),Bp (by omega) (by omega)]
theorem Agj(b:List UInt8)(hb:b.length=4):∀(j i q n:Nat),i+j=4->j<q->n<128^i->Li b q (n:Int) (i:Int)=some (WW (b.drop i) n)
 |0,i,q+1,n,hi,_,_=>by
  rw[Li,Vq,Aba (by rw[Af,Ac];simp;omega),show b.drop i=[] by simp;omega];rfl
 |j+1,i,q+1,n,hi,hq,hn=>by
  have hlt:i<b.length:=by omega
  have hn2:n<268435456:=Aj4 hn (show 128^i<=128^4 from Aeb (by omega) (by omega));rw[Li,Vq,Abb (by rw[Af,Ac];simp;omega),Ck hlt,Aa,drop_cons hlt,WW,Ans];by_cases hc:128<=b[i].toNat
  ·rw[Abb (by simp;omega),Abb hc]
  ·rw[Aba (by simp;omega),Aba hc,NY,or7 n _ hn2 (by omega),Ag];exact Agj b hb j (i+1) q _ (by omega) (by omega) (by rw[Atw];omega)
theorem Anp(b:List UInt8)(hb:b.length=4):∀(j i q n:Nat),i+j=4->j<q->n<128^i->It b q (n:Int) (i:Int)=some (WW (b.drop i) n)
 |0,i,q+1,n,hi,_,_=>by
  rw[It,Tl,Aba (by rw[Af];simp;omega),show b.drop i=[] by simp;omega];rfl
 |j+1,i,q+1,n,hi,hq,hn=>by
  have hlt:i<b.length:=by omega
  have hn2:n<268435456:=Aj4 hn (show 128^i<=128^4 from Aeb (by omega) (by omega));rw[It,Tl,Abb (by rw[Af];simp;omega),Ck hlt,Aa,drop_cons hlt,WW,Al8];have h128:(128:UInt8).toNat=128:=rfl;by_cases hc:128<=b[i].toNat
  ·rw[Abb (by simpa using hc),Abb hc]
  ·have h3:=b[i].toNat_lt;rw[Aba (by simpa using hc),Aba hc,Aa,NY,Gt,Ag,Ag];have:=Anp b hb j (i+1) q (128*n+b[i].toNat) (by omega) (by omega) (by rw[Atw];omega);rw[<-this];rfl
theorem Acw(b:List UInt8)(hb:b.length=4):HP b=some (WW b 0):=by
 have h:=Agj b hb 4 0 Ar 0 (by omega) (by have:=Am;omega) (by simp);rw[HP,HG,Aba (by rw[Ak,Ac];simp;omega),GA];exact h
theorem Aje(b:List UInt8)(hb:b.length=4):Za b=some (WW b 0):=by
 have h:=Anp b hb 4 0 Ar 0 (by omega) (by have:=Am;omega) (by simp);rw[Za,FO,Aba (by rw[Ak,Ac];simp;omega),EZ];exact h
theorem Ack{b:List UInt8}(hb:b.length=4):0<= (WW b 0).1/\ (WW b 0).1<268435456:=by
 have:=Agu b 0 0 (by simp);rw[hb]at this;simpa using this
theorem ZO(s p:List UInt8):Kh s p=some (decide (p.length<=s.length/\s.take p.length=p)):=by
 rw[Kh];by_cases h:p.length<=s.length
 ·rw[Abb (by rw[Dc,Ac,Ac];simp;omega),show Ac p=(p.length:Int)from rfl,If,Aa,Hc,Aa,Aiq];congr 1;rw[An0];simp[h]
 ·rw[Aba (by rw[Dc,Ac,Ac];simp;omega)];simp[h]
def lS(b:List UInt8)(n:Int):Int×Int:=
 if 4000<n then(0,4)else if(b.length:Int)<n then(0,24)else
 if b.getD 5 0=16/\ (b.take n.toNat).drop (n-10).toNat≠ [51,68,73]++part b 3 7 then(0,12)else(n,0)
def N7(b:List UInt8)(r:Int):Int×Int:=lS b (r+10+(if b.getD 5 0=16 then 10 else 0))
def MN(b:List UInt8):Int×Int:=
 if ¬(3<=b.length/\b.take 3=[73,68,51])then(0,6)else if b.length<10 then(0,24)else
 if(WW (part b 6 4) 0).2≠0\/b.getD 4 0≠0\/ ¬((b.getD 5 0=0/\2<= (b.getD 3 0).toNat/\ (b.getD 3 0).toNat<=4)\/ (b.getD 5 0=16/\b.getD 3 0=4))then(0,12)else
 N7 b (WW (part b 6 4) 0).1
theorem mQ{b:List UInt8}{i:Nat}(h:i<b.length):Aj b (i:Int)=some (b.getD i 0):=by
 rw[Ck h];simp[List.getD_eq_getElem?_getD,h]
theorem Np{b:List UInt8}(a w:Nat)(h:a+w<=b.length:=by omega):Bw b (a:Int) ((a+w:Nat):Int)=some (part b a w):=by
 rw[Pp];rfl
theorem Apx(b:List UInt8)(r:Int)(h10:10<=b.length)(h0:0<=r)(h1:r<268435456):Uh b r=some (N7 b r):=by
 have g5:Aj b (5:Int)=some (b.getD 5 0):=mQ (i:=5) (by omega);have key:∀n:Int,10<=n->n<268435500->Uc b n=some (lS b n):=by
  intro n hn hn2;rw[Uc,JR,lS];by_cases c1:4000<n
  ·rw[Abb (by rw[Al];simpa using c1),Abb c1]
  ·rw[Aba (by rw[Al];simpa using c1),Aba c1];by_cases c2:(b.length:Int)<n
   ·rw[Abb (by rw[Af,Ac];simpa using c2),Abb c2]
   ·have e3:Bw b (3:Int) (10:Int)=some (part b 3 7):=Np 3 7;rw[Aba (by rw[Af,Ac];simpa using c2),Aba c2,g5,Aa];by_cases c3:b.getD 5 0=16
    ·rw[Abb (by rw[ZL];simpa using c3),Bg,Pp,Aa,e3,Aa,Cx (by rw[Dk];simp),Aa];by_cases c4:(b.take n.toNat).drop (n-10).toNat=[51,68,73]++part b 3 7
     ·rw[Aba (by simpa using c4),Aba (by intro h;exact h.2 c4)]
     ·rw[Abb (by simpa using c4),Abb ⟨c3,c4⟩]
    ·rw[Aba (by rw[ZL];simpa using c3),Aba (λh=>c3 h.1)]
 rw[Uh,IL,g5,Aa,N7];by_cases c3:b.getD 5 0=16
 ·rw[Abb (by rw[ZL];simpa using c3),Ag (by rw[Ag]<;>omega) (by rw[Ag]<;>omega),Ag,key _ (by omega) (by omega),Abb c3,show 10+r+10=r+10+10 by omega]
 ·rw[Aba (by rw[ZL];simpa using c3),Ag,key _ (by omega) (by omega),Aba c3,show 10+r=r+10+0 by omega]
theorem Am5(b:List UInt8)(hb:b.length<4611686018427387904):BT b=some (MN b):=by
 rw[BT,IU,MN];by_cases h3:3<=b.length
 ·rw[Aba (by rw[Af,Ac];simp;omega),If,Aa];by_cases hp:b.take 3=[73,68,51]
  ·rw[Aba (by simpa using hp),Aba (by simp[h3,hp]),KQ,JC];by_cases h10:b.length<10
   ·rw[Abb (by rw[Af,Ac];simp;omega),Abb h10]
   ·have e6:Bw b (6:Int) (10:Int)=some (part b 6 4):=Np 6 4;have g3:Aj b (3:Int)=some (b.getD 3 0):=mQ (i:=3) (by omega);have g4:Aj b (4:Int)=some (b.getD 4 0):=mQ (i:=4) (by omega);have g5:Aj b (5:Int)=some (b.getD 5 0):=mQ (i:=5) (by omega);obtain⟨v1,v2⟩:=Ack (b:=part b 6 4) (Dk);rw[Aba (by rw[Af,Ac];simp;omega),Aba h10,e6,Aa,Aje _ (Dk),Aa];have ht:=Apx b (WW (part b 6 4) 0).1 (by omega) v1 v2;generalize WW (part b 6 4) 0=v at*
    obtain⟨v,e⟩:=v;simp only at ht v1 v2⊢;simp only[Aa,g3,g4,g5,ht];generalize b.getD 3 0=x at*
    generalize b.getD 4 0=y at*
    generalize b.getD 5 0=z at*
    simp only[Adg,Att,Ans,Ak];by_cases he:e=0<;>by_cases hy:y=0<;>by_cases hz:z=0<;>by_cases hz2:z=16<;>by_cases hx:x=4<;>by_cases hx2:x.toNat<2<;>by_cases hx4:4<x.toNat<;>simp_all<;>(rw[Aba (by omega),Aba (by omega)])
  ·rw[Abb (by simpa using hp),Abb (by simp[hp])]
 ·rw[Abb (by rw[Af,Ac];simp;omega),Abb (by simp[h3])]
theorem K4(b:List UInt8)(n:Int)(h10:10<=b.length)(hn:10<=n)(hn2:n<268435500):Ya b (b.getD 5 0) n=some (lS b n):=by
 rw[Ya,cD];by_cases c1:4000<n
 ·rw[Abb (by rw[Al];simpa using c1),lS,Abb c1]
 ·rw[Aba (by rw[Al];simpa using c1)];by_cases c2:(b.length:Int)<n
  ·rw[Abb (by rw[Af,Ac];simpa using c2),lS,Aba c1,Abb c2]
  ·have e3:Bw b (3:Int) (10:Int)=some (part b 3 7):=Np 3 7;rw[Aba (by rw[Af,Ac];simpa using c2)];by_cases c3:b.getD 5 0=16
   ·have hl:((b.take n.toNat).drop (n-10).toNat).length=10:=by simp;omega
    have ht:lS b n=if(b.take n.toNat).drop (n-10).toNat≠ [51,68,73]++part b 3 7 then(0,12)else(n,0):=by rw[lS,Aba c1,Aba c2];simp only[c3,true_and]
    rw[Abb (by rw[ZL];simpa using c3),Bg,Pp,Aa,ht];generalize(b.take n.toNat).drop (n-10).toNat=f at*
    rw[If,Aa,Fw,Aa,e3,Aa,Hc,Aa];have hf:f=f.take 3++f.drop 3:=(Awu 3 f).symm;by_cases c4:f=[51,68,73]++part b 3 7
    ·subst c4;simp
    ·by_cases c5:f.take 3=[51,68,73]
     ·have:f.drop 3≠part b 3 7:=λh=>c4 (by rw[hf,c5,h]);simp only[Axs,Avj]at c4;simp[c4,c5,this]
     ·simp only[Axs,Avj]at c4;simp[c4,c5]
   ·rw[Aba (by rw[ZL];simpa using c3),lS,Aba c1,Aba c2,Aba (λh=>c3 h.1)]
theorem Aml(b:List UInt8)(r:Int)(h10:10<=b.length)(h0:0<=r)(h1:r<268435456):Yk b r (b.getD 5 0)=some (N7 b r):=by
 rw[Yk,LO,N7];by_cases c3:b.getD 5 0=16
 ·rw[Abb (by rw[ZL];simpa using c3),Ag (by rw[Ag]<;>omega) (by rw[Ag]<;>omega),Ag,K4 b _ h10 (by omega) (by omega),Abb c3]
 ·rw[Aba (by rw[ZL];simpa using c3),Ag,K4 b _ h10 (by omega) (by omega),Aba c3];simp
theorem Ai9(b:List UInt8)(hb:b.length<4611686018427387904):ND b=some (MN b):=by
 rw[ND,Yb,ZO,Aa];by_cases hp:3<=b.length/\b.take 3=[73,68,51]
 ·rw[Aba (by simpa using hp)];by_cases h10:b.length<10
  ·rw[Abb (by rw[Af,Ac];simp;omega),MN,Aba (λh=>h hp),Abb h10]
  ·have e6:Bw b (6:Int) (10:Int)=some (part b 6 4):=Np 6 4;have g3:Aj b (3:Int)=some (b.getD 3 0):=mQ (i:=3) (by omega);have g4:Aj b (4:Int)=some (b.getD 4 0):=mQ (i:=4) (by omega);have g5:Aj b (5:Int)=some (b.getD 5 0):=mQ (i:=5) (by omega);obtain⟨v1,v2⟩:=Ack (b:=part b 6 4) (Dk);have ht:=Aml b (WW (part b 6 4) 0).1 (by omega) v1 v2;rw[Aba (by rw[Af,Ac];simp;omega),g3,Aa,g5,Aa,LG,MB,e6,Aa,Acw _ (Dk),Aa,MN,Aba (λh=>h hp),Aba h10];generalize WW (part b 6 4) 0=v at*
   obtain⟨v,e⟩:=v;simp only at ht v1 v2⊢;simp only[Aa,g4,KV,KU];generalize b.getD 3 0=x at*
   generalize b.getD 4 0=y at*
   generalize b.getD 5 0=z at*
   simp only[Adg,Auj,ZL,Al8,Ak];have e2:(2:UInt8).toNat=2:=rfl;have e4:(4:UInt8).toNat=4:=rfl;by_cases he:e=0<;>by_cases hy:y=0<;>by_cases hz:z=0<;>by_cases hz2:z=16<;>by_cases hx:x=4<;>by_cases hx2:2<=x.toNat<;>by_cases hx4:x.toNat<=4<;>simp_all
 ·rw[Abb (by rw[Au3,Aww];exact hp),MN,Abb hp]
theorem An4{b:List UInt8}{n:Int}(h:MN b=(n,0)):10<=n/\n<=b.length/\n<=4000:=by
 unfold MN at h;split at h; · simp at h
 split at h; · simp at h
 split at h; · simp at h
 rename_i h10 _;obtain⟨v1,v2⟩:=Ack (b:=part b 6 4) (Dk);unfold N7 at h;generalize hm:(WW (part b 6 4) 0).1+10+(if b.getD 5 0=16 then 10 else 0)=m at h;unfold lS at h;split at h; · simp at h
 split at h; · simp at h
 split at h; · simp at h
 simp only[Auu,and_true]at h;subst h;refine⟨?_,by omega,by omega⟩;rw[<-hm];split<;>omega
def J0:List UInt8:=[65,80,69,84,65,71,69,88]
def Nd(n m fl:Nat):List UInt8:=J0++On 2000 4++On (n+32) 4++On m 4++On fl 4++List.replicate 8 0
theorem TW{n:Nat}(h:n<18446744073709551616):(UInt64.ofNat n).toNat=n:=by rw[Ajt,Abk h]
theorem kP(n m:Int)(fl:UInt64)(c:UInt64)(i q:Nat)(acc:List UInt8)(hi:i<6)(hc:Aj ([(2000:UInt64),(Ad (Ae n (32:Int)):UInt64),(Ad m:UInt64),fl,(0:UInt64),(0:UInt64)]:List UInt64) (i:Int)=some c)(h:c.toNat<4294967296)(ha:acc.length<=1000000):
  Zi n m fl (q+1) (i:Int) acc=Zi n m fl q ((i+1:Nat):Int) (acc++On c.toNat 4):=by
 have hb:=RE c 4 (by omega) (by omega) (by simpa using h);rw[Zi,ZS,Abb (by rw[Af,Ac];simp;omega),hc,Aa,Aa,show((4:Int))=((4:Nat):Int)from rfl,hb,Aa];simp only;rw[Cx (by rw[Bn];omega),Aa,Ag];rfl
theorem xQ(n m:Nat)(fl:UInt64)(hn:n<=3000)(hm:m<=1000)(hf:fl.toNat<4294967296):jY (n:Int) (m:Int) fl=some (Nd n m fl.toNat):=by
 have e1:(Ad (Ae (n:Int) (32:Int)):UInt64).toNat=n+32:=by rw[Ag,show(n:Int)+32=((n+32:Nat):Int) by omega,Sn,TW (by omega)]
 have e2:(Ad (m:Int):UInt64).toNat=m:=by rw[Sn,TW (by omega)]
 have hF:Ar=(Ar-7)+1+1+1+1+1+1+1:=by have:=Am;omega
 rw[jY,nV,mZ,hF];rw[show((0:Int))=((0:Nat):Int)from rfl,kP n m fl 2000 0 _ _ (by omega) rfl (by decide) (by simp),kP n m fl _ 1 _ _ (by omega) rfl (by rw[e1];omega) (by simp[Bn]),kP n m fl _ 2 _ _ (by omega) rfl (by rw[e2];omega) (by simp[Bn]),
  kP n m fl fl 3 _ _ (by omega) rfl hf (by simp[Bn]),kP n m fl 0 4 _ _ (by omega) rfl (by decide) (by simp[Bn]),kP n m fl 0 5 _ _ (by omega) rfl (by decide) (by simp[Bn]),e1,e2]
 rw[Zi,ZS,Aba (by rw[Af,Ac];simp),nF,D4,Nd];have z:On (0:UInt64).toNat 4++On (0:UInt64).toNat 4=List.replicate 8 0:=by decide
 have z2:On (2000:UInt64).toNat 4=On 2000 4:=rfl;rw[Adn _ (On (0:UInt64).toNat 4),z,z2];rfl
theorem rI(n m:Nat)(fl:UInt64)(hn:n<=3000)(hm:m<=1000)(hf:fl.toNat<4294967296):Pw (n:Int) (m:Int) fl=some (Nd n m fl.toNat):=by
 have e1:(Ad (Ae (n:Int) (32:Int)):UInt64).toNat=n+32:=by rw[Ag,show(n:Int)+32=((n+32:Nat):Int) by omega,Sn,TW (by omega)]
 have e2:(Ad (m:Int):UInt64).toNat=m:=by rw[Sn,TW (by omega)]
 have w:∀c:UInt64,Dt c 4=some (On c.toNat 4):=λc=>B8 c 4 (by omega);have z2:On (2000:UInt64).toNat 4=On 2000 4:=rfl;rw[Pw];simp only[w,e1,e2,Aa];rw[Cx (by simp[Bn]),Aa,Cx (by simp[Bn]),Aa,Cx (by simp[Bn]),Aa,Cx (by simp[Bn]),Aa,qQ,Aa,Cx (by simp[Bn]),Aa,z2];rfl
theorem FY{b:List UInt8}{a w k:Nat}(h:a+w<=k):part (b.take k) a w=part b a w:=by rw[part,part,Axn,Au6 h]
def JP(b:List UInt8):Bool:=decide (Ek (part b 12 4)<32\/3032<Ek (part b 12 4)\/1000<Ek (part b 16 4))
theorem Anj(b:List UInt8)(h:20<=b.length):(((Cc (lX (part b 12 4)) (32:UInt64))||(Eu (lX (part b 12 4)) (3032:UInt64)))||(Eu (lX (part b 16 4)) (1000:UInt64)))=JP b:=by
 rw[wI,TD,TD,TX (by rw[Dk];omega),TX (by rw[Dk];omega),JP];show((decide (Ek (part b 12 4)<32)||decide (3032<Ek (part b 12 4)))||decide (1000<Ek (part b 16 4)))=_;simp[Bool.or_assoc]
theorem sM(b:List UInt8)(h:20<=b.length)(hb:JP b=false):Ah (Ad (lX (part b 12 4)):Int) (32:Int)=((Ek (part b 12 4)-32:Nat):Int)/\ (Ad (lX (part b 16 4)):Int)=((Ek (part b 16 4):Nat):Int)/\Ek (part b 12 4)-32<=3000/\Ek (part b 16 4)<=1000:=by
 simp only[JP,Aww]at hb;refine⟨?_,HY (by rw[Dk];omega),by omega,by omega⟩;rw[HY (by rw[Dk];omega),Bg];omega
theorem ZY(b:List UInt8)(fl:UInt64)(h:20<=b.length)(hl:b.length<4611686018427387904)(hf:fl.toNat<4294967296):
  NZ b fl=some (if JP b=true then(0,0,false)else(((Ek (part b 12 4)-32:Nat):Int),((Ek (part b 16 4):Nat):Int),b==Nd (Ek (part b 12 4)-32) (Ek (part b 16 4)) fl.toNat)):=by
 have a1:XK b 12 4=some (lX (part b 12 4),0):=L8 b 12 4 (by omega) (by omega) (by omega) hl;have a2:XK b 16 4=some (lX (part b 16 4),0):=L8 b 16 4 (by omega) (by omega) (by omega) hl;rw[NZ,a1,Aa];simp only;rw[a2,Aa];simp only;rw[Anj b h];cases hb:JP b with
 |true=>rfl
 |false=>
  obtain⟨i1,i2,i3,i4⟩:=sM b h hb;rw[i1,i2,xQ _ _ _ i3 i4 hf];rfl
theorem mo(b:List UInt8)(h:20<=b.length)(hl:b.length<4611686018427387904):
  Ts b=some (if JP b=true then(0,0,false)else(((Ek (part b 12 4)-32:Nat):Int),((Ek (part b 16 4):Nat):Int),true)):=by
 have a1:Bw b 12 16=some (part b 12 4):=Np 12 4;have a2:Bw b 16 20=some (part b 16 4):=Np 16 4;rw[Ts,a1,Aa,Aaj _ (by rw[Dk];omega),Aa,a2,Aa,Aaj _ (by rw[Dk];omega),Aa,Anj b h];cases hb:JP b with
 |true=>rfl
 |false=>
  obtain⟨i1,i2,i3,i4⟩:=sM b h hb;rw[i1,i2];rfl
def Rm(b:List UInt8):Int×Int:=
 if ¬(8<=b.length/\b.take 8=J0)then(0,6)else if b.length<32 then(0,24)else
 if JP b=true\/b.take 32≠Nd (Ek (part b 12 4)-32) (Ek (part b 16 4)) 2684354560 then(0,12)else
 if b.length<Ek (part b 12 4)+32 then(0,24)else
 if(b.take (Ek (part b 12 4)+32)).drop (Ek (part b 12 4))≠Nd (Ek (part b 12 4)-32) (Ek (part b 16 4)) 2147483648 then(0,12)else(((Ek (part b 12 4)+32:Nat):Int),0)
theorem uf(b:List UInt8):JP (b.take 32)=JP b:=by rw[JP,JP,FY (by omega),FY (by omega)]
section
variable {b:List UInt8}
theorem fa1(h:¬(8<=b.length/\b.take 8=J0)):Rm b=(0,6):=by rw[Rm,Abb h]
theorem fa2(h:8<=b.length/\b.take 8=J0)(h2:b.length<32):Rm b=(0,24):=by rw[Rm,Aba (λh'=>h' h),Abb h2]
variable (h:8<=b.length/\b.take 8=J0) (h2:¬b.length<32)
include h h2
theorem fa3(h3:JP b=true):Rm b=(0,12):=by rw[Rm,Aba (λh'=>h' h),Aba h2,Abb (.inl h3)]
theorem fa4(h4:b.take 32≠Nd (Ek (part b 12 4)-32) (Ek (part b 16 4)) 2684354560):Rm b=(0,12):=by rw[Rm,Aba (λh'=>h' h),Aba h2,Abb (.inr h4)]
variable (h3:JP b=false) (h4:b.take 32=Nd (Ek (part b 12 4)-32) (Ek (part b 16 4)) 2684354560)
include h3 h4
theorem fa5(h5:b.length<Ek (part b 12 4)+32):Rm b=(0,24):=by
 rw[Rm,Aba (λh'=>h' h),Aba h2,Aba (λh'=>h'.elim (λe=>by rw[h3]at e;cases e) λe=>e h4),Abb h5]
theorem fa6(h5:¬b.length<Ek (part b 12 4)+32)(h6:(b.take (Ek (part b 12 4)+32)).drop (Ek (part b 12 4))≠Nd (Ek (part b 12 4)-32) (Ek (part b 16 4)) 2147483648):Rm b=(0,12):=by
 rw[Rm,Aba (λh'=>h' h),Aba h2,Aba (λh'=>h'.elim (λe=>by rw[h3]at e;cases e) λe=>e h4),Aba h5,Abb h6]
theorem fa7(h5:¬b.length<Ek (part b 12 4)+32)(h6:(b.take (Ek (part b 12 4)+32)).drop (Ek (part b 12 4))=Nd (Ek (part b 12 4)-32) (Ek (part b 16 4)) 2147483648):Rm b=(((Ek (part b 12 4)+32:Nat):Int),0):=by
 rw[Rm,Aba (λh'=>h' h),Aba h2,Aba (λh'=>h'.elim (λe=>by rw[h3]at e;cases e) λe=>e h4),Aba h5,Aba (λh'=>h' h6)]
end
theorem Acq(b:List UInt8)(hl:b.length<4611686018427387904):kD b=some (Rm b):=by
 rw[kD,ZO,Aa];by_cases hp:8<=b.length/\b.take 8=J0
 ·rw[Aba (by simpa [J0]using hp)];by_cases h32:b.length<32
  ·rw[Abb (by rw[Af,Ac];simp;omega),fa2 hp h32]
  ·have t:=ZY (b.take 32) 2684354560 (by simp;omega) (by simp;omega) (by decide);rw[uf,FY (by omega),FY (by omega)]at t;rw[Aba (by rw[Af,Ac];simp;omega),If,Aa,show(32:Int).toNat=32 from rfl,t,Aa];cases hb:JP b with
   |true=>rw[fa3 hp h32 hb];simp
   |false=>
    obtain⟨i1,i2,i3,i4⟩:=sM b (by omega) hb;have i5:32<=Ek (part b 12 4):=by simp only[JP,Aww]at hb;omega
    simp only[Ao4,Axj,false_or];by_cases c1:b.take 32=Nd (Ek (part b 12 4)-32) (Ek (part b 16 4)) 2684354560
    ·have c1':b.take 32=Nd (Ek (part b 12 4)-32) (Ek (part b 16 4)) (2684354560:UInt64).toNat:=c1;rw[Aba (by simpa using c1'),Ag];have e1:((Ek (part b 12 4)-32:Nat):Int)+64=((Ek (part b 12 4)+32:Nat):Int):=by omega
     rw[e1];by_cases c2:b.length<Ek (part b 12 4)+32
     ·rw[Abb (by rw[Af,Ac];simp;omega),fa5 hp h32 hb c1 c2]
     ·rw[Aba (by rw[Af,Ac];simp;omega),Bg,Pp,Aa,xQ _ _ _ i3 i4 (by decide),Aa,Hc,Aa];rw[show(((Ek (part b 12 4)+32:Nat):Int)).toNat=Ek (part b 12 4)+32 by omega,show(((Ek (part b 12 4)+32:Nat):Int)-32).toNat=Ek (part b 12 4) by omega];by_cases c3:(b.take (Ek (part b 12 4)+32)).drop (Ek (part b 12 4))=Nd (Ek (part b 12 4)-32) (Ek (part b 16 4)) 2147483648
      ·have c3':(b.take (Ek (part b 12 4)+32)).drop (Ek (part b 12 4))=Nd (Ek (part b 12 4)-32) (Ek (part b 16 4)) (2147483648:UInt64).toNat:=c3;rw[Aba (by simpa using c3'),fa7 hp h32 hb c1 c2 c3]
      ·have c3':¬(b.take (Ek (part b 12 4)+32)).drop (Ek (part b 12 4))=Nd (Ek (part b 12 4)-32) (Ek (part b 16 4)) (2147483648:UInt64).toNat:=c3;rw[Abb (by simpa using c3'),fa6 hp h32 hb c1 c2 c3]
    ·have c1':¬b.take 32=Nd (Ek (part b 12 4)-32) (Ek (part b 16 4)) (2684354560:UInt64).toNat:=c1;rw[Abb (by simpa using c1'),fa4 hp h32 c1]
 ·rw[Abb (by rw[Au3,Aww];exact hp),fa1 hp]
theorem Ah5(b:List UInt8)(hl:b.length<4611686018427387904):Yx b=some (Rm b):=by
 rw[Yx,EU];by_cases h8:8<=b.length
 ·rw[Aba (by rw[Af,Ac];simp;omega),If,Aa,show(8:Int).toNat=8 from rfl];by_cases ha:b.take 8=J0
  ·have hp:=And.intro h8 ha;rw[Aba (by simpa [J0]using ha),FI,FB];by_cases h32:b.length<32
   ·rw[Abb (by rw[Af,Ac];simp;omega),fa2 hp h32]
   ·have t:=mo (b.take 32) (by simp;omega) (by simp;omega);rw[uf,FY (by omega),FY (by omega)]at t;rw[Aba (by rw[Af,Ac];simp;omega),If,Aa,show(32:Int).toNat=32 from rfl,t,Aa];cases hb:JP b with
    |true=>rw[fa3 hp h32 hb];simp
    |false=>
     obtain⟨i1,i2,i3,i4⟩:=sM b (by omega) hb;have i5:32<=Ek (part b 12 4):=by simp only[JP,Aww]at hb;omega
     simp only[Ao4,Axj,false_or,Aa,Aze];rw[Tv,rI _ _ _ i3 i4 (by decide),Aa,Aa];by_cases c1:b.take 32=Nd (Ek (part b 12 4)-32) (Ek (part b 16 4)) 2684354560
     ·have c1':b.take 32=Nd (Ek (part b 12 4)-32) (Ek (part b 16 4)) (2684354560:UInt64).toNat:=c1;rw[Aba (by simpa using c1'),FX,FJ,Ag];have e1:64+((Ek (part b 12 4)-32:Nat):Int)=((Ek (part b 12 4)+32:Nat):Int):=by omega
      rw[e1];by_cases c2:b.length<Ek (part b 12 4)+32
      ·rw[Abb (by rw[Af,Ac];simp;omega),fa5 hp h32 hb c1 c2]
      ·rw[Aba (by rw[Af,Ac];simp;omega),Bg,Pp,Aa,Jz,Abb rfl,rI _ _ _ i3 i4 (by decide),Aa,Aa];rw[show(((Ek (part b 12 4)+32:Nat):Int)).toNat=Ek (part b 12 4)+32 by omega,show(((Ek (part b 12 4)+32:Nat):Int)-32).toNat=Ek (part b 12 4) by omega];by_cases c3:(b.take (Ek (part b 12 4)+32)).drop (Ek (part b 12 4))=Nd (Ek (part b 12 4)-32) (Ek (part b 16 4)) 2147483648
       ·have c3':(b.take (Ek (part b 12 4)+32)).drop (Ek (part b 12 4))=Nd (Ek (part b 12 4)-32) (Ek (part b 16 4)) (2147483648:UInt64).toNat:=c3;rw[Aba (by simpa using c3'),fa7 hp h32 hb c1 c2 c3]
       ·have c3':¬(b.take (Ek (part b 12 4)+32)).drop (Ek (part b 12 4))=Nd (Ek (part b 12 4)-32) (Ek (part b 16 4)) (2147483648:UInt64).toNat:=c3;rw[Abb (by simpa using c3'),fa6 hp h32 hb c1 c2 c3]
     ·have c1':¬b.take 32=Nd (Ek (part b 12 4)-32) (Ek (part b 16 4)) (2684354560:UInt64).toNat:=c1;rw[Abb (by simpa using c1'),fa4 hp h32 c1]
  ·rw[Abb (by simpa [J0]using ha),fa1 (λh=>ha h.2)]
 ·rw[Abb (by rw[Af,Ac];simp;omega),fa1 (λh=>h8 h.1)]
theorem Ajh{b:List UInt8}{n:Int}(h:Rm b=(n,0)):64<=n/\n<=b.length:=by
 unfold Rm at h;split at h; · simp at h
 split at h; · simp at h
 split at h; · simp at h
 rename_i hb;split at h; · simp at h
 split at h; · simp at h
 simp only[Auu,and_true]at h;have hb':¬JP b=true:=λe=>hb (.inl e);simp only[JP,Ab2]at hb';omega
def Ec(b:List UInt8):Int×Int:=if(MN b).2≠6 then MN b else Rm b
theorem size_eq(b:List UInt8)(hl:b.length<4611686018427387904):Ul b=some (Ec b):=by
 rw[Ul,Ai9 b hl,Aa,Acq b hl];by_cases h:(MN b).2=6
 ·simp[Ec,h,Ak]
 ·simp[Ec,h,Ak]
theorem D7{b:List UInt8}{n:Int}(h:Ec b=(n,0)):10<=n/\n<=b.length:=by
 unfold Ec at h;split at h
 ·have:=An4 h;omega
 ·have:=Ajh h;omega
def Cv(b:List UInt8):Nat->Nat->List Int×Int
 |0,_=>([],6)
 |j+1,p=>if(Ec (b.drop p)).2=6 then([],0)else if(Ec (b.drop p)).2≠0 then([],(Ec (b.drop p)).2)else
  if 4000<(p:Int)+(Ec (b.drop p)).1 then([],4)else
  if(Cv b j (p+(Ec (b.drop p)).1.toNat)).2=0 then((Ec (b.drop p)).1::(Cv b j (p+(Ec (b.drop p)).1.toNat)).1,0)else([],(Cv b j (p+(Ec (b.drop p)).1.toNat)).2)
theorem tL(b:List UInt8):∀(j p:Nat),p<=b.length->p<=4000-> (Cv b j p).2=0-> (∀x∈(Cv b j p).1,10<=x)/\ (p:Int)+(Cv b j p).1.sum<=b.length/\ (p:Int)+(Cv b j p).1.sum<=4000
 |0,p,_,_,h=>by simp[Cv]at h
 |j+1,p,hp,hq,h=>by
  rw[Cv]at h⊢;split at h
  ·rename_i h6;rw[Abb h6];simp;omega
  ·rename_i h6;split at h
   ·rename_i h0;exact absurd h h0
   ·rename_i h0;rw[Aba h6,Aba h0];have hz:Ec (b.drop p)=((Ec (b.drop p)).1,0):=by rw[Prod.ext_iff];exact⟨rfl,Classical.not_not.1 h0⟩
    have hs:=D7 hz;rw[Asn]at hs;split at h
    ·simp at h
    ·rename_i h4;rw[Aba h4];split at h
     ·rename_i h00;rw[Abb h00];obtain⟨i1,i2,i3⟩:=tL b j _ (by omega) (by omega) h00;refine⟨λx hx=>?_,?_,?_⟩
      ·rcases List.mem_cons.1 hx with rfl|hx
       ·exact hs.1
       ·exact i1 x hx
      ·simp only[Au2];omega
      ·simp only[Au2];omega
     ·rename_i h00;exact absurd h h00
def ru(b:List UInt8)(j p:Nat):Int×Int:=if(Cv b j p).2=0 then((p:Int)+(Cv b j p).1.sum,0)else(0,(Cv b j p).2)
theorem C8(b:List UInt8)(hl:b.length<4611686018427387904):∀(j p q:Nat),p<=b.length->p<=4000->b.length-p<j->j<=q->Sg b q (p:Int)=some (ru b j p)
 |0,p,q,_,_,h,_=>by omega
 |j+1,p,q,hp,hp4,hj,hq=>by
  obtain⟨q,rfl⟩:∃k,q=k+1:=⟨q-1,by omega⟩;rw[Sg,Fw,Aa,Aiq,size_eq _ (by simp;omega),Aa,Bc,Bc,Ak,ru];by_cases h6:(Ec (b.drop p)).2=6
  ·rw[Abb (by simpa using h6)];have:Cv b (j+1) p=([],0):=by rw[Cv,Abb h6]
   rw[this];simp
  ·rw[Aba (by simpa using h6)];by_cases h0:(Ec (b.drop p)).2=0
   ·have hz:Ec (b.drop p)=((Ec (b.drop p)).1,0):=by rw[Prod.ext_iff];exact⟨rfl,h0⟩
    have hs:=D7 hz;rw[Asn]at hs;rw[Ag,Al];by_cases h4:4000<(p:Int)+(Ec (b.drop p)).1
    ·rw[Abb (by simp[h0];omega)];have:Cv b (j+1) p=([],4):=by rw[Cv,Aba h6,Aba (λh=>h h0),Abb h4]
     rw[this];simp
    ·rw[Aba (by simp[h0];omega),Aba (by simpa using h0)];have ih:=C8 b hl j (p+(Ec (b.drop p)).1.toNat) q (by omega) (by omega) (by omega) (by omega);rw[show(p:Int)+(Ec (b.drop p)).1=((p+(Ec (b.drop p)).1.toNat:Nat):Int) by omega,ih,ru];have:Cv b (j+1) p=if(Cv b j (p+(Ec (b.drop p)).1.toNat)).2=0 then((Ec (b.drop p)).1::(Cv b j (p+(Ec (b.drop p)).1.toNat)).1,0)else([],(Cv b j (p+(Ec (b.drop p)).1.toNat)).2):=by
      rw[Cv,Aba h6,Aba (λh=>h h0),Aba h4]
     rw[this];by_cases hr:(Cv b j (p+(Ec (b.drop p)).1.toNat)).2=0
     ·simp only[hr,Az3,Au2];congr 2;omega
     ·simp only[hr,Axj]
   ·rw[Aba (by simp[h0]),Abb (by simpa using h0)];have:Cv b (j+1) p=([],(Ec (b.drop p)).2):=by rw[Cv,Aba h6,Abb h0]
    rw[this];simp[h0]
def Ak1(b:List UInt8)(j p:Nat)(xs:List Int):List Int×Int:=if(Cv b j p).2=0 then(xs++(Cv b j p).1,0)else([],(Cv b j p).2)
theorem Ak7(bk:Int->List Int->Option (List Int×Int))(b:List UInt8)(p:Nat)(hp:p<=b.length)(xs:List Int)(hx:xs.length<=4000)(hl:b.length<4611686018427387904):To (Mq bk b) b (p:Int) xs=Mq bk b (p:Int) xs (Ec (b.drop p)).1 (Ec (b.drop p)).2:=by
 have hf:=Ah5 (b.drop p) (by simp;omega);rw[To,Fw,Aa,Aiq,Am5 _ (by simp;omega),Aa];by_cases h:(MN (b.drop p)).2=6
 ·simp[Ec,h,Bc,hf]
 ·simp[Ec,h,Bc]
theorem O4(b:List UInt8)(hl:b.length<4611686018427387904):∀(j p q:Nat) (xs:List Int),p<=b.length->p<=4000->b.length-p<j->j<=q->xs.length<=p->Mk b q (p:Int) xs=some (Ak1 b j p xs)
 |0,p,q,_,_,_,h,_,_=>by omega
 |j+1,p,q,xs,hp,hp4,hj,hq,hx=>by
  obtain⟨q,rfl⟩:∃k,q=k+1:=⟨q-1,by omega⟩;rw[Mk,Ak7 _ b p hp xs (by omega) hl,Mq,FH,Bc,Ak,Ak1];by_cases h6:(Ec (b.drop p)).2=6
  ·rw[Abb (by simpa using h6)];have:Cv b (j+1) p=([],0):=by rw[Cv,Abb h6]
   rw[this];simp
  ·rw[Aba (by simpa using h6)];by_cases h0:(Ec (b.drop p)).2=0
   ·have hz:Ec (b.drop p)=((Ec (b.drop p)).1,0):=by rw[Prod.ext_iff];exact⟨rfl,h0⟩
    have hs:=D7 hz;rw[Asn]at hs;rw[Aba (by simpa using h0),Ag,Al];by_cases h4:4000<(p:Int)+(Ec (b.drop p)).1
    ·rw[Abb (by simp;omega)];have:Cv b (j+1) p=([],4):=by rw[Cv,Aba h6,Aba (λh=>h h0),Abb h4]
     rw[this];simp
    ·rw[Aba (by simp;omega),Cx (by simp;omega),Aa];have ih:=O4 b hl j (p+(Ec (b.drop p)).1.toNat) q (xs++[(Ec (b.drop p)).1]) (by omega) (by omega) (by omega) (by omega) (by simp;omega);rw[show(p:Int)+(Ec (b.drop p)).1=((p+(Ec (b.drop p)).1.toNat:Nat):Int) by omega,ih,Ak1];have:Cv b (j+1) p=if(Cv b j (p+(Ec (b.drop p)).1.toNat)).2=0 then((Ec (b.drop p)).1::(Cv b j (p+(Ec (b.drop p)).1.toNat)).1,0)else([],(Cv b j (p+(Ec (b.drop p)).1.toNat)).2):=by
      rw[Cv,Aba h6,Aba (λh=>h h0),Aba h4]
     rw[this];by_cases hr:(Cv b j (p+(Ec (b.drop p)).1.toNat)).2=0
     ·simp only[hr,Az3];simp
     ·simp only[hr,Axj]
   ·rw[Abb (by simpa using h0)];have:Cv b (j+1) p=([],(Ec (b.drop p)).2):=by rw[Cv,Aba h6,Abb h0]
    rw[this];simp[h0]
theorem wD:∀{l:List Int},(∀x∈l,10<=x)->0<=l.sum/\ (l.length:Int)<=l.sum
 |[],_=>by simp
 |x::l,h=>by
  have h1:=h x At9;have h2:=wD (l:=l) λy hy=>h y (Aj2 _ hy);simp only[Au2,Aj1];omega
theorem xE(r:Int)(l:List Int)(hl:l.length<=4000)(hx:∀x∈l,10<=x):∀(j i q:Nat) (n:Int),i+j=l.length->j<q->0<=n->n+(l.drop i).sum<=4000->Im r l q n (i:Int)=some (n+(l.drop i).sum,r)
 |0,i,q+1,n,hi,_,_,_=>by
  rw[Im,So,Aba (by rw[Af,Ac];simp;omega),show i=l.length by omega,Axw];simp[FW,ES]
 |j+1,i,q+1,n,hi,hq,hn,hs=>by
  have hlt:i<l.length:=by omega
  rw[drop_cons hlt,Au2]at hs⊢;have h1:=hx l[i] (Au9 hlt);have h2:=wD (l:=l.drop (i+1)) λy hy=>hx y (Azi hy);rw[Im,So,Abb (by rw[Af,Ac];simp;omega),Ck hlt,Aa,Aa,Ag,Ag];have ih:=xE r l hl hx j (i+1) q (n+l[i]) (by omega) (by omega) (by omega) (by omega);rw[show((i:Int)+1)=((i+1:Nat):Int) by omega,ih];congr 2;omega
def De(b:List UInt8):Int×Int:=ru b (b.length+1) 0
theorem Lp(b:List UInt8)(hl:b.length<4611686018427387904):Ux b=some (De b):=by
 have:=C8 b hl (b.length+1) 0 Ar (by omega) (by omega) (by omega) (by have:=Am;omega);exact this
theorem ZK(b:List UInt8)(hl:b.length<4611686018427387904):Mh b=some (De b):=by
 have h:=O4 b hl (b.length+1) 0 Ar [] (by omega) (by omega) (by omega) (by have:=Am;omega) (by simp);have h':OU b=some (Ak1 b (b.length+1) 0 []):=h;rw[Mh,FF,h',Aa,De,ru,Ak1];have ho:=tL b (b.length+1) 0 (by omega) (by omega);by_cases h0:(Cv b (b.length+1) 0).2=0
 ·obtain⟨i1,i2,i3⟩:=ho h0;have hp:=wD i1;simp only[h0,Az3,Avj];have:=xE 0 (Cv b (b.length+1) 0).1 (by omega) i1 (Cv b (b.length+1) 0).1.length 0 Ar 0 (by omega) (by have:=Am;omega) (by omega) (by simpa using i3);simpa [Sy]using this
 ·simp only[h0,Axj];have:=xE (Cv b (b.length+1) 0).2 [] (by simp) (by simp) 0 0 Ar 0 (by simp) (by have:=Am;omega) (by omega) (by simp);simpa [Sy]using this
theorem rQ{b:List UInt8}(h:(De b).2=0):0<= (De b).1/\ (De b).1<=b.length/\ (De b).1<=4000:=by
 unfold De ru at h⊢;split at h
 ·rename_i h0;rw[Abb h0];obtain⟨i1,i2,i3⟩:=tL b (b.length+1) 0 (by omega) (by omega) h0;have hp:=wD i1;exact⟨by simp;omega,i2,i3⟩
 ·rename_i h0;exact absurd h h0
def Au(r:Nat):Nat:=max 1 (256*r/245)
theorem Qg(r:Nat):1<=Au r:=Nat.le_max_left _ _
theorem zU{r:Nat}(h:r<=1048576):Au r<=1100000:=by unfold Au;omega
theorem D1{r:Nat}(h:r<=1048576):lC (1:Int) (Bz (Bd (256:Int) (r:Int)) (245:Int))=(Au r:Int):=by
 rw[Gt,LA,Avz (by omega),Bp (by omega) (by omega),Z2,Au];omega
def Aq(g n:Nat):List Int:=List.replicate ((n-1)/g) (g:Int)++[((n-(n-1)/g*g:Nat):Int)]
theorem Zv(g n:Nat):(Aq g n).length=(n-1)/g+1:=by simp[Aq]
theorem mM{g n:Nat}(h:n<=g)(h1:1<=n):Aq g n=[(n:Int)]:=by
 rw[Aq,Aw1 (by omega)];simp
theorem vL{g n:Nat}(hg:1<=g)(h:g<n):Aq g n=(g:Int)::Aq g (n-g):=by
 have e:(n-1)/g=(n-g-1)/g+1:=by rw[<-Nat.add_div_right _ (by omega)];congr 1;omega
 rw[Aq,Aq,e,Avq,Axs];congr 4;have:=Axb (n-g-1) g;rw[Aux,Nat.one_mul];omega
theorem oJ{g n:Nat}(hg:1<=g)(h1:1<=n):(n+g-1)/g=(n-1)/g+1:=by
 rw[<-Nat.add_div_right _ (by omega)];congr 1;omega
theorem K0{r:Nat}(h1:1<=r)(h:r<=1048576):Qp (r:Int)=some ((Au r:Int),0):=by
 rw[Qp,Aba (by simp[Af,Al];omega),D1 h]
theorem Al6{r:Nat}(h:r<=1048576):Tx (r:Int)=some (Au r:Int):=by rw[Tx,D1 h]
theorem ZM{r n:Nat}(h1:1<=r)(h:r<=1048576)(n1:1<=n)(n2:n<=4000):Hg (r:Int) (n:Int)=some (if 1000<(n-1)/Au r+1 then(0,4)else((((n-1)/Au r+1:Nat):Int),0)):=by
 have hp:=Qg r;have hl:=zU h;have e:Bz (Ah (Ae (n:Int) (Au r:Int)) (1:Int)) (Au r:Int)=(((n-1)/Au r+1:Nat):Int):=by
  have:(n+Au r-1)/Au r<=n+Au r-1:=Asv _ _;rw[Ag,Bg,LA,Avz (by omega),show(n:Int)+(Au r:Int)-1=((n+Au r-1:Nat):Int) by omega,<-Int.natCast_ediv,oJ hp n1];rw[oJ hp n1]at this;generalize(n-1)/Au r=k at*
  exact Bp (by omega) (by omega)
 rw[Hg,K0 h1 h,Aa];simp only;rw[Aba (by rw[Ak];simp),Aba (by simp[Af,Al];omega),Be (by rw[Ak];simp;omega),Aa,e];by_cases hk:1000<(n-1)/Au r+1
 ·rw[Abb (by rw[Al];simp;omega),Abb hk]
 ·rw[Aba (by rw[Al];simp;omega),Aba hk]
theorem D5{r:Nat}(h:r<=1048576):∀(j n q:Nat) (acc:List Int),n<=4000->n<=j->j<q->acc.length+n<=10000->Em (r:Int) q (n:Int) acc=some (acc++(if n=0 then []else Aq (Au r) n))
 |0,n,q+1,acc,hn,hj,hq,ha=>by
  obtain rfl:n=0:=by omega
  rw[Em,Ir,Aba (by rw[Al];simp)];simp[Mr,Mn]
 |j+1,n,q+1,acc,hn,hj,hq,ha=>by
  have hp:=Qg r;have hl:=zU h;by_cases h0:n=0
  ·subst h0;rw[Em,Ir,Aba (by rw[Al];simp)];simp[Mr,Mn]
  ·rw[Em,Ir,Abb (by rw[Al];simp;omega),Al6 h,Aa,Cx (by simp;omega),Aa,Aa,Bg,GB];by_cases hs:n<=Au r
   ·rw[show min (n:Int) (Au r:Int)=(n:Int) by omega,Aba h0,mM hs (by omega)];have hz:∃k,q=k+1:=⟨q-1,by omega⟩;obtain⟨q,rfl⟩:=hz;rw[Em,Ir,Aba (by rw[Al];simp;omega)];simp[Mr,Mn]
   ·rw[show min (n:Int) (Au r:Int)=(Au r:Int) by omega,show(n:Int)-(Au r:Int)=((n-Au r:Nat):Int) by omega,D5 h j (n-Au r) q _ (by omega) (by omega) (by omega) (by simp;omega),Aba (by omega),Aba h0,vL hp (show Au r<n by omega)];simp
theorem qA{r n:Nat}(h:r<=1048576)(n1:1<=n)(n2:n<=4000):Dx (r:Int) (n:Int)=some (Aq (Au r) n):=by
 have:=D5 h n n Ar [] n2 (Aj0 _) (by have:=Am;omega) (by simp;omega);rw[Dx,FE,EP,this,Aba (by omega)];rfl
theorem mul_one(m:Nat)(h:m<=100000):IA (1:UInt64) (UInt64.ofNat m)=some (0,UInt64.ofNat m):=by
 have y1:(UInt64.ofNat m).toNat=m:=TW (by omega);have s1:Bt (1:UInt64) (GI.toZ (32:UInt64)).toNat=0:=by decide
 have s2:Bt (UInt64.ofNat m) (GI.toZ (32:UInt64)).toNat=0:=by
  apply UInt64.toNat_inj.1;rw[ED,y1];exact Aw1 (Aw8 h (by decide))
 have s0:Bt (0:UInt64) (GI.toZ (32:UInt64)).toNat=0:=by decide
 have a1:Di (1:UInt64) (4294967295:UInt64)=1:=by decide
 have a0:Di (0:UInt64) (4294967295:UInt64)=0:=by decide
 have a2:Di (UInt64.ofNat m) (4294967295:UInt64)=UInt64.ofNat m:=by
  apply UInt64.toNat_inj.1;rw[B6,UInt64.toNat_and,y1]
  show m&&& (2^32-1)=m;rw[Awr,Abk (by omega)]
 have m1:∀x:UInt64,Bd 1 x=x:=λx=>by rw[JN,UInt64.one_mul]
 have m0:∀x:UInt64,Bd 0 x=0:=λx=>by rw[JN,UInt64.zero_mul]
 have p0:∀x:UInt64,Ae 0 x=x:=λx=>by rw[JT,UInt64.zero_add]
 have p1:∀x:UInt64,Ae x 0=x:=λx=>by rw[JT,UInt64.add_zero]
 rw[IA,LR];simp only[s1,s2,a1,a2,m1,m0,p0,p1,s0,a0,Aa]
theorem uH(v:Int)(m:Nat)(hm:m<=100000):∀(j n q:Nat),1<=n->n<=m->m-n<=j->j<q->Eh q (n:Int) (List.replicate n v++List.replicate (m-n) 0)=some (List.replicate m v)
 |j,n,q+1,hn,hnm,hj,hq=>by
  have hlen:Ac (List.replicate n v++List.replicate (m-n) 0)=(m:Int):=by simp[Ac];omega
  rw[Eh,Gj,hlen];by_cases h:n<m
  ·obtain⟨j,rfl⟩:∃k,j=k+1:=⟨j-1,by omega⟩;rw[Abb (by rw[Af];simp;omega)];have v1:cG (m:Int) (n:Int) (m:Int)=some ():=by rw[cG,Be];simp;omega
   have v2:cG (m:Int) (0:Int) (n:Int)=some ():=by rw[cG,Be];simp;omega
   have e1:SL (List.replicate n v++List.replicate (m-n) 0) (0:Int) ((n:Int)-0)=List.replicate n v:=by
    simp[SL]
   rw[v1,Aa,v2,Aa,e1];have e2:RA ((m:Int)-(n:Int)) (List.replicate n v).length=((min n (m-n):Nat):Int):=by
    rw[RA,Ash];split<;>omega
   have e3:Sr (List.replicate n v++List.replicate (m-n) 0) (n:Int) ((m:Int)-(n:Int)) (List.replicate n v)=List.replicate (n+min n (m-n)) v++List.replicate (m-(n+min n (m-n))) 0:=by
    have t1:((m:Int)-(n:Int)).toNat=m-n:=by omega
    have t2:(List.replicate n v++List.replicate (m-n) (0:Int)).take n=List.replicate n v:=by simp
    rw[Sr,t1,Aiq,t2,List.take_replicate,Ash,<-Adn,List.replicate_append_replicate,List.drop_append,Ash,Nat.min_comm (m-n) n];simp only[List.drop_replicate];rw[show n-(n+min n (m-n))=0 by omega,List.replicate_zero,Avj,show m-n-(n+min n (m-n)-n)=m-(n+min n (m-n)) by omega]
   rw[e2,e3,Ag,show(n:Int)+((min n (m-n):Nat):Int)=((n+min n (m-n):Nat):Int) by omega];exact uH v m hm j (n+min n (m-n)) q (by omega) (by omega) (by omega) (by omega)
  ·rw[Aba (by rw[Af];simp;omega)];obtain rfl:n=m:=by omega
   simp[Ie,Mv]
theorem Ajk(v:Int)(m:Nat)(hm:m<=100000):Mp [v] (m:Int)=some (List.replicate m v):=by
 have y1:(UInt64.ofNat m).toNat=m:=TW (by omega);have c1:(Ad (Ac [v]):UInt64)=1:=by rfl
 have c2:(Ad (m:Int):UInt64)=UInt64.ofNat m:=Sn m;have c3:(Ad (UInt64.ofNat m):Int)=(m:Int):=by rw[tO (by omega),y1]
 rw[Mp,Od,Aba (by rw[Af];simp),Oh,Nw,c1,c2,mul_one m hm,Aa];simp only;rw[Aba (by rw[TD,TD,y1];simp;show m<=9223372036854775807;omega),Nz,Og,c3,qQ,Aa,Be (by rw[Bc];simp),Aa,Oe,Aiq];by_cases h0:m=0
 ·subst h0;have hF:Ar=(Ar-1)+1:=by have:=Am;omega
  rw[hF,Eh,Gj];simp[Ac,G8,RA,Af,Ie,Mv]
 ·have:=uH v m hm m 1 Ar (by omega) (by omega) (by omega) (by have:=Am;omega);have e1:RA (Ac (List.replicate m (0:Int))) [v].length=((1:Nat):Int):=by simp[RA,Ac];omega
  have e2:G8 (List.replicate m (0:Int)) [v]=List.replicate 1 v++List.replicate (m-1) 0:=by
   obtain⟨k,rfl⟩:∃k,m=k+1:=⟨m-1,by omega⟩;simp[G8]
  rw[e1,e2,this]
theorem Ai3(l m:List Int)(h:l.length+m.length<=1000000):Ml [l,m]=some (l++m):=by
 have hF:Ar=(Ar-3)+1+1+1:=by have:=Am;omega
 rw[Ml,Oa,Nx];have g0:Aj [l,m] (0:Int)=some l:=rfl;have g1:Aj [l,m] (1:Int)=some m:=rfl;have l2:Ac [l,m]=2:=rfl;have h3:Ih [l,m] []=some (l++m):=by
  rw[Ih,Mw,Na,hF,Dv,Fy,l2,Abb (by decide),g0,Aa,Cx (by simp;omega),Aa,Avj,show Ae (0:Int) 1=1 by decide,
   Dv,Fy,l2,Abb (by decide),g1,Aa,Cx,Aa,show Ae (1:Int) 1=2 by decide,Dv,Fy,l2,Aba (by decide)]
  rfl
 rw[hF,Eg,Gh,l2,Abb (by decide),g0,Aa,Ag (by unfold Ac;omega) (by unfold Ac;omega),Aba (by rw[Af,Ac];simp),show Ae (0:Int) 1=1 by decide,
  Eg,Gh,l2,Abb (by decide),g1,Aa,Ag (by unfold Ac;omega) (by unfold Ac;omega),Aba (by rw[Af,Ac,Ac];simp;omega),show Ae (1:Int) 1=2 by decide,
  Eg,Gh,l2,Aba (by decide),Mt,Nb,Aba (by rw[Af,Ac,Ac];simp;omega),Mz,Mx]
 have z:Ah (0:Int) 0=0:=by decide
 have n0:(0:Int)+Ac l+Ac m=((l.length+m.length:Nat):Int):=by simp[Ac]
 rw[z,n0,Bg,Int.sub_zero];by_cases hp:0<l.length+m.length
 ·rw[Abb (by rw[Al];simp;omega),show cG (0:Int) 0 0=some ()from rfl,Aa,qQ,Aa,Cx (by simp;omega),Aa];rw[show cG (Ac ([]++List.replicate ((l.length+m.length:Nat):Int).toNat (0:Int))) 0 0=some () by rw[cG,Be];simp[Ac];omega,Aa];simp only[SL,Int.sub_self,Azy,Axm];exact h3
 ·rw[Aba (by rw[Al];simp;omega)];exact h3
theorem Abg{r n:Nat}(h1:1<=r)(h:r<=1048576)(n1:1<=n)(n2:n<=4000)(hk:(n-1)/Au r+1<=1000):Uj (r:Int) (n:Int)=some (Aq (Au r) n,0):=by
 have hp:=Qg r;have hl:=zU h;have hd:=Axb (n-1) (Au r);rw[Uj,ZM h1 h n1 n2,Aba (by omega),Aa];simp only;rw[Aba (by rw[Ak];simp),K0 h1 h,Aa];simp only;rw[Aq];generalize(n-1)/Au r=k at*
 have e1:Ah ((k+1:Nat):Int) 1=(k:Int):=by rw[Bg];omega
 have e2:(k:Int)*(Au r:Int)=((k*Au r:Nat):Int):=by simp
 rw[e1,Ajk _ _ (by omega),Aa,Gt (by rw[e2];omega) (by rw[e2];omega),e2,Bg,QF,Ai3 _ _ (by simp;omega),Aa,Aa,show(n:Int)-((k*Au r:Nat):Int)=((n-k*Au r:Nat):Int) by omega]
def Fe(f c w r n:Nat):Bool:=decide ((f=1\/f=2)/\ (1<=c/\c<=6)/\ (w=8\/w=16\/w=24)/\ (1<=r/\r<=1048576)/\1<=n)
def CM(c r n:Nat):Bool:=decide (n<=4000/c/\ (n-1)/Au r+1<=1000)
theorem eL(f c w r n:Nat):Xf (f:Int) (c:Int) (w:Int) (r:Int) (n:Int)=some (Fe f c w r n):=by
 have e2:Vt (f:Int) (c:Int) (w:Int) (r:Int) (n:Int)=some (decide ((f=1\/f=2)/\ (1<=c/\c<=6)/\ (1<=r/\r<=1048576)/\1<=n)):=by
  rw[Vt,WU];congr 1;rw[An0];simp only[Bc,Al,D6,Abz,Awf,Axd,Ab2];omega
 have g:∀k:Nat,geq (w:Int) (k:Int)=decide (w=k):=λk=>by rw[Bc,An0];simp;omega
 have g8:geq (w:Int) (8:Int)=decide (w=8):=g 8;have g16:geq (w:Int) (16:Int)=decide (w=16):=g 16;have g24:geq (w:Int) (24:Int)=decide (w=24):=g 24;rw[Xf,GD,e2,g8,g16,g24,Fe];by_cases h8:w=8
 ·subst h8;simp
 ·by_cases h16:w=16
  ·subst h16;simp
  ·by_cases h24:w=24
   ·subst h24;simp
   ·simp[h8,h16,h24]
theorem Adu(f c w r n:Nat):Ww (f:Int) (c:Int) (w:Int) (r:Int) (n:Int)=some (Fe f c w r n):=by
 rw[Ww,Fe];simp only[Bc,Dc,D6,Abz,Awf,Axd,Ab2,Azs];split
 ·rename_i h;congr 1;rw[An0];simp only[Abz,Awf,Axd,Ab2];omega
 ·rename_i h;congr 1;symm;rw[Aww];omega
theorem Asg{c:Nat}(h:1<=c):Bz (4000:Int) (c:Int)=((4000/c:Nat):Int):=by
 have:4000/c<=4000:=Asv _ _;rw[LA,Avz (by omega),show(4000:Int)=((4000:Nat):Int)from rfl,<-Int.natCast_ediv];generalize 4000/c=k at*
 exact Bp (by omega) (by omega)
theorem sL{f c w r n:Nat}(h:Fe f c w r n=true):KH (f:Int) (c:Int) (w:Int) (r:Int) (n:Int)=some (CM c r n):=by
 simp only[Fe,Ab2]at h;have hd:4000/c<=4000:=Asv _ _;rw[KH,Be (by rw[Ak];simp;omega),Aa,Asg (by omega),CM];generalize 4000/c=m at*
 by_cases h1:n<=m
 ·rw[Aba (by rw[Al];simp;omega),ZM (by omega) (by omega) (by omega) (by omega),Aa];generalize(n-1)/Au r+1=k;by_cases h2:1000<k
  ·rw[Abb h2];simp[Bc,D6];omega
  ·rw[Aba h2];simp[Bc,D6,h1];omega
 ·rw[Abb (by rw[Al];simp;omega)];simp[h1]
theorem Anx{f c w r n:Nat}(h:Fe f c w r n=true):DZ (f:Int) (c:Int) (w:Int) (r:Int) (n:Int)=some (!CM c r n):=by
 simp only[Fe,Ab2]at h;have hd:4000/c<=4000:=Asv _ _;rw[DZ,Be (by rw[Ak];simp;omega),Aa,Asg (by omega),CM];generalize 4000/c=m at*
 by_cases h1:n<=m
 ·rw[Aba (by rw[Al];simp;omega),qA (by omega) (by omega) (by omega),Aa,Ac,Zv];generalize(n-1)/Au r+1=k;congr 1;rw[Al,An0];simp only[Ab2,Au3,Aww];omega
 ·rw[Abb (by rw[Al];simp;omega)];simp[h1]
def Hz:List UInt8:=[84,84,65,49]
def f0(b:List UInt8):Nat:=Ek (part b 4 2)
def f1(b:List UInt8):Nat:=Ek (part b 6 2)
def f2(b:List UInt8):Nat:=Ek (part b 8 2)
def f3(b:List UInt8):Nat:=Ek (part b 10 4)
def f4(b:List UInt8):Nat:=Ek (part b 14 4)
abbrev H6:=Int×Int×Int×Int×Int×Int
def Gn(b:List UInt8):H6:=
 if b.take (min 4 b.length)≠Hz.take (min 4 b.length)then(0,0,0,0,0,12)else if b.length<22 then(0,0,0,0,0,24)else
 if(Da (b.take 18)).toNat≠Ek (part b 18 4)then(0,0,0,0,0,22)else
 if Fe (f0 b) (f1 b) (f2 b) (f3 b) (f4 b)=false then(0,0,0,0,0,12)else
 if CM (f1 b) (f3 b) (f4 b)=false then(0,0,0,0,0,4)else((f0 b:Int),(f1 b:Int),(f2 b:Int),(f3 b:Int),(f4 b:Int),0)
section
variable {b:List UInt8}
theorem rs1(h:b.take (min 4 b.length)≠Hz.take (min 4 b.length)):Gn b=(0,0,0,0,0,12):=by rw[Gn,Abb h]
variable (h:b.take (min 4 b.length)=Hz.take (min 4 b.length))
include h
theorem rs2(h2:b.length<22):Gn b=(0,0,0,0,0,24):=by rw[Gn,Aba (λe=>e h),Abb h2]
variable (h2:¬b.length<22)
include h2
theorem rs3(h3:(Da (b.take 18)).toNat≠Ek (part b 18 4)):Gn b=(0,0,0,0,0,22):=by rw[Gn,Aba (λe=>e h),Aba h2,Abb h3]
variable (h3:(Da (b.take 18)).toNat=Ek (part b 18 4))
include h3
theorem rs4(h4:Fe (f0 b) (f1 b) (f2 b) (f3 b) (f4 b)=false):Gn b=(0,0,0,0,0,12):=by rw[Gn,Aba (λe=>e h),Aba h2,Aba (λe=>e h3),Abb h4]
variable (h4:Fe (f0 b) (f1 b) (f2 b) (f3 b) (f4 b)=true)
include h4
theorem rs5(h5:CM (f1 b) (f3 b) (f4 b)=false):Gn b=(0,0,0,0,0,4):=by rw[Gn,Aba (λe=>e h),Aba h2,Aba (λe=>e h3),Aba (by rw[h4];simp),Abb h5]
theorem rs6(h5:CM (f1 b) (f3 b) (f4 b)=true):Gn b=((f0 b:Int),(f1 b:Int),(f2 b:Int),(f3 b:Int),(f4 b:Int),0):=by rw[Gn,Aba (λe=>e h),Aba h2,Aba (λe=>e h3),Aba (by rw[h4];simp),Aba (by rw[h5];simp)]
end
theorem Akk(b:List UInt8)(h2:¬b.length<22):Bm (Ad (Da (b.take 18)):UInt64) (lX (part b 18 4))=decide ((Da (b.take 18)).toNat≠Ek (part b 18 4)):=by
 rw[NH,Cn,An0];simp only[Az1,ne_eq,Ab2];rw[<-Ay7,TW (by have:=(Da (b.take 18)).toNat_lt;omega),TX (by rw[Dk];omega)]
theorem eD(b:List UInt8)(a w:Nat)(i q:Nat)(l:List Int)(hi:i<5)(hl:l.length=5)(hw:Aj ([2,2,2,4,4]:List Int) (i:Int)=some (w:Int))(h1:1<=w)(h4:w<=4)(ha:a+w<=b.length)(hb:b.length<4611686018427387904):
  Lq b (q+1) (a:Int) (i:Int) l=Lq b q ((a+w:Nat):Int) ((i+1:Nat):Int) (l.set i (Ek (part b a w):Int)):=by
 rw[Lq,BK,Abb (by rw[Af];simp;omega),hw,Aa,L8 b a w h1 (by omega) ha hb,Aa];simp only;rw[Ck,Aa,Rg _ (by omega),Aa,HY (by rw[Dk ha];omega),Ag,Ag];rfl
theorem Alz(b:List UInt8)(h22:¬b.length<22)(hb:b.length<4611686018427387904):CF b 4 0 (List.replicate 5 0)=BI [(f0 b:Int),(f1 b:Int),(f2 b:Int),(f3 b:Int),(f4 b:Int)]:=by
 have hF:Ar=(Ar-6)+1+1+1+1+1+1:=by have:=Am;omega
 rw[CF,hF,show(4:Int)=((4:Nat):Int)from rfl,show(0:Int)=((0:Nat):Int)from rfl];rw[eD b 4 2 0 _ _ (by omega) (by simp) rfl (by omega) (by omega) (by omega) hb,eD b 6 2 1 _ _ (by omega) (by simp) rfl (by omega) (by omega) (by omega) hb,eD b 8 2 2 _ _ (by omega) (by simp) rfl (by omega) (by omega) (by omega) hb,
  eD b 10 4 3 _ _ (by omega) (by simp) rfl (by omega) (by omega) (by omega) hb,eD b 14 4 4 _ _ (by omega) (by simp) rfl (by omega) (by omega) (by omega) hb,Lq,BK,Aba (by rw[Af];simp)]
 rfl
theorem Axu(b:List UInt8):Tr [84,84,65,49] (b.take (min 4 b.length))=some (decide (b.take (min 4 b.length)=Hz.take (min 4 b.length))):=by
 have hl:(b.take (min 4 b.length)).length=min 4 b.length:=by rw[Afw];omega
 rw[Tr,Ja,Abb (by rw[Dc,Ac,Ac,hl];simp;omega),Ac,hl,If (by omega) (by simp;omega),Aa,Aa,Aiq];congr 1;rw[An0];rw[Ab2,Axd];exact eq_comm
theorem Av5(b:List UInt8):Du (4:Int) (Ac b)=((min 4 b.length:Nat):Int):=by rw[GB,Ac];omega
theorem HD(b:List UInt8)(hb:b.length<4611686018427387904):IZ b=some (Gn b):=by
 rw[IZ,RC,Av5,If,Aa,Aiq,Axu,Aa];by_cases h:b.take (min 4 b.length)=Hz.take (min 4 b.length)
 ·rw[Aba (by simpa using h)];by_cases h2:b.length<22
  ·rw[Abb (by rw[Af,Ac];simp;omega),rs2 h h2]
  ·have a1:XK b 18 4=some (lX (part b 18 4),0):=L8 b 18 4 (by omega) (by omega) (by omega) hb;rw[Aba (by rw[Af,Ac];simp;omega),a1,Aa];simp only;rw[If,Aa,show(18:Int).toNat=18 from rfl,sR _ (by simp;omega),Aa];simp only;rw[Akk b h2];by_cases h3:(Da (b.take 18)).toNat=Ek (part b 18 4)
   ·rw[Aba (by simpa using h3),Alz b h2 hb,BI,iW];rw[show Aj [(f0 b:Int),(f1 b:Int),(f2 b:Int),(f3 b:Int),(f4 b:Int)] 0=some (f0 b:Int)from rfl,show Aj [(f0 b:Int),(f1 b:Int),(f2 b:Int),(f3 b:Int),(f4 b:Int)] 1=some (f1 b:Int)from rfl,show Aj [(f0 b:Int),(f1 b:Int),(f2 b:Int),(f3 b:Int),(f4 b:Int)] 2=some (f2 b:Int)from rfl,
     show Aj [(f0 b:Int),(f1 b:Int),(f2 b:Int),(f3 b:Int),(f4 b:Int)] 3=some (f3 b:Int)from rfl,show Aj [(f0 b:Int),(f1 b:Int),(f2 b:Int),(f3 b:Int),(f4 b:Int)] 4=some (f4 b:Int)from rfl]
    simp only[Aa,eL];cases h4:Fe (f0 b) (f1 b) (f2 b) (f3 b) (f4 b)with
    |false=>rw[rs4 h h2 h3 h4];rfl
    |true=>
     rw[sL h4,Aba (by simp),Aa];cases h5:CM (f1 b) (f3 b) (f4 b)with
     |false=>rw[rs5 h h2 h3 h4 h5];rfl
     |true=>rw[rs6 h h2 h3 h4 h5];rfl
   ·rw[Abb (by simpa using h3),rs3 h h2 h3]
 ·rw[Abb (by simpa using h),rs1 h]
theorem xP(b:List UInt8)(hb:b.length<4611686018427387904):Nr b=some (Gn b):=by
 rw[Nr,IX,Av5,If,Aa,Aiq,If (by omega) (by simp;omega),Aa,Aiq];by_cases h:b.take (min 4 b.length)=Hz.take (min 4 b.length)
 ·rw[Aba (by rw[h];simp[Hz]),KA,JB];by_cases h2:b.length<22
  ·rw[Abb (by rw[Af,Ac];simp;omega),rs2 h h2]
  ·have a1:Bw b 18 22=some (part b 18 4):=Np 18 4;have c1:Bw b 4 6=some (part b 4 2):=Np 4 2;have c2:Bw b 6 8=some (part b 6 2):=Np 6 2;have c3:Bw b 8 10=some (part b 8 2):=Np 8 2;have c4:Bw b 10 14=some (part b 10 4):=Np 10 4;have c5:Bw b 14 18=some (part b 14 4):=Np 14 4;have hs:Bm (lX (part b 18 4)) (Ad (Da (b.take 18)):UInt64)=decide ((Da (b.take 18)).toNat≠Ek (part b 18 4)):=by
    rw[<-Akk b h2,NH,NH,An0];simp only[Az1,ne_eq];exact not_congr eq_comm
   have lp:∀a w,a+w<=b.length->Cz (part b a w)=some (lX (part b a w)):=λa w h=>Aaj _ (by rw[Dk h];omega);rw[Aba (by rw[Af,Ac];simp;omega),a1,Aa,If,Aa,show(18:Int).toNat=18 from rfl,lp _ _ (by omega),Aa,Akn _ (by simp;omega),Aa,hs];by_cases h3:(Da (b.take 18)).toNat=Ek (part b 18 4)
   ·rw[Aba (by simpa using h3),KE,JK,c1,Aa,c2,Aa,c3,Aa,c4,Aa,c5,Aa,lp _ _ (by omega),Aa,lp _ _ (by omega),Aa,lp _ _ (by omega),Aa,lp _ _ (by omega),Aa,lp _ _ (by omega),Aa,
     JW,JJ,HY (by rw[Dk];omega),HY (by rw[Dk];omega),HY (by rw[Dk];omega),HY (by rw[Dk];omega),HY (by rw[Dk];omega)]
    rw[show Ek (part b 4 2)=f0 b from rfl,show Ek (part b 6 2)=f1 b from rfl,show Ek (part b 8 2)=f2 b from rfl,show Ek (part b 10 4)=f3 b from rfl,show Ek (part b 14 4)=f4 b from rfl,Adu,Aa];cases h4:Fe (f0 b) (f1 b) (f2 b) (f3 b) (f4 b)with
    |false=>rw[rs4 h h2 h3 h4];rfl
    |true=>
     rw[Anx h4,Aba (by simp),Aa];cases h5:CM (f1 b) (f3 b) (f4 b)with
     |false=>rw[rs5 h h2 h3 h4 h5];rfl
     |true=>rw[rs6 h h2 h3 h4 h5];rfl
   ·rw[Abb (by simpa using h3),rs3 h h2 h3]
 ·rw[Abb (by simpa [Hz]using h),rs1 h]
theorem E1{b:List UInt8}(h:(Gn b).2.2.2.2.2=0):Gn b=((f0 b:Int),(f1 b:Int),(f2 b:Int),(f3 b:Int),(f4 b:Int),0)/\22<=b.length/\Fe (f0 b) (f1 b) (f2 b) (f3 b) (f4 b)=true/\CM (f1 b) (f3 b) (f4 b)=true:=by
 unfold Gn at h⊢;split at h; · simp at h
 rename_i c1;rw[Aba c1];split at h; · simp at h
 rename_i c2;rw[Aba c2];split at h; · simp at h
 rename_i c3;rw[Aba c3];split at h; · simp at h
 rename_i c4;rw[Aba c4];split at h; · simp at h
 rename_i c5;rw[Aba c5];exact⟨rfl,by omega,by simpa using c4,by simpa using c5⟩
theorem gG{f c w r n:Nat}(h:Fe f c w r n=true)(h2:CM c r n=true):Xj (f:Int) (c:Int) (w:Int) (r:Int) (n:Int)=some (Aq (Au r) n,0):=by
 have hc:Qn (f:Int) (c:Int) (w:Int) (r:Int) (n:Int)=some 0:=by
  rw[Qn,eL,Aa,h,Aba (by simp),sL h,Aa,h2];rfl
 have hd:4000/c<=4000:=Asv _ _;simp only[Fe,Ab2]at h;simp only[CM,Ab2]at h2;rw[Xj,hc,Aa,Aba (by rw[Ak];simp),Abg (by omega) (by omega) (by omega) (by omega) h2.2];rfl
def okL:List Int->Int->Bool
 |[],_=>true
 |x::l,left=>decide (5<=x/\x<=left)&&okL l (left-x)
theorem Ahv:∀l:List Int,(∀x∈l,5<=x)->0<=l.sum
 |[],_=>by simp
 |x::l,h=>by
  have h1:=h x At9;have h2:=Ahv l λy hy=>h y (Aj2 _ hy);rw[Au2];omega
theorem kF:∀(l:List Int) (left:Int),0<=left-> (okL l left=true↔(∀x∈l,5<=x)/\l.sum<=left)
 |[],left,h=>by simp[okL];exact h
 |x::l,left,h=>by
  rw[okL,Abz,Ab2,Au2];by_cases hx:5<=x/\x<=left
  ·rw[kF l (left-x) (by omega)];constructor
   ·rintro⟨_,h1,h2⟩;exact⟨λy hy=>(List.mem_cons.1 hy).elim (λe=>e▸hx.1) (h1 y),by omega⟩
   ·rintro⟨h1,h2⟩;exact⟨hx,λy hy=>h1 y (Aj2 _ hy),by omega⟩
  ·constructor
   ·rintro⟨h1,_⟩;exact absurd h1 hx
   ·rintro⟨h1,h2⟩;have h3:=h1 x At9;have:0<=l.sum:=Ahv l λy hy=>h1 y (Aj2 _ hy);omega
theorem E8(l:List Int)(hl:l.length<=1000):∀(j i q:Nat) (left:Int),i+j=l.length->j<q->0<=left->left<=100000->Pu l q left (i:Int)=some (if okL (l.drop i) left=true then 0 else 8)
 |0,i,q+1,left,hi,_,_,_=>by
  rw[Pu,EF,Aba (by rw[Af,Ac];simp;omega),show i=l.length by omega,Axw];rfl
 |j+1,i,q+1,left,hi,hq,h0,h1=>by
  have hlt:i<l.length:=by omega
  rw[Pu,EF,Abb (by rw[Af,Ac];simp;omega),Ck hlt,Aa,drop_cons hlt];by_cases h:5<=l[i]/\l[i]<=left
  ·rw[Aba (by simp[Af,Al];omega),Bg,Ag];have ih:=E8 l hl j (i+1) q (left-l[i]) (by omega) (by omega) (by omega) (by omega);rw[show((i:Int)+1)=((i+1:Nat):Int) by omega,ih];simp[okL,h]
  ·rw[Abb (by simp[Af,Al];omega)];have:okL (l[i]::l.drop (i+1)) left=false:=by rw[okL,Ay4 h];rfl
   rw[this];rfl
def JX(l:List Int):Bool:=decide (1<=l.length/\l.length<=1000)&&okL l 100000
theorem jr(l:List Int)(hl:l.length<=1000):Qk l=some (if JX l=true then 0 else 8):=by
 rw[Qk,DN,JX];by_cases h:1<=l.length
 ·rw[Aba (by rw[Bc,Al,Ac];simp;constructor;(intro e;subst e;simp at h);omega),QR];have:=E8 l hl l.length 0 Ar 100000 (by omega) (by have:=Am;omega) (by omega) (by omega);rw[Ax0]at this;rw[decide_eq_true (show 1<=l.length/\l.length<=1000 from⟨h,hl⟩),Azd];exact this
 ·have:l=[]:=by
   cases l with
   |nil=>rfl
   |cons _ _=>simp at h
  subst this;rfl
theorem O2(l:List Int)(hl:l.length<=1000):∀(j i q:Nat) (s:Int),i+j=l.length->j<q->0<=s->s<=100000*(i:Int)->Iu l q s (i:Int)=some (if(∀x∈l.drop i,5<=x/\x<=100000)/\s+(l.drop i).sum<=100000 then 0 else 8)
 |0,i,q+1,s,hi,_,_,_=>by
  rw[Iu,Tm,Aba (by rw[Af,Ac];simp;omega),show i=l.length by omega,Axw,DL,DY];by_cases h:s<=100000
  ·rw[Aba (by rw[Al];simp;omega),Abb (by simp;omega)]
  ·rw[Abb (by rw[Al];simp;omega),Aba (by simp;omega)]
 |j+1,i,q+1,s,hi,hq,h0,h1=>by
  have hlt:i<l.length:=by omega
  rw[Iu,Tm,Abb (by rw[Af,Ac];simp;omega),Ck hlt,Aa,drop_cons hlt];by_cases h5:l[i]<5
  ·rw[Abb (by rw[Af];simpa using h5),Aba (λh=>by have:=(h.1 l[i] At9).1;omega)]
  ·rw[Aba (by rw[Af];simpa using h5),Aa];by_cases h6:100000<l[i]
   ·rw[Abb (by rw[Al];simpa using h6),Aba (λh=>by have:=(h.1 l[i] At9).2;omega)]
   ·rw[Aba (by rw[Al];simpa using h6),FK,FG,Ck hlt,Aa,Ag,Ag];have ih:=O2 l hl j (i+1) q (s+l[i]) (by omega) (by omega) (by omega) (by omega);rw[show((i:Int)+1)=((i+1:Nat):Int) by omega,ih];have e:((∀x∈l.drop (i+1),5<=x/\x<=100000)/\s+l[i]+(l.drop (i+1)).sum<=100000)↔((∀x∈l[i]::l.drop (i+1),5<=x/\x<=100000)/\s+(l[i]::l.drop (i+1)).sum<=100000):=by
     rw[Au2,List.forall_mem_cons,Azf];constructor
     ·rintro⟨a,b⟩;exact⟨⟨by omega,a⟩,b⟩
     ·rintro⟨⟨_,a⟩,b⟩;exact⟨a,b⟩
    simp only[e]
theorem R9:∀{l:List Int},(∀x∈l,5<=x)->∀x∈l,x<=l.sum
 |[],_,x,hx=>by simp at hx
 |y::l,h,x,hx=>by
  have h1:=h y At9;have h2:=Ahv l λz hz=>h z (Aj2 _ hz);rw[Au2];rcases List.mem_cons.1 hx with rfl|hx
  ·omega
  ·have:=R9 (l:=l) (λz hz=>h z (Aj2 _ hz)) x hx;omega
theorem Aa9(l:List Int)(hl:l.length<=1000):Iw l=some (if JX l=true then 0 else 8):=by
 rw[Iw,Sp,JX];by_cases h:1<=l.length
 ·have:=O2 l hl l.length 0 Ar 0 (by omega) (by have:=Am;omega) (by omega) (by omega);rw[Aba (by rw[Af,Al,Ac];simp;omega),FQ];refine Awn this ?_;rw[Ax0,decide_eq_true (show 1<=l.length/\l.length<=1000 from⟨h,hl⟩),Azd];have e:((∀x∈l,5<=x/\x<=100000)/\0+l.sum<=100000)↔okL l 100000=true:=by
   rw[kF l 100000 (by omega),Int.zero_add];constructor
   ·rintro⟨a,b⟩;exact⟨λx hx=>(a x hx).1,b⟩
   ·rintro⟨a,b⟩;exact⟨λx hx=>⟨a x hx,Int.le_trans (R9 a x hx) b⟩,b⟩
  simp only[e]
 ·have:l=[]:=by
   cases l with
   |nil=>rfl
   |cons _ _=>simp at h
  subst this;rfl
theorem dW(l:List Int):Qk l=some (if JX l=true then 0 else 8):=by
 by_cases hl:l.length<=1000
 ·exact jr l hl
 ·rw[Qk,DN,Abb (by rw[Al,Ac];simp;omega),JX,Ay4 (by omega)];rfl
theorem I8(l:List Int):Iw l=some (if JX l=true then 0 else 8):=by
 by_cases hl:l.length<=1000
 ·exact Aa9 l hl
 ·rw[Iw,Sp,Abb (by rw[Al,Ac];simp;omega),JX,Ay4 (by omega)];rfl
theorem Adr(l:List Int)(hl:l.length<=1000)(hx:∀x∈l,0<=x/\x<4294967296):Qk l=some (if JX l=true then 0 else 8):=dW l
theorem Ahw(l:List Int)(hl:l.length<=1000)(hx:∀x∈l,0<=x/\x<4294967296):Iw l=some (if JX l=true then 0 else 8):=I8 l
def NU(b:List UInt8)(n:Nat):List Int:=(List.range n).map λi=>(Ek (part b (4*i) 4):Int)
theorem Xp(b:List UInt8)(n:Nat):(NU b n).length=n:=by simp[NU]
theorem M3(b:List UInt8)(n:Nat):NU b (n+1)=NU b n++[(Ek (part b (4*n) 4):Int)]:=by simp[NU,List.range_succ]
theorem Aek(b:List UInt8)(n:Nat)(h:4*n<=b.length):∀x∈NU b n,0<=x/\x<4294967296:=by
 intro x hx;simp only[NU,List.mem_map,List.mem_range]at hx;obtain⟨i,hi,rfl⟩:=hx;have:=Af4 (l:=part b (4*i) 4) (by rw[Dk];omega);omega
def Hy(b:List UInt8)(n:Nat):List Int×Int:=
 if ¬(1<=n/\n<=1000)then([],2)else if b.length<4*n+4 then([],24)else if(Da (b.take (4*n))).toNat≠Ek (part b (4*n) 4)then([],22)else
 if JX (NU b n)=true then(NU b n,0)else([],12)
theorem Afv{b:List UInt8}{n:Nat}(h:1<=n/\n<=1000)(h2:¬b.length<4*n+4):Bm (Ad (Da (b.take (4*n))):UInt64) (lX (part b (4*n) 4))=decide ((Da (b.take (4*n))).toNat≠Ek (part b (4*n) 4)):=by
 rw[NH,Cn,An0];simp only[Az1,ne_eq,Ab2];rw[<-Ay7,TW (by have:=(Da (b.take (4*n))).toNat_lt;omega),TX (by rw[Dk];omega)]
section
variable {b:List UInt8} {n:Nat}
theorem ss1(h:¬(1<=n/\n<=1000)):Hy b n=([],2):=by rw[Hy,Abb h]
variable (h:1<=n/\n<=1000)
include h
theorem ss2(h2:b.length<4*n+4):Hy b n=([],24):=by rw[Hy,Aba (λe=>e h),Abb h2]
variable (h2:¬b.length<4*n+4)
include h2
theorem ss3(h3:(Da (b.take (4*n))).toNat≠Ek (part b (4*n) 4)):Hy b n=([],22):=by rw[Hy,Aba (λe=>e h),Aba h2,Abb h3]
theorem ss4(h3:(Da (b.take (4*n))).toNat=Ek (part b (4*n) 4)):Hy b n=if JX (NU b n)=true then(NU b n,0)else([],12):=by rw[Hy,Aba (λe=>e h),Aba h2,Aba (λe=>e h3)]
end
theorem N8(b:List UInt8)(l8:List Int)(n:Nat)(hn:n<=1000)(h8:l8.length=n)(hb:4*n+4<=b.length)(hb2:b.length<4611686018427387904):∀(j i q:Nat),i+j=n->j<q->Se b l8 q (i:Int) (NU b i++List.replicate j 0)=HL (NU b n)
 |0,i,q+1,hi,_=>by
  obtain rfl:i=n:=by omega
  rw[Se,HO,Aba (by rw[Af,Ac];simp;omega)];simp
 |j+1,i,q+1,hi,hq=>by
  have hlen:(NU b i++List.replicate (j+1) 0).length=i+(j+1):=by simp[Xp]
  have ha:=L8 b (4*i) 4 (by omega) (by omega) (by omega) hb2;rw[Se,HO,Abb (by rw[Af,Ac];simp;omega),Gt,show(4:Int)*(i:Int)=((4*i:Nat):Int) by omega,show(4:Int)=((4:Nat):Int)from rfl,ha,Aa];simp only;rw[Ck (by rw[hlen];omega),Aa,Rg _ (by rw[hlen];omega),Aa,HY (by rw[Dk];omega),Ag,Avq,YN (Xp _ _)];have ih:=N8 b l8 n hn h8 hb hb2 j (i+1) q (by omega) (by omega);rw[M3]at ih;rw[show((i:Int)+1)=((i+1:Nat):Int) by omega,<-ih];simp
theorem tU(b:List UInt8)(n:Nat)(hb:b.length<=100100):GV b (n:Int)=some (Hy b n):=by
 rw[GV,VS];by_cases h:1<=n/\n<=1000
 ·rw[Aba (by simp[Af,Al];omega),Gt,Ag];by_cases h2:b.length<4*n+4
  ·rw[Abb (by rw[Af,Ac];simp;omega),ss2 h h2]
  ·have ha:XK b (4*(n:Int)) 4=some (lX (part b (4*n) 4),0):=by
    rw[show(4:Int)*(n:Int)=((4*n:Nat):Int) by omega];exact L8 b (4*n) 4 (by omega) (by omega) (by omega) (by omega)
   rw[Aba (by rw[Af,Ac];simp;omega),ha,Aa];simp only;rw[If,Aa,show(4*(n:Int)).toNat=4*n by omega,sR _ (by simp;omega),Aa];simp only;rw[Afv h h2];by_cases h3:(Da (b.take (4*n))).toNat=Ek (part b (4*n) 4)
   ·have hlp:=N8 b (List.replicate n 0) n (by omega) (by simp) (by omega) (by omega) n 0 Ar (by omega) (by have:=Am;omega);rw[Aba (by simpa using h3),qQ,Aa,Be (by rw[Bc];simp),Aa,UX,Aiq];refine Awn (hlp) ?_;rw[HL,mN,Adr _ (by rw[Xp];omega) (Aek b n (by omega)),Aa,ss4 h h2 h3];cases JX (NU b n)<;>rfl
   ·rw[Abb (by simpa using h3),ss3 h h2 h3]
 ·rw[Abb (by simp[Af,Al];omega),ss1 h]
theorem mB(b:List UInt8)(n:Nat)(hn:n<=1000)(hb:4*n+4<=b.length)(hb2:b.length<4611686018427387904):∀(j i q:Nat),i+j=n->j<q->Jk b (n:Int) q (i:Int) (NU b i)=Ur (NU b n)
 |0,i,q+1,hi,_=>by
  obtain rfl:i=n:=by omega
  rw[Jk,Uk,Aba (by rw[Af];simp)]
 |j+1,i,q+1,hi,hq=>by
  have hc:Bw b ((4:Int)*(i:Int)) ((4:Int)*(i:Int)+4)=some (part b (4*i) 4):=by
   rw[show(4:Int)*(i:Int)=((4*i:Nat):Int) by omega];exact Np (4*i) 4
  rw[Jk,Uk,Abb (by rw[Af];simp;omega),Gt,Ag,hc,Aa,Aaj _ (by rw[Dk];omega),Aa,Cx (by rw[Xp];simp;omega),Aa,
   HY (by rw[Dk];omega),Ag,<-M3]
  exact mB b n hn hb hb2 j (i+1) q (by omega) (by omega)
theorem Aa8(b:List UInt8)(n:Nat)(hb:b.length<=100100):Ns b (n:Int)=some (Hy b n):=by
 rw[Ns,IG];by_cases h:1<=n/\n<=1000
 ·rw[Aba (by simp[Af,Al];omega),Gt,Ag];by_cases h2:b.length<4*n+4
  ·rw[Abb (by rw[Af,Ac];simp;omega),ss2 h h2]
  ·have hc:Bw b ((4:Int)*(n:Int)) ((4:Int)*(n:Int)+4)=some (part b (4*n) 4):=by
    rw[show(4:Int)*(n:Int)=((4*n:Nat):Int) by omega];exact Np (4*n) 4
   have hs:Bm (lX (part b (4*n) 4)) (Ad (Da (b.take (4*n))):UInt64)=decide ((Da (b.take (4*n))).toNat≠Ek (part b (4*n) 4)):=by
    rw[<-Afv h h2,NH,NH,An0];simp only[Az1,ne_eq];exact not_congr eq_comm
   rw[Aba (by rw[Af,Ac];simp;omega),hc,Aa,If,Aa,show(4*(n:Int)).toNat=4*n by omega,Aaj _ (by rw[Dk];omega),Aa,Akn _ (by simp;omega),Aa,hs];by_cases h3:(Da (b.take (4*n))).toNat=Ek (part b (4*n) 4)
   ·have hlp:=mB b n (by omega) (by omega) (by omega) n 0 Ar (by omega) (by have:=Am;omega);rw[Aba (by simpa using h3),JA,IF,KG];refine Awn hlp ?_;rw[Ur,JS,Ahw _ (by rw[Xp];omega) (Aek b n (by omega)),Aa,ss4 h h2 h3];cases JX (NU b n)<;>rfl
   ·rw[Abb (by simpa using h3),ss3 h h2 h3]
 ·rw[Abb (by simp[Af,Al];omega),ss1 h]
theorem oY{b:List UInt8}{n:Nat}(h:(Hy b n).2=0):Hy b n=(NU b n,0)/\1<=n/\n<=1000/\4*n+4<=b.length/\ (∀x∈NU b n,5<=x)/\ (NU b n).sum<=100000:=by
 unfold Hy at h⊢;split at h; · simp at h
 rename_i c1;rw[Aba c1];split at h; · simp at h
 rename_i c2;rw[Aba c2];split at h; · simp at h
 rename_i c3;rw[Aba c3];split at h
 ·rename_i c4;rw[Abb c4];have c4':=c4;rw[JX,Abz,kF _ _ (by omega)]at c4';exact⟨rfl,by omega,by omega,by omega,c4'.2.1,c4'.2.2⟩
 ·simp at h
def UZ(b:List UInt8):List UInt8:=b.drop (De b).1.toNat
abbrev Op8:=Int×Int×Int×Int×Int×Int×(List Int)×Int
def NR(e:Int):Op8:=(0,0,0,0,0,0,[],e)
theorem Ano(A K:Nat)(h:A<=200000)(hk:K<=1000):Ae (Ae (A:Int) (Bd 4 (K:Int))) 4=((A+4*K+4:Nat):Int):=by
 rw[Gt,Ag (a:=(A:Int)) (by omega) (by omega),Ag];omega
theorem jX{f c w r n:Nat}(h1:Fe f c w r n=true)(h2:CM c r n=true)(b:List UInt8)(hb:b.length<=100100)(A:Nat)(hA:A<=b.length):
  Ma b (f:Int) (c:Int) (w:Int) (r:Int) (n:Int) (A:Int)=
   some (if(Hy (b.drop A) (Aq (Au r) n).length).2≠0 then NR (Hy (b.drop A) (Aq (Au r) n).length).2 else((f:Int),(c:Int),(w:Int),(r:Int),(n:Int),((A+4*(Aq (Au r) n).length+4:Nat):Int),(Hy (b.drop A) (Aq (Au r) n).length).1,0)):=by
 rw[Ma,fV,gG h1 h2,Aa];simp only;rw[Aba (by rw[Ak];simp),Fw,Aa,Ac,show(A:Int).toNat=A from rfl,tU _ _ (by simp;omega),Aa];by_cases h:(Hy (b.drop A) (Aq (Au r) n).length).2≠0
 ·rw[Abb h,Abb (by rw[Ak];simpa using h)];rfl
 ·have h0:(Hy (b.drop A) (Aq (Au r) n).length).2=0:=by simpa using h
  obtain⟨g1,g2,g3,g4,g5,g6⟩:=oY h0;have gl:(Hy (b.drop A) (Aq (Au r) n).length).1.length=(Aq (Au r) n).length:=by rw[g1];exact Xp _ _
  rw[Aba h,Aba (by rw[Ak];simpa using h),Ac,gl,Ano _ _ (by omega) (by omega)]
theorem Akt{f c w r n:Nat}(h1:Fe f c w r n=true)(h2:CM c r n=true)(b:List UInt8)(hb:b.length<=100100)(A:Nat)(hA:A<=b.length):
  Kx b (f:Int) (c:Int) (w:Int) (r:Int) (n:Int) (A:Int)=
   some (if(Hy (b.drop A) (Aq (Au r) n).length).2≠0 then NR (Hy (b.drop A) (Aq (Au r) n).length).2 else((f:Int),(c:Int),(w:Int),(r:Int),(n:Int),((A+4*(Aq (Au r) n).length+4:Nat):Int),(Hy (b.drop A) (Aq (Au r) n).length).1,0)):=by
 have hs:(1<=r/\r<=1048576)/\1<=n/\1<=c:=by
  simp only[Fe,Ab2]at h1;omega
 have hf:n<=4000:=by
  simp only[CM,Ab2]at h2;have:=Asv 4000 c;omega
 rw[Kx,BN,Fw,Aa,qA hs.1.2 hs.2.1 hf,Aa,Ac,show(A:Int).toNat=A from rfl,Aa8 _ _ (by simp;omega),Aa];simp only;rw[BM,CA];by_cases h:(Hy (b.drop A) (Aq (Au r) n).length).2≠0
 ·rw[Abb h,Abb (by rw[Ak];simpa using h)];rfl
 ·have h0:(Hy (b.drop A) (Aq (Au r) n).length).2=0:=by simpa using h
  obtain⟨g1,g2,g3,g4,g5,g6⟩:=oY h0;have gl:(Hy (b.drop A) (Aq (Au r) n).length).1.length=(Aq (Au r) n).length:=by rw[g1];exact Xp _ _
  rw[Aba h,Aba (by rw[Ak];simpa using h),Ac,gl,Ano _ _ (by omega) (by omega)]
structure Opn (b p:List UInt8) (f c w r n A:Nat) (l:List Int):Prop where
 prog:Cg b p=some ((f:Int),(c:Int),(w:Int),(r:Int),(n:Int),(A:Int),l,0)
 ref:Dp b p=some ((f:Int),(c:Int),(w:Int),(r:Int),(n:Int),(A:Int),l,0)
 pass:p.length<=64
 file:b.length<=100000
 shape:Fe f c w r n=true
 fit:CM c r n=true
 len:l.length=(Aq (Au r) n).length
 some1:1<=l.length/\l.length<=1000
 five:∀x∈l,5<=x
 sum:l.sum<=100000
 at':A<=b.length
 tag:(De b).2=0
 head:Gn (UZ b)=((f:Int),(c:Int),(w:Int),(r:Int),(n:Int),0)
 tab:Hy (b.drop ((De b).1.toNat+22+(if f=2 then 8 else 0))) l.length=(l,0)
 pos:A=(De b).1.toNat+22+(if f=2 then 8 else 0)+4*l.length+4
theorem wN(b p:List UInt8)(hb:b.length<=100100)(hp:p.length<=64):
  (∃e:Int,e≠0/\Cg b p=some (NR e)/\Dp b p=some (NR e))\/ (∃f c w r n A l,Opn b p f c w r n A l):=by
 by_cases h1:100000<b.length
 ·refine .inl ⟨4,by omega,?_,?_⟩
  ·rw[Cg,Lw,Aba (by rw[Al,Ac];simp;omega),Abb (by rw[Al,Ac];simp;omega)];rfl
  ·rw[Dp,Qq,Abb (by rw[Al,Ac];simp;omega)];rfl
 have hP:Cg b p=Cg b p:=rfl;have hR:Dp b p=Dp b p:=rfl
 conv at hP=>rhs;rw[Cg,Lw,Aba (by rw[Al,Ac];simp;omega),Aba (by rw[Al,Ac];simp;omega),Lp b (by omega),Aa]
 conv at hR=>rhs;rw[Dp,Qq,Aba (by rw[Al,Ac];simp;omega),ZK b (by omega),Aa]
 by_cases h2:(De b).2=0
 ·obtain⟨p0,p1,p2⟩:=rQ h2;have hc:=Fw (l:=b) p0 p1;simp only[h2]at hP hR;rw[Aba (by rw[Ak];simp),hc,Aa,show b.drop (De b).1.toNat=UZ b from rfl,HD _ (by simp[UZ];omega),Aa]at hP;rw[Aba (by rw[Ak];simp),hc,Aa,show b.drop (De b).1.toNat=UZ b from rfl,xP _ (by simp[UZ];omega),Aa]at hR;by_cases h3:(Gn (UZ b)).2.2.2.2.2=0
  ·obtain⟨g1,g2,g3,g4⟩:=E1 h3;have hlen:(UZ b).length=b.length-(De b).1.toNat:=by simp[UZ]
   generalize hF:(De b).1.toNat=F at*
   have hF':(De b).1=(F:Int):=by omega
   rw[g1,hF']at hP hR;simp only at hP hR;generalize f0 (UZ b)=f at*
   generalize f1 (UZ b)=c at*
   generalize f2 (UZ b)=w at*
   generalize f3 (UZ b)=r at*
   generalize f4 (UZ b)=n at*
   have t22:Ae (F:Int) 22=((F+22:Nat):Int):=by rw[Ag];omega
   have t30:Ae ((F+22:Nat):Int) 8=((F+30:Nat):Int):=by rw[Ag];omega
   have Ayv:f=1\/f=2:=by simp only[Fe,Ab2]at g3;omega
   rw[Aba (by rw[Ak];simp),t22,t30]at hP hR;have hend:∀A:Nat,A<=b.length->A=F+22+(if f=2 then 8 else 0)->Cg b p=Ma b (f:Int) (c:Int) (w:Int) (r:Int) (n:Int) (A:Int)->Dp b p=Kx b (f:Int) (c:Int) (w:Int) (r:Int) (n:Int) (A:Int)->
     (∃e:Int,e≠0/\Cg b p=some (NR e)/\Dp b p=some (NR e))\/ (∃f c w r n A l,Opn b p f c w r n A l):=by
    intro A hA hA2 e1 e2;rw[jX g3 g4 b hb A hA]at e1;rw[Akt g3 g4 b hb A hA]at e2;by_cases h:(Hy (b.drop A) (Aq (Au r) n).length).2≠0
    ·rw[Abb h]at e1 e2;exact .inl ⟨_,h,e1,e2⟩
    ·have h0:(Hy (b.drop A) (Aq (Au r) n).length).2=0:=by simpa using h
     obtain⟨k1,k2,k3,k4,k5,k6⟩:=oY h0;have gl:(Hy (b.drop A) (Aq (Au r) n).length).1.length=(Aq (Au r) n).length:=by rw[k1];exact Xp _ _
     rw[Aba h]at e1 e2;rw[Asn]at k4;refine .inr ⟨f,c,w,r,n,_,_,⟨e1,e2,hp,by omega,g3,g4,gl,by omega,by rw[k1];exact k5,by rw[k1];exact k6,by omega,h2,g1,by rw[gl,hF,<-hA2];exact Prod.ext rfl h0,by rw[gl,hF,<-hA2]⟩⟩
   by_cases YI:((p==([]:List UInt8)) !=(geq (f:Int) (1:Int)))=true
   ·rw[Abb YI]at hP hR;exact .inl ⟨26,by omega,hP,hR⟩
   ·rw[Aba YI]at hP hR;have hpf:(p=[]↔f=1):=by
     rw[Bc]at YI;have h5:(p==([]:List UInt8))=((f:Int)==1):=by simpa using YI
     have h6:(p==([]:List UInt8))=true↔((f:Int)==1)=true:=by rw[h5]
     rw[Axd,Axd]at h6;rw[h6];omega
    by_cases h5:f=2
    ·have Ar5:p≠ []:=λe=>by have:=hpf.1 e;omega
     have h64:(p !=([]:List UInt8))=true:=by simpa using Ar5
     rw[Abb h64]at hP;rw[Abb (by rw[Bc,h5];rfl),Bg (by rw[Ac];omega) (by rw[Ac];omega)]at hR;by_cases h6:b.length<F+30
     ·rw[Abb (by rw[Af,Ac];simp;omega)]at hP hR;exact .inl ⟨24,by omega,hP,hR⟩
     ·have hseg:((b.take (F+30)).drop (F+22)).length=8:=by simp;omega
      rw[Aba (by rw[Af,Ac];simp;omega),Pp,Aa]at hP hR;rw[Vw,sE p hp,Aa]at hP;rw[K1 p hp,Aa]at hR;simp only at hP;rw[Aba (by rw[Ak,Ak,Ac,Ac,Bn,show((F+30:Nat):Int).toNat=F+30 from rfl,show((F+22:Nat):Int).toNat=F+22 from rfl,hseg];simp),Hc,Aa,Aa]at hP;simp only at hP;rw[Aba (by rw[Ak];simp)]at hP;generalize(b.take ((F+30:Nat):Int).toNat).drop ((F+22:Nat):Int).toNat=seg at*
      by_cases h7:seg=On (Wa p).toNat 8
      ·rw[Aba (by simp[h7])]at hP;rw[Aba (by simp[h7])]at hR;exact hend (F+30) (by omega) (by rw[Abb h5]) hP hR
      ·rw[Abb (by simpa using h7)]at hP;rw[Abb (by simpa using h7)]at hR;exact .inl ⟨26,by omega,hP,hR⟩
    ·have hpe:p=[]:=hpf.2 (by omega);rw[Aba (by rw[hpe];simp)]at hP;rw[Aba (by rw[Bc];simp;omega)]at hR;exact hend (F+22) (by omega) (by rw[Aba h5]) hP hR
  ·generalize Gn (UZ b)=v at*
   obtain⟨v1,v2,v3,v4,v5,v6⟩:=v;simp only at h3 hP hR;rw[Abb (by rw[Ak];simpa using h3)]at hP hR;exact .inl ⟨v6,h3,hP,hR⟩
 ·generalize De b=v at*
  obtain⟨v,e⟩:=v;simp only at h2 hP hR;rw[Abb (by rw[Ak];simpa using h2)]at hP hR;exact .inl ⟨e,h2,hP,hR⟩
theorem Ajb(l:List Int)(i:Nat):(l.take i).sum+(l.drop i).sum=l.sum:=by
 conv=>rhs;rw[<-Awu i l,List.sum_append]
theorem Kg{l:List Int}(h5:∀x∈l,5<=x)(i:Nat):0<= (l.take i).sum/\ (l.take i).sum<=l.sum:=by
 have h1:=Ahv (l.take i) λx hx=>h5 x (List.mem_of_mem_take hx);have h2:=Ahv (l.drop i) λx hx=>h5 x (Azi hx);have:=Ajb l i;omega
theorem Xn{l:List Int}{i:Nat}(h:i<l.length):(l.take (i+1)).sum=(l.take i).sum+l[i]:=by
 rw[Nf h,List.sum_append];simp
section
variable {l:List Int} (hl:l.length<=1000) (h5:∀x∈l,5<=x) (hs:l.sum<=100000)
include hl h5 hs
theorem A9(f c w r n A:Int)(hA:0<=A)(hA2:A<=200000)(k:Nat)(hk:k<=l.length):∀(j i q:Nat),i+j=k->j<q->Is (k:Int) f c w r n A l q (A+(l.take i).sum) (i:Int)=some (A+(l.take k).sum)
 |0,i,q+1,hi,_=>by
  rw[Is,Td,Aba (by rw[Af];simp;omega),show i=k by omega];rfl
 |j+1,i,q+1,hi,hq=>by
  have hlt:i<l.length:=by omega
  have ih:=A9 f c w r n A hA hA2 k hk j (i+1) q (by omega) (by omega);have b1:=Kg h5 i;have b2:=Kg h5 (i+1);have e:=Xn hlt;rw[e,<-Azf]at ih;rw[Is,Td,Abb (by rw[Af];simp;omega),Ck hlt,Aa,Ag,Ag];exact ih
theorem Ahk(f c w r n A:Int)(hA:0<=A)(hA2:A<=200000)(k:Nat)(hk:k<=l.length):OE f c w r n A l (k:Int)=some (A+(l.take k).sum):=by
 have h:=A9 hl h5 hs f c w r n A hA hA2 k hk k 0 Ar (by omega) (by have:=Am;omega);rw[Axm,List.sum_nil,Int.add_zero]at h;exact h
end
theorem Ach{g n:Nat}(hg:1<=g)(hn:1<=n){x:Int}(h:x∈Aq g n):∃m:Nat,x=m/\1<=m/\m<=n:=by
 have hmul:=Axb (n-1) g;rw[Aq,List.mem_append]at h;rcases h with h|h
 ·rw[List.mem_replicate]at h;have h1:1<= (n-1)/g:=Nat.pos_of_ne_zero h.1;have:=Ab4 g h1;exact⟨g,h.2,hg,by omega⟩
 ·rw[List.mem_singleton]at h;exact⟨_,h,by omega,by omega⟩
theorem eS{f c w r n:Nat}(h:Fe f c w r n=true):(1<=c/\c<=6)/\Cf (w:Int)/\ (1<=r/\r<=1048576)/\1<=n/\ (f=1\/f=2):=by
 simp only[Fe,Ab2]at h;refine⟨h.2.1,?_,h.2.2.2.1,h.2.2.2.2,h.1⟩;rcases h.2.2.1 with rfl|rfl|rfl
 ·exact .inl rfl
 ·exact .inr (.inl rfl)
 ·exact .inr (.inr rfl)
theorem As5(n m:Nat):Nd n m 0≠Nd n m 2147483648:=by
 intro h;simp[Nd,On,J0]at h
def By(b:List UInt8):List UInt8:=b.drop (b.length-32)
theorem uh{b:List UInt8}(h:32<=b.length):(By b).length=32:=by rw[By,Asn];omega
def FP(t:List UInt8):Nat:=Ek (part t 12 4)-32
def zQ(t:List UInt8):Nat:=Ek (part t 16 4)
def Up(b:List UInt8):Int×Int:=
 if ¬(32<=b.length/\ (By b).take 8=J0)then(0,6)else if JP (By b)=true then(0,12)else
 if By b=Nd (FP (By b)) (zQ (By b)) 0 then(if b.length<FP (By b)+32 then(0,24)else(((FP (By b)+32:Nat):Int),0))else
 if By b≠Nd (FP (By b)) (zQ (By b)) 2147483648 then(0,12)else
 if b.length<FP (By b)+64 then(0,24)else
 if(b.take (b.length-(FP (By b)+64)+32)).drop (b.length-(FP (By b)+64))≠Nd (FP (By b)) (zQ (By b)) 2684354560 then(0,12)else(((FP (By b)+64:Nat):Int),0)
section
variable {b:List UInt8}
theorem ba1(h:¬(32<=b.length/\ (By b).take 8=J0)):Up b=(0,6):=by rw[Up,Abb h]
variable (h:32<=b.length/\ (By b).take 8=J0)
include h
theorem ba2(h2:JP (By b)=true):Up b=(0,12):=by rw[Up,Aba (λh'=>h' h),Abb h2]
variable (h2:JP (By b)=false)
include h2
theorem ba3(h3:By b=Nd (FP (By b)) (zQ (By b)) 0):Up b=if b.length<FP (By b)+32 then(0,24)else(((FP (By b)+32:Nat):Int),0):=by
 rw[Up,Aba (λh'=>h' h),Aba (by rw[h2];simp),Abb h3]
variable (h3:By b≠Nd (FP (By b)) (zQ (By b)) 0)
include h3
theorem ba4(h4:By b≠Nd (FP (By b)) (zQ (By b)) 2147483648):Up b=(0,12):=by
 rw[Up,Aba (λh'=>h' h),Aba (by rw[h2];simp),Aba h3,Abb h4]
variable (h4:By b=Nd (FP (By b)) (zQ (By b)) 2147483648)
include h4
theorem ba5(h5:b.length<FP (By b)+64):Up b=(0,24):=by
 rw[Up,Aba (λh'=>h' h),Aba (by rw[h2];simp),Aba h3,Aba (λe=>e h4),Abb h5]
theorem ba6(h5:¬b.length<FP (By b)+64):Up b=if(b.take (b.length-(FP (By b)+64)+32)).drop (b.length-(FP (By b)+64))≠Nd (FP (By b)) (zQ (By b)) 2684354560 then(0,12)else(((FP (By b)+64:Nat):Int),0):=by
 rw[Up,Aba (λh'=>h' h),Aba (by rw[h2];simp),Aba h3,Aba (λe=>e h4),Aba h5]
end
theorem tu{b:List UInt8}{n:Int}(h:Up b=(n,0)):32<=n/\n<=b.length:=by
 unfold Up at h;split at h; · simp at h
 rename_i h32;split at h; · simp at h
 split at h
 ·split at h; · simp at h
  simp only[Auu,and_true]at h;omega
 split at h; · simp at h
 split at h; · simp at h
 split at h; · simp at h
 simp only[Auu,and_true]at h;omega
theorem Ah4{b:List UInt8}(h:(Up b).2≠0):(Up b).1=0:=by
 revert h
 unfold Up;split; · simp
 split; · simp
 split
 ·split<;>simp
 split; · simp
 split; · simp
 split<;>simp
theorem Amu{b:List UInt8}(h:32<=b.length)(hl:b.length<4611686018427387904):Ah (Ac b) 32=((b.length-32:Nat):Int)/\Bw b ((b.length-32:Nat):Int) (Ac b)=some (By b):=by
 refine⟨by rw[Ac,Bg];omega,?_⟩;rw[Fw];rfl
theorem Ajs(b:List UInt8)(hl:b.length<4611686018427387904):pD b=some (Up b):=by
 rw[pD,gM];by_cases h32:32<=b.length
 ·obtain⟨e1,e2⟩:=Amu h32 hl;have hl3:=uh h32;rw[Aba (by rw[e1,Af];simp),e1,e2,Aa,ZO,Aa];by_cases hp:(By b).take 8=J0
  ·have h:=And.intro h32 hp;rw[Aba (by simpa [J0,hl3]using hp),dV,vD,e1,e2,Aa,ZY _ 0 (by omega) (by omega) (by decide),Aa];cases hb:JP (By b)with
   |true=>
    rw[ba2 h hb];simp only[Az3,Ao4,Axj];rw[Aa,ZY _ 2147483648 (by omega) (by omega) (by decide),Aa,hb];rfl
   |false=>
    obtain⟨i1,i2,i3,i4⟩:=sM (By b) (by omega) hb;have eI:Ek (part (By b) 12 4)-32=FP (By b):=rfl;have eM:Ek (part (By b) 16 4)=zQ (By b):=rfl;simp only[Ao4,Axj];rw[eI]at i3;rw[eM]at i4;rw[eI,eM];by_cases c1:By b=Nd (FP (By b)) (zQ (By b)) 0
    ·have c1':By b=Nd (FP (By b)) (zQ (By b)) (0:UInt64).toNat:=c1;rw[Abb (by simpa using c1'),ba3 h hb c1];by_cases c2:b.length<FP (By b)+32
     ·rw[Abb (by rw[Af];simp;omega),Abb c2]
     ·rw[Aba (by rw[Af];simp;omega),Aba c2,Ag];rfl
    ·have c1':¬By b=Nd (FP (By b)) (zQ (By b)) (0:UInt64).toNat:=c1;rw[Aba (by simpa using c1'),Aa,ZY _ 2147483648 (by omega) (by omega) (by decide),Aa,hb];simp only[Ao4,Axj];rw[eI,eM];by_cases c2:By b=Nd (FP (By b)) (zQ (By b)) 2147483648
     ·have c2':By b=Nd (FP (By b)) (zQ (By b)) (2147483648:UInt64).toNat:=c2;rw[Aba (by simpa using c2'),Ag];by_cases c3:b.length<FP (By b)+64
      ·rw[Abb (by rw[Af,Ac];simp;omega),ba5 h hb c1 c2 c3]
      ·rw[Aba (by rw[Af,Ac];simp;omega),Ac,Bg,Ag,Pp,Aa,xQ _ _ _ i3 i4 (by decide),Aa,Hc,Aa,ba6 h hb c1 c2 c3];rw[show((b.length:Int)-(((FP (By b):Nat):Int)+64)).toNat=b.length-(FP (By b)+64) by omega,show((b.length:Int)-(((FP (By b):Nat):Int)+64)+32).toNat=b.length-(FP (By b)+64)+32 by omega];have e7:(2684354560:UInt64).toNat=2684354560:=rfl;rw[e7];by_cases c4:(b.take (b.length-(FP (By b)+64)+32)).drop (b.length-(FP (By b)+64))=Nd (FP (By b)) (zQ (By b)) 2684354560
       ·rw[Aba (by simpa using c4),Aba (λe=>e c4)];rfl
       ·rw[Abb (by simpa using c4),Abb c4]
     ·have c2':¬By b=Nd (FP (By b)) (zQ (By b)) (2147483648:UInt64).toNat:=c2;rw[Abb (by simpa using c2'),ba4 h hb c1 c2]
  ·rw[Abb (by rw[Au3,Aww];intro h;exact hp h.2),ba1 (λh=>hp h.2)]
 ·rw[Abb (by rw[Ac,Bg,Af];simp;omega),ba1 (λh=>h32 h.1)]
theorem Aqu{b:List UInt8}(h:32<=b.length):(b.take (b.length-32+8)).drop (b.length-32)=(By b).take 8:=by
 rw[By,List.take_drop]
theorem Anu(b:List UInt8)(hl:b.length<4611686018427387904):BY b=some (Up b):=by
 rw[BY,IC];by_cases h32:32<=b.length
 ·obtain⟨e1,e2⟩:=Amu h32 hl;have hl3:=uh h32;rw[Aba (by rw[Af,Ac];simp;omega),e1,Ag,Pp,Aa,show((b.length-32:Nat):Int).toNat=b.length-32 from rfl,show(((b.length-32:Nat):Int)+8).toNat=b.length-32+8 by omega,Aqu h32];by_cases hp:(By b).take 8=J0
  ·have h:=And.intro h32 hp;rw[Aba (by simpa [J0]using hp),KF,KC,e1,e2,Aa,mo _ (by omega) (by omega),Aa];cases hb:JP (By b)with
   |true=>rw[ba2 h hb];rfl
   |false=>
    obtain⟨i1,i2,i3,i4⟩:=sM (By b) (by omega) hb;have eI:Ek (part (By b) 12 4)-32=FP (By b):=rfl;have eM:Ek (part (By b) 16 4)=zQ (By b):=rfl;simp only[Ao4,Axj,Aze];rw[eI]at i3;rw[eM]at i4;rw[eI,eM,Jz,Abb rfl,rI _ _ _ i3 i4 (by decide),Aa,Aa];have e7:(2147483648:UInt64).toNat=2147483648:=rfl;have e8:(2684354560:UInt64).toNat=2684354560:=rfl;rw[e7];by_cases c2:By b=Nd (FP (By b)) (zQ (By b)) 2147483648
    ·have c1:By b≠Nd (FP (By b)) (zQ (By b)) 0:=λe=>As5 (FP (By b)) (zQ (By b)) (e.symm.trans c2);rw[Aba (by simpa using c2),Us,Ug,Abb (by simpa using c2),Vf,Vj,Ag (a:=32) (by omega) (by omega),Ag];by_cases c3:b.length<FP (By b)+64
     ·rw[Abb (by rw[Af,Ac];simp;omega),ba5 h hb c1 c2 c3]
     ·rw[Aba (by rw[Af,Ac];simp;omega),Abb (by simpa using c2),Ac,Bg,Ag,Pp,Aa,Tv,rI _ _ _ i3 i4 (by decide),Aa,Aa,ba6 h hb c1 c2 c3,e8];rw[show((b.length:Int)-(32+((FP (By b):Nat):Int)+32)).toNat=b.length-(FP (By b)+64) by omega,show((b.length:Int)-(32+((FP (By b):Nat):Int)+32)+32).toNat=b.length-(FP (By b)+64)+32 by omega];by_cases c4:(b.take (b.length-(FP (By b)+64)+32)).drop (b.length-(FP (By b)+64))=Nd (FP (By b)) (zQ (By b)) 2684354560
      ·rw[Aba (by simpa using c4),Aba (λe=>e c4),show(32+((FP (By b):Nat):Int)+32)=((FP (By b)+64:Nat):Int) by omega]
      ·rw[Abb (by simpa using c4),Abb c4]
    ·rw[Abb (by simpa using c2),Jz,Aba (by simp),rI _ _ _ i3 i4 (by decide),Aa,Aa];have e9:(0:UInt64).toNat=0:=rfl;rw[e9];by_cases c1:By b=Nd (FP (By b)) (zQ (By b)) 0
     ·rw[Aba (by simpa using c1),Us,Ug,Aba (by simpa using c2),Vf,Vj,Ag,ba3 h hb c1,Aba (c:=(By b==Nd (FP (By b)) (zQ (By b)) 2147483648)=true) (by simpa using c2)];by_cases c3:b.length<FP (By b)+32
      ·rw[Abb (by rw[Af,Ac];simp;omega),Abb c3]
      ·rw[Aba (by rw[Af,Ac];simp;omega),Aba c3,show(32+((FP (By b):Nat):Int))=((FP (By b)+32:Nat):Int) by omega]
     ·rw[Abb (by simpa using c1),ba4 h hb c1 c2]
  ·rw[Abb (by simpa [J0]using hp),ba1 (λh=>hp h.2)]
 ·rw[Abb (by rw[Af,Ac];simp;omega),ba1 (λh=>h32 h.1)]
def Aiy:Nat->List UInt8->Nat->Int×Int
 |0,_,_=>(0,38)
 |j+1,b,a=>if b=[]then((a:Int),0)else if(Up b).2≠0 then(0,38)else Aiy j (b.take (b.length-(Up b).1.toNat)) (a+1)
theorem zq:∀(j q a:Nat) (b:List UInt8),b.length<j->j<=q->b.length<=4000->a+b.length<=4000->Ru q (a:Int) b=some (Aiy j b a)
 |0,_,_,_,h,_,_,_=>by omega
 |j+1,q+1,a,b,h,hq,h4,ha=>by
  rw[Ru,MA,Aiy];by_cases hb:b=[]
  ·subst hb;rw[Aba (by decide),Abb rfl];rfl
  ·have hpos:0<b.length:=List.length_pos_iff.2 hb;rw[Abb (by rw[Al,Ac];simp;omega),Aba hb,Ajs b (by omega),Aa];have hbad:=Ah4 (b:=b);have hok:=λn=>tu (b:=b) (n:=n);generalize Up b=v at*
   obtain⟨n,e⟩:=v;simp only at hbad⊢;rw[GU,HH];by_cases he:e≠0
   ·rw[Abb he,hbad he,Abb (by decide)]
   ·obtain⟨k1,k2⟩:=hok n (by rw[show e=0 by simpa using he]);rw[Aba he,Aba (by rw[Bc];simp;omega),Ac,Bg,If,Aa,HJ,YC,Ag];rw[show((b.length:Int)-n).toNat=b.length-n.toNat by omega];have ih:=zq j q (a+1) (b.take (b.length-n.toNat)) (by rw[Afw];omega) (by omega) (by rw[Afw];omega) (by rw[Afw];omega);rw[<-ih];rfl
theorem Afa:∀(j q a:Nat) (b:List UInt8),b.length<j->j<=q->b.length<=4000->a+b.length<=4000->Lf q b (a:Int)=some (Aiy j b a)
 |0,_,_,_,h,_,_,_=>by omega
 |j+1,q+1,a,b,h,hq,h4,ha=>by
  rw[Lf,EK,Aiy];by_cases hb:b=[]
  ·subst hb;rw[Aba (by decide),Abb rfl];rfl
  ·have hpos:0<b.length:=List.length_pos_iff.2 hb;rw[Abb (by rw[Al,Ac];simp;omega),Aba hb,Anu b (by omega),Aa];have hok:=λn=>tu (b:=b) (n:=n);generalize Up b=v at*
   obtain⟨n,e⟩:=v;simp only;by_cases he:e≠0
   ·rw[Abb he,Abb (by rw[Ak];simpa using he)]
   ·obtain⟨k1,k2⟩:=hok n (by rw[show e=0 by simpa using he]);rw[Aba he,Aba (by rw[Ak];simpa using he),Ac,Bg,If,Aa,Ag];rw[show((b.length:Int)-n).toNat=b.length-n.toNat by omega];have ih:=Afa j q (a+1) (b.take (b.length-n.toNat)) (by rw[Afw];omega) (by omega) (by rw[Afw];omega) (by rw[Afw];omega);rw[<-ih];rfl
def aR(b:List UInt8):Int×Int:=if 4000<b.length then(0,38)else Aiy (b.length+1) b 0
theorem uo(b:List UInt8)(hl:b.length<4611686018427387904):NI b=some (aR b):=by
 rw[NI,LV,aR];by_cases h:4000<b.length
 ·rw[Abb (by rw[Al,Ac];simp;omega),Abb h]
 ·rw[Aba (by rw[Al,Ac];simp;omega),Aba h];exact zq _ Ar 0 b (by omega) (by have:=Am;omega) (by omega) (by omega)
theorem Ad0(b:List UInt8)(hl:b.length<4611686018427387904):Wk b=some (aR b):=by
 rw[Wk,BF,aR];by_cases h:4000<b.length
 ·rw[Abb (by rw[Al,Ac];simp;omega),Abb h]
 ·rw[Aba (by rw[Al,Ac];simp;omega),Aba h];exact Afa _ Ar 0 b (by omega) (by have:=Am;omega) (by omega) (by omega)
theorem tI{a b:Nat}(h:a<9223372036854775808:=by omega):Bz (a:Int) (b:Int)=((a/b:Nat):Int):=by
 have:a/b<=a:=Asv _ _;rw[LA,Avz (by omega),<-Int.natCast_ediv];generalize a/b=k at*
 exact Bp (by omega) (by omega)
theorem rS{bits:Int}(h:Cf bits)(x:Int):(GH bits x).length=wB bits:=by
 obtain rfl|rfl|rfl:=h<;>rfl
theorem eE{bits:Int}(h:Cf bits):∀l:List Int32,(Er bits l).length=l.length*wB bits
 |[]=>by simp[Er]
 |x::l=>by
  have h1:=eE h l;have h2:=rS h x.toInt;simp only[Er,List.flatMap_cons,Aby,Aj1,Aza]at*
  omega
def vS(b:List UInt8)(A:Nat)(l:List Int)(k:Nat):List UInt8:=(b.take ((A:Int)+(l.take (k+1)).sum).toNat).drop ((A:Int)+(l.take k).sum).toNat
structure Gts (b p:List UInt8) (f c w r n A:Nat) (l:List Int) (k m:Nat) (x:List Int32) (s:List UInt8) (e:Int):Prop where
 mom:Aj (Aq (Au r) n) (k:Int)=some (m:Int)
 pos:1<=m/\m*c<=4000
 got:Px b p (f:Int) (c:Int) (w:Int) (r:Int) (n:Int) (A:Int) l (k:Int)=some (s,e)
 none':e≠0->s=[]/\x=[]
 some':e=0->s=Er (w:Int) x/\x.length=m*c/\Ao (w:Int) x=some 0/\KM (w:Int) x=some (s,0)/\ (A:Int)+(l.take (k+1)).sum<=b.length
 way:((b.length:Int)<(A:Int)+(l.take (k+1)).sum/\e=24)\/ ((A:Int)+(l.take (k+1)).sum<=b.length/\Lm (c:Int) (w:Int) (Wp p) (m:Int) (vS b A l k)=some (x,e)/\Dm (c:Int) (w:Int) (Wp p) (m:Int) (vS b A l k)=some (x,e))
theorem NX{b p:List UInt8}{f c w r n A:Nat}{l:List Int}(o:Opn b p f c w r n A l)(k:Nat)(hk:k<l.length):∃m x s e,Gts b p f c w r n A l k m x s e:=by
 obtain⟨hc,hw,hr,hn,_⟩:=eS o.shape;have hfit:n<=4000/c:=by have:=o.fit;simp only[CM,Ab2]at this;exact this.1
 have hn4:n<=4000:=by have:=Asv 4000 c;omega
 have hA:=o.at';have R2:=o.file;have hlen:=o.len;have b1:=Kg o.five k;have b2:=Kg o.five (k+1);have e:=Xn hk;have h5:=o.five l[k] (Au9 _);have hsum:=o.sum;have hs1:=o.some1;have hkf:k<(Aq (Au r) n).length:=by omega
 obtain⟨m,hm,m1,m2⟩:=Ach (Qg r) hn (Au9 hkf);have Ar6:Aj (Aq (Au r) n) (k:Int)=some (m:Int):=by rw[Ck hkf,hm]
 have hpos:1<=m/\m*c<=4000:=by
  refine⟨m1,?_⟩;have:=Ab4 c (Azu m2 hfit);have:=Axb 4000 c;omega
 have hR:Px b p (f:Int) (c:Int) (w:Int) (r:Int) (n:Int) (A:Int) l (k:Int)=Px b p (f:Int) (c:Int) (w:Int) (r:Int) (n:Int) (A:Int) l (k:Int):=rfl
 conv at hR=>rhs;rw[Px,MP,Ahk hs1.2 o.five o.sum _ _ _ _ _ (A:Int) (by omega) (by omega) k (by omega),Aa,Ck hk,Aa,Bg (by rw[Ac];omega) (by rw[Ac];omega)]
 by_cases hto:(b.length:Int)<(A:Int)+(l.take (k+1)).sum
 ·rw[Abb (by rw[Af,Ac,Ab2];omega)]at hR;exact⟨m,[],[],24,Ar6,hpos,hR,λ_=>⟨rfl,rfl⟩,λh=>by simp at h, .inl ⟨hto,rfl⟩⟩
 ·rw[Aba (by rw[Af,Ac,Ab2];omega),zl p o.pass,qA hr.2 hn hn4]at hR;simp only[Aa]at hR;rw[Ag (a:=(A:Int)+(l.take k).sum) (b:=l[k]) (by omega) (by omega),Azf,<-e,Ar6]at hR;simp only[Aa]at hR;rw[Pp,Aa]at hR;obtain⟨x,er,g1,g2,g3,g4⟩:=uO (ch:=c) (n:=m) (t:=Wp p) (vS b A l k) hw (nC p) hc.1 hc.2 m1 (by omega);rw[show(b.take ((A:Int)+(l.take (k+1)).sum).toNat).drop ((A:Int)+(l.take k).sum).toNat=vS b A l k from rfl,g2,Aa]at hR;simp only at hR;rw[MR,MV]at hR;by_cases her:er=0
  ·obtain⟨g5,g6,g7⟩:=g3 her;rw[Aba (by rw[Ak];simpa using her),Aib hw g6 g5,Aa]at hR;subst her;exact⟨m,x,_,0,Ar6,hpos,hR,λh=>absurd rfl h,λ_=>⟨rfl,g7,g5,Ac3 hw g6 g5,by omega⟩, .inr ⟨by omega,g1,g2⟩⟩
  ·rw[Abb (by rw[Ak];simpa using her)]at hR;exact⟨m,x,_,er,Ar6,hpos,hR,λh=>⟨rfl,g4 h⟩,λh=>absurd h her, .inr ⟨by omega,g1,g2⟩⟩
theorem Gts.lens{b p:List UInt8}{f c w r n A:Nat}{l:List Int}{k m:Nat}{x:List Int32}{s:List UInt8}{e:Int}(hw:Cf (w:Int))(g:Gts b p f c w r n A l k m x s e):s.length<=12000/\x.length<=4000/\ (e=0->s.length=m*c*wB (w:Int)):=by
 by_cases he:e=0
 ·obtain⟨h1,h2,_⟩:=g.some' he;have h3:=bD (w:Int) x;have h4:=eE hw x;have h5:=g.pos;rw[<-h1]at h3 h4;refine⟨by omega,by omega,λ_=>by rw[h4,h2]⟩
 ·obtain⟨h1,h2⟩:=g.none' he;exact⟨by simp[h1],by simp[h2],λh=>absurd h he⟩
def QP(b p:List UInt8)(f c w r n A:Nat)(l:List Int)(k:Nat):List UInt8×Int:=(Px b p (f:Int) (c:Int) (w:Int) (r:Int) (n:Int) (A:Int) l (k:Int)).getD ([],0)
theorem Gts.eq{b p:List UInt8}{f c w r n A:Nat}{l:List Int}{k m:Nat}{x:List Int32}{s:List UInt8}{e:Int}(g:Gts b p f c w r n A l k m x s e):QP b p f c w r n A l k=(s,e):=by rw[QP,g.got];rfl
def Adj(b:List UInt8)(A:Nat)(l:List Int):Int:=(aR (b.drop ((A:Int)+l.sum).toNat)).2
def lE(b:List UInt8)(k:Nat):Nat:=(b.getD k 0).toNat
def sx(n:Nat)(b:List UInt8)(a:Nat):Int:=
 if n=1 then(lE b a:Int)-128 else
 if n=2 then(if lE b a+256*lE b (a+1)<32768 then(lE b a+256*lE b (a+1):Nat)else((lE b a+256*lE b (a+1):Nat):Int)-65536)else
 (if lE b a+256*lE b (a+1)+65536*lE b (a+2)<8388608 then(lE b a+256*lE b (a+1)+65536*lE b (a+2):Nat)else((lE b a+256*lE b (a+1)+65536*lE b (a+2):Nat):Int)-16777216)
def sxs(n m:Nat)(b:List UInt8):List Int32:=(List.range m).map λx=>Int32.ofInt (sx n b (x*n))
theorem Aqg(n m:Nat)(b:List UInt8):(sxs n m b).length=m:=by simp[sxs]
theorem sx2(b:List UInt8)(a:Nat):sx 2 b a=if lE b a+256*lE b (a+1)<32768 then((lE b a+256*lE b (a+1):Nat):Int)else((lE b a+256*lE b (a+1):Nat):Int)-65536:=rfl
theorem sx3(b:List UInt8)(a:Nat):sx 3 b a=if lE b a+256*lE b (a+1)+65536*lE b (a+2)<8388608 then((lE b a+256*lE b (a+1)+65536*lE b (a+2):Nat):Int)else((lE b a+256*lE b (a+1)+65536*lE b (a+2):Nat):Int)-16777216:=rfl
variable (b:List UInt8)
end Go.Pl
namespace Go.Pl
open Go Go.Lv
end Go.Pl
namespace Go.Pl
open Go Go.Lv
def smF(w:Nat)(y:List UInt8×Int):List Int32:=if y.2≠0 then []else sxs (wB (w:Int)) (y.1.length/wB (w:Int)) y.1
theorem sU(z:Int):(u8 z).toNat=(z %256).toNat:=by
 have:(z %256).toNat<256:=by omega
 rw[u8,An9,Abk (by omega)]
theorem xC{bits:Int}(h:Cf bits):∀(l:List Int32) (i j:Nat),i<l.length->j<wB bits-> (Er bits l).getD (i*wB bits+j) 0=(GH bits (l.getD i 0).toInt).getD j 0
 |[],i,j,hi,_=>by simp at hi
 |x::l,0,j,_,hj=>by
  have h1:=rS h x.toInt;have e:Er bits (x::l)=GH bits x.toInt++Er bits l:=by simp[Er]
  rw[e,Nat.zero_mul,Au1,List.getD_eq_getElem?_getD,List.getD_eq_getElem?_getD,List.getElem?_append_left (by omega)];rfl
 |x::l,i+1,j,hi,hj=>by
  have h1:=rS h x.toInt;have e:Er bits (x::l)=GH bits x.toInt++Er bits l:=by simp[Er]
  have ih:=xC h l i j (by simpa using hi) hj;have e2:(i+1)*wB bits+j=(GH bits x.toInt).length+(i*wB bits+j):=by rw[Aux,Nat.one_mul,h1];omega
  rw[e,e2,List.getD_eq_getElem?_getD,List.getElem?_append_right (by omega),Av7,<-List.getD_eq_getElem?_getD,ih];rfl
theorem Art{bits:Int}(h:Cf bits)(l:List Int32)(hr:inR bits l)(i:Nat)(hi:i<l.length):Int32.ofInt (sx (wB bits) (Er bits l) (i*wB bits))=l.getD i 0:=by
 have hm:l.getD i 0∈l:=by rw[List.getD_eq_getElem?_getD,List.getElem?_eq_getElem hi];exact Au9 hi
 have hv:=hr _ hm;have g:∀j,j<wB bits->lE (Er bits l) (i*wB bits+j)=((GH bits (l.getD i 0).toInt).getD j 0).toNat:=λj hj=>by rw[lE,xC h l i j hi hj]
 generalize l.getD i 0=x at*
 have key:sx (wB bits) (Er bits l) (i*wB bits)=x.toInt:=by
  generalize hA:i*wB bits=a at*
  obtain rfl|rfl|rfl:=h
  ·have g0:=g 0 (by decide);have e1:(GH 8 x.toInt).getD 0 0=u8 (x.toInt+128):=rfl;rw[Aw6,e1,sU]at g0;simp only[hB]at hv;simp at hv;have e2:wB 8=1:=rfl;rw[e2,sx,Abb rfl,g0];omega
  ·have g0:=g 0 (by decide);have g1:=g 1 (by decide);have e0:(GH 16 x.toInt).getD 0 0=u8 x.toInt:=rfl;have e1:(GH 16 x.toInt).getD 1 0=u8 (x.toInt/256):=rfl;rw[Aw6,e0,sU]at g0;rw[e1,sU]at g1;simp only[hB]at hv;simp at hv;have e2:wB 16=2:=rfl;rw[e2,sx2,g0,g1];split<;>omega
  ·have g0:=g 0 (by decide);have g1:=g 1 (by decide);have g2:=g 2 (by decide);have e0:(GH 24 x.toInt).getD 0 0=u8 x.toInt:=rfl;have e1:(GH 24 x.toInt).getD 1 0=u8 (x.toInt/256):=rfl;have e3:(GH 24 x.toInt).getD 2 0=u8 (x.toInt/65536):=rfl;rw[Aw6,e0,sU]at g0;rw[e1,sU]at g1;rw[e3,sU]at g2;simp only[hB]at hv;simp at hv;have e2:wB 24=3:=rfl;rw[e2,sx3,g0,g1,g2];split<;>omega
 rw[key];simp
theorem Anh{bits:Int}(h:Cf bits)(l:List Int32)(hr:inR bits l):sxs (wB bits) l.length (Er bits l)=l:=by
 refine Au5 (Aqg _ _ _) λi h1 h2=>?_;have:=Art h l hr i h2;simp only[sxs,Aya,Ax1];rw[this,List.getD_eq_getElem?_getD,List.getElem?_eq_getElem h2];rfl
theorem Gts.rK{b p:List UInt8}{f c w r n A:Nat}{l:List Int}{k m:Nat}{x:List Int32}{s:List UInt8}{e:Int}(hw:Cf (w:Int))(g:Gts b p f c w r n A l k m x s e):smF w (s,e)=x:=by
 have hwb:=Akv (w:Int);by_cases he:e=0
 ·obtain⟨h1,h2,h3,_⟩:=g.some' he;have h4:=g.pos;have h5:=eE hw x;rw[smF,Aba (by simpa using he)];simp only;rw[h1,h5,Nat.mul_div_cancel _ (by omega)];exact Anh hw x (kR hw (by omega) h3)
 ·rw[smF,Abb he,(g.none' he).2]
abbrev C5:=Int×Int×Int×List Int32×Int
def S1(e:Int):C5:=(0,0,0,[],e)
theorem yO{seg p:List UInt8}(hs:seg.length=8)(hp:p.length<=64):Vw seg p=some (seg==On (Wa p).toNat 8,0):=by
 rw[Vw,sE p hp,Aa];simp only;rw[Aba (by rw[Ak,Ak,Ac,Ac,Bn,hs];simp),Hc,Aa]
theorem Aox(b p:List UInt8)(m c w h o q n g y ab:Int)(k v:List Int){e:Int}(he:e≠0):Ly b p m c w h o q n g k e y ab v=some (S1 e):=by
 rw[Ly,CY,Abb (by rw[Ak];simpa using he)];rfl
theorem wC(b p:List UInt8)(m c w h o q n g y ab:Int)(k:List Int){e:Int}(he:e≠0):Pr b p m c w h o q n g y ab k e=some (S1 e):=by
 rw[Pr,DC,Abb (by rw[Ak];simpa using he)];rfl
theorem Amy(b p:List UInt8)(m c w h o q n g y ab:Int)(k:List Int):Pr b p m c w h o q n g y ab k 0=Uw b p m c w h o q n g y ab k:=by
 rw[Pr,DC,Aba (by rw[Ak];simp)]
def wT(X:Nat->List Int32)(E:Nat->Int)(be:Int):Nat->Nat->List Int32->List Int32×Int
 |0,_,acc=>if be≠0 then([],38)else(acc,0)
 |j+1,k,acc=>if E k≠0 then([],E k)else wT X E be j (k+1) (acc++X k)
def bX(c w r:Nat)(y:List Int32×Int):C5:=if y.2≠0 then S1 y.2 else((c:Int),(w:Int),(r:Int),y.1,0)
def Agt(b p:List UInt8)(f c w r n A:Nat)(l:List Int):C5:=
 bX c w r (wT (λk=>smF w (QP b p f c w r n A l k)) (λk=>(QP b p f c w r n A l k).2) (Adj b A l) l.length 0 [])
section
variable {b p:List UInt8} {f c w r n A:Nat} {l:List Int} (o:Opn b p f c w r n A l)
include o
theorem kK(a1 a2 a3 a4:Int):∀(j k q:Nat) (acc:List Int32),k+j=l.length->j<q-> (k=l.length-> (A:Int)+l.sum<=b.length)->acc.length<=4000*k->
  Pq b l (f:Int) (c:Int) (w:Int) (r:Int) (n:Int) a1 a2 a3 (A:Int) a4 (Wp p) (Aq (Au r) n) q ((A:Int)+(l.take k).sum) (k:Int) acc=
   some (bX c w r (wT (λk=>smF w (QP b p f c w r n A l k)) (λk=>(QP b p f c w r n A l k).2) (Adj b A l) j k acc))
 |0,k,q+1,acc,hk,_,hfit,_=>by
  have hA:=o.at';have R2:=o.file;have hs1:=o.some1;have hsum:=o.sum;have b1:=Kg o.five l.length;have hf:=hfit (by omega);obtain rfl:k=l.length:=by omega
  rw[Axc]at b1⊢;rw[Pq,DK,Aba (by rw[Af,Ac];simp),PW,dZ,Fw,Aa,uo _ (by rw[Asn];omega),Aa,wT,Adj];generalize aR (b.drop ((A:Int)+l.sum).toNat)=v;obtain⟨v1,v2⟩:=v;simp only;by_cases hv:v2≠0
  ·rw[Abb hv,Abb (by rw[Ak];simpa using hv),bX,Abb (by simp)];rfl
  ·rw[Aba hv,Aba (by rw[Ak];simpa using hv),bX,Aba (by simp)]
 |j+1,k,q+1,acc,hk,hq,hfit,hacc=>by
  have hA:=o.at';have R2:=o.file;have hs1:=o.some1;have hsum:=o.sum;have b1:=Kg o.five k;have b2:=Kg o.five (k+1);have hkl:k<l.length:=by omega
  have e2:=Xn hkl;have h5:=o.five l[k] (Au9 _);obtain⟨m,x,s,e,g⟩:=NX o k hkl;obtain⟨hc,hw,hr,hn,_⟩:=eS o.shape;have hl:=g.lens hw;rw[Pq,DK,Abb (by rw[Af,Ac];simp;omega),Ck hkl,Aa,Aa,Ag (a:=(A:Int)+(l.take k).sum) (by omega) (by omega),Azf,<-e2,Ac,wT,g.eq];simp only;rcases g.way with⟨h1,h2⟩|⟨h1,h2,_⟩
  ·rw[Abb (by rw[Af,Ab2];omega),Abb (by rw[h2];simp),h2,bX,Abb (by simp)];rfl
  ·rw[Aba (by rw[Af,Ab2];omega),g.mom];simp only[Aa];rw[Pp,Aa,show(b.take ((A:Int)+(l.take (k+1)).sum).toNat).drop ((A:Int)+(l.take k).sum).toNat=vS b A l k from rfl,h2,Aa];simp only;rw[PR,fR];by_cases he:e≠0
   ·rw[Abb (by rw[Ak];simpa using he),Abb he,bX,Abb he];rfl
   ·have he0:e=0:=by simpa using he
    have Ab1:=(g.some' he0).2.2.2.2;rw[Aba (by rw[Ak];simpa using he),Aba he,g.rK hw,Cx,Aa,Ag (a:=(A:Int)+(l.take k).sum) (by omega) (by omega),Azf,<-e2,Ag];exact kK a1 a2 a3 a4 j (k+1) q (acc++x) (by omega) (by omega) (λh=>by rw[h,Axc]at Ab1;exact Ab1) (by rw[Aby];omega)
theorem mG:∀(j k q:Nat) (acc:List Int32),k+j=l.length->j<q-> (k=l.length-> (A:Int)+l.sum<=b.length)->acc.length<=4000*k->
  Jo b (f:Int) (c:Int) (w:Int) (r:Int) (n:Int) l (Aq (Au r) n) (Wp p) q ((A:Int)+(l.take k).sum) (k:Int) acc=
   some (bX c w r (wT (λk=>smF w (QP b p f c w r n A l k)) (λk=>(QP b p f c w r n A l k).2) (Adj b A l) j k acc))
 |0,k,q+1,acc,hk,_,hfit,_=>by
  have hA:=o.at';have R2:=o.file;have hs1:=o.some1;have hsum:=o.sum;have b1:=Kg o.five l.length;have hf:=hfit (by omega);obtain rfl:k=l.length:=by omega
  rw[Axc]at b1⊢;rw[Jo,Vi,Aba (by rw[Af,Ac];simp),FU,EV,Fw,Aa,Ad0 _ (by rw[Asn];omega),Aa,wT,Adj];generalize aR (b.drop ((A:Int)+l.sum).toNat)=v;obtain⟨v1,v2⟩:=v;simp only;by_cases hv:v2≠0
  ·rw[Abb hv,Abb (by rw[Ak];simpa using hv),bX,Abb (by simp)];rfl
  ·rw[Aba hv,Aba (by rw[Ak];simpa using hv),bX,Aba (by simp)]
 |j+1,k,q+1,acc,hk,hq,hfit,hacc=>by
  have hA:=o.at';have R2:=o.file;have hs1:=o.some1;have hsum:=o.sum;have b1:=Kg o.five k;have b2:=Kg o.five (k+1);have hkl:k<l.length:=by omega
  have e2:=Xn hkl;have h5:=o.five l[k] (Au9 _);obtain⟨m,x,s,e,g⟩:=NX o k hkl;obtain⟨hc,hw,hr,hn,_⟩:=eS o.shape;have hl:=g.lens hw;rw[Jo,Vi,Abb (by rw[Af,Ac];simp;omega),Ck hkl,Aa,Aa,Ac,Bg,wT,g.eq];simp only;rcases g.way with⟨h1,h2⟩|⟨h1,_,h2⟩
  ·rw[Abb (by rw[Af,Ab2];omega),Abb (by rw[h2];simp),h2,bX,Abb (by simp)];rfl
  ·rw[Aba (by rw[Af,Ab2];omega),g.mom];simp only[Aa];rw[Ag (a:=(A:Int)+(l.take k).sum) (by omega) (by omega),Azf,<-e2,Pp,Aa,show(b.take ((A:Int)+(l.take (k+1)).sum).toNat).drop ((A:Int)+(l.take k).sum).toNat=vS b A l k from rfl,h2,Aa];simp only;rw[FV,EY];by_cases he:e≠0
   ·rw[Abb (by rw[Ak];simpa using he),Abb he,bX,Abb he];rfl
   ·have he0:e=0:=by simpa using he
    have Ab1:=(g.some' he0).2.2.2.2;rw[Aba (by rw[Ak];simpa using he),Aba he,g.rK hw,Cx,Aa,Ck hkl,Aa,Aa,Ag (a:=(A:Int)+(l.take k).sum) (by omega) (by omega),Azf,<-e2,Ag];exact mG j (k+1) q (acc++x) (by omega) (by omega) (λh=>by rw[h,Axc]at Ab1;exact Ab1) (by rw[Aby];omega)
end
theorem K8(l:List Int)(b p:List UInt8)(m c w h o q n g:Int)(k:List Int)(hl:l.length<=1000)(h5:∀x∈l,5<=x)(A:Int)(hA:0<=A)(hb:A+l.sum<=1000000):∀(j i z:Nat),i+j=l.length->j<z->Pe l b p m c w h o q n g k z (i:Int) (A+(l.take i).sum)=CE b p l m c w h o q n g (A+l.sum) k
 |0,i,z+1,hi,_=>by
  rw[Pe,CN,Aba (by rw[Af,Ac];simp;omega),show i=l.length by omega,Axc]
 |j+1,i,z+1,hi,hz=>by
  have hlt:i<l.length:=by omega
  have b1:=Kg h5 i;have b2:=Kg h5 (i+1);have e:=Xn hlt;have ih:=K8 l b p m c w h o q n g k hl h5 A hA hb j (i+1) z (by omega) (by omega);rw[e,<-Azf]at ih;rw[Pe,CN,Abb (by rw[Af,Ac];simp;omega),Ck hlt,Aa,Aa,Ag,Ag];exact ih
theorem Aca(b p:List UInt8)(hb:b.length<=100100)(hp:p.length<=64):
  (∃e:Int,e≠0/\Cg b p=some (NR e)/\Kj b p=some (S1 e)/\Hl b p=some (S1 e))\/
  (∃f c w r n T:Nat,∃q d:Int,T<=b.length/\b.length<=100000/\Fe f c w r n=true/\CM c r n=true/\
   Cg b p=Ma b (f:Int) (c:Int) (w:Int) (r:Int) (n:Int) (T:Int)/\
   Kj b p=Uw b p (f:Int) (c:Int) (w:Int) (r:Int) (n:Int) q d (T:Int) 0 0 (Aq (Au r) n)/\
   Hl b p=(Yu b (T:Int) (f:Int) (c:Int) (w:Int) (r:Int) (n:Int)).bind λ(h,ae)=>if Bm ae 0=true then some (S1 ae)else(Dx (r:Int) (n:Int)).bind λp2=>(Ju p).bind λ(u,ap)=>IV b (f:Int) (c:Int) (w:Int) (r:Int) (n:Int) h p2 u (Ae (T:Int) (Ae (Bd 4 (Ac h)) 4)) 0 []):=by
 have hO:Cg b p=Cg b p:=rfl;have hV:Kj b p=Kj b p:=rfl;have hR:Hl b p=Hl b p:=rfl
 conv at hO=>rhs;rw[Cg,Lw,Aba (by rw[Al,Ac];simp;omega)]
 conv at hV=>rhs;rw[Kj,UI,Aba (by rw[Al,Ac];simp;omega),Ng]
 conv at hR=>rhs;rw[Hl,IW,Aba (by rw[Al,Ac];simp;omega),QJ]
 by_cases h1:100000<b.length
 ·rw[Abb (by rw[Al,Ac];simp;omega)]at hO hV hR;refine .inl ⟨4,by omega,hO,?_,?_⟩
  ·rw[hV,Aa];rfl
  ·rw[hR,Aa];rfl
 rw[Aba (by rw[Al,Ac];simp;omega)]at hO hV hR;rw[Lp b (by omega),Aa]at hO hV;rw[ZK b (by omega),Aa]at hR;by_cases h2:(De b).2=0
 ·obtain⟨p0,p1,p2⟩:=rQ h2;have hc:=Fw (l:=b) p0 p1;simp only[h2]at hO hV hR;rw[Aba (by rw[Ak];simp),hc,Aa,show b.drop (De b).1.toNat=UZ b from rfl]at hO hV hR;rw[HD _ (by simp[UZ];omega),Aa]at hO hV;rw[xP _ (by simp[UZ];omega),Aa]at hR;by_cases h3:(Gn (UZ b)).2.2.2.2.2=0
  ·obtain⟨g1,g2,g3,g4⟩:=E1 h3;have hlen:(UZ b).length=b.length-(De b).1.toNat:=by simp[UZ]
   generalize hF:(De b).1.toNat=F at*
   have hF':(De b).1=(F:Int):=by omega
   rw[g1,hF']at hO hV hR;simp only at hO hV hR;generalize f0 (UZ b)=f at*
   generalize f1 (UZ b)=c at*
   generalize f2 (UZ b)=w at*
   generalize f3 (UZ b)=r at*
   generalize f4 (UZ b)=n at*
   have t22:Ae (F:Int) 22=((F+22:Nat):Int):=by rw[Ag];omega
   have t30:Ae ((F+22:Nat):Int) 8=((F+30:Nat):Int):=by rw[Ag];omega
   have Ayv:f=1\/f=2:=by simp only[Fe,Ab2]at g3;omega
   rw[Aba (by rw[Ak];simp),t22,t30]at hO;rw[Aba (by rw[Ak];simp),gG g3 g4,Aa,t22,t30]at hV;rw[Aa]at hR;simp only at hV hR;rw[Aba (by rw[Ak];simp),t22,MS,t30]at hR;by_cases YI:((p==([]:List UInt8)) !=(geq (f:Int) (1:Int)))=true
   ·rw[Abb YI]at hO hR;refine .inl ⟨26,by omega,hO,?_,?_⟩
    ·rw[hV];by_cases h5:f=2
     ·rw[Abb (by rw[Bc,h5];rfl),Aa];simp only;rw[Aba (by rw[Ak];simp),Abb YI,wC _ _ _ _ _ _ _ _ _ _ _ _ _ (by omega)]
     ·rw[Aba (by rw[Bc];simp;omega),Aa];simp only;rw[Aba (by rw[Ak];simp),Abb YI,wC _ _ _ _ _ _ _ _ _ _ _ _ _ (by omega)]
    ·rw[hR,Aa];rfl
   ·rw[Aba YI]at hO hR;have hpf:(p=[]↔f=1):=by
     rw[Bc]at YI;have h5:(p==([]:List UInt8))=((f:Int)==1):=by simpa using YI
     have h6:(p==([]:List UInt8))=true↔((f:Int)==1)=true:=by rw[h5]
     rw[Axd,Axd]at h6;rw[h6];omega
    by_cases h5:f=2
    ·have Ar5:p≠ []:=λe=>by have:=hpf.1 e;omega
     rw[Abb (by rw[Bc,h5];rfl),Aa]at hV;simp only at hV;rw[Aba (by rw[Ak];simp),Aba YI,Aba (by rw[Bc];simp;omega)]at hV;rw[Abb (by simpa using Ar5)]at hO;rw[Aba (by simpa using Ar5)]at hR;by_cases h6:b.length<F+30
     ·rw[Abb (by rw[Af,Ac];simp;omega)]at hO hV hR;refine .inl ⟨24,by omega,hO,?_,?_⟩
      ·rw[hV,wC _ _ _ _ _ _ _ _ _ _ _ _ _ (by omega)]
      ·rw[hR,Aa];rfl
     ·have hseg:((b.take (F+30)).drop (F+22)).length=8:=by simp;omega
      rw[Aba (by rw[Af,Ac];simp;omega),Pp,Aa,show((F+30:Nat):Int).toNat=F+30 from rfl,show((F+22:Nat):Int).toNat=F+22 from rfl]at hO hV hR;rw[yO hseg hp,Aa]at hO hV;rw[K1 p hp,Aa]at hR;simp only at hO hV;rw[Aba (by rw[Ak];simp)]at hO;generalize(b.take (F+30)).drop (F+22)=seg at*
      by_cases h7:seg=On (Wa p).toNat 8
      ·rw[Aba (by simp[h7])]at hO hV;rw[Aba (by simp[h7]),Aa]at hR;simp only at hR;rw[Aba (by rw[Ak];simp)]at hR;rw[Amy]at hV;exact .inr ⟨f,c,w,r,n,F+30,(F:Int),((F+22:Nat):Int),by omega,by omega,g3,g4,hO,hV,hR⟩
      ·rw[Abb (by simpa using h7)]at hO hV;rw[Abb (by simpa using h7)]at hR;refine .inl ⟨26,by omega,hO,?_,?_⟩
       ·rw[hV,wC _ _ _ _ _ _ _ _ _ _ _ _ _ (by omega)]
       ·rw[hR,Aa];rfl
    ·have hpe:p=[]:=hpf.2 (by omega);rw[Aba (by rw[Bc];simp;omega),Aa]at hV;simp only at hV;rw[Aba (by rw[Ak];simp),Aba YI,Abb (by rw[Bc];simp;omega),Amy]at hV;rw[Aba (by rw[hpe];simp)]at hO;rw[Abb (by rw[hpe];rfl),Aa]at hR;simp only at hR;rw[Aba (by rw[Ak];simp)]at hR;exact .inr ⟨f,c,w,r,n,F+22,(F:Int),((F+22:Nat):Int),by omega,by omega,g3,g4,hO,hV,hR⟩
  ·generalize Gn (UZ b)=v at*
   obtain⟨v1,v2,v3,v4,v5,v6⟩:=v;simp only at h3 hO hV hR;rw[Abb (by rw[Ak];simpa using h3)]at hO hV;refine .inl ⟨v6,h3,hO,?_,?_⟩
   ·rw[hV,Aa];simp only;rw[Abb (by rw[Ak];simpa using h3)];rfl
   ·rw[hR,Aa];simp only;rw[Abb (by rw[Ak];simpa using h3)];rfl
 ·generalize De b=v at*
  obtain⟨v,e⟩:=v;simp only at h2 hO hV hR;rw[Abb (by rw[Ak];simpa using h2)]at hO hV hR;refine .inl ⟨e,h2,hO,?_,?_⟩
  ·rw[hV,Aa];simp only;rw[Abb (by rw[Ak];simpa using h2)];rfl
  ·rw[hR,Aa];simp only;rw[Abb (by rw[Ak];simpa using h2)];rfl
theorem Aep(b p:List UInt8)(hb:b.length<=100100)(hp:p.length<=64):
  (∃e:Int,e≠0/\Cg b p=some (NR e)/\Dp b p=some (NR e)/\Kj b p=some (S1 e)/\Hl b p=some (S1 e))\/
  (∃f c w r n A l,Opn b p f c w r n A l/\Kj b p=some (Agt b p f c w r n A l)/\Hl b p=some (Agt b p f c w r n A l)):=by
 have As0:∀{e e2:Int},NR e=NR e2->e=e2:=λh=>by simpa [NR]using h
 rcases Aca b p hb hp with⟨e,he,h1,h2,h3⟩|⟨f,c,w,r,n,T,q,d,hT,R2,g3,g4,hO,hV,hR⟩
 ·rcases wN b p hb hp with⟨e',he',k1,k2⟩|⟨f,c,w,r,n,A,l,o⟩
  ·rw[h1]at k1;have:=As0 (At5 k1);subst this;exact .inl ⟨e,he,h1,k2,h2,h3⟩
  ·have:=o.prog;rw[h1]at this;have:=At5 this;simp only[NR,Auu]at this;exact absurd this.2.2.2.2.2.2.2 he
 ·obtain⟨hc,hw,hr,hn,_⟩:=eS g3;have hfit:n<=4000/c:=by simp only[CM,Ab2]at g4;exact g4.1
  have hn4:n<=4000:=by have:=Asv 4000 c;omega
  rw[jX g3 g4 b hb T hT]at hO;have hcut:=Fw (l:=b) (a:=(T:Int)) (by omega) (by omega);rw[Aiq]at hcut;have hdl:(b.drop T).length<=100100:=by simp;omega
  rw[Uw,QO,Aba (by rw[Af,Ac];simp;omega),hcut,Aa,Ac,tU _ _ hdl,Aa]at hV;rw[Yu,hcut,Aa,qA hr.2 hn hn4,Aa,Ac,Aa8 _ _ hdl,Aa,Aa]at hR;by_cases h:(Hy (b.drop T) (Aq (Au r) n).length).2≠0
  ·rw[Abb h]at hO;generalize Hy (b.drop T) (Aq (Au r) n).length=v at*
   obtain⟨v1,v2⟩:=v;simp only at h hO hV hR;rcases wN b p hb hp with⟨e',he',k1,k2⟩|⟨f,c,w,r,n,A,l,o⟩
   ·rw[hO]at k1;have:=As0 (At5 k1);subst this;refine .inl ⟨_,h,hO,k2,?_,?_⟩
    ·rw[hV,AS,BJ,Abb (by rw[Ak];simpa using h),Aox _ _ _ _ _ _ _ _ _ _ _ _ _ _ h]
    ·rw[hR,Abb (by rw[Ak];simpa using h)]
   ·have:=o.prog;rw[hO]at this;have:=At5 this;simp only[NR,Auu]at this;exact absurd this.2.2.2.2.2.2.2 h
  ·have h0:(Hy (b.drop T) (Aq (Au r) n).length).2=0:=by simpa using h
   rw[Aba h]at hO;generalize hsv:Hy (b.drop T) (Aq (Au r) n).length=v at*
   obtain⟨v1,v2⟩:=v;simp only at h0 hO hV hR;subst h0;rcases wN b p hb hp with⟨e',he',k1,k2⟩|⟨f',c',w',r',n',A,l,o⟩
   ·rw[hO]at k1;have:=At5 k1;simp only[NR,Auu]at this;exact absurd this.2.2.2.2.2.2.2.symm he'
   ·have hp2:=o.prog;rw[hO]at hp2;have hp3:=At5 hp2;simp only[Auu]at hp3;obtain⟨i1,i2,i3,i4,i5,i6,i7,_⟩:=hp3;obtain rfl:f=f':=by omega
    obtain rfl:c=c':=by omega
    obtain rfl:w=w':=by omega
    obtain rfl:r=r':=by omega
    obtain rfl:n=n':=by omega
    subst i7;have hlen:=o.len;have hs1:=o.some1;have hsum:=o.sum;have hA:=o.at';have hAT:(A:Int)=(T:Int)+4*(v1.length:Int)+4:=by omega
    have a1:Bd 4 (v1.length:Int)=4*(v1.length:Int):=Gt;have eV:Ae (Ae (T:Int) (Bd 4 (Ac v1))) 4=(A:Int):=by
     rw[Ac,a1,Ag (a:=(T:Int)) (by omega) (by omega),Ag];omega
    have eR:Ae (T:Int) (Ae (Bd 4 (Ac v1)) 4)=(A:Int):=by
     rw[Ac,a1,Ag (a:=4*(v1.length:Int)) (by omega) (by omega),Ag];omega
    have hlv:=kK o q d (T:Int) ((A:Int)+v1.sum) v1.length 0 Ar [] (by omega) (by have:=Am;omega) (by omega) (by simp);have hlr:=mG o v1.length 0 Ar [] (by omega) (by have:=Am;omega) (by omega) (by simp);rw[Axm,List.sum_nil,Int.add_zero]at hlv hlr;refine .inr ⟨f,c,w,r,n,A,v1,o,?_,?_⟩
    ·have hs:=K8 v1 b p (f:Int) (c:Int) (w:Int) (r:Int) (n:Int) q d (T:Int) (Aq (Au r) n) hs1.2 o.five (A:Int) (by omega) (by omega) v1.length 0 Ar (by omega) (by have:=Am;omega);rw[Axm,List.sum_nil,Int.add_zero]at hs;rw[hV,AS,BJ,Aba (by rw[Ak];simp),OG,eV];refine Awn hs ?_;rw[CE,OS,eV,Ly,CY,Aba (by rw[Ak];simp),O6 p o.pass,Aa];exact hlv
    ·rw[hR,Aba (by rw[Ak];simp),Aa,zl p o.pass,Aa,eR];exact hlr
def Axh(b:List UInt8):List Int:=Aq (Au (f3 (UZ b))) (f4 (UZ b))
theorem zX(l:List Int)(b:List UInt8)(r2 r3 r4 r5 r6 r7 r8 r9:Int)(l12:List Int)(hl:l.length<=1000)(h5:∀x∈l,5<=x):∀(j i q:Nat) (s:Int),i+j=l.length->j<q->0<=s->s+(l.drop i).sum<=1000000->
  Pf l b r2 r3 r4 r5 r6 r7 r8 r9 l12 q (i:Int) s=Yg b l r2 r3 r4 r5 r6 r7 r8 r9 (s+(l.drop i).sum) l12
 |0,i,q+1,s,hi,_,_,_=>by
  rw[Pf,BA,Aba (by rw[Af,Ac];simp;omega),show i=l.length by omega,Axw];simp
 |j+1,i,q+1,s,hi,hq,h0,hs=>by
  have hlt:i<l.length:=by omega
  have hx:=h5 l[i] (Au9 hlt);have h2:=Ahv (l.drop (i+1)) λy hy=>h5 y (Azi hy);rw[drop_cons hlt,Au2]at hs⊢;rw[Pf,BA,Abb (by rw[Af,Ac];simp;omega),Ck hlt,Aa,Aa,Ag,Ag];have ih:=zX l b r2 r3 r4 r5 r6 r7 r8 r9 l12 hl h5 j (i+1) q (s+l[i]) (by omega) (by omega) (by omega) (by omega);rw[show((i:Int)+1)=((i+1:Nat):Int) by omega,ih,Azf]
theorem Agc(b:List UInt8)(r2 r3 r4 r5 r6 r7 r8 r9:Int)(l:List Int)(e x y:Int)(he:e≠0):Kf b r2 r3 r4 r5 r6 r7 r8 r9 l e x y=some (0,0,0,0,0,e):=by
 rw[Kf,Xy,Abb (by rw[Ak];simpa using he)]
theorem Amn{ch:Nat}{bits:Int}(hb:Cf bits)(h1:1<=ch)(h6:ch<=6):Fp (ch:Int) bits=some 0:=by
 have hr:∃x y,Qm bits=some (x,y,0):=⟨_,_,T6 hb⟩;obtain⟨x,y,hr⟩:=hr;rw[Fp,hr,Aa];simp only;rw[Aba (by simp[Ak,Af,Al];omega)]
abbrev P6':=Int×Int×Int×List Int32×List Int×Int
def Amg(e:Int):P6':=(0,0,0,[],[],e)
theorem Ada{b:List UInt8}{K:Nat}(h:(Gn b).2.2.2.2.2=0)(hK:22<=K):Gn (b.take K)=Gn b:=by
 obtain⟨g1,g2,g3,g4⟩:=E1 h;have hl:(b.take K).length=min K b.length:=Afw;have ht:∀j,j<=22-> (b.take K).take j=b.take j:=λj hj=>by rw[Axn,Au6 (by omega)]
 have hp:∀a w,a+w<=22->part (b.take K) a w=part b a w:=λa w h=>FY (by omega);have e0:f0 (b.take K)=f0 b:=by simp only[f0];rw[hp _ _ (by omega)]
 have e1:f1 (b.take K)=f1 b:=by simp only[f1];rw[hp _ _ (by omega)]
 have e2:f2 (b.take K)=f2 b:=by simp only[f2];rw[hp _ _ (by omega)]
 have e3:f3 (b.take K)=f3 b:=by simp only[f3];rw[hp _ _ (by omega)]
 have e4:f4 (b.take K)=f4 b:=by simp only[f4];rw[hp _ _ (by omega)]
 unfold Gn;rw[hl,Au6 (show 4<=min K b.length by omega),Au6 (show 4<=b.length by omega),ht 4 (by omega),ht 18 (by omega),hp 18 4 (by omega),e0,e1,e2,e3,e4];by_cases hm:b.take 4≠Hz.take 4
 ·rw[Abb hm,Abb hm]
 ·rw[Aba hm,Aba hm,Aba (show ¬min K b.length<22 by omega),Aba (show ¬b.length<22 by omega)]
theorem Aeo(g:Nat):∀K:Nat,(List.replicate K (g:Int)).sum=((K*g:Nat):Int)
 |0=>by simp
 |K+1=>by
  rw[Avq,Au2,Aeo g K,Aza];omega
theorem wm{g n:Nat}(hn:1<=n):(Aq g n).sum=(n:Int):=by
 have h:=Axb (n-1) g;rw[Aq,List.sum_append,Aeo];simp only[Au2,List.sum_nil];omega
def Ann(c w:Nat)(fr:List Int)(k:Nat):Int:=(((fr.take k).sum.toNat*(c*wB (w:Int)):Nat):Int)
theorem Ac6(C W:Nat)(fr:List Int):Ann C W fr 0=0:=by rw[Ann,Axm,List.sum_nil];simp
theorem P2{bits:Int}(h:Cf bits){l:List Int32}(hl:l.length<=4000)(hr:inR bits l):Ao bits l=some 0:=by
 have hh:=UM bits;have key:∀(j i q:Nat),i+j=l.length->j<q->Ax l (hB bits) q (i:Int)=some 0:=by
  intro j
  induction j with
  |zero=>
   intro i q hi hq;obtain⟨q,rfl⟩:∃k,q=k+1:=⟨q-1,by omega⟩;rw[Ax,Ca,Aba (by rw[Af,Ac];simp;omega)];rfl
  |succ j ih=>
   intro i q hi hq;obtain⟨q,rfl⟩:∃k,q=k+1:=⟨q-1,by omega⟩;have hx:=hr l[i] (Au9 (by omega));rw[Ax,Ca,Abb (by rw[Af,Ac];simp;omega),Ck,Aa,Aa,Ei,U0,Bp (by omega) (by omega),Ag,Af,Dc,Aba (by simp;omega),Aba (by simp;omega)];exact ih (i+1) q (by omega) (by omega)
 rw[Ao,Cr,WV h,Aa,Aba (by rw[Bc];simp;omega),Aba (by rw[Al,Ac];simp;omega)];exact key l.length 0 Ar (by omega) (by have:=Am;omega)
end Go.Pl
