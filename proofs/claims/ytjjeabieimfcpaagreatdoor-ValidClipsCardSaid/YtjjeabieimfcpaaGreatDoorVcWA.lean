/- A part of a proof (see the text that ends in Proof). No conditions. -/
import Derived.Test.YtjjeabieimfcpaaGreatDoorVcPA
import Derived.KernelRfl
set_option linter.unusedVariables false
set_option linter.unusedSimpArgs false
namespace Go.Lv
theorem Ag{a b:Int}(h: -9223372036854775808<=a+b:=by omega)(h':a+b<=9223372036854775807:=by omega):Ae a b=a+b:=by rw[Ah3,Bs h h']
theorem Bk{a b:Int}(h: -9223372036854775808<=a-b:=by omega)(h':a-b<=9223372036854775807:=by omega):Am a b=a-b:=by rw[Aih,Bs h h']
theorem Hr{a b:Int}(h: -9223372036854775808<=a*b:=by omega)(h':a*b<=9223372036854775807:=by omega):Be a b=a*b:=by rw[uo,Bs h h']
theorem ML(c:UInt8):(Ad c:Int)=(c.toNat:Int):=by rw[Aap,Bs]<;>have:=c.toNat_lt<;>omega
theorem H5(c:UInt32):(Ad c:Int)=(c.toNat:Int):=by rw[jd,Bs]<;>have:=c.toNat_lt<;>omega
theorem dU(c:UInt8):(Ad c:UInt64)=UInt64.ofNat c.toNat:=by simp only[Ad,BC,Fs]
theorem Ih(c:UInt32):(Ad c:UInt64)=UInt64.ofNat c.toNat:=by simp only[Ad,Ye,Fs]
theorem VN(c:UInt64):(Ad c:UInt8)=UInt8.ofNat c.toNat:=by simp only[Ad,Im,Ls]
theorem eC(c:UInt32):(Ad c:UInt8)=UInt8.ofNat c.toNat:=by simp only[Ad,Ye,Ls]
theorem Ll(n:Nat):(Ad (n:Int):UInt64)=UInt64.ofNat n:=by simp only[Ad];exact Fs n
theorem uA(n:Nat):(Ad (n:Int):UInt32)=UInt32.ofNat n:=by simp only[Ad];exact Dy n
theorem Aab(n:Nat):(Ad (n:Int):UInt8)=UInt8.ofNat n:=by simp only[Ad];exact Ls n
theorem jQ{c:UInt64}(h:c.toNat<9223372036854775808):(Ad c:Int)=(c.toNat:Int):=by rw[iq,Bs]<;>omega
theorem T6:xN=17179869184:=by decide
theorem As:36893488147419103231<Az:=by decide
theorem Cq{α:Type}{l:List α}{n:Nat}(h:n<l.length:=by omega):Aj l (n:Int)=some l[n]:=by simp[Aj,h]
theorem Zg{α:Type}{l:List α}{n:Nat}(x:α)(h:n<l.length):Pd l (n:Int) x=some (l.set n x):=by simp[Pd,h]
theorem Wn{α:Type}{l:List α}{a b:Int}(h:0<=a:=by omega)(h1:a<=b:=by omega)(h2:b<=l.length:=by omega):Bv l a b=some ((l.take b.toNat).drop a.toNat):=by rw[Bv,Acz ⟨h,h1,h2⟩]
theorem Lm{α:Type}{l:List α}{a:Int}(h:0<=a:=by omega)(h1:a<=l.length:=by omega):Bv l a (Ac l)=some (l.drop a.toNat):=by
 unfold Ac;rw[Wn h h1 (Int.le_refl _),Ajf,Ank]
theorem Jz{α:Type}{l:List α}{b:Int}(h:0<=b:=by omega)(h1:b<=l.length:=by omega):Bv l 0 b=some (l.take b.toNat):=by rw[Wn (Int.le_refl _) h h1];rfl
theorem Cc{α:Type}{l m:List α}(h:l.length+m.length<=17179869184:=by omega):Cu l m=some (l++m):=by rw[Cu,T6,Acz h]
theorem lA{α:Type}{n:Int}{z:α}(h:0<=n:=by omega)(h':n<=17179869184:=by omega):N8 n z=some (List.replicate n.toNat z):=by rw[N8,T6,Acz ⟨h,h'⟩]
theorem Bw{b:Bool}(h:b=true):Rj b=some ():=by rw[h];rfl
theorem Aa{α β:Type}(a:α)(f:α->Option β):Option.bind (some a) f=f a:=rfl
theorem drop_cons{α:Type}{l:List α}{n:Nat}(h:n<l.length):l.drop n=l[n]::l.drop (n+1):=List.drop_eq_getElem_cons h
theorem MK{α:Type}{l:List α}{n:Nat}(h:n<l.length):l.take (n+1)=l.take n++[l[n]]:=by rw[List.take_add_one,List.getElem?_eq_getElem h];rfl
def Dz:List UInt8->Nat
 |[]=>0
 |x::r=>x.toNat+256*Dz r
theorem wP:∀l:List UInt8,Dz l<256^l.length
 |[]=>by simp[Dz]
 |x::r=>by
  have h:=wP r;have:=x.toNat_lt;simp only[Dz,Alh,Aku];omega
theorem oB:∀l m:List UInt8,Dz (l++m)=Dz l+256^l.length*Dz m
 |[],m=>by simp[Dz]
 |x::r,m=>by
  simp only[Dz,An3,oB r m,Alh,Aku,Nat.mul_add];rw[Aj3 (256^r.length) 256,Anz];omega
def cT(l:List UInt8):UInt64:=UInt64.ofNat (Dz l)
theorem Adf{l:List UInt8}(h:l.length<=8):Dz l<18446744073709551616:=by
 have h1:=wP l;have h2:256^l.length<=256^8:=Agg (by omega) h;exact Ajk h1 (by simpa using h2)
theorem U4{l:List UInt8}(h:l.length<=4):Dz l<4294967296:=by
 have h1:=wP l;have h2:256^l.length<=256^4:=Agg (by omega) h;exact Ajk h1 (by simpa using h2)
theorem QU{l:List UInt8}(h:l.length<=8):(cT l).toNat=Dz l:=by
 rw[cT,Age,Ac8 (Adf h)]
theorem IC{l:List UInt8}(h:l.length<=4):(Ad (cT l):Int)=(Dz l:Int):=by
 have:=U4 h;rw[jQ]<;>rw[QU (by omega)];omega
def Tv(n:Nat):Nat->List UInt8
 |0=>[]
 |w+1=>UInt8.ofNat n::Tv (n/256) w
theorem Bj:∀(w n:Nat),(Tv n w).length=w
 |0,_=>rfl
 |w+1,n=>by simp[Tv,Bj w]
theorem yX:∀(w n:Nat),Tv n (w+1)=Tv n w++[UInt8.ofNat (n/256^w)]
 |0,n=>by simp[Tv]
 |w+1,n=>by
  rw[Tv,yX w (n/256),Tv];simp[Anu,Aku,Aj3]
def Jf(p:List UInt8)(i:Nat):Nat:=(p.getD (i/8) 0).toNat/2^(i %8) %2
theorem Zt(p:List UInt8)(i:Nat):Jf p i<2:=Anm _ (by omega)
def Cf(p:List UInt8):Nat->Nat->Nat
 |_,0=>0
 |a,n+1=>Jf p a+2*Cf p (a+1) n
theorem Sa(p:List UInt8):∀(n a:Nat),Cf p a n<2^n
 |0,_=>by simp[Cf]
 |n+1,a=>by
  have:=Sa p n (a+1);have:=Zt p a;rw[Cf,Aku];omega
theorem OD(p:List UInt8):∀(m n a:Nat),Cf p a (m+n)=Cf p a m+2^m*Cf p (a+m) n
 |0,n,a=>by simp[Cf]
 |m+1,n,a=>by
  rw[show m+1+n=(m+n)+1 by omega,Cf,Cf,OD p m n (a+1),show a+1+m=a+(m+1) by omega,Aku,Nat.mul_add,Aj3 (2^m) 2,Anz];omega
theorem zI(p:List UInt8)(a:Nat):Cf p a 1=Jf p a:=by simp[Cf]
theorem sR(p:List UInt8)(a n:Nat):Cf p a (n+1)=Cf p a n+2^n*Jf p (a+n):=by rw[OD p n 1 a,zI]
theorem jL(p:List UInt8)(a:Nat):∀t:Nat,a %8+t<=8->Cf p a t=(p.getD (a/8) 0).toNat/2^(a %8) %2^t
 |0,_=>by simp[Cf,Nat.mod_one]
 |t+1,h=>by
  have h1:(a+t)/8=a/8:=by omega
  have h2:(a+t) %8=a %8+t:=by omega
  rw[sR,jL p a t (by omega),Jf,h1,h2,Nat.mod_pow_succ,Aog,Anu]
theorem sP{p:List UInt8}:∀(n a:Nat),(∀k,k<n->Jf p (a+k)=0)->Cf p a n=0
 |0,_,_=>rfl
 |n+1,a,h=>by
  have h0:=h 0 (by omega);rw[Cf,sP n (a+1) λk hk=>by have:=h (k+1) (by omega);rwa [show a+1+k=a+(k+1) by omega]];rw[Anq]at h0;omega
def okB(p:List UInt8)(n:Nat):Prop:=n<=330000/\p.length=(n+7)/8/\∀k,n<=k->k<8*p.length->Jf p k=0
def GM(p:List UInt8)(a n:Nat):List UInt8:=(List.range ((n+7)/8)).map λj=>UInt8.ofNat (Cf p (a+8*j) (min 8 (n-8*j)))
theorem Nj(p:List UInt8)(a n:Nat):(GM p a n).length=(n+7)/8:=by simp[GM]
theorem yS(p:List UInt8):∀(n a k:Nat),k<n->Cf p a n/2^k %2=Jf p (a+k)
 |n+1,a,0,_=>by have:=Zt p a;rw[Cf];simp;omega
 |n+1,a,k+1,h=>by
  have hb:=Zt p a;have e:(Jf p a+2*Cf p (a+1) n)/2=Cf p (a+1) n:=by omega
  rw[Cf,Aku,Aj3 (2^k) 2,<-Anu,e,yS p n (a+1) k (by omega),show a+1+k=a+(k+1) by omega]
theorem je(p:List UInt8)(n a k:Nat)(h:n<=k):Cf p a n/2^k %2=0:=by
 have:=Sa p n a;rw[Ane (Ajk this (Agg (by omega) h))]
theorem yh(p:List UInt8)(a n k:Nat):Jf (GM p a n) k=if k<n then Jf p (a+k)else 0:=by
 rw[Jf];by_cases hj:k/8<(n+7)/8
 ·have e:(GM p a n).getD (k/8) 0=UInt8.ofNat (Cf p (a+8*(k/8)) (min 8 (n-8*(k/8)))):=by
   rw[List.getD_eq_getElem?_getD,List.getElem?_eq_getElem (by rw[Nj];exact hj)];simp[GM]
  have hlt:Cf p (a+8*(k/8)) (min 8 (n-8*(k/8)))<256:=by
   have:=Sa p (min 8 (n-8*(k/8))) (a+8*(k/8));have h2:2^(min 8 (n-8*(k/8)))<=2^8:=Agg (by omega) (by omega);omega
  have hu:(UInt8.ofNat (Cf p (a+8*(k/8)) (min 8 (n-8*(k/8))))).toNat=Cf p (a+8*(k/8)) (min 8 (n-8*(k/8))):=by
   rw[Aiy];exact Ac8 hlt
  rw[e,hu];by_cases hk:k<n
  ·rw[Acz hk,yS p _ _ _ (by omega),show a+8*(k/8)+k %8=a+k by omega]
  ·rw[Abe hk,je p _ _ _ (by omega)]
 ·have e:(GM p a n).getD (k/8) 0=0:=by
   rw[List.getD_eq_getElem?_getD,List.getElem?_eq_none (by rw[Nj];omega)];rfl
  rw[e,Abe (by omega)];simp
theorem Q4(p:List UInt8)(a n:Nat)(h:n<=330000):okB (GM p a n) n:=⟨h,Nj p a n,λk hk _=>by rw[yh,Abe (by omega)]⟩
end Go.Lv
namespace Go.Pl
open Go Go.Lv
theorem zf(b:List UInt8)(hb:b.length<4611686018427387904):∀(j q:Nat),j<=b.length->j<q->Jc b q (cT (b.drop j)) ((j:Int)-1)=some (cT b)
 |0,q+1,_,_=>by
  rw[Jc,Tk,Abe (by rw[Ef];simp)];simp[AS,MZ]
 |j+1,q+1,hj,hq=>by
  rw[Jc,Tk,Acz (by rw[Ef];simp),show((j+1:Nat):Int)-1=(j:Int) by omega,Cq,Aa,Bk];have h:Ae (Be (256:UInt64) (cT (b.drop (j+1)))) (Ad b[j]:UInt64)=cT (b.drop j):=by
   rw[JH,JA,dU,drop_cons (n:=j) (by omega),cT,cT,Dz,UInt64.ofNat_add,UInt64.ofNat_mul];exact UInt64.add_comm _ _
  rw[h];exact zf b hb j q (by omega) (by omega)
theorem B3(b:List UInt8)(hb:b.length<4611686018427387904):Al b=some (cT b):=by
 have h:=zf b hb b.length Az (Ag9 _) (by have:=As;omega);rw[Al,AO,AP];have e:Am (Ac b) 1=(b.length:Int)-1:=Bk (by unfold Ac;omega) (by unfold Ac;omega);rw[e,<-h,An5];rfl
theorem Abg{n c:UInt64}{i:Nat}(hn:n.toNat<2^i)(hc:c.toNat*2^i<18446744073709551616):rD n (Ej c i)=UInt64.ofNat (n.toNat+c.toNat*2^i):=by
 rw[Af5];apply UInt64.toNat_inj.1;rw[UInt64.toNat_or,TU,Ac8 hc,Aj3,Nat.or_comm,<-Alv hn,Age,Ac8,Aor,Aj3];have h:=Alv hn c.toNat;have h2:2^i*c.toNat+n.toNat<2^64:=by
  rw[h];exact Nat.or_lt_two_pow (by rw[Aj3];simpa using hc) n.toNat_lt
 rw[Aor];first|exact h2|(rw[Aj3];exact h2)
theorem uE(b:List UInt8)(hb:b.length<=8):∀(j i q:Nat),i+j=b.length->j<q->BI b q (cT (b.take i)) (i:Int)=some (cT b,0)
 |0,i,q+1,hi,_=>by
  rw[BI,QM,Abe (by rw[Af,Ac];simp;omega),show i=b.length by omega,Ank];rfl
 |j+1,i,q+1,hi,hq=>by
  have hlt:i<b.length:=by omega
  rw[BI,QM,Acz (by rw[Af,Ac];simp;omega),Cq hlt,Aa,Hr,Bw (by rw[Ef];simp;omega),Aa,Ag];have h:rD (cT (b.take i)) (Ej (Ad b[i]:UInt64) (GI.toZ ((8:Int)*(i:Int))).toNat)=cT (b.take (i+1)):=by
   have e:(GI.toZ ((8:Int)*(i:Int))).toNat=8*i:=by show((8:Int)*(i:Int)).toNat=_;omega
   have e2:(2:Nat)^(8*i)=256^i:=by rw[Nat.pow_mul]
   have h1:=wP (b.take i);rw[Ahf,Amf (by omega)]at h1;have h3:=b[i].toNat_lt;have hle:(256:Nat)^(i+1)<=256^8:=Agg (by omega) (by omega);rw[Aku]at hle;have h4:(Ad b[i]:UInt64).toNat=b[i].toNat:=by rw[dU,Age];omega
   have h5:b[i].toNat*256^i<18446744073709551616:=by
    have:b[i].toNat*256^i<256*256^i:=Nat.mul_lt_mul_of_pos_right (by simpa using h3) (Anp (by omega));simp at hle;omega
   rw[e,Abg (by rw[QU (by simp;omega),e2];exact h1) (by rw[h4,e2];exact h5),QU (by simp;omega),h4,e2,MK hlt];rw[cT,oB];simp only[Dz,Ahf,Amf (Nat.le_of_lt hlt),Nat.mul_zero,Anq];rw[Aj3]
  rw[h];exact uE b hb j (i+1) q (by omega) (by omega)
theorem C2(b:List UInt8)(h1:1<=b.length)(h2:b.length<=8):YS b=some (cT b,0):=by
 have h:=uE b h2 b.length 0 Az (by omega) (by have:=As;omega);rw[YS,aZ,Abe (by simp[Af,Ap,Ac];omega),aB];exact h
def part(b:List UInt8)(at' w:Nat):List UInt8:=(b.take (at'+w)).drop at'
theorem Cz{b:List UInt8}{a w:Nat}(h:a+w<=b.length:=by omega):(part b a w).length=w:=by simp[part];omega
theorem sI(b:List UInt8)(a w:Nat)(h1:1<=w)(h2:w<=8)(h3:a+w<=b.length)(hb:b.length<4611686018427387904):TI b (a:Int) (w:Int)=some (cT (part b a w),0):=by
 rw[TI,Abe (by simp[Af,Ap];omega),Abe (by rw[Ap,Bk (by unfold Ac;omega) (by unfold Ac;omega),Ac];simp;omega),Ag,Wn,Aa];rw[show((a:Int)+(w:Int)).toNat=a+w by omega,show(a:Int).toNat=a by omega];rw[C2 _ (by rw[show((b.take (a+w)).drop a).length=_ from Cz h3];exact h1) (by rw[show((b.take (a+w)).drop a).length=_ from Cz h3];exact h2),Aa];rfl
theorem kB(w:Nat)(hw:w<=1000):∀(j i q:Nat) (n:UInt64) (acc:List UInt8),i+j=w->j<q->acc.length+j<=1000000->Ek (w:Int) q n (i:Int) acc=some (acc++Tv n.toNat j)
 |0,i,q+1,n,acc,hi,_,_=>by
  rw[Ek,Kc,Abe (by rw[Af];simp;omega)];simp[Qc,BS,Tv]
 |j+1,i,q+1,n,acc,hi,hq,ha=>by
  rw[Ek,Kc,Acz (by rw[Af];simp;omega)];have e:(Ad (CJ n (256:UInt64)):UInt8)=UInt8.ofNat n.toNat:=by
   rw[VN,yH];apply UInt8.toNat_inj.1;rw[Aiy,Aiy,UInt64.toNat_mod]
   show n.toNat %256 %256=_;omega
  have e2:(Cg n (256:UInt64)).toNat=n.toNat/256:=by rw[gQ,Aoj];rfl
  rw[Cc (by simp;omega),Aa,Ag,e];have h:=kB w hw j (i+1) q (Cg n 256) (acc++[UInt8.ofNat n.toNat]) (by omega) (by omega) (by simp;omega);rw[e2]at h;rw[show((i:Int)+1)=((i+1:Nat):Int) by omega,h,Tv];simp
theorem VE(n:UInt64)(w:Nat)(hw:w<=1000):Au n (w:Int)=some (Tv n.toNat w):=by
 rw[Au,Qy,Qo];have h:=kB w hw w 0 Az n [] (by omega) (by have:=As;omega) (by simp;omega);simpa using h
theorem bD{α:Type}{l m:List α}{x y:α}{i:Nat}(h:l.length=i):(l++x::m).set i y=l++y::m:=by subst h;simp
theorem sA(n:UInt64)(l4:List UInt8)(w:Nat)(hl:l4.length=w)(hw:w<=8):∀(j i q:Nat),i+j=w->j<q->BZ n l4 q (i:Int) (Tv n.toNat i++List.replicate j 0)=some (Tv n.toNat w,0)
 |0,i,q+1,hi,_=>by
  rw[BZ,QI,Abe (by rw[Af,Ac];simp;omega)];obtain rfl:i=w:=by omega
  simp[YF,kV]
 |j+1,i,q+1,hi,hq=>by
  have hlen:(Tv n.toNat i++List.replicate (j+1) 0).length=i+(j+1):=by simp[Bj]
  rw[BZ,QI,Acz (by rw[Af,Ac];simp;omega),Hr,Bw (by rw[Ef];simp;omega),Aa,Cq (by rw[hlen];omega),Aa,Zg _ (by rw[hlen];omega),Aa,Ag];have e:(Ad (Cr n (GI.toZ ((8:Int)*(i:Int))).toNat):UInt8)=UInt8.ofNat (n.toNat/256^i):=by
   have e:(GI.toZ ((8:Int)*(i:Int))).toNat=8*i:=by show((8:Int)*(i:Int)).toNat=_;omega
   rw[e,VN,JR,Nat.pow_mul]
  rw[e,Am7,bD (Bj _ _)];have h:=sA n l4 w hl hw j (i+1) q (by omega) (by omega);rw[yX]at h;simpa using h
theorem Agf(n:UInt64)(w:Nat)(h1:1<=w)(h2:w<=8)(h:n.toNat<256^w):mF n (w:Int)=some true:=by
 rw[mF];by_cases h8:w=8
 ·subst h8;rw[Acz (by rw[Bf];rfl)]
 ·rw[Abe (by rw[Bf];simp;omega),Hr,Bw (by rw[Ef];simp;omega),Aa];have e:(GI.toZ ((8:Int)*(w:Int))).toNat=8*w:=by show((8:Int)*(w:Int)).toNat=_;omega
  rw[e,lU];have:Cr n (8*w)=0:=by
   apply UInt64.toNat_inj.1;rw[JR,Nat.pow_mul];exact Ane h
  rw[this];rfl
theorem aD(n:UInt64)(w:Nat)(h1:1<=w)(h2:w<=8)(h:n.toNat<256^w):Tp n (w:Int)=some (Tv n.toNat w,0):=by
 rw[Tp,ZN,Abe (by simp[Af,Ap];omega),Agf n w h1 h2 h,Aa,Abe (by simp),lA,Aa,Bw (by rw[Bf];simp),Aa,ZW];have h:=sA n (List.replicate (w:Int).toNat 0) w (by simp) h2 w 0 Az (by omega) (by have:=As;omega);simpa [Tv]using h
theorem zP(n:Nat)(h:n<4611686018427387904):Hk (n:Int) (7:Int)=((n %8:Nat):Int):=by
 have e:Hk (n:Int) (7:Int)=wrap64 ((BitVec.ofInt 64 (n:Int)&&&BitVec.ofInt 64 7).toNat:Int):=rfl;rw[e,Aoi,Alr,Alr];have h1:((n:Int) %((2^64:Nat):Int)).toNat=n:=by omega
 have h2:((7:Int) %((2^64:Nat):Int)).toNat=2^3-1:=by decide
 rw[h1,h2,Amh,Bs (by omega) (by omega)]
theorem Ajv(n:Nat):wE (n:Int) (GI.toZ (3:UInt64)).toNat=((n/8:Nat):Int):=by
 have e:wE (n:Int) (GI.toZ (3:UInt64)).toNat=(n:Int).fdiv 8:=rfl;rw[e,Akh _ (by omega)];omega
theorem Ak6{t:Nat}(h:t<=8):Am (Ej (1:UInt8) t) (1:UInt8)=UInt8.ofNat (2^t-1):=by
 have:t=0\/t=1\/t=2\/t=3\/t=4\/t=5\/t=6\/t=7\/t=8:=by omega
 rcases this with rfl|rfl|rfl|rfl|rfl|rfl|rfl|rfl|rfl<;>decide
theorem bitsOf(c:UInt8)(off t:Nat)(h:t<=8):(Hk (Cr c off) (Am (Ej (1:UInt8) t) (1:UInt8))).toNat=c.toNat/2^off %2^t:=by
 have hp:2^t<=2^8:=Agg (by omega) h;rw[Ak6 h,Adq,UInt8.toNat_and,V7,Aiy,Ac8 (by have:=Anp (n:=t) (show 0<2 by omega);omega),Amh]
theorem pK{p:List UInt8}{k:Nat}(h:k<p.length):Aj p (k:Int)=some (p.getD k 0):=by
 rw[Cq h];simp[List.getD_eq_getElem?_getD,h]
def We(p:List UInt8)(a n:Nat):UInt64:=UInt64.ofNat (Cf p a n)
theorem FA(p:List UInt8)(a n:Nat)(h:n<=64):(We p a n).toNat=Cf p a n:=by
 have h1:=Sa p n a;have h2:2^n<=2^64:=Agg (by omega) h;rw[We,Age,Ac8 (by omega)]
theorem zJ(p:List UInt8)(N:Int)(a n:Nat)(hn:n<=64)(ha:a+n<=8*p.length)(hp:p.length<=1000000):∀(j h q:Nat),h+j=n->j<q->IX (a:Int) (n:Int) p N q (We p a h) (h:Int)=some (We p a n)
 |j,h,q+1,hj,hq=>by
  rw[IX,ZU];by_cases hlt:h<n
  ·have e1:Ae (a:Int) (h:Int)=((a+h:Nat):Int):=by rw[Ag];omega
   have e2:Gv (Am (n:Int) (h:Int)) (Am (8:Int) (((a+h) %8:Nat):Int))=((min (n-h) (8-(a+h) %8):Nat):Int):=by
    rw[KC,Bk,Bk];omega
   have hm:(a+h)/8<p.length:=by omega
   rw[Acz (by rw[Af];simp;omega),e1,Ajv,pK hm,Aa,zP _ (by omega),Bw (by rw[Ef];simp;omega),Aa,e2,Bw (by rw[Ef];simp),Aa,Bw (by rw[Ef];simp),Aa];generalize hT:min (n-h) (8-(a+h) %8)=T;have hT8:T<=8:=by omega
   have hT1:1<=T:=by omega
   have hb:(a+h) %8+T<=8:=by omega
   have hv:=jL p (a+h) T hb;have z1:(GI.toZ (((a+h) %8:Nat):Int)).toNat=(a+h) %8:=rfl;have z2:(GI.toZ ((T:Nat):Int)).toNat=T:=rfl;have z3:(GI.toZ ((h:Nat):Int)).toNat=h:=rfl;rw[z1,z2,z3];have hx:(Ad (Hk (Cr (p.getD ((a+h)/8) 0) ((a+h) %8)) (Am (Ej (1:UInt8) T) (1:UInt8))):UInt64).toNat=Cf p (a+h) T:=by
    rw[dU,Age,bitsOf _ _ _ hT8,<-hv];have:=Sa p T (a+h);have h2:2^T<=2^8:=Agg (by omega) hT8;omega
   have hlt2:=Sa p (h+T) a;rw[OD]at hlt2;have h64:2^(h+T)<=2^64:=Agg (by omega) (by omega);have hor:rD (We p a h) (Ej (Ad (Hk (Cr (p.getD ((a+h)/8) 0) ((a+h) %8)) (Am (Ej (1:UInt8) T) (1:UInt8))):UInt64) h)=We p a (h+T):=by
    rw[Abg (by rw[FA p a h (by omega)];exact Sa p h a) (by rw[hx,Aj3];omega),hx,FA p a h (by omega),We,OD,Aj3 (2^h)]
   rw[hor,Ag,show(h:Int)+((T:Nat):Int)=((h+T:Nat):Int) by omega];exact zJ p N a n hn ha hp (j-T) (h+T) q (by omega) (by omega)
  ·rw[Abe (by rw[Af];simp;omega),show h=n by omega];rfl
theorem get_eq(p:List UInt8)(N:Int)(a n:Nat)(hn:n<=64)(ha:a+n<=8*p.length)(hp:p.length<=1000000):gP p N (a:Int) (n:Int)=some (We p a n):=by
 have:=zJ p N a n hn ha hp n 0 Az (by omega) (by have:=As;omega);exact this
theorem MO{p:List UInt8}{n:Nat}(h:okB p n):Tf p (n:Int)=some 0:=by
 obtain⟨h1,h2,h3⟩:=h;have e7:Ae (n:Int) 7=((n+7:Nat):Int):=by rw[Ag];omega
 rw[Tf,e7,Ajv,Abe (by simp[Af,Ap,Ah,Ac,h2];omega),zP _ (by omega)];by_cases hz:n %8=0
 ·rw[Abe (by rw[Ap];simp;omega)]
 ·have el:Am (Ac p) 1=((p.length-1:Nat):Int):=by rw[Ac,Bk];omega
  rw[Acz (by rw[Ap];simp;omega),el,pK (by omega),Aa,Bw (by rw[Ef];simp;omega),Aa];have z:(GI.toZ ((n %8:Nat):Int)).toNat=n %8:=rfl;have hs:Cr (p.getD (p.length-1) 0) (n %8)=0:=by
   apply UInt8.toNat_inj.1;rw[V7];have hv:=jL p n (8-n %8) (by omega);have h0:Cf p n (8-n %8)=0:=sP _ _ λk hk=>h3 _ (by omega) (by omega);rw[h0,show n/8=p.length-1 by omega]at hv;have hlt:(p.getD (p.length-1) 0).toNat/2^(n %8)<2^(8-n %8):=by
    have:=(p.getD (p.length-1) 0).toNat_lt;rw[Nat.div_lt_iff_lt_mul (Anp (by omega)),<-Aog,show 8-n %8+n %8=8 by omega];simpa using this
   rw[Ac8 hlt]at hv;exact hv.symm
  rw[z,hs,Abe (by rw[M1];simp)]
theorem jS{p:List UInt8}{N:Nat}(h:okB p N)(a n:Nat)(hn:n<=64):EL p (N:Int) (a:Int) (n:Int)=some (if N<a+n then(0,24)else(We p a n,0)):=by
 obtain⟨h1,h2,h3⟩:=h;rw[EL,MO ⟨h1,h2,h3⟩,Aa,Abe (by rw[Ah];simp),Abe (by simp[Af,Ap];omega),Bk];by_cases hl:N<a+n
 ·rw[Acz (by rw[Ap];simp;omega),Acz hl]
 ·rw[Abe (by rw[Ap];simp;omega),get_eq p N a n hn (by omega) (by omega),Aa,Abe hl]
theorem Al0(c:Nat)(h:c<4611686018427387904):Cg (c:Int) (2:Int)=((c/2:Nat):Int):=by
 rw[KE,Alz (by omega),Bs (by omega) (by omega)];omega
theorem Ajw(c:Nat)(h:c<4611686018427387904):Cg (c:Int) (8:Int)=((c/8:Nat):Int):=by
 rw[KE,Alz (by omega),Bs (by omega) (by omega)];omega
theorem xu(c:Nat):Is (c:Int) (8:Int)=((c %8:Nat):Int):=by rw[Is,Anf (by omega)];omega
theorem Amg(c:Nat):Is (c:Int) (2:Int)=((c %2:Nat):Int):=by rw[Is,Anf (by omega)];omega
theorem S2(i c:Nat)(hc:c<256):∀(j k q:Nat),k+j=i %8->j<q->Je (i:Int) q ((c/2^k:Nat):Int) (k:Int)=some (((c/2^(i %8) %2:Nat):Int))
 |0,k,q+1,hk,_=>by
  rw[Je,Sr,xu,Abe (by rw[Af];simp;omega),BB,PH,Amg,show k=i %8 by omega]
 |j+1,k,q+1,hk,hq=>by
  have hle:c/2^k<=c:=Aj5 _ _;rw[Je,Sr,xu,Acz (by rw[Af];simp;omega),Al0 _ (by omega),Ag,Anu,<-Aku];exact S2 i c hc j (k+1) q (by omega) (by omega)
theorem iM(p:List UInt8)(N:Int)(i:Nat)(h:i/8<p.length)(hi:i<4611686018427387904):Ig p N (i:Int)=some ((Jf p i:Nat):Int):=by
 have hc:=(p.getD (i/8) 0).toNat_lt;have:=S2 i (p.getD (i/8) 0).toNat (by simpa using hc) (i %8) 0 Az (by omega) (by have:=As;omega);rw[Ig,AV,Ajw _ hi,pK h,Aa,ML,AT];simpa [Jf]using this
theorem oU(p:List UInt8)(N:Int)(a n:Nat)(ha:a+n<=8*p.length)(hp:p.length<=1000000):∀(j q:Nat),j<=n->j<q->Fx (a:Int) p N q (We p (a+j) (n-j)) ((j:Int)-1)=some (We p a n)
 |0,q+1,_,_=>by
  rw[Fx,Mo,Abe (by rw[Ef];simp)];rfl
 |j+1,q+1,hj,hq=>by
  have hb:=Zt p (a+j);rw[Fx,Mo,show((j+1:Nat):Int)-1=(j:Int) by omega,Acz (by rw[Ef];simp),Ag (a:=(a:Int)) (by omega) (by omega),show(a:Int)+(j:Int)=((a+j:Nat):Int) by omega,iM p N (a+j) (by omega) (by omega),Aa,Bk];have e:Ae (Be (2:UInt64) (We p (a+(j+1)) (n-(j+1)))) (Ad ((Jf p (a+j):Nat):Int):UInt64)=We p (a+j) (n-j):=by
   rw[JH,JA,Ll,We,We,show n-j=(n-(j+1))+1 by omega,Cf,show a+j+1=a+(j+1) by omega,UInt64.ofNat_add,UInt64.ofNat_mul];exact UInt64.add_comm _ _
  rw[e];exact oU p N a n ha hp j q (by omega) (by omega)
theorem dG(p:List UInt8)(N:Int)(a n:Nat)(ha:a+n<=8*p.length)(hp:p.length<=1000000):Mb p N (a:Int) (n:Int)=some (We p a n):=by
 have:=oU p N a n ha hp n Az (Ag9 _) (by have:=As;omega);have hz:We p (a+n) (n-n)=0:=by rw[Nat.sub_self];rfl
 rw[hz]at this;rw[Mb,Uy,Us,Bk];exact this
theorem V9(bit:Int)(N:Nat)(l:List UInt8):∀(j k q:Nat),k+j=N %8->j<q->If bit (N:Int) l q ((2^k:Nat):Int) (k:Int)=Pg bit ((2^(N %8):Nat):Int) (N:Int) l
 |0,k,q+1,hk,_=>by
  rw[If,Pz,xu,Abe (by rw[Af];simp;omega),show k=N %8 by omega]
 |j+1,k,q+1,hk,hq=>by
  have hp:2^k<=2^8:=Agg (by omega) (by omega);have e:Be ((2^k:Nat):Int) 2=((2^(k+1):Nat):Int):=by
   rw[Aku];generalize 2^k=K at*
   rw[Hr];omega
  rw[If,Pz,xu,Acz (by rw[Af];simp;omega),e,Ag];exact V9 bit N l j (k+1) q (by omega) (by omega)
theorem pP(p:List UInt8)(a n j:Nat)(h:j<(n+7)/8):(GM p a n)[j]'(by rw[Nj];exact h)=UInt8.ofNat (Cf p (a+8*j) (min 8 (n-8*j))):=by simp[GM]
theorem E9(p:List UInt8)(a t:Nat)(h:t<=8):Cf p a t<256:=by
 have h1:=Sa p t a;have h2:2^t<=2^8:=Agg (by omega) h;omega
def room(p:List UInt8)(a n:Nat):List UInt8:=if n %8=0 then GM p a n++[0]else GM p a n
theorem Zr(p:List UInt8)(a n:Nat):(room p a n).length=n/8+1:=by
 rw[room];split<;>simp[Nj]<;>omega
theorem E1(p:List UInt8)(a n j:Nat)(h:j<n/8+1):(room p a n)[j]'(by rw[Zr];exact h)=UInt8.ofNat (Cf p (a+8*j) (min 8 (n-8*j))):=by
 have h0:(room p a n)[j]? =some (UInt8.ofNat (Cf p (a+8*j) (min 8 (n-8*j)))):=by
  rw[room];split
  ·by_cases hj:j<(n+7)/8
   ·rw[List.getElem?_append_left (by rw[Nj];exact hj),List.getElem?_eq_getElem (by rw[Nj];exact hj),pP p a n j hj]
   ·rw[List.getElem?_append_right (by rw[Nj];omega),Nj,show j-(n+7)/8=0 by omega,show n-8*j=0 by omega];rfl
  ·rw[List.getElem?_eq_getElem (by rw[Nj];omega),pP p a n j (by omega)]
 rw[List.getElem?_eq_getElem (by rw[Zr];exact h)]at h0;exact Alu h0
theorem D0(p:List UInt8)(a n T:Nat)(h1:1<=T)(h:n %8+T<=8):(room p a n).set (n/8) (UInt8.ofNat (Cf p (a+8*(n/8)) (n %8+T)))=GM p a (n+T):=by
 apply Al6 (by rw[Anj,Zr,Nj];omega);intro j g1 g2;rw[Anj,Zr]at g1;rw[Aok,pP p a (n+T) j (by rw[Nj]at g2;exact g2)];split
 ·rename_i e;subst e;rw[show min 8 (n+T-8*(n/8))=n %8+T by omega]
 ·rw[E1 p a n j g1,show min 8 (n-8*j)=8 by omega,show min 8 (n+T-8*j)=8 by omega]
theorem tC(p:List UInt8)(a n:Nat):(room p a n)[n/8]'(by rw[Zr];omega)=UInt8.ofNat (Cf p (a+8*(n/8)) (n %8)):=by
 rw[E1 p a n _ (by omega),show min 8 (n-8*(n/8))=n %8 by omega]
theorem vo(p:List UInt8)(a n:Nat)(hn:n<=400000):Qn (GM p a n) (n:Int) ((Jf p (a+n):Nat):Int)=some (GM p a (n+1),((n+1:Nat):Int)):=by
 have hb:=Zt p (a+n);have hp:2^(n %8)<=2^7:=Agg (by omega) (by omega);have hroom:Qn (GM p a n) (n:Int) ((Jf p (a+n):Nat):Int)=Pj ((Jf p (a+n):Nat):Int) (n:Int) (room p a n):=by
  rw[Qn,Yz,xu,room];by_cases h0:n %8=0
  ·rw[Acz (by rw[Bf,h0];rfl),Cc (by rw[Nj];simp;omega),Aa,Acz h0]
  ·rw[Abe (by rw[Bf];simp;omega),Abe h0]
 have hl:=V9 ((Jf p (a+n):Nat):Int) n (room p a n) (n %8) 0 Az (by omega) (by have:=As;omega);rw[hroom,Pj,Zk,Yy];refine Anl hl ?_;have hg:Aj (room p a n) ((n/8:Nat):Int)=some (UInt8.ofNat (Cf p (a+8*(n/8)) (n %8))):=by
  rw[Cq (by rw[Zr];omega),tC]
 have hlt:=E9 p (a+8*(n/8)) (n %8+1) (by omega);have hsn:=sR p (a+8*(n/8)) (n %8);rw[show a+8*(n/8)+n %8=a+n by omega]at hsn;have hm:Be ((Jf p (a+n):Nat):Int) ((2^(n %8):Nat):Int)=((2^(n %8)*Jf p (a+n):Nat):Int):=by
  have hle:2^(n %8)*Jf p (a+n)<=2^7*1:=An8 hp (by omega);rw[uo,<-Anh,Bs (by omega) (by rw[Aj3];omega),Aj3]
 have hx:Ae (UInt8.ofNat (Cf p (a+8*(n/8)) (n %8))) (Ad (((2^(n %8)*Jf p (a+n):Nat):Int)):UInt8)=UInt8.ofNat (Cf p (a+8*(n/8)) (n %8+1)):=by
  rw[Af0,Aab,hsn,UInt8.ofNat_add]
 rw[Pg,KS,Ajw _ (by omega),hg,Aa,Aa,Aa,hm,hx,Zg _ (by rw[Zr];omega),Aa,D0 p a n 1 (by omega) (by omega),Ag];rfl
theorem gS(p:List UInt8)(N:Int)(a n:Nat)(ha:a+n<=8*p.length)(hp:p.length<=1000000)(hn:n<=300000):∀(j m q:Nat),m+j=n->j<q->Em ((a+n:Nat):Int) p N q ((a+m:Nat):Int) (m:Int) (GM p a m)=some (GM p a n,(n:Int))
 |0,m,q+1,hm,_=>by
  rw[Em,Kb,Abe (by rw[Af];simp;omega),show m=n by omega];rfl
 |j+1,m,q+1,hm,hq=>by
  rw[Em,Kb,Acz (by rw[Af];simp;omega),iM p N (a+m) (by omega) (by omega),Aa,vo p a m (by omega),Aa];simp only;rw[Ag];exact gS p N a n ha hp hn j (m+1) q (by omega) (by omega)
theorem xT(p:List UInt8)(N:Int)(a n:Nat)(ha:a+n<=8*p.length)(hp:p.length<=1000000)(hn:n<=300000):Xd p N (a:Int) ((a+n:Nat):Int)=some (GM p a n,(n:Int)):=by
 have:=gS p N a n ha hp hn n 0 Az (by omega) (by have:=As;omega);exact this
theorem Ahs{t:Nat}(h:t<=8):Am (Ej (1:UInt64) t) (1:UInt64)=UInt64.ofNat (2^t-1):=by
 have:t=0\/t=1\/t=2\/t=3\/t=4\/t=5\/t=6\/t=7\/t=8:=by omega
 rcases this with rfl|rfl|rfl|rfl|rfl|rfl|rfl|rfl|rfl<;>decide
theorem Amd(v:UInt64){t:Nat}(h:t<=8):(Hk v (Am (Ej (1:UInt64) t) (1:UInt64))).toNat=v.toNat %2^t:=by
 have hp:2^t<=2^8:=Agg (by omega) h;rw[Ahs h,pI,UInt64.toNat_and,Age,Ac8 (by have:=Anp (n:=t) (show 0<2 by omega);omega),Amh]
theorem or8{v w i:Nat}(hv:v<2^i)(hw:w*2^i<256)(hi:i<8):rD (UInt8.ofNat v) (Ej (UInt8.ofNat w) i)=UInt8.ofNat (v+w*2^i):=by
 have hp:2^i<=2^8:=Agg (by omega) (by omega);have hpos:0<2^i:=Anp (by omega);have hw2:w<256:=Amu (Nat.le_mul_of_pos_right w hpos) hw;rw[Ah0];apply UInt8.toNat_inj.1;have e1:(UInt8.ofNat v).toNat=v:=by rw[Aiy,Ac8 (by omega)]
 have e2:(UInt8.ofNat w).toNat=w:=by rw[Aiy,Ac8 (by omega)]
 rw[UInt8.toNat_or,Aev,e1,e2,Ac8 hw,Aj3 w,Nat.or_comm,<-Alv hv,Aiy,Aor v];rw[Aj3]at hw;have hb:2^i*w+v<256:=by
  rw[Alv hv];exact Nat.or_lt_two_pow (n:=8) hw (by omega)
 rw[Ac8 hb]
theorem Aa2(p:List UInt8)(a n T:Nat)(h:T<=n)(hn:n<=64):Cr (We p a n) T=We p (a+T) (n-T):=by
 apply UInt64.toNat_inj.1;rw[JR,FA p a n hn,FA p (a+T) (n-T) (by omega)];have:=Sa p T a
 conv=>lhs;rw[show n=T+(n-T) by omega,OD,Nat.add_mul_div_left _ _ (Anp (by omega)),Ane this,Amp]
theorem Ab0(p:List UInt8)(a n T:Nat)(h:T<=n)(hn:n<=64):(We p a n).toNat %2^T=Cf p a T:=by
 have:=Sa p T a;rw[FA p a n hn]
 conv=>lhs;rw[show n=T+(n-T) by omega,OD,Nat.add_mul_mod_self_left,Ac8 this]
theorem pC(bk:Int->Int->List UInt8->Option (List UInt8×Int×Int))(to':Int)(p:List UInt8)(N fr:Int)(r6:UInt64)(a:Nat):∀(j m q:Nat),m+j<=300000->j<=64->j<q->
  Nu bk to' p N fr r6 q (We p (a+m) j) (j:Int) (m:Int) (GM p a m)=LN bk to' p N fr ((m+j:Nat):Int) (GM p a (m+j))
 |0,m,q+1,_,_,_=>by
  rw[Nu,MA,Abe (by rw[Ap];simp)];rfl
 |j+1,m,q+1,hm,hj,hq=>by
  have hroom:Nu bk to' p N fr r6 (q+1) (We p (a+m) (j+1)) ((j+1:Nat):Int) (m:Int) (GM p a m)=MB (Nu bk to' p N fr r6 q) to' fr p N r6 (We p (a+m) (j+1)) ((j+1:Nat):Int) (m:Int) (room p a m):=by
   rw[Nu,MA,Acz (by rw[Ap];simp),zP m (by omega),room];by_cases h0:m %8=0
   ·rw[Acz (by rw[Bf,h0];rfl),Cc (by rw[Nj];simp;omega),Aa,Acz h0]
   ·rw[Abe (by rw[Bf];simp;omega),Abe h0]
  have hl:Am (Ac (room p a m)) 1=((m/8:Nat):Int):=by
   rw[Ac,Zr,Bk];omega
  have e2:Gv ((j+1:Nat):Int) (Am (8:Int) ((m %8:Nat):Int))=((min (j+1) (8-m %8):Nat):Int):=by
   rw[KC,Bk];omega
  rw[hroom,MB,WJ,zP m (by omega),e2,hl];generalize hT:min (j+1) (8-m %8)=T;have hT1:1<=T:=by omega
  have hT8:m %8+T<=8:=by omega
  have hg:Aj (room p a m) ((m/8:Nat):Int)=some (UInt8.ofNat (Cf p (a+8*(m/8)) (m %8))):=by
   rw[Cq (by rw[Zr];omega),tC]
  have z1:(GI.toZ ((m %8:Nat):Int)).toNat=m %8:=rfl;have z2:(GI.toZ ((T:Nat):Int)).toNat=T:=rfl;have hlt:=E9 p (a+8*(m/8)) (m %8+T) (by omega);have hadd:=OD p (m %8) T (a+8*(m/8));rw[show a+8*(m/8)+m %8=a+m by omega]at hadd;have hbyte:(Ad (Hk (We p (a+m) (j+1)) (Am (Ej (1:UInt64) T) (1:UInt64))):UInt8)=UInt8.ofNat (Cf p (a+m) T):=by
   rw[VN,Amd _ (by omega),Ab0 p (a+m) (j+1) T (by omega) hj]
  have hnew:rD (UInt8.ofNat (Cf p (a+8*(m/8)) (m %8))) (Ej (UInt8.ofNat (Cf p (a+m) T)) (m %8))=UInt8.ofNat (Cf p (a+8*(m/8)) (m %8+T)):=by
   rw[or8 (Sa _ _ _) (by rw[Aj3];omega) (by omega),hadd,Aj3 (2^(m %8))]
  rw[hg,z1,z2,hbyte];simp only[Aa];rw[Bw (by rw[Ef];simp),Aa,Bw (by rw[Ef];simp;omega),Aa,hnew,Zg _ (by rw[Zr];omega),Aa,D0 p a m T hT1 hT8,VL,fW,zP m (by omega),e2,hT,Bw (by rw[Ef];simp),Aa,z2,Aa2 p (a+m) (j+1) T (by omega) hj,Bk,Ag];have ih:=pC bk to' p N fr r6 a (j+1-T) (m+T) q (by omega) (by omega) (by omega);rw[show m+T+(j+1-T)=m+(j+1) by omega]at ih;rw[<-ih,show a+m+T=a+(m+T) by omega,show((j+1:Nat):Int)-((T:Nat):Int)=((j+1-T:Nat):Int) by omega,show(m:Int)+((T:Nat):Int)=((m+T:Nat):Int) by omega]
theorem zE(p:List UInt8)(N:Int)(a n:Nat)(ha:a+n<=8*p.length)(hp:p.length<=1000000)(hn:n<=300000):∀(j m f q:Nat),(f=m\/n<=f/\m=n)->m+j=n->f<=n+64->j<q->Yb ((a+n:Nat):Int) p N q ((a+f:Nat):Int) (m:Int) (GM p a m)=some (GM p a n,(n:Int),0)
 |j,m,f,q+1,hf,hm,hf2,hq=>by
  rw[Yb,VM];by_cases hlt:f<n
  ·obtain rfl:f=m:=by omega
   have e1:Gv (64:Int) (Am ((a+n:Nat):Int) ((a+f:Nat):Int))=((min 64 (n-f):Nat):Int):=by
    rw[KC,Bk];omega
   rw[Acz (by rw[Af];simp;omega),e1,get_eq p N (a+f) _ (by omega) (by omega) hp,Aa,VR];have h1:=pC (Yb ((a+n:Nat):Int) p N q) ((a+n:Nat):Int) p N ((a+f:Nat):Int) (We p (a+f) (min 64 (n-f))) a (min 64 (n-f)) f Az (by omega) (by omega) (by have:=As;omega);refine Anl h1 ?_;rw[LN,fU,Ag,show((a+f:Nat):Int)+64=((a+(f+64):Nat):Int) by omega];exact zE p N a n ha hp hn (j-min 64 (n-f)) (f+min 64 (n-f)) (f+64) q (by omega) (by omega) (by omega) (by omega)
  ·rw[Abe (by rw[Af];simp;omega),UH,gR,show m=n by omega]
theorem Ah2{p:List UInt8}{N:Nat}(h:okB p N)(a n:Nat)(ha:a+n<=N)(hn:n<=300000):ZP p (N:Int) (a:Int) ((a+n:Nat):Int)=some (GM p a n,(n:Int),0):=by
 obtain⟨h1,h2,h3⟩:=h;have:=zE p N a n (by omega) (by omega) hn n 0 0 Az (by omega) (by omega) (by omega) (by have:=As;omega);rw[ZP,ZY,MO ⟨h1,h2,h3⟩,Aa,Abe (by rw[Ah];simp),Abe (by simp[Af,Ap];omega),TX];exact this
def Fu(p:List UInt8):Nat->Nat->Nat
 |_,0=>0
 |a,m+1=>if Jf p a=1 then 1+Fu p (a+1) m else 0
theorem QH(p:List UInt8):∀(m a:Nat),Fu p a m<=m
 |0,_=>Ag9 _
 |m+1,a=>by rw[Fu];split<;>have:=QH p m (a+1)<;>omega
theorem zS(p:List UInt8):∀(m a:Nat),∃s,Cf p a m+1=2^(Fu p a m+1)*s+2^Fu p a m/\ (Fu p a m=m->s=0)
 |0,a=>⟨0,by simp[Cf,Fu],λ_=>rfl⟩
 |m+1,a=>by
  have hb:=Zt p a;obtain⟨s,h1,h2⟩:=zS p m (a+1);by_cases h:Jf p a=1
  ·refine⟨s,?_,λe=>h2 ?_⟩
   ·rw[Fu,Acz h,Cf,h,show 1+Fu p (a+1) m+1=(Fu p (a+1) m+1)+1 by omega,show 1+Fu p (a+1) m=Fu p (a+1) m+1 by omega,Aku,Aku (n:=2) (m:=Fu p (a+1) m)];rw[Aku]at h1;generalize Cf p (a+1) m=V at*
    generalize 2^Fu p (a+1) m=W at*
    have e1:W*2*2*s=2*(W*2*s):=by rw[Nat.mul_right_comm (W*2) 2 s,Aj3]
    omega
   ·rw[Fu,Acz h]at e;omega
  ·refine⟨Cf p (a+1) m,?_,λe=>?_⟩
   ·rw[Fu,Abe h,Cf];simp;omega
   ·rw[Fu,Abe h]at e;omega
theorem Afw{n t s:Nat}(h:2^(t+1)*s+2^t<=2^n)(ht:t<n)(x:Nat)(hx:x=2^n-(2^(t+1)*s+2^t)):x&&& (2^(t+1)*s+2^t)=2^t:=by
 have hpos:0<2^t:=Anp (by omega);have hlt:2^t<2^(t+1):=by rw[Aku];omega
 have e:x=2^n-((2^(t+1)*s+(2^t-1))+1):=by rw[hx];congr 1;omega
 apply Nat.eq_of_testBit_eq;intro i;rw[Nat.testBit_and,e,Nat.testBit_two_pow_sub_succ (by omega),Nat.testBit_two_pow_mul_add _ (by omega),Nat.testBit_two_pow_mul_add _ hlt];by_cases hi:i<t+1
 ·rw[Acz hi,Acz hi,Nat.testBit_two_pow_sub_one,Nat.testBit_two_pow];by_cases hit:t=i
  ·subst hit;simp;exact ht
  ·have:¬i=t:=λe=>hit e.symm;simp[hit]
 ·rw[Abe hi,Abe hi,Nat.testBit_two_pow];have:¬t=i:=by omega
  simp[this]
theorem Abx(a:UInt64):(pN a).toNat=18446744073709551615-a.toNat:=by
 have h:=a.toNat_lt;have e:pN a=UInt64.ofNat (BitVec.ofInt 64 18446744073709551615^^^BitVec.ofInt 64 (a.toNat:Int)).toNat:=Fs _;have h1:BitVec.ofInt 64 (a.toNat:Int)=a.toBitVec:=wG a;have h2:(BitVec.ofInt 64 18446744073709551615:BitVec 64)=BitVec.allOnes 64:=by decide
 rw[e,Age,h1,h2,BitVec.allOnes_xor,BitVec.toNat_not];show(18446744073709551616-1-a.toNat) %18446744073709551616=18446744073709551615-a.toNat;omega
theorem Aax(a:UInt64):(fH a).toNat=(18446744073709551616-a.toNat) %18446744073709551616:=by
 have h:=a.toNat_lt;have e:fH a=UInt64.ofNat ((0-(a.toNat:Int)) %18446744073709551616).toNat:=vJ _;rw[e,Age];show((0-(a.toNat:Int)) %18446744073709551616).toNat %18446744073709551616=_;omega
def Akw:List UInt8:=[0,1,56,2,57,49,28,3,61,58,42,50,38,29,17,4,62,47,59,36,45,43,51,22,53,39,33,30,24,18,12,5,63,55,48,27,60,41,37,16,46,35,44,21,52,32,23,11,54,26,40,15,34,20,31,10,25,14,19,9,13,8,7,6]
theorem Z1:∀t:Fin 64,Aj Akw (GI.toZ (Cr (Be (UInt64.ofNat (2^t.val)) (285870213051353865:UInt64)) (GI.toZ (58:UInt64)).toNat))=some (UInt8.ofNat t.val):=by decide +kernel
theorem Ake(x:UInt64)(t s:Nat)(ht:t<64)(h:x.toNat+(2^(t+1)*s+2^t)=18446744073709551616):Fh x=some (t:Int):=by
 have hpos:0<2^t:=Anp (by omega);have hx:x.toNat=2^64-(2^(t+1)*s+2^t):=by show x.toNat=18446744073709551616-_;omega
 have hle:2^t<=2^63:=Agg (by omega) (by omega);have hne:x≠0:=by
  intro e;rw[e]at h;have h':2^t*(2*s+1)=2^64:=by
   rw[Nat.mul_add,Nat.mul_one,<-Anz,<-Aku]
   show _=18446744073709551616;simpa using h
  have h2:2^64=2^t*2^(64-t):=by rw[<-Aog];congr 1;omega
  rw[h2]at h';have h3:=Nat.eq_of_mul_eq_mul_left hpos h';rw[show 64-t=(63-t)+1 by omega,Aku]at h3;omega
 have hx0:x.toNat≠0:=λe=>hne (UInt64.toNat_inj.1 e);have hl:Hk x (fH x)=UInt64.ofNat (2^t):=by
  apply UInt64.toNat_inj.1;rw[pI,UInt64.toNat_and,Aax,show(18446744073709551616-x.toNat) %18446744073709551616=2^(t+1)*s+2^t by omega,Afw (n:=64) (by show _<=18446744073709551616;omega) ht _ hx,Age,Ac8];exact Amu hle (by decide)
 have hb:=Z1 ⟨t,ht⟩;rw[Fh,Abe (by rw[lU];simpa using hne),hl];refine Anl (congrArg (λo=>Option.bind o λc=>some (Ad c:Int)) hb) ?_;rw[Aa,ML,Aiy,Ac8 (by show t<256;omega)]
theorem Af6(p:List UInt8)(a m:Nat)(hm:m<=48):Fh (pN (We p a m))=some ((Fu p a m:Nat):Int):=by
 obtain⟨s,h1,h2⟩:=zS p m a;have hle:=QH p m a;have hlt:=Sa p m a;have h48:2^m<=2^48:=Agg (by omega) hm;have hn:(pN (We p a m)).toNat=18446744073709551615-Cf p a m:=by rw[Abx,FA p a m (by omega)]
 have h3:(281474976710656:Nat)=2^48:=rfl;refine Ake _ (Fu p a m) s (by omega) ?_;rw[hn];omega
def yG(p:List UInt8)(N a:Nat):Int×Int×Int:=
 if Fu p a (min 48 (N-a))<min 48 (N-a)then((Fu p a (min 48 (N-a)):Nat),((a+Fu p a (min 48 (N-a))+1:Nat):Int),0)else
 if Fu p a (min 48 (N-a))=48 then(48,((a+48:Nat):Int),0)else(0,0,24)
theorem Abn{p:List UInt8}{N:Nat}(h:okB p N)(a:Nat)(ha:a<N):HD p (N:Int) (a:Int)=some (yG p N a):=by
 have hN:=h.1;have e1:Gv (48:Int) (Am (N:Int) (a:Int))=((min 48 (N-a):Nat):Int):=by rw[KC,Bk];omega
 have hle:=QH p (min 48 (N-a)) a;rw[HD,Zw,MO h,Aa,Abe (by rw[Ah];simp),Abe (by rw[Af];simp),Abe (by rw[Ef];simp;omega),e1,jS h a _ (by omega),Abe (by omega),Aa];simp only;rw[RF,RQ,Abe (by rw[Ah];simp),Af6 p a _ (by omega),Aa,RU,RK,e1,yG];by_cases h1:Fu p a (min 48 (N-a))<min 48 (N-a)
 ·rw[Acz (by rw[Af];simp;omega),Acz h1,Ag (a:=(a:Int)) (by omega) (by omega),show Ae (0:Int) 1=1 by decide,Ag];congr 3;omega
 ·rw[Abe (by rw[Af];simp;omega),Abe h1,RO,RH];by_cases h2:Fu p a (min 48 (N-a))=48
  ·rw[Acz (by rw[Bf,h2];rfl),Acz h2,h2,Ag (a:=(a:Int)) (by omega) (by omega),Ag];congr 3;omega
  ·rw[Abe (by rw[Bf];simp;omega),Abe h2];rfl
theorem tS(p:List UInt8):∀(m a:Nat),Fu p a m<m->Jf p (a+Fu p a m)≠1
 |0,_,h=>by simp[Fu]at h
 |m+1,a,h=>by
  by_cases hb:Jf p a=1
  ·rw[Fu,Acz hb]at h⊢;have:=tS p m (a+1) (by omega);rwa [show a+(1+Fu p (a+1) m)=a+1+Fu p (a+1) m by omega]
  ·rw[Fu,Abe hb];exact hb
theorem sW(p:List UInt8):∀(m a k:Nat),k<Fu p a m->Jf p (a+k)=1
 |0,a,k,h=>by simp[Fu]at h
 |m+1,a,k,h=>by
  by_cases hb:Jf p a=1
  ·rw[Fu,Acz hb]at h;cases k with
   |zero=>exact hb
   |succ k=>
    have:=sW p m (a+1) k (by omega);rwa [show a+(k+1)=a+1+k by omega]
  ·rw[Fu,Abe hb]at h;omega
def unR(p:List UInt8)(N a:Nat):Int×Int:=if(yG p N a).2.2=0 then((yG p N a).1,(yG p N a).2.1)else(-1,0)
theorem qA{p:List UInt8}{N:Nat}(h:okB p N)(a:Nat)(ha:a<N):∀(j k q:Nat),k+j=Fu p a (min 48 (N-a))->j<q->Hy (a:Int) p (N:Int) q (k:Int)=some (unR p N a)
 |0,k,q+1,hk,_=>by
  obtain⟨hN,hl,hz⟩:=h;have hle:=QH p (min 48 (N-a)) a;have hk':k=Fu p a (min 48 (N-a)):=by omega
  have e1:Ae (a:Int) (k:Int)=((a+k:Nat):Int):=by rw[Ag];omega
  have hend:Py (a:Int) (k:Int) p (N:Int)=some (unR p N a):=by
   rw[Py,LC,e1];by_cases h48:k=48
   ·have hu:yG p N a=(48,((a+48:Nat):Int),0):=by rw[yG,<-hk',Abe (by omega),Acz h48]
    rw[Acz (by rw[Bf,h48];rfl),unR,hu,h48];rfl
   ·rw[Abe (by rw[Bf];simp;omega)];by_cases hN2:N<=a+k
    ·have hu:yG p N a=(0,0,24):=by rw[yG,<-hk',Abe (by omega),Abe h48]
     rw[Acz (by rw[Ef];simp;omega),unR,hu];rfl
    ·have hu:yG p N a=(((k:Nat):Int),((a+k+1:Nat):Int),0):=by rw[yG,<-hk',Acz (by omega)]
     rw[Abe (by rw[Ef];simp;omega),unR,hu,Ag];rfl
  rw[Hy,Pu,e1];by_cases hc:a+k<N/\k<48
  ·have hb:=Zt p (a+k);have hs:=tS p (min 48 (N-a)) a (by omega);rw[<-hk']at hs;rw[Acz (by simp[Af];omega),iM p _ (a+k) (by omega) (by omega),Aa,Abe (by rw[Bf];simp;omega),hend]
  ·rw[Abe (by simp[Af];omega),hend]
 |j+1,k,q+1,hk,hq=>by
  obtain⟨hN,hl,hz⟩:=h;have hle:=QH p (min 48 (N-a)) a;have hb:=sW p (min 48 (N-a)) a k (by omega);have e1:Ae (a:Int) (k:Int)=((a+k:Nat):Int):=by rw[Ag];omega
  rw[Hy,Pu,e1,Acz (by simp[Af];omega),iM p _ (a+k) (by omega) (by omega),Aa,hb,Acz (by decide),Ag];exact qA ⟨hN,hl,hz⟩ a ha j (k+1) q (by omega) (by omega)
theorem zw{p:List UInt8}{N:Nat}(h:okB p N)(a:Nat)(ha:a<N):GU p (N:Int) (a:Int)=some (unR p N a):=by
 have hle:=QH p (min 48 (N-a)) a;have:=qA h a ha (Fu p a (min 48 (N-a))) 0 Az (by omega) (by have:=As;omega);exact this
theorem Aak{p:List UInt8}{N a:Nat}(h:Fu p a (min 48 (N-a))<min 48 (N-a)):yG p N a=(((Fu p a (min 48 (N-a)):Nat):Int),((a+Fu p a (min 48 (N-a))+1:Nat):Int),0):=by rw[yG,Acz h]
theorem Abp{p:List UInt8}{N a:Nat}(h:¬Fu p a (min 48 (N-a))<min 48 (N-a))(h2:Fu p a (min 48 (N-a))=48):yG p N a=(48,((a+48:Nat):Int),0):=by rw[yG,Abe h,Acz h2]
theorem yu{p:List UInt8}{N a:Nat}(h:¬Fu p a (min 48 (N-a))<min 48 (N-a))(h2:¬Fu p a (min 48 (N-a))=48):yG p N a=(0,0,24):=by rw[yG,Abe h,Abe h2]
theorem dx{p:List UInt8}{N:Nat}(h:okB p N)(a:Nat)(ha:N<=a):HD p (N:Int) (a:Int)=some (0,0,24):=by
 rw[HD,Zw,MO h,Aa,Abe (by rw[Ah];simp),Abe (by rw[Af];simp),Acz (by rw[Ef];simp;omega)]
def SF(p:List UInt8)(N a k:Nat):UInt32×Int×Int:=
 if N<=a then(0,0,24)else
 if Fu p a (min 48 (N-a))<min 48 (N-a)then
  (if N<a+Fu p a (min 48 (N-a))+1+k then(0,0,24)else(UInt32.ofNat (Fu p a (min 48 (N-a))*2^k+Cf p (a+Fu p a (min 48 (N-a))+1) k),((a+Fu p a (min 48 (N-a))+1+k:Nat):Int),0))
 else if Fu p a (min 48 (N-a))=48 then
  (if N<a+48+32 then(0,0,24)else if Cf p (a+48) 32/2^k<48 then(0,0,12)else(UInt32.ofNat (Cf p (a+48) 32),((a+48+32:Nat):Int),0))
 else(0,0,24)
theorem fR{p:List UInt8}{a n:Nat}(h:n<=32):(Ad (We p a n):UInt32)=UInt32.ofNat (Cf p a n):=by
 have e:(Ad (We p a n):UInt32)=UInt32.ofNat (We p a n).toNat:=by simp only[Ad,Im,Dy]
 rw[e,FA p a n (by omega)]
theorem UJ{n:Nat}(h:n<4294967296):(UInt32.ofNat n).toNat=n:=by rw[Ahh];exact Ac8 h
theorem zO(p:List UInt8)(a:Nat){n:Nat}(h:n<=32):Cf p a n<4294967296:=by
 have h1:=Sa p n a;have h2:2^n<=2^32:=Agg (by omega) h;omega
theorem Aix{q v k:Nat}(hq:q<48)(hv:v<2^k)(hk:k<=24):rD (Ej (Ad (q:Int):UInt32) k) (UInt32.ofNat v)=UInt32.ofNat (q*2^k+v):=by
 have hp:2^k<=2^24:=Agg (by omega) hk;have h1:q*2^k<=47*2^24:=An8 (by omega) hp;rw[Aeu];apply UInt32.toNat_inj.1;rw[UInt32.toNat_or,mJ,uA,UJ (by omega),UJ (n:=v) (by omega),Ac8 (by omega),Aj3 q,<-Alv hv,UJ (by rw[Aj3];omega)]
theorem Aeq{p:List UInt8}{N:Nat}(h:okB p N)(a k:Nat)(hk:k<=24):bO p (N:Int) (a:Int) (k:Int)=some (SF p N a k):=by
 have hN:=h.1;rw[bO,VG,MO h,Aa,Abe (by rw[Ah];simp),Abe (by simp[Af,Ap];omega)];by_cases ha:N<=a
 ·rw[dx h a ha,Aa,SF,Acz ha];rfl
 have hle:=QH p (min 48 (N-a)) a;rw[Abn h a (by omega),Aa];by_cases h1:Fu p a (min 48 (N-a))<min 48 (N-a)
 ·have hS:SF p N a k=if N<a+Fu p a (min 48 (N-a))+1+k then(0,0,24)else(UInt32.ofNat (Fu p a (min 48 (N-a))*2^k+Cf p (a+Fu p a (min 48 (N-a))+1) k),((a+Fu p a (min 48 (N-a))+1+k:Nat):Int),0):=by rw[SF,Abe ha,Acz h1]
  rw[Aak h1,hS];generalize Fu p a (min 48 (N-a))=q at*
  simp only;rw[Abe (by rw[Ah];simp),Abe (by rw[Bf];simp;omega),MH,UX,jS h _ k (by omega),Aa];by_cases h2:N<a+q+1+k
  ·rw[Acz h2,Acz h2];rfl
  ·rw[Abe h2,Abe h2];simp only;have z:(GI.toZ (k:Int)).toNat=k:=rfl;rw[Abe (by rw[Ah];simp),Acz (by rw[Af];simp;omega),Bw (by rw[Ef];simp),Aa,z,fR (by omega),Aix (by omega) (Sa _ _ _) hk,Ag];rfl
 ·by_cases h2:Fu p a (min 48 (N-a))=48
  ·have hS:SF p N a k=if N<a+48+32 then(0,0,24)else if Cf p (a+48) 32/2^k<48 then(0,0,12)else(UInt32.ofNat (Cf p (a+48) 32),((a+48+32:Nat):Int),0):=by rw[SF,Abe ha,Abe h1,Acz h2]
   have hg:=jS h (a+48) 32 (by omega);rw[Abp h1 h2,hS];simp only;rw[Abe (by rw[Ah];simp),Acz (by rw[Bf];rfl),MH,UX];refine Anl (congrArg (λo=>Option.bind o _) hg) ?_;rw[Aa];by_cases h3:N<a+48+32
   ·rw[Acz h3,Acz h3];rfl
   ·rw[Abe h3,Abe h3];simp only;have z:(GI.toZ (k:Int)).toNat=k:=rfl;have hv:=zO p (a+48) (n:=32) (by omega);rw[Abe (by rw[Ah];simp),Abe (by rw[Af];simp),WA,Bw (by rw[Ef];simp),Aa,Aa,z,fR (by omega),Aed];have e:(decide ((48:UInt32).toNat<= (Cr (UInt32.ofNat (Cf p (a+48) 32)) k).toNat))=decide (¬Cf p (a+48) 32/2^k<48):=by
     rw[SL,UJ hv];simp
    rw[e];by_cases h4:Cf p (a+48) 32/2^k<48
    ·rw[Acz (by simp[h4]),Acz h4]
    ·rw[Abe (by simp;omega),Abe h4,Ag];rfl
  ·rw[yu h1 h2,SF,Abe ha,Abe h1,Abe h2];rfl
theorem oZ(k:Nat)(hk:k<=63):∀(j i q:Nat),i+j=k->j<q->Fw (k:Int) q (UInt64.ofNat (2^i)) (i:Int)=some (UInt64.ofNat (2^k))
 |0,i,q+1,hi,_=>by
  rw[Fw,Mr,Abe (by rw[Af];simp;omega),show i=k by omega];rfl
 |j+1,i,q+1,hi,hq=>by
  have e:Be (UInt64.ofNat (2^i)) (2:UInt64)=UInt64.ofNat (2^(i+1)):=by
   rw[JA,Aku,UInt64.ofNat_mul];rfl
  rw[Fw,Mr,Acz (by rw[Af];simp;omega),Ag,e];exact oZ k hk j (i+1) q (by omega) (by omega)
theorem JD(k:Nat)(hk:k<=63):Dp (k:Int)=some (UInt64.ofNat (2^k)):=
 oZ k hk k 0 Az (by omega) (by have:=As;omega)
theorem QF{k:Nat}(hk:k<=63):(UInt64.ofNat (2^k)).toNat=2^k:=by
 have hp:2^k<=2^63:=Agg (by omega) hk;rw[Age,Ac8 (by omega)]
theorem Ad8(v:UInt32)(k:Nat)(hk:k<=24):Vk v (k:Int)=some ((min 48 (v.toNat/2^k):Nat):Int):=by
 have hpos:0<2^k:=Anp (by omega);have hv:=v.toNat_lt;rw[Vk,JD k (by omega),Aa,Bw (by rw[LW];simp only[Aos,ne_eq,<-An4,QF (show k<=63 by omega)];simp),Aa];have e:(Cg (Ad v:UInt64) (UInt64.ofNat (2^k))).toNat=v.toNat/2^k:=by
  rw[gQ,Aoj,Ih,QF (by omega),Age,Ac8 (by omega)]
 have hle:v.toNat/2^k<=v.toNat:=Aj5 _ _;have e2:Gv (48:UInt64) (Cg (Ad v:UInt64) (UInt64.ofNat (2^k)))=UInt64.ofNat (min 48 (v.toNat/2^k)):=by
  apply UInt64.toNat_inj.1;rw[Age,Ac8 (by omega)];show(if _ then _ else _:UInt64).toNat=_;rw[show(GI.toZ (Cg (Ad v:UInt64) (UInt64.ofNat (2^k))))=((v.toNat/2^k:Nat):Int) by rw[Im,e],show GI.toZ (48:UInt64)=48 from rfl];split
  ·rw[e];omega
  ·show 48=_;omega
 rw[e2,jQ (by rw[Age,Ac8]<;>omega),Age,Ac8 (by omega)]
theorem zn{p:List UInt8}{N:Nat}(h:okB p N)(a k:Nat)(hk:k<=24):Yh p (N:Int) (a:Int) (k:Int)=some (SF p N a k):=by
 obtain⟨hN,hl,hz⟩:=h;have h:okB p N:=⟨hN,hl,hz⟩;rw[Yh,Yv];by_cases ha:N<=a
 ·rw[Acz (by rw[Ef];simp;omega),SF,Acz ha]
 have hle:=QH p (min 48 (N-a)) a;rw[Abe (by rw[Ef];simp;omega),zw h a (by omega),Aa,unR];by_cases h1:Fu p a (min 48 (N-a))<min 48 (N-a)
 ·have hS:SF p N a k=if N<a+Fu p a (min 48 (N-a))+1+k then(0,0,24)else(UInt32.ofNat (Fu p a (min 48 (N-a))*2^k+Cf p (a+Fu p a (min 48 (N-a))+1) k),((a+Fu p a (min 48 (N-a))+1+k:Nat):Int),0):=by rw[SF,Abe ha,Acz h1]
  rw[Aak h1,hS];generalize Fu p a (min 48 (N-a))=q at*
  rw[Acz rfl];simp only;rw[Abe (by rw[Bf];simp;omega),Pw,Zc,Bk];by_cases h2:N<a+q+1+k
  ·rw[Acz (by simp[Af];omega),Acz h2]
  ·have hp:2^k<=2^24:=Agg (by omega) hk;have hm:q*2^k<=47*2^24:=An8 (by omega) hp;have hv:=Sa p k (a+q+1);have e:(Ad (Ae (Be (Ad (q:Int):UInt64) (UInt64.ofNat (2^k))) (We p (a+q+1) k)):UInt32)=UInt32.ofNat (q*2^k+Cf p (a+q+1) k):=by
    have e1:Ae (Be (Ad (q:Int):UInt64) (UInt64.ofNat (2^k))) (We p (a+q+1) k)=UInt64.ofNat (q*2^k+Cf p (a+q+1) k):=by
     rw[JH,JA,Ll,We,UInt64.ofNat_add,UInt64.ofNat_mul]
    rw[e1];have e2:∀x:UInt64,(Ad x:UInt32)=UInt32.ofNat x.toNat:=λx=>by simp only[Ad,Im,Dy]
    rw[e2,Age,Ac8 (by omega)]
   rw[Abe (by simp[Af];omega),Abe h2,dG p _ _ k (by omega) (by omega),Aa,Acz (by rw[Af];simp;omega),JD k (by omega),Aa,e,Ag];rfl
 ·by_cases h2:Fu p a (min 48 (N-a))=48
  ·have hS:SF p N a k=if N<a+48+32 then(0,0,24)else if Cf p (a+48) 32/2^k<48 then(0,0,12)else(UInt32.ofNat (Cf p (a+48) 32),((a+48+32:Nat):Int),0):=by rw[SF,Abe ha,Abe h1,Acz h2]
   rw[Abp h1 h2,hS,Acz rfl];simp only;rw[Acz (by rw[Bf];rfl),Pw,Zc,Bk];by_cases h3:N<a+48+32
   ·rw[Acz (by simp[Af];omega),Acz h3]
   ·have hg:=dG p (N:Int) (a+48) 32 (by omega) (by omega);have hv:=zO p (a+48) (n:=32) (by omega);rw[Abe (by simp[Af];omega),Abe h3];refine Anl (congrArg (λo=>Option.bind o _) hg) ?_;rw[Aa,Abe (by rw[Af];simp),fR (by omega),Ad8 _ k hk,Aa,UJ hv];by_cases h4:Cf p (a+48) 32/2^k<48
    ·rw[Acz (by rw[Af];simp;omega),Acz h4]
    ·rw[Abe (by rw[Af];simp;omega),Abe h4,Ag];rfl
  ·rw[yu h1 h2,SF,Abe ha,Abe h1,Abe h2];have e:(if((0:Int),(0:Int),(24:Int)).2.2=0 then(((0:Int),(0:Int),(24:Int)).1,((0:Int),(0:Int),(24:Int)).2.1)else((-1:Int),(0:Int)))=(-1,0):=by decide
   rw[e];rfl
theorem Ahx{p:List UInt8}{N a k:Nat}{v:UInt32}{n:Int}(h:SF p N a k=(v,n,0)):(a:Int)<n/\n<=N:=by
 unfold SF at h;split at h
 ·simp at h
 split at h
 ·split at h
  ·simp at h
  ·simp only[Aly]at h;omega
 ·split at h
  ·split at h
   ·simp at h
   ·split at h
    ·simp at h
    ·simp only[Aly]at h;omega
  ·simp at h
def okD(k l:Nat)(s t:UInt64):Prop:=k<=24/\l<=24/\s.toNat<=68719476735/\t.toNat<=68719476735
theorem zR(a b:UInt64)(h:a.toNat<=b.toNat):Gv a b=a:=by
 show(if _ then _ else _)=_;rw[Im,Im,Abe (by omega)]
theorem fE(a:UInt64):geq a a=true:=by rw[lU];simp
theorem Aho{k l:Nat}{s t:UInt64}(h:okD k l s t):VQ (k:Int) (l:Int) s t=some 0:=by
 obtain⟨h1,h2,h3,h4⟩:=h;have e1:Gv (cD (k:Int) 0) 24=(k:Int):=by rw[KC,wM];omega
 have e2:Gv (cD (l:Int) 0) 24=(l:Int):=by rw[KC,wM];omega
 have e3:Gv s (68719476735:UInt64)=s:=zR _ _ (by simpa using h3);have e4:Gv t (68719476735:UInt64)=t:=zR _ _ (by simpa using h4);have e5:∀a:Int,geq a a=true:=λa=>by rw[Bf];simp
 rw[VQ,HY,SA,HT,QY,cM,e1,e2,e3,e4,e5,e5,fE,fE];rfl
def FE(s n:UInt64):UInt64:=s+n-s/16
def kS(k:Nat)(s:UInt64):Nat:=if 0<k/\s.toNat<2^(k+4)then k-1 else if k<24/\2^(k+5)<s.toNat then k+1 else k
theorem Ag5{k:Nat}(h:k<=24)(s:UInt64):kS k s<=24:=by
 unfold kS;by_cases h1:0<k/\s.toNat<2^(k+4)
 ·rw[Acz h1];omega
 ·rw[Abe h1];split<;>omega
theorem Q8{k:Nat}{s:UInt64}(h:¬(0<k/\s.toNat<2^(k+4))):(if k<24/\2^(k+5)<s.toNat then((k+1:Nat):Int)else(k:Int))=((kS k s:Nat):Int):=by
 rw[kS,Abe h];split<;>rfl
theorem Q9{s n:UInt64}(h:s.toNat<=68719476735)(hn:n.toNat<=4294967295):(FE s n).toNat<=68719476735:=by
 have h1:=s.toNat_lt;have e:(s+n).toNat=s.toNat+n.toNat:=by rw[UInt64.toNat_add];omega
 have e2:(s/16).toNat=s.toNat/16:=by rw[Aoj];rfl
 rw[FE,UInt64.toNat_sub_of_le _ _ (by rw[UInt64.le_iff_toNat_le,e,e2];omega),e,e2];omega
theorem mL(s n:UInt64):Ae s (Am n (Cr s (GI.toZ (4:UInt64)).toNat))=FE s n:=by
 have e:Cr s (GI.toZ (4:UInt64)).toNat=s/16:=by
  apply UInt64.toNat_inj.1;rw[JR,Aoj];rfl
 rw[e,JH,qK,FE,UInt64.sub_eq_add_neg,UInt64.sub_eq_add_neg,UInt64.add_assoc]
theorem R9(s n:UInt64):Am (Ae s n) (Cg s (16:UInt64))=FE s n:=by rw[JH,qK,gQ,FE]
theorem Ajy{k:Nat}(h:k<=24):(Ej (16:UInt64) k).toNat=2^(k+4):=by
 have hp:2^k<=2^24:=Agg (by omega) h;rw[TU,Aog]
 show 16*2^k %_=2^k*16;rw[Ac8 (by omega),Aj3]
theorem Ai3{k:Nat}(h:k<=24):(Ej (32:UInt64) k).toNat=2^(k+5):=by
 have hp:2^k<=2^24:=Agg (by omega) h;rw[TU,Aog]
 show 32*2^k %_=2^k*32;rw[Ac8 (by omega),Aj3]
theorem Agx{k:Nat}{s:UInt64}(h:0<k)(h2:s.toNat<2^(k+4)):kS k s=k-1:=by rw[kS,Acz ⟨h,h2⟩]
theorem Aha{k:Nat}{s:UInt64}(h:¬(0<k/\s.toNat<2^(k+4)))(h2:k<24)(h3:2^(k+5)<s.toNat):kS k s=k+1:=by rw[kS,Abe h,Acz ⟨h2,h3⟩]
theorem R7{k:Nat}{s:UInt64}(h:¬(0<k/\s.toNat<2^(k+4)))(h2:¬(k<24/\2^(k+5)<s.toNat)):kS k s=k:=by rw[kS,Abe h,Abe h2]
theorem Ahb{α:Type}(k:Nat)(hk:k<=24)(s:UInt64)(f:Int->Option α):
  (if(Fv (k:Int) (0:Int))=true then(
   Option.bind (Rj (Ts (k:Int) (0:Int))) λ_=>
   if(Cp s (Ej (16:UInt64) (GI.toZ (k:Int)).toNat))=true then f (Am (k:Int) (1:Int))
   else(if(Cp (k:Int) (24:Int))=true then(
    Option.bind (Rj (Ts (k:Int) (0:Int))) λ_=>
    if(Fv s (Ej (32:UInt64) (GI.toZ (k:Int)).toNat))=true then f (Ae (k:Int) (1:Int))else f (k:Int))
    else f (k:Int)))
  else(if(Cp (k:Int) (24:Int))=true then(
    Option.bind (Rj (Ts (k:Int) (0:Int))) λ_=>
    if(Fv s (Ej (32:UInt64) (GI.toZ (k:Int)).toNat))=true then f (Ae (k:Int) (1:Int))else f (k:Int))
    else f (k:Int)))=f ((kS k s:Nat):Int):=by
 have z:(GI.toZ (k:Int)).toNat=k:=rfl;rw[z,Bw (by rw[Ef];simp)];simp only[Aa];rw[mA,QL,Ajy hk,Ai3 hk];by_cases h0:0<k
 ·rw[Acz (by rw[Ap];simp;omega)];by_cases h1:s.toNat<2^(k+4)
  ·rw[Acz (by simp[h1]),Agx h0 h1,Bk];congr 1;omega
  ·rw[Abe (by simp;omega)];by_cases h2:k<24
   ·rw[Acz (by rw[Af];simp;omega)];by_cases h3:2^(k+5)<s.toNat
    ·rw[Acz (by simp[h3]),Aha (λh=>h1 h.2) h2 h3,Ag];rfl
    ·rw[Abe (by simp;omega),R7 (λh=>h1 h.2) (λh=>h3 h.2)]
   ·rw[Abe (by rw[Af];simp;omega),R7 (λh=>h1 h.2) (λh=>h2 h.1)]
 ·rw[Abe (by rw[Ap];simp;omega)];by_cases h2:k<24
  ·rw[Acz (by rw[Af];simp;omega)];by_cases h3:2^(k+5)<s.toNat
   ·rw[Acz (by simp[h3]),Aha (λh=>h0 h.1) h2 h3,Ag];rfl
   ·rw[Abe (by simp;omega),R7 (λh=>h0 h.1) (λh=>h3 h.2)]
  ·rw[Abe (by rw[Af];simp;omega),R7 (λh=>h0 h.1) (λh=>h2 h.1)]
theorem V2(k:Nat)(hk:k<=24)(s n:UInt64):Ho (k:Int) s n=some (((kS k (FE s n):Nat):Int),FE s n):=by
 have g1:Ae (k:Int) 4=((k+4:Nat):Int):=by rw[Ag];omega
 have g2:Ae (k:Int) 5=((k+5:Nat):Int):=by rw[Ag];omega
 have hp:Np (k:Int) s n=some (if k<24/\2^(k+5)<(FE s n).toNat then((k+1:Nat):Int)else(k:Int),FE s n):=by
  rw[Np,JQ,g2,JD _ (by omega),Aa,R9,QL,QF (by omega)];by_cases h2:k<24
  ·rw[Acz (by rw[Af];simp;omega)];by_cases h3:2^(k+5)<(FE s n).toNat
   ·rw[Acz (by simp[h3]),Acz ⟨h2,h3⟩,Ag];rfl
   ·rw[Abe (by simp;omega),Abe (λh=>h3 h.2)]
  ·rw[Abe (by rw[Af];simp;omega),Abe (λh=>h2 h.1)]
 rw[Ho,Wz,g1,JD _ (by omega),Aa,R9,mA,QF (by omega),hp];by_cases h0:0<k
 ·rw[Acz (by rw[Ap];simp;omega)];by_cases h1:(FE s n).toNat<2^(k+4)
  ·rw[Acz (by simp[h1]),Agx h0 h1,Bk];congr 2;omega
  ·rw[Abe (by simp;omega),Q8 (λh=>h1 h.2)]
 ·rw[Abe (by rw[Ap];simp;omega),Q8 (λh=>h0 h.1)]
def xI(v:UInt32):UInt64:=UInt64.ofNat v.toNat
theorem Aae(v:UInt32):(xI v).toNat<=4294967295:=by have:=v.toNat_lt;rw[xI,Age,Ac8 (by omega)];omega
def kR(k:Nat)(v:UInt32):UInt32:=UInt32.ofNat (v.toNat-2^k)
def lK(l:Nat)(t:UInt64)(k:Nat)(v:UInt32):Nat:=if v.toNat<2^k then l else kS l (FE t (xI (kR k v)))
def lT(t:UInt64)(k:Nat)(v:UInt32):UInt64:=if v.toNat<2^k then t else FE t (xI (kR k v))
theorem xk{k l:Nat}{s t:UInt64}(h:okD k l s t)(v:UInt32):okD (kS k (FE s (xI v))) (lK l t k v) (FE s (xI v)) (lT t k v):=by
 obtain⟨h1,h2,h3,h4⟩:=h;refine⟨Ag5 h1 _,?_,Q9 h3 (Aae v),?_⟩
 ·unfold lK;split; · exact h2
  exact Ag5 h2 _
 ·unfold lT;split; · exact h4
  exact Q9 h4 (Aae _)
theorem Aie(k l:Nat)(s t:UInt64)(hk:k<=24)(v:UInt32):Qs (k:Int) (l:Int) s t v=some (decide (v.toNat<2^k)):=by
 have:=v.toNat_lt;rw[Qs,JD k (by omega),Aa,mA,QF (by omega),Ih,Age,Ac8 (by omega)]
theorem left_eq(k l:Nat)(s t:UInt64)(hk:k<=24)(v:UInt32)(h:¬v.toNat<2^k):Jw (k:Int) (l:Int) s t v=some (kR k v):=by
 have:=v.toNat_lt;have e2:∀x:UInt64,(Ad x:UInt32)=UInt32.ofNat x.toNat:=λx=>by simp only[Ad,Im,Dy]
 have e3:(UInt64.ofNat v.toNat).toNat=v.toNat:=by rw[Age,Ac8 (by omega)]
 rw[Jw,JD k (by omega),Aa,e2,qK,Ih,UInt64.toNat_sub_of_le _ _ (by rw[UInt64.le_iff_toNat_le,QF (by omega),e3];omega),QF (by omega),e3,kR]
theorem ou{k l:Nat}{s t:UInt64}(h:okD k l s t)(v:UInt32):Pf (k:Int) (l:Int) s t v=some (((kS k (FE s (xI v)):Nat):Int),((lK l t k v:Nat):Int),FE s (xI v),lT t k v):=by
 obtain⟨h1,h2,h3,h4⟩:=h;have hp:∀(r1:Int) (r2:UInt64),Lc v (k:Int) (l:Int) s t r1 r2=some (((kS k (FE s (xI v)):Nat):Int),r1,FE s (xI v),r2):=by
  intro r1 r2;rw[Lc,EO,Ih,V2 k h1,Aa];rfl
 rw[Pf,Lb,Aie k l s t h1,Aa];by_cases hv:v.toNat<2^k
 ·rw[Abe (by simp[hv]),hp,lK,Acz hv,lT,Acz hv]
 ·rw[Acz (by simp;omega),left_eq k l s t h1 v hv,Aa,Ih,V2 l h2,Aa];simp only;rw[hp,lK,Abe hv,lT,Abe hv];rfl
theorem Aah(k l:Nat)(s t:UInt64)(hk:k<=24)(v:UInt32):VD (k:Int) (l:Int) s t v=some (if v.toNat<2^k then(0,v)else(1,kR k v)):=by
 have hp:2^k<=2^24:=Agg (by omega) hk;have hpos:0<2^k:=Anp (by omega);have hl:=v.toNat_lt;have z:(GI.toZ (k:Int)).toNat=k:=rfl;have e1:geq (Cr v k) (0:UInt32)=decide (v.toNat<2^k):=by
  rw[vE,Ah4];simp only[Ang,<-UInt32.toNat_inj,SL,Ada]
  show _/_=0↔_;rw[Nat.div_eq_zero_iff];omega
 have e2:¬v.toNat<2^k->Am v (Ej (1:UInt32) k)=kR k v:=by
  intro h;have e3:(Ej (1:UInt32) k).toNat=2^k:=by rw[mJ];show 1*2^k %_=_;rw[Ac8 (by omega),Nat.one_mul]
  apply UInt32.toNat_inj.1;rw[yI,UInt32.toNat_sub_of_le _ _ (by rw[UInt32.le_iff_toNat_le,e3];omega),e3,kR,UJ (by omega)]
 rw[VD,Bw (by rw[Ef];simp),Aa,Aa,z,e1];by_cases h:v.toNat<2^k
 ·rw[Acz (by simp[h]),Acz h]
 ·rw[Abe (by simp;omega),Abe h,e2 h]
abbrev Rd:=UInt32×Int×Int×Int×UInt64×UInt64×Int
theorem nC{k l:Nat}{s t:UInt64}(h:okD k l s t)(v:UInt32)(r:Int):LZ (k:Int) (l:Int) s t v r=some (v,r,((kS k (FE s (xI v)):Nat):Int),((lK l t k v:Nat):Int),FE s (xI v),lT t k v,0):=by
 obtain⟨h1,h2,h3,h4⟩:=h;have hp:∀(x:Int) (y:UInt64),EY v r (k:Int) s x y=some (v,r,((kS k (FE s (xI v)):Nat):Int),x,FE s (xI v),y,0):=by
  intro x y;rw[EY,WE,Ih,mL,Ahb k h1];rw[TZ,VU,RI,cL,Ih,mL];rfl
 rw[LZ,UI,Aah k l s t h1,Aa];by_cases hv:v.toNat<2^k
 ·rw[Acz hv];simp only;rw[Abe (by rw[Bf];simp),hp,lK,Acz hv,lT,Acz hv]
 ·rw[Abe hv];simp only;rw[Acz (by rw[Bf];rfl),Ih,mL,Ahb l h2 _ (λx=>EY v r (k:Int) s x (FE t (UInt64.ofNat (kR k v).toNat))),hp,lK,Abe hv,lT,Abe hv];rfl
def XF(p:List UInt8)(N a k l:Nat):UInt32×Int×Int:=
 if N<=a then(0,0,24)else
 if Jf p a=0 then(if N<a+1+k then(0,0,24)else(UInt32.ofNat (Cf p (a+1) k),((a+1+k:Nat):Int),0))else
 if(SF p N (a+1) l).2.2≠0 then(0,0,(SF p N (a+1) l).2.2)else
 if 4294967295<(SF p N (a+1) l).1.toNat+2^k then(0,0,12)else(UInt32.ofNat ((SF p N (a+1) l).1.toNat+2^k),(SF p N (a+1) l).2.1,0)
theorem Aio{p:List UInt8}{N a k l:Nat}(h:(XF p N a k l).2.2=0):(a:Int)<(XF p N a k l).2.1/\ (XF p N a k l).2.1<=N:=by
 revert h
 unfold XF;split
 ·simp
 split
 ·split
  ·simp
  ·simp only;omega
 ·split
  ·intro h;contradiction
  ·rename_i h1;split
   ·simp
   ·intro _;have:=Ahx (p:=p) (N:=N) (a:=a+1) (k:=l) (v:=(SF p N (a+1) l).1) (n:=(SF p N (a+1) l).2.1) (by
     have e:(SF p N (a+1) l).2.2=0:=by simpa using h1
     rw[<-e])
    simp only;omega
theorem Aen{p:List UInt8}{N:Nat}(h:okB p N)(a:Nat){k l:Nat}{s t:UInt64}(hd:okD k l s t):GY p (N:Int) (a:Int) (k:Int) (l:Int) s t=
  some (if(XF p N a k l).2.2≠0 then(0,0,0,0,0,0,(XF p N a k l).2.2)else((XF p N a k l).1,(XF p N a k l).2.1,((kS k (FE s (xI (XF p N a k l).1)):Nat):Int),((lK l t k (XF p N a k l).1:Nat):Int),FE s (xI (XF p N a k l).1),lT t k (XF p N a k l).1,0)):=by
 obtain⟨h1,h2,h3,h4⟩:=hd;have hd:okD k l s t:=⟨h1,h2,h3,h4⟩;have hN:=h.1;have hg:=jS h a 1 (by omega);have hb:=Zt p a;rw[GY,WM,MO h,Aa,Abe (by rw[Ah];simp),Aho hd,Aa,Abe (by rw[Ah];simp),WH,UL];refine Anl (congrArg (λo=>Option.bind o _) hg) ?_;rw[Aa];by_cases ha:N<=a
 ·have hS:XF p N a k l=(0,0,24):=by rw[XF,Acz ha]
  rw[Acz (by omega),hS];rfl
 rw[Abe (by omega)];simp only;have e0:geq (We p a 1) (0:UInt64)=decide (Jf p a=0):=by
  rw[lU,Ah4];simp only[Ang,<-An4,Ada,FA p a 1 (by omega),zI];rfl
 have e1:Ae (a:Int) 1=((a+1:Nat):Int):=by rw[Ag];omega
 rw[Abe (by rw[Ah];simp),e0,e1];by_cases hz:Jf p a=0
 ·rw[Acz (by simp[hz]),jS h (a+1) k (by omega),Aa];by_cases h5:N<a+1+k
  ·have hS:XF p N a k l=(0,0,24):=by rw[XF,Abe ha,Acz hz,Acz h5]
   rw[Acz h5,hS];rfl
  ·have hS:XF p N a k l=(UInt32.ofNat (Cf p (a+1) k),((a+1+k:Nat):Int),0):=by rw[XF,Abe ha,Acz hz,Abe h5]
   rw[Abe h5,hS];simp only;rw[Abe (by rw[Ah];simp),nC hd,fR (by omega),Ag];rfl
 ·rw[Abe (by simp[hz]),Aeq h (a+1) l h2,Aa];have hp:2^k<=2^24:=Agg (by omega) h1;by_cases h5:(SF p N (a+1) l).2.2≠0
  ·have hS:XF p N a k l=(0,0,(SF p N (a+1) l).2.2):=by rw[XF,Abe ha,Abe hz,Acz h5]
   rw[hS];generalize SF p N (a+1) l=R at*
   obtain⟨v,n,e⟩:=R;simp only at*
   rw[Acz (by rw[Ah];simpa using h5),Acz h5]
  ·have hv:=(SF p N (a+1) l).1.toNat_lt;have z:(GI.toZ (k:Int)).toNat=k:=rfl;have e3:(Ej (1:UInt32) k).toNat=2^k:=by rw[mJ];show 1*2^k %_=_;rw[Ac8 (by omega),Nat.one_mul]
   by_cases h6:4294967295<(SF p N (a+1) l).1.toNat+2^k
   ·have hS:XF p N a k l=(0,0,12):=by rw[XF,Abe ha,Abe hz,Abe h5,Acz h6]
    rw[hS];generalize SF p N (a+1) l=R at*
    obtain⟨v,n,e⟩:=R;simp only at*
    rw[Abe (by rw[Ah];simpa using h5),Bw (by rw[Ef];simp),Aa,z,Acz (by rw[R2,mH,UInt32.toNat_add,e3];simp;omega),Acz (by decide)]
   ·have hS:XF p N a k l=(UInt32.ofNat ((SF p N (a+1) l).1.toNat+2^k),(SF p N (a+1) l).2.1,0):=by rw[XF,Abe ha,Abe hz,Abe h5,Abe h6]
    rw[hS];generalize SF p N (a+1) l=R at*
    obtain⟨v,n,e⟩:=R;simp only at*
    have e4:Ae v (Ej (1:UInt32) k)=UInt32.ofNat (v.toNat+2^k):=by
     apply UInt32.toNat_inj.1;rw[mH,UInt32.toNat_add,e3,UJ (by omega),Ac8 (by omega)]
    rw[Abe (by rw[Ah];simpa using h5),Bw (by rw[Ef];simp),Aa,z,Abe (by rw[R2,mH,UInt32.toNat_add,e3];simp;omega),e4,nC hd];rfl
theorem Abz{p:List UInt8}{N:Nat}(h:okB p N)(a:Nat)(k l:Nat)(s t:UInt64)(h1:k<=24)(h2:l<=24):Yf p (N:Int) (a:Int) (k:Int) (l:Int) s t=some (XF p N a k l):=by
 have hN:=h.1;have hl:=h.2.1;have hb:=Zt p a;rw[Yf];by_cases ha:N<=a
 ·rw[Acz (by rw[Ef];simp;omega),XF,Acz ha]
 rw[Abe (by rw[Ef];simp;omega),iM p _ a (by omega) (by omega),Aa,Bk (a:=(N:Int)) (b:=(a:Int)) (by omega) (by omega),Bk];have e1:Ae (a:Int) 1=((a+1:Nat):Int):=by rw[Ag];omega
 rw[e1];by_cases hz:Jf p a=0
 ·rw[Acz (by rw[Bf];simp[hz])];by_cases h5:N<a+1+k
  ·rw[Acz (by rw[Af];simp;omega),XF,Abe ha,Acz hz,Acz h5]
  ·rw[Abe (by rw[Af];simp;omega),dG p _ (a+1) k (by omega) (by omega),Aa,XF,Abe ha,Acz hz,Abe h5,fR (by omega),Ag];rfl
 ·rw[Abe (by rw[Bf];simp;omega),zn h (a+1) l h2,Aa];have hp:2^k<=2^24:=Agg (by omega) h1;have hv:=(SF p N (a+1) l).1.toNat_lt;have e2:∀x:UInt64,(Ad x:UInt32)=UInt32.ofNat x.toNat:=λx=>by simp only[Ad,Im,Dy]
  by_cases h5:(SF p N (a+1) l).2.2≠0
  ·have hS:XF p N a k l=(0,0,(SF p N (a+1) l).2.2):=by rw[XF,Abe ha,Abe hz,Acz h5]
   rw[hS];generalize SF p N (a+1) l=R at*
   obtain⟨v,n,e⟩:=R;simp only at*
   rw[Acz (by rw[Ah];simpa using h5)]
  ·have hsum:∀v:UInt32,(Ae (Ad v:UInt64) (UInt64.ofNat (2^k))).toNat=v.toNat+2^k:=by
    intro v;have:=v.toNat_lt;have:=Anp (n:=k) (show 0<2 by omega);rw[JH,UInt64.toNat_add,Ih,QF (by omega),Age];omega
   by_cases h6:4294967295<(SF p N (a+1) l).1.toNat+2^k
   ·have hS:XF p N a k l=(0,0,12):=by rw[XF,Abe ha,Abe hz,Abe h5,Acz h6]
    rw[hS];generalize SF p N (a+1) l=R at*
    obtain⟨v,n,e⟩:=R;simp only at*
    rw[Abe (by rw[Ah];simpa using h5),JD k (by omega),Aa,Acz (by rw[QL,hsum];simpa using h6)]
   ·have hS:XF p N a k l=(UInt32.ofNat ((SF p N (a+1) l).1.toNat+2^k),(SF p N (a+1) l).2.1,0):=by rw[XF,Abe ha,Abe hz,Abe h5,Abe h6]
    rw[hS];generalize SF p N (a+1) l=R at*
    obtain⟨v,n,e⟩:=R;simp only at*
    rw[Abe (by rw[Ah];simpa using h5),JD k (by omega),Aa,Abe (by rw[QL,hsum];simpa using h6),e2,hsum]
abbrev DuN:=Nat×Nat×UInt64×UInt64
def okN(d:DuN):Prop:=okD d.1 d.2.1 d.2.2.1 d.2.2.2
def nxt(d:DuN)(v:UInt32):DuN:=(kS d.1 (FE d.2.2.1 (xI v)),lK d.2.1 d.2.2.2 d.1 v,FE d.2.2.1 (xI v),lT d.2.2.2 d.1 v)
def wR:DuN:=(10,10,16384,16384)
theorem Aam:okN wR:=⟨by decide,by decide,by decide,by decide⟩
theorem Aiq{d:DuN}(h:okN d)(v:UInt32):okN (nxt d v):=xk h v
abbrev DuL:=Int×Int×UInt64×UInt64×Unit
def toI(d:DuN):DuL:=((d.1:Int),(d.2.1:Int),d.2.2.1,d.2.2.2,())
def ZR(ch:Nat)(v:List UInt32)(c:Nat):Nat->DuN
 |0=>wR
 |m+1=>if m %ch=c then nxt (ZR ch v c m) (v.getD m 0)else ZR ch v c m
theorem iX(ch:Nat)(v:List UInt32)(c:Nat):∀m,okN (ZR ch v c m)
 |0=>Aam
 |m+1=>by rw[ZR];split;exact Aiq (iX ch v c m) _;exact iX ch v c m
theorem V6(ch:Nat)(v w:List UInt32)(c:Nat):∀m,m<=v.length->ZR ch (v++w) c m=ZR ch v c m
 |0,_=>rfl
 |m+1,h=>by
  have e:(v++w).getD m 0=v.getD m 0:=by simp[List.getD_eq_getElem?_getD,List.getElem?_append_left (show m<v.length by omega)]
  rw[ZR,ZR,V6 ch v w c m (by omega),e]
theorem vB(ch:Nat)(v:List UInt32)(c:Nat):∀m,m<=c->c<ch->ZR ch v c m=wR
 |0,_,_=>rfl
 |m+1,h,h2=>by rw[ZR,Abe (by rw[Ac8 (by omega)];omega),vB ch v c m (by omega) h2]
theorem C0(ch:Nat)(v:List UInt32)(c i:Nat)(hi:i %ch=c)(hc:c<ch):∀j,j<ch->ZR ch v c (i+1+j)=ZR ch v c (i+1)
 |0,_=>rfl
 |j+1,h=>by
  have hne:(i+1+j) %ch≠c:=by
   intro e;have h1:(i+(1+j)) %ch=i %ch:=by rw[hi,<-e];congr 1;omega
   have h2:(1+j) %ch=0:=by
    have h3:=Nat.sub_mod_eq_zero_of_mod_eq h1;rwa [An7]at h3
   rw[Ac8 (by omega)]at h2;omega
  rw[show i+1+(j+1)=(i+1+j)+1 by omega,ZR,Abe hne,C0 ch v c i hi hc j (by omega)]
theorem Aa3(ch:Nat)(v:List UInt32)(c i:Nat)(hi:i %ch=c)(hc:c<ch):ZR ch v c (i+ch)=nxt (ZR ch v c i) (v.getD i 0):=by
 have h:=C0 ch v c i hi hc (ch-1) (by omega);rw[show i+1+(ch-1)=i+ch by omega]at h;rw[h,ZR,Acz hi]
theorem qL{l:List UInt32}{k:Nat}(h:k<l.length):Aj l (k:Int)=some (l.getD k 0):=by
 rw[Cq h];simp[List.getD_eq_getElem?_getD,h]
theorem dN(a b:Nat):Is (a:Int) (b:Int)=((a %b:Nat):Int):=by rw[Is,Anf (by omega)];omega
theorem lD(ch:Nat)(v:List UInt32)(hch:1<=ch)(Ajg:ch<=6)(hv:v.length<=4000):∀(j i q:Nat),i %ch=v.length %ch->i<=v.length->v.length-i<=j->j<q->
  Hs (ch:Int) v q (i:Int) ((ZR ch v (v.length %ch) i).1:Int) ((ZR ch v (v.length %ch) i).2.1:Int) (ZR ch v (v.length %ch) i).2.2.1 (ZR ch v (v.length %ch) i).2.2.2=
   some (((ZR ch v (v.length %ch) v.length).1:Int),((ZR ch v (v.length %ch) v.length).2.1:Int),(ZR ch v (v.length %ch) v.length).2.2.1,(ZR ch v (v.length %ch) v.length).2.2.2)
 |j,i,q+1,hi,hl,hj,hq=>by
  have hc:v.length %ch<ch:=Anm _ (by omega);rw[Hs,Ta];by_cases h:i<v.length
  ·have h1:=ou (iX ch v (v.length %ch) i) (v.getD i 0);rw[Acz (by rw[Af,Ac];simp;omega),qL h,Aa,h1,Aa];have hle:i+ch<=v.length:=by
    have h2:=Aoe i ch;have h3:=Aoe v.length ch;rw[hi]at h2;have h4:ch*(i/ch)<ch*(v.length/ch):=by omega
    have h5:=Nat.lt_of_mul_lt_mul_left h4;have h6:ch*(i/ch+1)<=ch*(v.length/ch):=Nat.mul_le_mul_left _ h5;rw[Nat.mul_add]at h6;omega
   have ih:=lD ch v hch Ajg hv (j-ch) (i+ch) q (by rw[Aoo];exact hi) hle (by omega) (by omega);rw[Aa3 ch v _ i hi hc]at ih;simp only;rw[Ag];exact ih
  ·rw[Abe (by rw[Af,Ac];simp;omega),show i=v.length by omega];rfl
theorem jo(ch:Nat)(v:List UInt32)(hch:1<=ch)(Ajg:ch<=6)(hv:v.length<=4000):Ks (ch:Int) v=some (((ZR ch v (v.length %ch) v.length).1:Int),((ZR ch v (v.length %ch) v.length).2.1:Int),(ZR ch v (v.length %ch) v.length).2.2.1,(ZR ch v (v.length %ch) v.length).2.2.2):=by
 have hc:v.length %ch<ch:=Anm _ (by omega);have hle:v.length %ch<=v.length:=Nat.mod_le _ _;have h:=lD ch v hch Ajg hv v.length (v.length %ch) Az (by rw[Nat.mod_mod]) hle (by omega) (by have:=As;omega);rw[vB ch v _ _ (Ag9 _) hc]at h;rw[Ks,Rw,Ix,Aa];simp only;rw[Bw (by rw[Ah];simp;omega),Aa,Ac,dN];exact h
def now(ch:Nat)(v:List UInt32):DuN:=ZR ch v (v.length %ch) v.length
def mO(N a:Nat):Nat:=min 81 (N-a)
def La(ch:Nat)(p:List UInt8)(N a:Nat)(out:List UInt32):UInt32×Int×Int:=XF (GM p a (mO N a)) (mO N a) 0 (now ch out).1 (now ch out).2.1
def CK(ch:Nat)(p:List UInt8)(N:Nat):Nat->Nat->List UInt32->List UInt32×Nat×Int
 |0,a,out=>(out,a,0)
 |j+1,a,out=>if(La ch p N a out).2.2≠0 then(out,a,(La ch p N a out).2.2)else CK ch p N j (a+(La ch p N a out).2.1.toNat) (out++[(La ch p N a out).1])
theorem bL{ch:Nat}{p:List UInt8}{N a:Nat}{out:List UInt32}(h:(La ch p N a out).2.2=0):0<(La ch p N a out).2.1/\ (La ch p N a out).2.1<=mO N a:=by
 have:=Aio h;exact⟨this.1,this.2⟩
theorem uB{ch:Nat}{p:List UInt8}{N a:Nat}{out:List UInt32}(h:(La ch p N a out).2.2=0):((a:Int)+(La ch p N a out).2.1)=((a+(La ch p N a out).2.1.toNat:Nat):Int):=by
 have:=bL h;omega
def sts(ch:Nat)(v:List UInt32):List DuL:=(List.range 6).map λc=>toI (ZR ch v c v.length)
theorem S3{ch:Nat}{v:List UInt32}{c:Nat}(h:c<6):Aj (sts ch v) (c:Int)=some (toI (ZR ch v c v.length)):=by
 rw[Cq (by simp[sts];exact h)];simp[sts]
theorem Af2{ch:Nat}{v:List UInt32}{c:Nat}(x:UInt32)(h:c<6)(hc:c=v.length %ch):Pd (sts ch v) (c:Int) (toI (nxt (ZR ch v c v.length) x))=some (sts ch (v++[x])):=by
 rw[Zg _ (by simp[sts];exact h)];congr 1;apply Al6 (by simp[sts]);intro i h1 h2;rw[Aok];simp only[sts,An6,An2];have e:(v++[x]).getD v.length 0=x:=by simp
 rw[Agv,List.length_singleton,ZR,e,V6 ch v [x] i v.length (Ag9 _)];by_cases hi:c=i
 ·subst hi;rw[Acz rfl,Acz hc.symm]
 ·rw[Abe hi,Abe (by omega)]
section
variable {p:List UInt8} {N ch n:Nat}
theorem xP(hp:okB p N)(h1:1<=ch)(h6:ch<=6)(hn:n*ch<=4000):∀(j a q:Nat) (out:List UInt32),out.length+j=n*ch->j<q->a<=N->
  Lp (ch:Int) (n:Int) p (N:Int) q (a:Int) (out.length:Int) (sts ch out) out=
   some (if(CK ch p N j a out).2.2≠0 then([],0,(CK ch p N j a out).2.2)else((CK ch p N j a out).1,((CK ch p N j a out).2.1:Int),0))
 |j,a,q+1,out,hj,hq,ha=>by
  have hN:=hp.1;have hnn:n<=n*ch:=Nat.le_mul_of_pos_right n (by omega);have em:Be (n:Int) (ch:Int)=((n*ch:Nat):Int):=by rw[Hr (by rw[<-Anh];omega) (by rw[<-Anh];omega),Anh]
  rw[Lp,Ti,em];cases j with
  |zero=>
   rw[Abe (by rw[Af];simp;omega)];rfl
  |succ j=>
   have hc:out.length %ch<6:=Ajk (Anm _ (by omega)) h6;have ew:Gv (Ae (a:Int) 81) (N:Int)=((a+mO N a:Nat):Int):=by rw[KC,Ag];unfold mO;omega
   have hw:a+mO N a<=N:=by unfold mO;omega
   have hw2:mO N a<=81:=by unfold mO;omega
   have hd:=Aen (Q4 p a (mO N a) (by omega)) 0 (iX ch out (out.length %ch) out.length);have Ac6:XF (GM p a (mO N a)) (mO N a) 0 (ZR ch out (out.length %ch) out.length).1 (ZR ch out (out.length %ch) out.length).2.1=La ch p N a out:=rfl;rw[Acz (by rw[Af];simp;omega),ew,Ah2 hp a _ hw (by omega),Aa];simp only;rw[Abe (by rw[Ah];simp),Bw (by rw[Ah];simp;omega),Aa,dN,S3 hc,Aa,Aa];refine Anl (congrArg (λo=>Option.bind o _) hd) ?_;rw[Aa,Ac6,CK];by_cases he:(La ch p N a out).2.2≠0
   ·rw[Acz he,Acz he];simp only;rw[Sd,Rz,Acz (by rw[Ah];simpa using he),Acz he]
   ·have he0:(La ch p N a out).2.2=0:=by simpa using he
    have hok:=bL he0;have hset:=Af2 (ch:=ch) (v:=out) (La ch p N a out).1 hc rfl;rw[Abe he,Abe he];simp only;rw[Sd,Rz,Abe (by rw[Ah];simp),Bw (by rw[Ah];simp;omega),Aa,dN,S3 hc,Aa];refine Anl (congrArg (λo=>Option.bind o _) hset) ?_;rw[Aa,AK,OW,Cc (by simp;omega),Aa,Ag,Ag,uB he0];have ih:=xP hp h1 h6 hn j (a+(La ch p N a out).2.1.toNat) q (out++[(La ch p N a out).1]) (by simp;omega) (by omega) (by omega);rw[Agv,List.length_singleton]at ih;exact ih
theorem Y0{p:List UInt8}(hN:N=8*p.length)(hN2:N<=330000)(h1:1<=ch)(h6:ch<=6)(hn:n*ch<=4000):∀(j a q:Nat) (out:List UInt32),out.length+j=n*ch->j<q->a<=N->
  Db (ch:Int) (n:Int) p q (a:Int) (out.length:Int) out=
   if(CK ch p N j a out).2.2≠0 then some ((CK ch p N j a out).1,(CK ch p N j a out).2.2)else Mu ((CK ch p N j a out).2.1:Int) p (CK ch p N j a out).1
 |j,a,q+1,out,hj,hq,ha=>by
  have hnn:n<=n*ch:=Nat.le_mul_of_pos_right n (by omega);have em:Be (n:Int) (ch:Int)=((n*ch:Nat):Int):=by rw[Hr (by rw[<-Anh];omega) (by rw[<-Anh];omega),Anh]
  have e8:Be (8:Int) (Ac p)=(N:Int):=by rw[Ac,Hr];omega
  rw[Db,Vc,em];cases j with
  |zero=>
   rw[Abe (by rw[Af];simp;omega)];rfl
  |succ j=>
   have ew:Gv (Ae (a:Int) 81) (N:Int)=((a+mO N a:Nat):Int):=by rw[KC,Ag];unfold mO;omega
   have hw:a+mO N a<=N:=by unfold mO;omega
   have hw2:mO N a<=81:=by unfold mO;omega
   have hpre:(Option.bind Ix λ(r_4,r_5,r_6,r_7)=>
     if(Ts (out.length:Int) (ch:Int))=true then(
     Option.bind (Ks (ch:Int) out) λ(r_8,r_9,r_10,r_11)=>
     Fz (Db (ch:Int) (n:Int) p q) (ch:Int) (n:Int) p (a:Int) (out.length:Int) out r_8 r_9 r_10 r_11)
     else Fz (Db (ch:Int) (n:Int) p q) (ch:Int) (n:Int) p (a:Int) (out.length:Int) out r_4 r_5 r_6 r_7)=
     Fz (Db (ch:Int) (n:Int) p q) (ch:Int) (n:Int) p (a:Int) (out.length:Int) out ((now ch out).1:Int) ((now ch out).2.1:Int) (now ch out).2.2.1 (now ch out).2.2.2:=by
    rw[Ix,Aa];by_cases hc:ch<=out.length
    ·simp only;rw[Acz (by rw[Ef];simp;omega),jo ch out h1 h6 (by omega),Aa];rfl
    ·have e:now ch out=wR:=by rw[now,Ac8 (by omega),vB ch out _ _ (Ag9 _) (by omega)]
     simp only;rw[Abe (by rw[Ef];simp;omega),e];rfl
   have hd:=Abz (Q4 p a (mO N a) (by omega)) 0 (now ch out).1 (now ch out).2.1 (now ch out).2.2.1 (now ch out).2.2.2 (iX ch out _ _).1 (iX ch out _ _).2.1;have Ac6:XF (GM p a (mO N a)) (mO N a) 0 (now ch out).1 (now ch out).2.1=La ch p N a out:=rfl;rw[Acz (by rw[Af];simp;omega),hpre,Fz,GC,e8,ew,xT p (N:Int) a _ (by omega) (by omega) (by omega),Aa];simp only;refine Anl (congrArg (λo=>Option.bind o _) hd) ?_;rw[Aa,Ac6,CK];by_cases he:(La ch p N a out).2.2≠0
   ·rw[Acz he,Acz (by rw[Ah];simpa using he),Acz he]
   ·have he0:(La ch p N a out).2.2=0:=by simpa using he
    have hok:=bL he0;have ih:=Y0 hN hN2 h1 h6 hn j (a+(La ch p N a out).2.1.toNat) q (out++[(La ch p N a out).1]) (by simp;omega) (by omega) (by omega);have hx:=uB he0;rw[Agv,List.length_singleton]at ih;rw[Abe he];generalize La ch p N a out=R at*
    obtain⟨v,nx,e⟩:=R;simp only at*
    rw[Abe (by rw[Ah];simpa using he),Cc (by simp;omega),Aa,Ag,Ag,hx];exact ih
end
theorem uS{ch:Nat}{p:List UInt8}{N:Nat}:∀(j a:Nat) (out:List UInt32),a<=N-> (CK ch p N j a out).2.1<=N/\ (CK ch p N j a out).1.length<=out.length+j/\ ((CK ch p N j a out).2.2=0-> (CK ch p N j a out).1.length=out.length+j)
 |0,a,out,h=>⟨h,Ag9 _,λ_=>rfl⟩
 |j+1,a,out,h=>by
  rw[CK];split
  ·rename_i he;exact⟨h,by simp,λe=>absurd e he⟩
  ·rename_i he;have hok:=bL (ch:=ch) (p:=p) (N:=N) (a:=a) (out:=out) (by simpa using he);have hw:a+mO N a<=N:=by unfold mO;omega
   have ih:=uS (ch:=ch) (p:=p) (N:=N) j (a+(La ch p N a out).2.1.toNat) (out++[(La ch p N a out).1]) (by omega);rw[Agv,List.length_singleton]at ih;exact⟨ih.1,by omega,λe=>by have:=ih.2.2 e;omega⟩
theorem yB(ch n:Int)(b:List UInt8)(N:Int):Tj ch n b N 0 (List.replicate 6 ((0:Int),(0:Int),(0:UInt64),(0:UInt64),()))=AJ ch n b N (List.replicate 6 ((10:Int),(10:Int),(16384:UInt64),(16384:UInt64),())):=by
 have e:Az=(Az-7)+1+1+1+1+1+1+1:=by have:=As;omega
 rw[Tj,e];rfl
theorem values_eq{p:List UInt8}{N ch n:Nat}(hp:okB p N)(h1:1<=ch)(h6:ch<=6)(hn:n*ch<=4000):DX (ch:Int) (n:Int) p (N:Int)=
  some (if(CK ch p N (n*ch) 0 []).2.2≠0 then([],0,(CK ch p N (n*ch) 0 []).2.2)else((CK ch p N (n*ch) 0 []).1,((CK ch p N (n*ch) 0 []).2.1:Int),0)):=by
 have h:=xP hp h1 h6 hn (n*ch) 0 Az [] (by simp) (by have:=As;omega) (by omega);rw[DX,DV,yB];exact h
theorem tK(p:List UInt8)(x:List UInt32)(N:Nat)(hN:N=8*p.length)(hN2:N<=330000):∀(j a q:Nat),a+j=N->j<q->Ga p x q (a:Int)=some (x,if Cf p a j=0 then 0 else 12)
 |0,a,q+1,ha,_=>by
  have e8:Be (8:Int) (Ac p)=(N:Int):=by rw[Ac,Hr];omega
  rw[Ga,Mn,e8,Abe (by rw[Af];simp;omega),Cf,Acz rfl];rfl
 |j+1,a,q+1,ha,hq=>by
  have e8:Be (8:Int) (Ac p)=(N:Int):=by rw[Ac,Hr];omega
  have hb:=Zt p a;rw[Ga,Mn,e8,Acz (by rw[Af];simp;omega),iM p _ a (by omega) (by omega),Aa,Cf];by_cases h:Jf p a=0
  ·rw[Abe (by rw[Ah];simp[h]),Ag,h];have ih:=tK p x N hN hN2 j (a+1) q (by omega) (by omega);rw[show((a:Int)+1)=((a+1:Nat):Int) by omega,ih];congr 2;by_cases hv:Cf p (a+1) j=0
   ·rw[Acz hv,Acz (by omega)]
   ·rw[Abe hv,Abe (by omega)]
  ·rw[Acz (by rw[Ah];simp;omega),Abe (by omega)]
theorem Ae2{p:List UInt8}{N ch n:Nat}(hN:N=8*p.length)(hN2:N<=330000)(h1:1<=ch)(h6:ch<=6)(hn:n*ch<=4000):Vl (ch:Int) (n:Int) p=
  some (if(CK ch p N (n*ch) 0 []).2.2≠0 then((CK ch p N (n*ch) 0 []).1,(CK ch p N (n*ch) 0 []).2.2)else
   ((CK ch p N (n*ch) 0 []).1,if 7<N-(CK ch p N (n*ch) 0 []).2.1\/Cf p (CK ch p N (n*ch) 0 []).2.1 (N-(CK ch p N (n*ch) 0 []).2.1)≠0 then 12 else 0)):=by
 have h:=Y0 hN hN2 h1 h6 hn (n*ch) 0 Az [] (by simp) (by have:=As;omega) (by omega);have hat:=(uS (ch:=ch) (p:=p) (N:=N) (n*ch) 0 [] (by omega)).1;have e8:Be (8:Int) (Ac p)=(N:Int):=by rw[Ac,Hr];omega
 rw[Vl,Xk];refine Anl h ?_;generalize CK ch p N (n*ch) 0 []=V at*
 obtain⟨v,a,e⟩:=V;simp only at*
 by_cases he:e≠0
 ·rw[Acz he,Acz he]
 ·rw[Abe he,Abe he,Mu,Uj,e8,Bk];by_cases h7:7<N-a
  ·rw[Acz (by rw[Ap];simp;omega),Acz (.inl h7)]
  ·rw[Abe (by rw[Ap];simp;omega),Ut,tK p v N hN hN2 (N-a) a Az (by omega) (by have:=As;omega)];by_cases hv:Cf p a (N-a)=0
   ·rw[Acz hv,Abe (by omega)]
   ·rw[Abe hv,Acz (.inr hv)]
theorem xA(n:Int):(GI.ofZ n:Int32)=Int32.ofInt n:=rfl
theorem IA(a:Int32):GI.toZ a=a.toInt:=rfl
theorem SM(a b:Int32):Ae a b=a+b:=by
 rw[Ae,IA,IA,xA,Int32.ofInt_add,Alp,Alp]
theorem oE(a b:Int32):Am a b=a-b:=by
 rw[Am,IA,IA,xA,Int32.ofInt_sub,Alp,Alp]
theorem R4(a b:Int32):geq a b=(a==b):=by
 rw[geq,IA,IA,Ah4];simp[Int32.toInt_inj]
theorem Ady(a b:Int32):Ch a b=(a !=b):=by
 rw[Ch,IA,IA,Ah4];simp[Int32.toInt_inj]
def ZI(p:Nat->Bool)(a b:List Int32):List Int32:=(List.range a.length).map λk=>if p k=true then a.getD k 0 else b.getD k 0
section
variable {p q:Nat->Bool} {a b:List Int32}
theorem VO:(ZI p a b).length=a.length:=by simp[ZI]
theorem Mk{k:Nat}(h:k<a.length):a.getD k 0=a[k]:=by simp[List.getD_eq_getElem?_getD,h]
theorem BQ{k:Nat}(h:k<(ZI p a b).length):(ZI p a b)[k]=if p k=true then a.getD k 0 else b.getD k 0:=by simp[ZI]
theorem QQ{k:Nat}(h:k<a.length):Aj (ZI p a b) (k:Int)=some (if p k=true then a.getD k 0 else b.getD k 0):=by
 rw[Cq (by rw[VO];exact h),BQ]
theorem BO(h:∀k,k<a.length->p k=q k):ZI p a b=ZI q a b:=by
 apply List.map_congr_left;intro k hk;rw[h k (List.mem_range.1 hk)]
theorem gT{k:Nat}(h:k<a.length):Pd (ZI p a b) (k:Int) (a.getD k 0)=some (ZI (λj=>p j||decide (j=k)) a b):=by
 rw[Zg _ (by rw[VO];exact h)];congr 1;apply Al6 (by simp[VO]);intro i h1 h2;rw[Aok,BQ,BQ];by_cases hi:k=i
 ·subst hi;simp
 ·have:¬i=k:=λe=>hi e.symm;simp[hi,this]
theorem gM(h:∀k,k<a.length->p k=true):ZI p a b=a:=by
 apply Al6 (by simp[VO]);intro i h1 h2;rw[BQ,Acz (h i h2),Mk h2]
theorem fC(hl:b.length=a.length)(h:∀k,k<a.length->p k=false):ZI p a b=b:=by
 apply Al6 (by simp[VO,hl]);intro i h1 h2;rw[BQ,h i (by omega)];simp[List.getD_eq_getElem?_getD,h2]
end
theorem mS(a b:Int32):Be a b=a*b:=by
 rw[Be,IA,IA,xA,Int32.ofInt_mul,Alp,Alp]
theorem EU(a:Int32): -2147483648<=a.toInt/\a.toInt<2147483648:=⟨a.le_toInt,a.toInt_lt⟩
theorem Dx(a:Int32):(Ad a:Int)=a.toInt:=by
 have:=EU a
 show wrap64 a.toInt=_;rw[Bs]<;>omega
theorem MP(n:Int):(Ad n:Int32)=Int32.ofInt n:=rfl
theorem mo(x:Int):Int32.ofInt (x %4294967296)=Int32.ofInt x:=by
 apply Int32.toInt_inj.1;rw[Anv,Anv];exact Int.emod_bmod x 4294967296
theorem lZ(x:Int):Ca x=some (Int32.ofInt x):=by
 have e1:(Ad x:UInt64).toNat=(x %18446744073709551616).toNat:=by
  rw[zM,Age,Ac8 (by omega)]
 have e2:(Ad (Ad x:UInt64):UInt32).toNat=(x %4294967296).toNat:=by
  have e:(Ad (Ad x:UInt64):UInt32)=UInt32.ofNat (Ad x:UInt64).toNat:=by simp only[Ad,Im,Dy]
  rw[e,Ahh,e1];show(x %18446744073709551616).toNat %4294967296=_;omega
 have e3:(Ad (Ad (Ad x:UInt64):UInt32):Int32)=Int32.ofInt ((Ad (Ad x:UInt64):UInt32).toNat:Int):=rfl;rw[Ca,e3,e2,<-mo x];congr 2;omega
theorem fI(a b:Int32):Ca (Ae (Ad a:Int) (Ad b:Int))=some (a+b):=by
 have:=EU a;have:=EU b;rw[Dx,Dx,Ag,lZ,Int32.ofInt_add,Alp,Alp]
theorem Abm(a b:Int32):Ca (Be (Ad a:Int) (Ad b:Int))=some (a*b):=by
 have ha:=EU a;have hb:=EU b;have h1: -9223372036854775808<=a.toInt*b.toInt/\a.toInt*b.toInt<=9223372036854775807:=by
  have h2:(a.toInt*b.toInt).natAbs<=2147483648*2147483648:=by
   rw[Int.natAbs_mul];exact An8 (by omega) (by omega)
  omega
 rw[Dx,Dx,Hr h1.1 h1.2,lZ,Int32.ofInt_mul,Alp,Alp]
def H0(s:Int)(t p:List Int32):Prop:=(s=9\/s=10)/\t.length=16/\p.length=16
theorem iU{s:Int}{t p:List Int32}(h:H0 s t p):HB s t p=some 0:=by
 obtain⟨rfl|rfl,_,_⟩:=h<;>rfl
theorem G9{l:List Int32}{k:Nat}(h:k<l.length):Aj l (k:Int)=some (l.getD k 0):=by
 rw[Cq h];simp[List.getD_eq_getElem?_getD,h]
def ZV(t p:List Int32):Nat->Int32
 |0=>0
 |i+1=>ZV t p i+t.getD i 0*p.getD i 0
def half(s:Int):Int32:=if s=9 then 256 else 512
def gF(s:Int)(t p:List Int32):Int32:=Int32.ofInt ((half s+ZV t p 16).toInt.fdiv (if s=9 then 512 else 1024))
theorem tA{s:Int}{t p:List Int32}(h:H0 s t p):∀(j i q:Nat),i+j=16->j<q->Ua t s p q (half s+ZV t p i) (i:Int)=some (gF s t p,0)
 |0,i,q+1,hi,_=>by
  obtain rfl:i=16:=by omega
  have hs:=h.1;rw[Ua,HW,Abe (by rw[Af];simp),RG,dB,Bw (by rw[Ef];simp;omega),Aa];obtain rfl|rfl:=hs<;>rfl
 |j+1,i,q+1,hi,hq=>by
  obtain⟨hs,ht,hp⟩:=h;rw[Ua,HW,Acz (by rw[Af];simp;omega),G9 (by omega),Aa,G9 (by omega),Aa,Aa,Ag (b:=1) (by omega) (by omega),SM,mS,Int32.add_assoc];exact tA ⟨hs,ht,hp⟩ j (i+1) q (by omega) (by omega)
theorem Abc{s:Int}{t p:List Int32}(h:H0 s t p):UY s t p=some (gF s t p,0):=by
 have hs:=h.1;have h1:=tA h 16 0 Az (by omega) (by have:=As;omega);have e:Ej (1:Int32) (GI.toZ (Am s (1:Int))).toNat=half s+ZV t p 0:=by
  obtain rfl|rfl:=hs<;>rfl
 rw[UY,RD,iU h,Aa,Abe (by rw[Ah];simp),Bw (by rw[Ef,Bk];simp;omega),Aa,RN,e];exact h1
theorem qJ{s:Int}{t p:List Int32}(ht:t.length=16)(hp:p.length=16){g:Int32}(hg:ZV t p 16=g):∀(j i q:Nat),i+j=16->j<q->Ia s t p q (ZV t p i).toInt (i:Int)=some g
 |0,i,q+1,hi,_=>by
  obtain rfl:i=16:=by omega
  rw[Ia,Pe,Abe (by rw[Af];simp),Yw,LJ,MP,Alp,hg]
 |j+1,i,q+1,hi,hq=>by
  have ih:=qJ (s:=s) ht hp hg j (i+1) q (by omega) (by omega);rw[ZV]at ih;rw[Ia,Pe,Acz (by rw[Af];simp;omega),G9 (by omega),G9 (by omega),Aa,Aa,Aa,Aa,Abm,Aa,<-Dx (ZV t p i),fI,Aa,Dx,Ag];exact ih
theorem Aai{s:Int}{t p:List Int32}(h:H0 s t p):GL s t p=some (ZV t p 16):=
 qJ h.2.1 h.2.2 rfl 16 0 Az (by omega) (by have:=As;omega)
theorem pz(x n:Int)(hn:n=512\/n=1024\/n=16\/n=32):(if x.tmod n<0 then x.tdiv n-1 else x.tdiv n)=x.fdiv n:=by
 have hs:n.sign=1:=by obtain rfl|rfl|rfl|rfl:=hn<;>rfl
 rw[Int.tdiv_eq_ediv,Int.tmod_eq_emod,hs,Akh _ (by omega)];by_cases h:0<=x\/n∣x
 ·rw[Acz h,Acz h];obtain rfl|rfl|rfl|rfl:=hn<;>(rw[Abe (by omega)];omega)
 ·rw[Abe h,Abe h];obtain rfl|rfl|rfl|rfl:=hn<;>(rw[Acz (by omega)];omega)
theorem qR(x n:Int)(hn:n=512\/n=1024\/n=16\/n=32)(h: -1000000000000<=x)(h':x<=1000000000000): -1000000000000<=x.tdiv n/\x.tdiv n<=1000000000000:=by
 have hs:n.sign=1:=by obtain rfl|rfl|rfl|rfl:=hn<;>rfl
 rw[Int.tdiv_eq_ediv,hs];by_cases h:0<=x\/n∣x
 ·rw[Acz h];obtain rfl|rfl|rfl|rfl:=hn<;>omega
 ·rw[Abe h];obtain rfl|rfl|rfl|rfl:=hn<;>omega
theorem Akg(x n:Int)(hn:n=512\/n=1024\/n=16\/n=32)(h: -1000000000000<=x)(h':x<=1000000000000):Cg x n=x.tdiv n:=by
 have:=qR x n hn h h';rw[KE,Bs (by omega) (by omega)]
theorem A5(x n:Int)(hn:n=512\/n=1024\/n=16\/n=32)(h: -1000000000000<=x)(h':x<=1000000000000):
  (if(Cp (Is x n) (0:Int))=true then some (Ad (Am (Cg x n) (1:Int)):Int32)else some (Ad (Cg x n):Int32))=some (Int32.ofInt (x.fdiv n)):=by
 have hb:=qR x n hn h h';rw[Af,Is,Akg x n hn h h',Bk,MP,MP,<-pz x n hn];by_cases hx:x.tmod n<0
 ·rw[Acz (by simpa using hx),Acz hx]
 ·rw[Abe (by simpa using hx),Abe hx]
theorem Ad2{s:Int}{t p:List Int32}(h:H0 s t p):Vp s t p=some (gF s t p):=by
 obtain⟨hs,ht,hp⟩:=h;have h:H0 s t p:=⟨hs,ht,hp⟩;have hx:=EU (ZV t p 16+half s);have key:∀n:Int,(n=512\/n=1024)-> (half s).toInt=n/2->gF s t p=Int32.ofInt ((half s+ZV t p 16).toInt.fdiv n)->Oj s t p n=some (gF s t p):=by
  intro n hn hh hg;have e2:Cg n (2:Int)=(half s).toInt:=by rw[hh];obtain rfl|rfl:=hn<;>rfl
  rw[Oj,IG,Aai h,Aa,e2,<-Dx (half s),fI,Aa,Bw (by rw[Ah];simp;omega),Aa,Aa,Dx,A5 _ n (by omega) (by omega) (by omega),hg,Int32.add_comm]
 rw[Vp,Wk];obtain rfl|rfl:=hs
 ·rw[Acz (by rw[Bf];rfl)];exact key 512 (.inl rfl) rfl rfl
 ·rw[Abe (by rw[Bf];decide)];exact key 1024 (.inr rfl) rfl rfl
def xL(i:Nat):Int32:=if i=0 then 4 else if i<4 then 2 else 1
def sg(x:Int32):Int32:=if x.toInt<0 then -1 else if 0<x.toInt then 1 else 0
def sC(t p:List Int32)(w:Int32):List Int32:=(List.range 16).map λi=>t.getD i 0+xL i*sg (p.getD i 0)*sg w
theorem IB(t p:List Int32)(w:Int32):(sC t p w).length=16:=by simp[sC]
theorem vS(t p:List Int32)(w:Int32){i:Nat}(h:i<16):(sC t p w).getD i 0=t.getD i 0+xL i*sg (p.getD i 0)*sg w:=by
 rw[Mk (by rw[IB];exact h)];simp[sC]
theorem step_eq(i:Nat):SP (i:Int)=some (xL i):=by
 rw[SP,xL];by_cases h:i=0
 ·rw[Acz (by rw[Bf];simp[h]),Acz h]
 ·rw[Abe (by rw[Bf];simp;omega),Abe h];by_cases h2:i<4
  ·rw[Acz (by rw[Af];simp;omega),Acz h2]
  ·rw[Abe (by rw[Af];simp;omega),Abe h2]
theorem ji(i:Nat):Vw (i:Int)=some (xL i):=by
 rw[Vw,xL];by_cases h:i=0
 ·rw[Acz (by rw[Bf];simp[h]),Acz h]
 ·rw[Abe (by rw[Bf];simp;omega),Abe h];by_cases h2:i<4
  ·rw[Acz (by rw[tO];simp;omega),Acz h2]
  ·rw[Abe (by rw[tO];simp;omega),Abe h2]
theorem vU(a b:Int32):Cp a b=decide (a.toInt<b.toInt):=rfl
theorem J6(a b:Int32):Fv a b=decide (b.toInt<a.toInt):=rfl
theorem sign_eq(x:Int32):Nn x=some (sg x):=by
 rw[Nn,sg,vU,J6,show(0:Int32).toInt=0 from rfl];by_cases h:x.toInt<0
 ·rw[Acz (by simpa using h),Acz h]
 ·rw[Abe (by simpa using h),Abe h];by_cases h2:0<x.toInt
  ·rw[Acz (by simpa using h2),Acz h2]
  ·rw[Abe (by simpa using h2),Abe h2]
theorem T2:sg 0=0:=rfl
theorem toInt_ne{x:Int32}(h:x≠0):x.toInt≠0:=λe=>h (Int32.toInt_inj.1 (by rw[e];rfl))
theorem uZ{x:Int32}(h:x.toInt<0):sg x= -1:=by rw[sg,Acz h]
theorem vA{x:Int32}(h:x≠0)(h2:¬x.toInt<0):sg x=1:=by
 have:=toInt_ne h;rw[sg,Abe h2,Acz (by omega)]
theorem bN(i:Nat):xL i=4\/xL i=2\/xL i=1:=by
 unfold xL;by_cases h:i=0
 ·rw[Acz h];exact .inl rfl
 ·rw[Abe h];split;exact .inr (.inl rfl);exact .inr (.inr rfl)
theorem jy{x w:Int32}(hx:x≠0)(hw:w≠0)(h:(x.toInt<0)=(w.toInt<0))(i:Nat):xL i*sg x*sg w=xL i:=by
 by_cases h1:x.toInt<0
 ·rw[uZ h1,uZ (by rw[<-h];exact h1)];obtain e|e|e:=bN i<;>rw[e]<;>decide
 ·rw[vA hx h1,vA hw (by rw[<-h];exact h1)];obtain e|e|e:=bN i<;>rw[e]<;>decide
theorem I1{x w:Int32}(hx:x≠0)(hw:w≠0)(h:¬(x.toInt<0)=(w.toInt<0))(i:Nat)(a:Int32):a+xL i*sg x*sg w=a-xL i:=by
 have key:xL i*sg x*sg w=-xL i:=by
  by_cases h1:x.toInt<0
  ·have h2:¬w.toInt<0:=λh2=>h (propext ⟨λ_=>h2,λ_=>h1⟩);rw[uZ h1,vA hw h2];obtain e|e|e:=bN i<;>rw[e]<;>decide
  ·have h2:w.toInt<0:=Decidable.by_contra λh2=>h (propext ⟨λh3=>absurd h3 h1,λh3=>absurd h3 h2⟩);rw[vA hx h1,uZ h2];obtain e|e|e:=bN i<;>rw[e]<;>decide
 rw[key,Int32.sub_eq_add_neg]
def gO(i:Nat):Nat->Bool:=λj=>decide (j<i)
theorem qV{a b:List Int32}{i:Nat}(h:i<a.length):Pd (ZI (gO i) a b) (i:Int) (a.getD i 0)=some (ZI (gO (i+1)) a b):=by
 rw[gT h];congr 1;apply BO;intro k _;rw[Ah4];simp only[gO,Ani,Ada];omega
theorem om{a b:List Int32}{i:Nat}(e:a.getD i 0=b.getD i 0):ZI (gO i) a b=ZI (gO (i+1)) a b:=by
 apply List.map_congr_left;intro k _;simp only[gO,Ada];by_cases h1:k<i
 ·rw[Acz h1,Acz (by omega)]
 ·by_cases h2:k=i
  ·subst h2;rw[Abe h1,Acz (by omega),e]
  ·rw[Abe h1,Abe (by omega)]
theorem C9{a b:List Int32}{i:Nat}(h:i<a.length):Aj (ZI (gO i) a b) (i:Int)=some (b.getD i 0):=by
 rw[QQ h,Abe (by simp[gO])]
theorem uJ{s:Int}{t p:List Int32}{w:Int32}(hw:w≠0)(ht:t.length=16)(hp:p.length=16):∀(j i q:Nat),i+j=16->j<q->Tu w p s q (i:Int) (ZI (gO i) (sC t p w) t)=some (s,sC t p w,p,0)
 |0,i,q+1,hi,_=>by
  obtain rfl:i=16:=by omega
  rw[Tu,HX,Abe (by rw[Af];simp),gM (λk hk=>by rw[IB]at hk;simpa [gO]using hk)];rfl
 |j+1,i,q+1,hi,hq=>by
  have hl:=IB t p w;have hg:=vS t p w (i:=i) (by omega);rw[Tu,HX,Acz (by rw[Af];simp;omega),G9 (by omega),Aa,Ag (b:=1) (by omega) (by omega),C9 (by omega),step_eq];simp only[Aa];rw[SM,oE,R4,vU,vU,show(0:Int32).toInt=0 from rfl];have ih:=uJ (s:=s) hw ht hp j (i+1) q (by omega) (by omega);by_cases hx:p.getD i 0=0
  ·rw[Acz (by rw[hx];rfl),om (by rw[hg,hx,T2,Int32.mul_zero,Int32.zero_mul,Int32.add_zero])];exact ih
  ·rw[Abe (by simpa using hx)];by_cases hs:((p.getD i 0).toInt<0)=(w.toInt<0)
   ·rw[Acz (by rw[Ang];simp only[hs]),show t.getD i 0+xL i=(sC t p w).getD i 0 by rw[hg,jy hx hw hs],qV (by omega),Aa];exact ih
   ·rw[Abe (by rw[Ang,decide_eq_decide];exact λh=>hs (propext h)),show t.getD i 0-xL i=(sC t p w).getD i 0 by rw[hg,I1 hx hw hs],qV (by omega),Aa];exact ih
theorem uw{t:List Int32}(p:List Int32)(ht:t.length=16):sC t p 0=t:=by
 apply Al6 (by rw[IB,ht]);intro i h1 h2;have:=vS t p 0 (i:=i) (by omega);rw[Mk h1,Mk h2]at this;rw[this,T2,Int32.mul_zero,Int32.add_zero]
theorem Aa9{s:Int}{t p:List Int32}(h:H0 s t p)(w:Int32):WQ s t p w=some (s,sC t p w,p,0):=by
 rw[WQ,RT,iU h,Aa,Abe (by rw[Ah];simp),R4];by_cases hw:w=0
 ·rw[Acz (by simpa using hw),hw,uw p h.2.1]
 ·have h1:=uJ (s:=s) hw h.2.1 h.2.2 16 0 Az (by omega) (by have:=As;omega);rw[fC (by rw[IB,h.2.1]) (λk _=>by simp[gO])]at h1;rw[Abe (by simpa using hw)];exact h1
theorem gA{s:Int}{t p:List Int32}{w:Int32}(ht:t.length=16)(hp:p.length=16):∀(j i q:Nat),i+j=16->j<q->Er w s p q (i:Int) (ZI (gO i) (sC t p w) t)=some (s,sC t p w,p)
 |0,i,q+1,hi,_=>by
  obtain rfl:i=16:=by omega
  rw[Er,Jq,Abe (by rw[Af];simp),gM (λk hk=>by rw[IB]at hk;simpa [gO]using hk)];rfl
 |j+1,i,q+1,hi,hq=>by
  have hl:=IB t p w;have hg:=vS t p w (i:=i) (by omega);rw[Er,Jq,Acz (by rw[Af];simp;omega),G9 (l:=p) (by omega),Ag (b:=1) (by omega) (by omega),C9 (by omega),ji,sign_eq w,Aa,Aa,Aa,Aa,Aa,sign_eq,Aa,Aa,Aa,SM,mS,mS,<-hg,qV (by omega),Aa];exact gA ht hp j (i+1) q (by omega) (by omega)
theorem O0{s:Int}{t p:List Int32}(h:H0 s t p)(w:Int32):Wg s t p w=some (s,sC t p w,p):=by
 have h1:=gA (s:=s) (w:=w) h.2.1 h.2.2 16 0 Az (by omega) (by have:=As;omega);rw[fC (by rw[IB,h.2.1]) (λk _=>by simp[gO])]at h1;exact h1
theorem Aea{p:List Int32}(h:p.length=16):∃a0 a1 a2 a3 a4 a5 a6 a7 a8 a9 b0 b1 b2 b3 b4 b5,p=[a0,a1,a2,a3,a4,a5,a6,a7,a8,a9,b0,b1,b2,b3,b4,b5]:=by
 match p,h with
 |[a0,a1,a2,a3,a4,a5,a6,a7,a8,a9,b0,b1,b2,b3,b4,b5],_=>exact⟨a0,a1,a2,a3,a4,a5,a6,a7,a8,a9,b0,b1,b2,b3,b4,b5,rfl⟩
theorem Adp{s:Int}{t p:List Int32}(h:H0 s t p)(x:Int32):bY s t p x=some (s,t,x::p.take 15,0):=by
 obtain⟨hs,ht,hp⟩:=h;rw[bY,MC,iU ⟨hs,ht,hp⟩,Aa,Abe (by rw[Ah];simp),show eX (16:Int) 1 16=some ()from rfl,Aa,show eX (16:Int) 0 16=some ()from rfl,Aa,VH,fG];obtain⟨a0,a1,a2,a3,a4,a5,a6,a7,a8,a9,b0,b1,b2,b3,b4,b5,rfl⟩:=Aea hp;rfl
def vK(p:List Int32)(i:Nat):List Int32:=(List.range 16).map λk=>if k<=i then p.getD k 0 else p.getD (k-1) 0
theorem AH(p:List Int32)(i:Nat):(vK p i).length=16:=by simp[vK]
theorem Aew(p:List Int32)(i k:Nat)(h:k<16):(vK p i).getD k 0=if k<=i then p.getD k 0 else p.getD (k-1) 0:=by
 rw[Mk (by rw[AH];exact h)];simp[vK]
theorem Ae6(p:List Int32)(i:Nat)(h:i+1<16):Pd (vK p (i+1)) ((i+1:Nat):Int) (p.getD i 0)=some (vK p i):=by
 rw[Zg _ (by rw[AH];exact h)];congr 1;apply Al6 (by simp[AH]);intro k h1 h2;rw[AH]at h2;rw[Aok];simp only[vK,An6,An2];by_cases hk:i+1=k
 ·subst hk;rw[Acz rfl,Abe (by omega)];rfl
 ·rw[Abe hk];by_cases h3:k<=i
  ·rw[Acz (by omega),Acz h3]
  ·rw[Abe (by omega),Abe h3]
theorem lB(s:Int)(t p:List Int32)(x:Int32)(hp:p.length=16):∀(i q:Nat),i<16->i<q->Fg x s t q (i:Int) (vK p i)=some (s,t,x::p.take 15)
 |0,q+1,_,_=>by
  have hg:Aj (vK p 0) (0:Int)=some ((vK p 0).getD 0 0):=G9 (l:=vK p 0) (k:=0) (by rw[AH];omega);have hset:Pd (vK p 0) (0:Int) x=some ((vK p 0).set 0 x):=Zg (l:=vK p 0) (n:=0) x (by rw[AH];omega);rw[Fg,Lg,Abe (by rw[Ap];simp),Rq,DK,hg,Aa,hset,Aa];congr 3;apply Al6 (by simp[AH,hp]);intro k h1 h2;rw[Anj,AH]at h1;rw[Aok];cases k with
  |zero=>rw[Acz rfl];rfl
  |succ k=>
   rw[Abe (by omega)];simp only[vK,An6,An2,List.getElem_cons_succ,List.getElem_take];rw[Abe (by omega),Nat.add_sub_cancel,Mk (by omega)]
 |i+1,q+1,hi,hq=>by
  have hg:=G9 (l:=vK p (i+1)) (k:=i) (by rw[AH];omega);rw[Aew p (i+1) i (by omega),Acz (by omega)]at hg;have e1:Am ((i+1:Nat):Int) (1:Int)=(i:Int):=by rw[Bk];omega
  have hg2:=G9 (l:=vK p (i+1)) (k:=i+1) (by rw[AH];omega);rw[Fg,Lg,Acz (by rw[Ap];simp),e1,hg,Aa,Aa,hg2,Aa,Ae6 p i hi,Aa];exact lB s t p x hp i q (by omega) (by omega)
theorem ni{s:Int}{t p:List Int32}(hp:p.length=16)(x:Int32):Yt s t p x=some (s,t,x::p.take 15):=by
 have h:=lB s t p x hp 15 Az (by omega) (by have:=As;omega);have e:vK p 15=p:=by
  apply Al6 (by rw[AH,hp]);intro k h1 h2;rw[AH]at h1;simp only[vK,An6,An2];rw[Acz (by omega),Mk h2]
 rw[e]at h;exact h
theorem yx{s:Int}{t p:List Int32}(h:H0 s t p)(w x:Int32):H0 s (sC t p w) (x::p.take 15):=⟨h.1,IB _ _ _,by simp[h.2.2]⟩
theorem Afe{s:Int}{t p:List Int32}(h:H0 s t p)(y:Int32):aS s t p y=some (y+gF s t p,s,sC t p y,(y+gF s t p)::p.take 15,0):=by
 rw[aS,Abc h,Aa];simp only;rw[Abe (by rw[Ah];simp),SM,dM,Aa9 h,Aa];simp only;rw[Adp (s:=s) (t:=sC t p y) (p:=p) ⟨h.1,IB _ _ _,h.2.2⟩,Aa];rfl
theorem Y6{s:Int}{t p:List Int32}(h:H0 s t p)(y:Int32):Ns s t p y=some (y+gF s t p,s,sC t p y,(y+gF s t p)::p.take 15):=by
 rw[Ns,Ad2 h,Aa,fI,Aa,O0 h,Aa];simp only;rw[ni h.2.2,Aa]
def sB(bits:Int):Int:=if bits=16 then 9 else 10
def shB(bits:Int):Int:=if bits=8 then 4 else 5
def Cb(bits:Int):Prop:=bits=8\/bits=16\/bits=24
def gs(sh:Int)(last:Int32):Int32:=Ad (wE (Am (Ej (Ad last:Int) sh.toNat) (Ad last)) sh.toNat)
theorem Akn(bits:Int):sB bits=9\/sB bits=10:=by unfold sB;split<;>simp
theorem Ae7(bits:Int):0<=shB bits:=by unfold shB;split<;>omega
theorem Ame{bits:Int}(h:Cb bits)(t:List Int32):gI bits t=some (sB bits,t,List.replicate 16 0,0):=by
 obtain rfl|rfl|rfl:=h<;>rfl
theorem Ai9{bits:Int}(h:Cb bits):ZH bits=some (shB bits,0):=by
 obtain rfl|rfl|rfl:=h<;>rfl
theorem Ah1{sh:Int}(h:0<=sh)(last:Int32):QB sh last=some (gs sh last):=by
 rw[QB,Bw (by rw[Ef];simpa using h),Aa,Aa];rfl
theorem Aij{bits:Int}(h:Cb bits)(last:Int32):IQ bits last=some (gs (shB bits) last,0):=by
 rw[IQ,Ai9 h,Aa];simp only;rw[Abe (by rw[Ah];simp),Ah1 (Ae7 bits),Aa]
theorem N3{bits:Int}(h:Cb bits)(last:Int32)(t p:List Int32):IP bits last (sB bits) t p=some 0:=by
 rw[IP,Ame h,Aa];simp only;rw[Abe (by rw[Ah,Ah];simp)]
theorem eu{bits:Int}(h:Cb bits){t p:List Int32}(hF:H0 (sB bits) t p)(last y:Int32):
  Kl bits last (sB bits) t p y=some (y+gF (sB bits) t p+gs (shB bits) last,bits,y+gF (sB bits) t p+gs (shB bits) last,sB bits,sC t p y,(y+gF (sB bits) t p)::p.take 15,0):=by
 rw[Kl,N3 h,Aa,Abe (by rw[Ah];simp),Aij h,Aa];simp only;rw[Afe hF,Aa];simp only;rw[SM]
theorem jK(sh:Int)(hs:sh=4\/sh=5)(last:Int32):Kv sh last=some (gs sh last):=by
 have hl:=EU last;have key:∀n:Int,n=16\/n=32->gs sh last=Int32.ofInt (((n-1)*last.toInt).fdiv n)->Lf last n=some (gs sh last):=by
  intro n hn hg;have e:Be (Am n (1:Int)) (Ad last:Int)=(n-1)*last.toInt:=by
   obtain rfl|rfl:=hn<;>(rw[Dx,Bk,Hr])
  rw[Lf,CV,Bw (by rw[Ah];simp;omega),Aa,Aa,e,A5 _ n (by omega) (by obtain rfl|rfl:=hn<;>omega) (by obtain rfl|rfl:=hn<;>omega),hg]
 rw[Kv,Te];obtain rfl|rfl:=hs
 ·rw[Abe (by rw[Bf];decide)];refine key 16 (.inl rfl) ?_;have e:Ej (Ad last:Int) (4:Int).toNat=last.toInt*16:=by
   rw[Dx];show wrap64 (last.toInt*2^4)=_;rw[Bs]<;>omega
  rw[gs,e,Dx,Bk,MP]
  show Int32.ofInt ((last.toInt*16-last.toInt).fdiv 16)=_;congr 2;omega
 ·rw[Acz (by rw[Bf];rfl)];refine key 32 (.inr rfl) ?_;have e:Ej (Ad last:Int) (5:Int).toNat=last.toInt*32:=by
   rw[Dx];show wrap64 (last.toInt*2^5)=_;rw[Bs]<;>omega
  rw[gs,e,Dx,Bk,MP]
  show Int32.ofInt ((last.toInt*32-last.toInt).fdiv 32)=_;congr 2;omega
theorem qw{bits:Int}(h:Cb bits){t p:List Int32}(hF:H0 (sB bits) t p)(last y:Int32):
  Gx bits last (sB bits) t p y=some (y+gF (sB bits) t p+gs (shB bits) last,bits,y+gF (sB bits) t p+gs (shB bits) last,sB bits,sC t p y,(y+gF (sB bits) t p)::p.take 15):=by
 have hb:Pp bits last (sB bits) t p=some (Ad (gs (shB bits) last):Int):=by
  rw[Pp];obtain rfl|rfl|rfl:=h
  ·rw[Acz (by rw[Bf];rfl),jK 4 (.inl rfl),Aa];rfl
  ·rw[Abe (by rw[Bf];decide),jK 5 (.inr rfl),Aa];rfl
  ·rw[Abe (by rw[Bf];decide),jK 5 (.inr rfl),Aa];rfl
 rw[Gx,Y6 hF,Aa];simp only;rw[hb,Aa,fI,Aa]
theorem Alb{bits:Int}(h:Cb bits)(t:List Int32):GK bits t=some (bits,0,sB bits,t,List.replicate 16 0,0):=by
 obtain rfl|rfl|rfl:=h<;>rfl
def WR(n:UInt32):Int32:=if n.toNat %2=0 then Int32.ofInt ((n.toNat/2:Nat):Int)else Int32.ofInt (-((n.toNat/2:Nat):Int)-1)
theorem B8(a b:Int32):(Zx a b).toBitVec=a.toBitVec^^^b.toBitVec:=by
 show(Int32.ofInt ((BitVec.ofInt 32 a.toBitVec.toInt^^^BitVec.ofInt 32 b.toBitVec.toInt).toNat:Int)).toBitVec=_;rw[BitVec.ofInt_toInt,BitVec.ofInt_toInt,Int32.toBitVec_ofInt,BitVec.ofInt_natCast,BitVec.ofNat_toNat,BitVec.setWidth_eq]
theorem Ala(m:Nat)(h:m<2147483648):Zx (Int32.ofInt (m:Int)) (Int32.ofInt (-1))=Int32.ofInt (-(m:Int)-1):=by
 apply Int32.toBitVec_inj.1;have e1:(Int32.ofInt (-1)).toBitVec=BitVec.allOnes 32:=by decide
 rw[B8,e1,BitVec.xor_allOnes,Int32.toBitVec_ofInt,Int32.toBitVec_ofInt];apply BitVec.eq_of_toNat_eq;rw[BitVec.toNat_not,Alr,Alr];omega
theorem Aa0(n:UInt32):Yk n=some (WR n):=by
 have hn:=n.toNat_lt;have e1:(Ad (Cr n (GI.toZ (1:UInt64)).toNat):Int32)=Int32.ofInt ((n.toNat/2:Nat):Int):=by
  show Int32.ofInt ((Cr n 1).toNat:Int)=_;rw[SL]
 have e2:(Ad (Hk n (1:UInt32)):Int32)=Int32.ofInt ((n.toNat %2:Nat):Int):=by
  show Int32.ofInt ((Hk n (1:UInt32)).toNat:Int)=_;rw[yW,UInt32.toNat_and]
  show Int32.ofInt ((n.toNat&&&1:Nat):Int)=_;rw[Nat.and_one_is_mod]
 rw[Yk,e1,e2,WR];congr 1;by_cases h:n.toNat %2=0
 ·have e3:fH (Int32.ofInt ((n.toNat %2:Nat):Int))=Int32.ofInt 0:=by rw[h];decide
  rw[Acz h,e3];apply Int32.toBitVec_inj.1;rw[B8,show(Int32.ofInt 0).toBitVec=0#32 from rfl,BitVec.xor_zero]
 ·have e3:fH (Int32.ofInt ((n.toNat %2:Nat):Int))=Int32.ofInt (-1):=by rw[show n.toNat %2=1 by omega];decide
  rw[Abe h,e3,Ala _ (by omega)]
theorem Ad9(n:UInt32):Ju n=some (WR n):=by
 have hn:=n.toNat_lt;have e1:geq (CJ n (2:UInt32)) (0:UInt32)=decide (n.toNat %2=0):=by
  rw[vE,yC,Ah4];simp only[Ang,<-UInt32.toNat_inj,UInt32.toNat_mod,Ada];rfl
 rw[Ju,e1,WR];by_cases h:n.toNat %2=0
 ·rw[Acz (by simpa using h),Acz h,yL];rfl
 ·have e2:(Ad n:Int)=(n.toNat:Int):=H5 n;rw[Abe (by simpa using h),Abe h,e2,Ag,vH,Bs (by omega) (by omega),KE,Int.tdiv_eq_ediv,MP];congr 2;rw[Acz (.inr (by omega)),Bs (by omega) (by omega)];omega
theorem yU{c:Prop} [Decidable c](h:c):Rj (decide c)=some ():=by rw[decide_eq_true h];rfl
def N0(f:Nat->Int32)(ch:Nat):Nat->Int32
 |0=>if 1<ch then f (ch-1)+Cg (f (ch-2)) (2:Int32)else f (ch-1)
 |j+1=>N0 f ch j-f (ch-2-j)
def oW(ch:Nat)(m:List Int32):List Int32:=(List.range m.length).map λk=>N0 (λi=>m.getD (k-k %ch+i) 0) ch (ch-1-k %ch)
theorem bM(ch:Nat)(m:List Int32):(oW ch m).length=m.length:=by simp[oW]
theorem mB{ch:Nat}{m:List Int32}{a i:Nat}(ha:a %ch=0)(hi:i<ch)(h:a+i<m.length):(oW ch m).getD (a+i) 0=N0 (λi=>m.getD (a+i) 0) ch (ch-1-i):=by
 have hb:(a+i) %ch=i:=by rw[Nat.add_mod,ha,Amp,Nat.mod_mod,Ac8 hi]
 rw[Mk (by rw[bM];exact h)];simp only[oW,An6,An2,hb];rw[show a+i-i=a by omega]
section
variable (ch:Nat) (m:List Int32)
theorem Aad(h1:1<=ch)(h6:ch<=6)(hm:m.length %ch=0)(hl2:m.length<=4000):bQ (ch:Int) m=some 0:=by
 rw[bQ,Abe (by simp[Af,Ap];omega),Abe (by rw[Ap,Ac];simp;omega),Bw (by rw[Ah];simp;omega),Aa,Abe];rw[Ah,Is,Ac,<-Int.ofNat_tmod,hm];simp
theorem mP(bk:Int->List Int32->Option (List Int32×Int))(at':Nat)(h1:1<=ch)(h6:ch<=6)(hm:at' %ch=0)(hl:at'+ch<=m.length)(hl2:m.length<=4000):∀(i q:Nat),i<=ch-1->i<q->
  Yi bk (ch:Int) (at':Int) q ((i:Int)-1) (ZI (λk=>decide (k<at'\/ (at'+i<=k/\k<at'+ch))) (oW ch m) m)=bk ((at'+ch:Nat):Int) (ZI (λk=>decide (k<at'+ch)) (oW ch m) m)
 |0,q+1,hi,_=>by
  have e4:Ae (at':Int) (ch:Int)=((at'+ch:Nat):Int):=by rw[Ag];omega
  rw[Yi,LV,Abe (by rw[Ef];simp),VC,gC,e4];congr 1;apply BO;intro k _;rw[Ah4];simp;omega
 |i+1,q+1,hi,hq=>by
  have hlen:=bM ch m;have e2:Ae (at':Int) (ch:Int)-(at':Int)=(ch:Int):=by rw[Ag];omega
  have e3:Ae (i:Int) 1=((i+1:Nat):Int):=by rw[Ag];omega
  have hv:((oW ch m).getD (at'+(i+1)) 0-m.getD (at'+i) 0)=(oW ch m).getD (at'+i) 0:=by
   rw[mB hm (by omega) (by omega),mB hm (by omega) (by omega),show ch-1-i=(ch-1-(i+1))+1 by omega,N0,show ch-2-(ch-1-(i+1))=i by omega]
  rw[Yi,LV,show((i+1:Nat):Int)-1=(i:Int) by omega,Acz (by rw[Ef];simp),e2,e3,yU (by omega),Aa,yU (by omega),Aa,
   show(at':Int)+((i+1:Nat):Int)=((at'+(i+1):Nat):Int) by omega,show(at':Int)+(i:Int)=((at'+i:Nat):Int) by omega,
   QQ (by omega),Aa,QQ (by omega),Aa,Aa,Acz (by simp;omega),Abe (by simp;omega),oE,hv,gT (by omega),Aa,Bk]
  have ih:=mP bk at' h1 h6 hm hl hl2 i q (by omega) (by omega);rw[<-ih];congr 1;apply BO;intro k _;rw[Ah4];simp;omega
theorem A6{at' ch n:Nat}(ha:at' %ch=0)(hm:n %ch=0)(h:at'<n):at'+ch<=n:=by
 have d1:=Aoe at' ch;have d2:=Aoe n ch;rw[ha,Anq]at d1;rw[hm,Anq]at d2;have hlt:at'/ch<n/ch:=by
  rcases Aof (at'/ch) (n/ch)with h'|h'
  ·exact h'
  ·have:=Nat.mul_le_mul_left ch h';omega
 have:=Nat.mul_le_mul_left ch (show at'/ch+1<=n/ch from hlt);rw[Nat.mul_add]at this;omega
theorem sJ(h1:1<=ch)(h6:ch<=6)(hm:m.length %ch=0)(hl2:m.length<=4000):∀(j at' q:Nat),at' %ch=0->at'<=m.length->m.length-at'<=j->j<q->
  Sg (ch:Int) q (at':Int) (ZI (λk=>decide (k<at')) (oW ch m) m)=some (oW ch m,0)
 |j,at',q+1,ha,hle,hj,hq=>by
  have hlen:=bM ch m;have hl:Ac (ZI (λk=>decide (k<at')) (oW ch m) m)=(m.length:Int):=by rw[Ac,VO,hlen]
  rw[Sg,UD,hl];by_cases h:at'<m.length
  ·have hb:=A6 ha hm h;obtain⟨j,rfl⟩:∃k,j=k+1:=⟨j-1,by omega⟩;have e1:Am (Ae (at':Int) (ch:Int)-(at':Int)) 1=((ch-1:Nat):Int):=by rw[Ag,Bk];omega
   have e2:Ae (at':Int) (ch:Int)-(at':Int)=(ch:Int):=by rw[Ag];omega
   have e4:Ae (at':Int) (ch:Int)=((at'+ch:Nat):Int):=by rw[Ag];omega
   have hi:=mP ch m (Sg (ch:Int) q) at' h1 h6 ha hb hl2 (ch-1) Az (by omega) (by have:=As;omega);have hrest:=sJ h1 h6 hm hl2 j (at'+ch) q (by rw[Aoo,ha]) hb (by omega) (by omega);have hstart:MG (Sg (ch:Int) q) (ch:Int) (at':Int) (ZI (λk=>decide (k<at'\/ (at'+(ch-1)<=k/\k<at'+ch))) (oW ch m) m)=some (oW ch m,0):=by
    have e6:Am ((ch-1:Nat):Int) 1=((ch-1:Nat):Int)-1:=Bk;rw[MG,TY,UG,e1,e6];exact Anl hi hrest
   rw[Acz (by rw[Af];simp;omega),show eX (m.length:Int) (at':Int) (Ae (at':Int) (ch:Int))=some () by rw[e4,eX,yU];omega,Aa,e1,e2];have hlast:=mB (m:=m) ha (show ch-1<ch by omega) (by omega);rw[show ch-1-(ch-1)=0 by omega,N0]at hlast;by_cases hc:1<ch
   ·have e5:Am ((ch-1:Nat):Int) 1=((ch-2:Nat):Int):=by rw[Bk];omega
    rw[Acz hc]at hlast;rw[Acz (by rw[Ap];simp;omega),yU (by omega),Aa,e5,yU (by omega),Aa,show(at':Int)+((ch-1:Nat):Int)=((at'+(ch-1):Nat):Int) by omega,show(at':Int)+((ch-2:Nat):Int)=((at'+(ch-2):Nat):Int) by omega,
     QQ (by omega),Aa,QQ (by omega),Aa,Aa,Abe (by simp),Abe (by simp),SM,<-hlast,gT (by omega),Aa]
    rw[<-hstart];congr 1;apply BO;intro k _;rw[Ah4];simp;omega
   ·have hc1:ch=1:=by omega
    rw[Abe (by rw[Ap];simp;omega),<-hstart];congr 1;rw[Abe hc]at hlast;apply List.map_congr_left;intro k hk;by_cases hk2:k=at'
    ·subst hk2;rw[Abe (by simp),Acz (by simp;omega)];rw[show k+(ch-1)=k by omega]at hlast;exact hlast.symm
    ·by_cases hk3:k<at'
     ·rw[Acz (by simp;omega),Acz (by simp;omega)]
     ·rw[Abe (by simp;omega),Abe (by simp;omega)]
  ·rw[Abe (by rw[Af];simp;omega),gM (λk hk=>by simp;omega)];rfl
theorem Aef(h1:1<=ch)(h6:ch<=6)(hm:m.length %ch=0)(hl2:m.length<=4000):fS (ch:Int) m=some (oW ch m,0):=by
 have hlen:=bM ch m;have h:=sJ ch m h1 h6 hm hl2 m.length 0 Az (by simp) (by omega) (by omega) (by have:=As;omega);rw[fS,aV,Aad ch m h1 h6 hm hl2,Aa,Abe (by rw[Ah];simp),Ge,Cc (by simp;omega),Aa,Aa,All,VI];rw[fC hlen.symm (λk _=>by simp)]at h;exact h
end
def jR(f:Nat->Int32)(ch:Nat):List Int32:=(List.range ch).map λi=>N0 f ch (ch-1-i)
theorem TC(f:Nat->Int32)(ch:Nat):(jR f ch).length=ch:=by simp[jR]
theorem gX(f:Nat->Int32){ch i:Nat}(h:i<ch):(jR f ch).getD i 0=N0 f ch (ch-1-i):=by
 rw[Mk (by rw[TC];exact h)];simp[jR]
theorem Abs(a b:Int32):Ca (Am (Ad a:Int) (Ad b:Int))=some (a-b):=by
 have:=EU a;have:=EU b;rw[Dx,Dx,Bk,lZ,Int32.ofInt_sub,Alp,Alp]
theorem lu(a b:Int32):Ca (Ae (Ad a:Int) (Cg (Ad b:Int) (2:Int)))=some (a+Cg b (2:Int32)):=by
 have:=EU a;have hb:=EU b;have hd: -2147483648<=b.toInt.tdiv 2/\b.toInt.tdiv 2<=2147483648:=by
  rw[Int.tdiv_eq_ediv,show Int.sign 2=1 from rfl];by_cases h:0<=b.toInt\/2∣b.toInt
  ·rw[Acz h];omega
  ·rw[Abe h];omega
 have e:Cg b (2:Int32)=Int32.ofInt (b.toInt.tdiv 2):=rfl;rw[Dx,Dx,KE,Bs (by omega) (by omega),Ag,lZ,Int32.ofInt_add,Alp,e]
theorem fO(seg z:List Int32)(ch:Nat)(h6:ch<=6)(hs:seg.length=ch)(hz:z.length=ch):∀(i q:Nat),i+1<=ch->i<q->
  El seg q ((i:Int)-1) (ZI (λk=>decide (i<=k)) (jR (λi=>seg.getD i 0) ch) z)=some (jR (λi=>seg.getD i 0) ch)
 |0,q+1,hi,_=>by
  rw[El,Jy,Abe (by rw[Ef];simp),gM (λk hk=>by simp)];rfl
 |i+1,q+1,hi,hq=>by
  have hlen:=TC (λi=>seg.getD i 0) ch;have e3:Ae (i:Int) 1=((i+1:Nat):Int):=by rw[Ag];omega
  have hv:(jR (λi=>seg.getD i 0) ch).getD (i+1) 0-seg.getD i 0=(jR (λi=>seg.getD i 0) ch).getD i 0:=by
   rw[gX _ (by omega),gX _ (by omega),show ch-1-i=(ch-1-(i+1))+1 by omega,N0,show ch-2-(ch-1-(i+1))=i by omega]
  rw[El,Jy,show((i+1:Nat):Int)-1=(i:Int) by omega,Acz (by rw[Ef];simp),e3,QQ (by omega),Aa,G9 (by omega),Aa,Aa,Acz (by simp),Abs,Aa,QQ (by omega),Aa,hv,gT (by omega),Aa,Bk];have ih:=fO seg z ch h6 hs hz i q (by omega) (by omega);rw[<-ih];congr 1;apply BO;intro k _;rw[Ah4];simp;omega
theorem C1{l:List Int32}{i:Nat}(v:Int32)(h:i<l.length):(l.set i v).getD i 0=v:=by
 rw[Mk (by rw[Anj];exact h)];simp
theorem H3(seg:List Int32)(ch:Nat)(h1:1<=ch)(h6:ch<=6)(hs:seg.length=ch):Of seg=some (jR (λi=>seg.getD i 0) ch):=by
 have hlen:=TC (λi=>seg.getD i 0) ch;have hzl:(List.replicate ch (0:Int32)).length=ch:=by simp
 have e1:Am (Ac seg) 1=((ch-1:Nat):Int):=by rw[Ac,hs,Bk];omega
 have e2:Am (Ac seg) 2=((ch-1:Nat):Int)-1:=by rw[Ac,hs,Bk];omega
 have hlast:=gX (λi=>seg.getD i 0) (show ch-1<ch by omega);rw[show ch-1-(ch-1)=0 by omega,N0]at hlast;have hend:∀z:List Int32,z.length=ch->z.getD (ch-1) 0=(jR (λi=>seg.getD i 0) ch).getD (ch-1) 0->Jt seg z=some (jR (λi=>seg.getD i 0) ch):=by
  intro z hz hzl;have h:=fO seg z ch h6 hs hz (ch-1) Az (by omega) (by have:=As;omega);have e:ZI (λk=>decide (ch-1<=k)) (jR (λi=>seg.getD i 0) ch) z=z:=by
   apply Al6 (by rw[VO,hlen,hz]);intro k k1 k2;rw[BQ];by_cases hk:ch-1<=k
   ·obtain rfl:k=ch-1:=by omega
    rw[Acz (by simp),<-hzl,Mk k2]
   ·rw[Abe (by simpa using hk),Mk k2]
  rw[e]at h;rw[Jt,Re,e2];exact h
 rw[Of,Qg,Ac,hs,lA,Aa,Bw (by rw[Bf];simp),Aa];rw[Ac,hs]at e1;rw[Ac,hs]at e2;have hz1:(List.replicate (Int.toNat (ch:Int)) (0:Int32)).length=ch:=by simp
 have hs1:=G9 (l:=seg) (k:=ch-1) (by omega);rw[e1,hs1,Aa,G9 (by omega),Aa,Zg _ (by omega),Aa];by_cases hc:1<ch
 ·rw[Acz hc]at hlast;have e3:((ch-1:Nat):Int)-1=((ch-2:Nat):Int):=by omega
  have hs2:=G9 (l:=seg) (k:=ch-2) (by omega);rw[Acz (by rw[Ap];simp;omega),Aa,e2,e3,hs2,Aa,lu,Aa,G9 (by rw[Anj];omega),Aa,Zg _ (by rw[Anj];omega),Aa];refine hend _ (by simp) ?_;rw[hlast,C1 _ (by rw[Anj];omega)]
 ·rw[Abe hc]at hlast;rw[Abe (by rw[Ap];simp;omega)];refine hend _ (by simp) ?_;rw[hlast,C1 _ (by omega)]
theorem Afb(ch:Nat)(m:List Int32)(h1:1<=ch)(h6:ch<=6)(hm:m.length %ch=0)(hl2:m.length<=4000):Lu (ch:Int) m=some 0:=by
 rw[Lu,Abe (by simp[Af,Ap];omega),Abe (by rw[Ap,Ac];simp;omega),Bw (by rw[Ah];simp;omega),Aa,Abe];rw[Ap,Is,Ac,<-Int.ofNat_tmod,hm];simp
theorem kC(ch:Nat)(m:List Int32)(h1:1<=ch)(h6:ch<=6)(hm:m.length %ch=0)(hl2:m.length<=4000):∀(j at' q:Nat),at' %ch=0->at'<=m.length->m.length-at'<=j->j<q->
  Jk (ch:Int) m q (at':Int) ((oW ch m).take at')=some (oW ch m,0)
 |j,at',q+1,ha,hle,hj,hq=>by
  have hlen:=bM ch m;rw[Jk,Xu];by_cases h:at'<m.length
  ·have hb:=A6 ha hm h;have e4:Ae (at':Int) (ch:Int)=((at'+ch:Nat):Int):=by rw[Ag];omega
   have hrest:=kC ch m h1 h6 hm hl2 (j-1) (at'+ch) q (by rw[Aoo,ha]) hb (by omega) (by omega);have hseg:((m.take (at'+ch)).drop at').length=ch:=by simp;omega
   have htl:((oW ch m).take at').length=at':=by simp[hlen];omega
   rw[Acz (by rw[Af,Ac];simp;omega),e4,Wn,Aa,show((at'+ch:Nat):Int).toNat=at'+ch from rfl,show(at':Int).toNat=at' from rfl,H3 _ ch h1 h6 hseg,Aa,Cc (by rw[htl,TC];omega),Aa];have e:(oW ch m).take at'++jR (λi=>((m.take (at'+ch)).drop at').getD i 0) ch=(oW ch m).take (at'+ch):=by
    apply Al6 (by rw[Agv,htl,TC,Ahf,hlen];omega);intro k k1 k2;rw[Ahf,hlen]at k2;rw[List.getElem_append,List.getElem_take];by_cases hk:k<at'
    ·rw[dif_pos (by rw[htl];exact hk),List.getElem_take]
    ·rw[dif_neg (by rw[htl];exact hk)];have hu:=mB (m:=m) ha (show k-at'<ch by omega) (by omega);rw[show at'+(k-at')=k by omega,Mk (by omega)]at hu;have hx:∀n,n<=ch->N0 (λi=>((m.take (at'+ch)).drop at').getD i 0) ch n=N0 (λi=>m.getD (at'+i) 0) ch n:=by
      have hf:∀i,i<ch-> ((m.take (at'+ch)).drop at').getD i 0=m.getD (at'+i) 0:=by
       intro i hi;rw[Mk (by omega),Mk (by omega)];simp
      intro n
      induction n with
      |zero=>
       intro _;rw[N0,N0,hf _ (by omega)];split
       ·rw[hf _ (by omega)]
       ·rfl
      |succ n ih=>intro hn;rw[N0,N0,ih (by omega),hf _ (by omega)]
     have hy:=gX (λi=>((m.take (at'+ch)).drop at').getD i 0) (show k-at'<ch by omega);rw[Mk (by rw[TC];omega)]at hy;rw[hu,<-hx _ (by omega),<-hy];congr 1;rw[htl]
   rw[e];exact hrest
  ·rw[Abe (by rw[Af,Ac];simp;omega),Amr (by omega)];rfl
theorem jr(ch:Nat)(m:List Int32)(h1:1<=ch)(h6:ch<=6)(hm:m.length %ch=0)(hl2:m.length<=4000):Vo (ch:Int) m=some (oW ch m,0):=by
 have h:=kC ch m h1 h6 hm hl2 m.length 0 Az (by simp) (by omega) (by omega) (by have:=As;omega);rw[Vo,Wi,Afb ch m h1 h6 hm hl2,Aa,Abe (by rw[Ah];simp)];exact h
def pre{α:Type}(ch c:Nat)(f:α->Nat->α)(a0:α):Nat->α
 |0=>a0
 |m+1=>if m %ch=c then f (pre ch c f a0 m) m else pre ch c f a0 m
theorem X1{α:Type}(ch c:Nat)(f:α->Nat->α)(a0:α):∀m,m<=c->c<ch->pre ch c f a0 m=a0
 |0,_,_=>rfl
 |m+1,h,h2=>by rw[pre,Abe (by rw[Ac8 (by omega)];omega),X1 ch c f a0 m (by omega) h2]
theorem xM{α:Type}(ch c i:Nat)(f:α->Nat->α)(a0:α)(hi:i %ch=c)(hc:c<ch):∀j,j<ch->pre ch c f a0 (i+1+j)=pre ch c f a0 (i+1)
 |0,_=>rfl
 |j+1,h=>by
  have hne:(i+1+j) %ch≠c:=by
   intro e;have h1:(i+(1+j)) %ch=i %ch:=by rw[hi,<-e];congr 1;omega
   have h2:(1+j) %ch=0:=by
    have h3:=Nat.sub_mod_eq_zero_of_mod_eq h1;rwa [An7]at h3
   rw[Ac8 (by omega)]at h2;omega
  rw[show i+1+(j+1)=(i+1+j)+1 by omega,pre,Abe hne,xM ch c i f a0 hi hc j (by omega)]
theorem Aag{α:Type}(ch c i:Nat)(f:α->Nat->α)(a0:α)(hi:i %ch=c)(hc:c<ch):pre ch c f a0 (i+ch)=f (pre ch c f a0 i) i:=by
 have h:=xM ch c i f a0 hi hc (ch-1) (by omega);rw[show i+1+(ch-1)=i+ch by omega]at h;rw[h,pre,Acz hi]
abbrev CS:=Int32×List Int32×List Int32
def wu(bits:Int)(s:CS)(y:Int32):Int32:=y+gF (sB bits) s.2.1 s.2.2+gs (shB bits) s.1
def S7(bits:Int)(s:CS)(y:Int32):CS:=(wu bits s y,sC s.2.1 s.2.2 y,(y+gF (sB bits) s.2.1 s.2.2)::s.2.2.take 15)
def cst(bits:Int)(ch:Nat)(t:List Int32)(v:List UInt32)(c:Nat):Nat->CS:=pre ch c (λs i=>S7 bits s (WR (v.getD i 0))) (0,t,List.replicate 16 0)
def OkC(bits:Int)(s:CS):Prop:=H0 (sB bits) s.2.1 s.2.2
theorem O4(bits:Int)(ch:Nat){t:List Int32}(ht:t.length=16)(v:List UInt32)(c:Nat):∀m,OkC bits (cst bits ch t v c m)
 |0=>⟨Akn bits,ht,by simp[cst,pre]⟩
 |m+1=>by
  have ih:=O4 bits ch ht v c m;rw[cst,pre];split
  ·exact yx ih _ _
  ·exact ih
def kQ(bits:Int)(ch:Nat)(t:List Int32)(v:List UInt32):List Int32:=(List.range v.length).map λi=>wu bits (cst bits ch t v (i %ch) i) (WR (v.getD i 0))
theorem bU(bits:Int)(ch:Nat)(t:List Int32)(v:List UInt32):(kQ bits ch t v).length=v.length:=by simp[kQ]
theorem U7(bits:Int)(ch:Nat)(t:List Int32)(v:List UInt32){i:Nat}(h:i<v.length):(kQ bits ch t v).getD i 0=wu bits (cst bits ch t v (i %ch) i) (WR (v.getD i 0)):=by
 rw[Mk (by rw[bU];exact h)];simp[kQ]
abbrev CL:=Int×Int32×(Int×(List Int32)×(List Int32)×Unit)×Unit
def toC(bits:Int)(s:CS):CL:=(bits,s.1,(sB bits,s.2.1,s.2.2,()),())
def cts(bits:Int)(ch:Nat)(t:List Int32)(v:List UInt32)(i:Nat):List CL:=(List.range 6).map λc=>toC bits (cst bits ch t v c i)
theorem Afz{bits:Int}{ch:Nat}{t:List Int32}{v:List UInt32}{i c:Nat}(h:c<6):Aj (cts bits ch t v i) (c:Int)=some (toC bits (cst bits ch t v c i)):=by
 rw[Cq (by simp[cts];exact h)];simp[cts]
theorem yM(bits:Int)(ch:Nat)(t:List Int32)(v:List UInt32)(c m:Nat):cst bits ch t v c (m+1)=if m %ch=c then S7 bits (cst bits ch t v c m) (WR (v.getD m 0))else cst bits ch t v c m:=rfl
theorem Afn{bits:Int}{ch:Nat}{t:List Int32}{v:List UInt32}{i c:Nat}(h:c<6)(hc:i %ch=c):Pd (cts bits ch t v i) (c:Int) (toC bits (S7 bits (cst bits ch t v c i) (WR (v.getD i 0))))=some (cts bits ch t v (i+1)):=by
 rw[Zg _ (by simp[cts];exact h)];congr 1;apply Al6 (by simp[cts]);intro k h1 h2;rw[Aok];simp only[cts,An6,An2];by_cases hk:c=k
 ·subst hk;rw[Acz rfl,yM,Acz hc]
 ·rw[Abe hk,yM,Abe (by omega)]
section
variable {bits:Int} {ch:Nat} {t:List Int32} {v:List UInt32}
theorem xV(hb:Cb bits)(ht:t.length=16)(h1:1<=ch)(h6:ch<=6)(hv:v.length<=4000):∀(j i q:Nat),i+j=v.length->j<q->
  Hz v (ch:Int) bits q (i:Int) (cts bits ch t v i) ((kQ bits ch t v).take i)=Kr (ch:Int) bits (kQ bits ch t v)
 |0,i,q+1,hi,_=>by
  rw[Hz,Kq,Abe (by rw[Af,Ac];simp;omega),Amr (by rw[bU];omega)]
 |j+1,i,q+1,hi,hq=>by
  have hlen:=bU bits ch t v;have hc:i %ch<6:=Ajk (Anm _ (by omega)) h6;have hok:=O4 bits ch ht v (i %ch) i;have hs:=Afn (bits:=bits) (ch:=ch) (t:=t) (v:=v) (i:=i) hc rfl;have hx:=U7 bits ch t v (i:=i) (by omega);have hcb:=eu hb hok (cst bits ch t v (i %ch) i).1 (WR (v.getD i 0));have ih:=xV hb ht h1 h6 hv j (i+1) q (by omega) (by omega);rw[MK (by omega),<-Mk (by omega),hx]at ih;rw[Hz,Kq,Acz (by rw[Af,Ac];simp;omega),qL (by omega),Aa,Bw (by rw[Ah];simp;omega),Aa,dN,Afz hc,Aa,Aa,Aa0,Aa];refine Anl (congrArg (λo=>Option.bind o _) hcb) ?_;rw[Aa];simp only;rw[Zf,KW,Abe (by rw[Ah];simp),dN];refine Anl (congrArg (λo=>Option.bind o _) hs) ?_;rw[Aa,Cc (by simp;omega),Aa,Ag];exact ih
theorem qd(hb:Cb bits)(ht:t.length=16)(h1:1<=ch)(h6:ch<=6)(hv:v.length<=4000):Tr (ch:Int) bits t v=Kr (ch:Int) bits (kQ bits ch t v):=by
 have h:=xV hb ht h1 h6 hv v.length 0 Az (by omega) (by have:=As;omega);have e:Az=(Az-7)+1+1+1+1+1+1+1:=by have:=As;omega
 have hs:Pr v (ch:Int) bits t 0 (List.replicate 6 ((0:Int),(0:Int32),((0:Int),(List.replicate 16 (0:Int32)),(List.replicate 16 (0:Int32)),()),()))=Zn v (ch:Int) bits (cts bits ch t v 0):=by
  rw[Pr,e];obtain rfl|rfl|rfl:=hb<;>rfl
 rw[Tr,AX,hs];exact h
theorem sU(bk:Int->List Int32->Option (List Int32))(hb:Cb bits)(ht:t.length=16)(h1:1<=ch)(h6:ch<=6)(hv:v.length<=4000)(z:List Int32)(c:Nat)(hc:c<ch):∀(j i q:Nat),i %ch=c->v.length-i<=j->i<=5000->j<q->
  Hh bk v (ch:Int) bits t (c:Int) q (i:Int) (ZI (λk=>decide (k %ch<c\/ (k %ch=c/\k<i))) (kQ bits ch t v) z) bits (cst bits ch t v c i).1 (sB bits) (cst bits ch t v c i).2.1 (cst bits ch t v c i).2.2=
   bk ((c+1:Nat):Int) (ZI (λk=>decide (k %ch<c+1)) (kQ bits ch t v) z)
 |j,i,q+1,hi,hj,hi5,hq=>by
  have hlen:=bU bits ch t v;rw[Hh,Jv];by_cases h:i<v.length
  ·have hok:=O4 bits ch ht v c i;have hst:=qw hb hok (cst bits ch t v c i).1 (WR (v.getD i 0));have hx:=U7 bits ch t v (i:=i) h;rw[hi]at hx;have ih:=sU bk hb ht h1 h6 hv z c hc (j-1) (i+ch) q (by rw[Aoo];exact hi) (by omega) (by omega) (by omega);have Ag3:cst bits ch t v c (i+ch)=S7 bits (cst bits ch t v c i) (WR (v.getD i 0)):=Aag ch c i _ _ hi hc;rw[Ag3]at ih;have hset:=gT (p:=λk=>decide (k %ch<c\/ (k %ch=c/\k<i))) (a:=kQ bits ch t v) (b:=z) (k:=i) (by omega);rw[hx]at hset;have G5:ZI (λj=>decide (j %ch<c\/ (j %ch=c/\j<i))||decide (j=i)) (kQ bits ch t v) z=ZI (λk=>decide (k %ch<c\/ (k %ch=c/\k<i+ch))) (kQ bits ch t v) z:=by
    apply BO;intro k _;rw[Ah4];simp only[Ani,Ada];constructor
    ·rintro((h1|h1)|h1)
     ·exact .inl h1
     ·exact .inr ⟨h1.1,by omega⟩
     ·subst h1;exact .inr ⟨hi,by omega⟩
    ·rintro(h1|⟨h1,h2⟩)
     ·exact .inl (.inl h1)
     ·by_cases h3:k<i
      ·exact .inl (.inr ⟨h1,h3⟩)
      ·refine .inr ?_;have h4:(i+(k-i)) %ch=i %ch:=by rw[show i+(k-i)=k by omega,h1,hi]
       have h5:=Nat.sub_mod_eq_zero_of_mod_eq h4;rw[An7,Ac8 (by omega)]at h5;omega
   rw[G5]at hset;rw[Acz (by rw[Af,Ac];simp;omega),qL h,Aa,Ad9,Aa];refine Anl (congrArg (λo=>Option.bind o _) hst) ?_;rw[Aa];simp only;rw[Ra,Qv,QQ (by omega),Aa];refine Anl (congrArg (λo=>Option.bind o _) hset) ?_;rw[Aa,Qb,BL,Ag];exact ih
  ·rw[Abe (by rw[Af,Ac];simp;omega),Qi,BY,Ag];have G5:ZI (λk=>decide (k %ch<c\/ (k %ch=c/\k<i))) (kQ bits ch t v) z=ZI (λk=>decide (k %ch<c+1)) (kQ bits ch t v) z:=by
    apply BO;intro k hk;rw[Ah4];simp only[Ada];omega
   rw[G5];rfl
theorem tR(hb:Cb bits)(ht:t.length=16)(h1:1<=ch)(h6:ch<=6)(hv:v.length<=4000)(z:List Int32):∀(j c q:Nat),c+j=ch->j<q->
  Dh v (ch:Int) bits t q (c:Int) (ZI (λk=>decide (k %ch<c)) (kQ bits ch t v) z)=Jr (ch:Int) bits (kQ bits ch t v)
 |0,c,q+1,hc,_=>by
  rw[Dh,Js,Abe (by rw[Af];simp;omega),gM (λk hk=>by have:=Anm k (show 0<ch by omega);simp;omega)]
 |j+1,c,q+1,hc,hq=>by
  have ih:=tR hb ht h1 h6 hv z j (c+1) q (by omega) (by omega);have hin:=sU (Dh v (ch:Int) bits t q) hb ht h1 h6 hv z c (by omega) v.length c Az (Ac8 (by omega)) (by omega) (by omega) (by have:=As;omega);have h0:cst bits ch t v c c=(0,t,List.replicate 16 0):=X1 ch c _ _ c (Ag9 _) (by omega);rw[h0]at hin;have G5:ZI (λk=>decide (k %ch<c\/ (k %ch=c/\k<c))) (kQ bits ch t v) z=ZI (λk=>decide (k %ch<c)) (kQ bits ch t v) z:=by
   apply BO;intro k hk;have:=Nat.mod_le k ch;rw[Ah4];simp only[Ada];omega
  rw[G5]at hin;rw[Dh,Js,Acz (by rw[Af];simp;omega),Alb hb,Aa];simp only;rw[Qw];exact Anl hin ih
theorem mq(hb:Cb bits)(ht:t.length=16)(h1:1<=ch)(h6:ch<=6)(hv:v.length<=4000)(hm:v.length %ch=0):Ic (ch:Int) bits t v=some (oW ch (kQ bits ch t v)):=by
 have hlen:=bU bits ch t v;have h:=tR hb ht h1 h6 hv (List.replicate v.length 0) ch 0 Az (by omega) (by have:=As;omega);rw[fC (by rw[hlen];simp) (λk _=>by simp)]at h;rw[Ic,Ru,Ac,lA,Aa,Bw (by rw[Bf];simp),Aa,Rg];refine Anl h ?_;rw[Jr,BT,jr ch _ h1 h6 (by rw[hlen];exact hm) (by omega),Aa]
end
def hB(bits:Int):Int:=if bits=8 then 128 else if bits=16 then 32768 else 8388608
theorem vD{bits:Int}(h:Cb bits):Rl bits=some (Int32.ofInt (-(hB bits)),Int32.ofInt (hB bits-1),0):=by
 obtain rfl|rfl|rfl:=h<;>decide
theorem SU{bits:Int}(h:Cb bits):Hv bits=some (hB bits):=by
 obtain rfl|rfl|rfl:=h<;>rfl
theorem RE(bits:Int):0<hB bits/\hB bits<=8388608:=by
 unfold hB;split; · omega
 ·split<;>omega
theorem oY{bits:Int}(h:Cb bits)(l:List Int32)(hl:l.length<=4000):∀(j i q:Nat),i+j=l.length->j<q->
  Qj (Int32.ofInt (-(hB bits))) (Int32.ofInt (hB bits-1)) l q (i:Int)=Ba l (hB bits) q (i:Int)
 |0,i,q+1,hi,_=>by
  rw[Qj,CW,Ba,By,Abe (by rw[Af,Ac];simp;omega),Abe (by rw[Af,Ac];simp;omega)];rfl
 |j+1,i,q+1,hi,hq=>by
  have hh:=RE bits;have ih:=oY h l hl j (i+1) q (by omega) (by omega);have e1:(Int32.ofInt (-(hB bits))).toInt= -(hB bits):=by rw[Anv,Aop (by show -(4294967296/2:Int)<= _;omega) (by show _<(4294967296+1)/2;omega)]
  have e2:(Int32.ofInt (hB bits-1)).toInt=hB bits-1:=by rw[Anv,Aop (by show -(4294967296/2:Int)<= _;omega) (by show _<(4294967296+1)/2;omega)]
  rw[Qj,CW,Ba,By,Acz (by rw[Af,Ac];simp;omega),Acz (by rw[Af,Ac];simp;omega),G9 (by omega),Aa,Aa,Aa,Dx,vH,Bs (by omega) (by omega),Ag,vU,J6,e1,e2,Af,Ef];generalize(l.getD i 0).toInt=X;by_cases h1:X< -(hB bits)
  ·rw[Acz (by simp;omega),Acz (by simp;omega)]
  ·rw[Abe (c:=decide (X<0-hB bits)=true) (by simp;omega)];by_cases h2:hB bits<=X
   ·rw[Acz (by simp;omega),Acz (by simp;omega)]
   ·rw[Abe (by simp;omega),Abe (by simp;omega)];exact ih
theorem eD{bits:Int}(h:Cb bits)(l:List Int32)(hl:l.length<=4000):BR bits l=Ao bits l:=by
 have hh:=RE bits;rw[BR,OQ,vD h,Aa,Ao,Cn,SU h,Aa];simp only;rw[Abe (by rw[Ah];simp),Abe (by rw[Ap,Ac];simp;omega),Abe (by rw[Bf];simp;omega),Abe (by rw[Ap,Ac];simp;omega)];exact oY h l hl l.length 0 Az (by omega) (by have:=As;omega)
theorem O8{bits:Int}(h:Cb bits)(l:List Int32)(hl:l.length<=4000):∃e,Ao bits l=some e:=by
 have hh:=RE bits;have key:∀(j i q:Nat),i+j=l.length->j<q->∃e,Ba l (hB bits) q (i:Int)=some e:=by
  intro j
  induction j with
  |zero=>
   intro i q hi hq;obtain⟨q,rfl⟩:∃k,q=k+1:=⟨q-1,by omega⟩;rw[Ba,By,Abe (by rw[Af,Ac];simp;omega)];exact⟨_,rfl⟩
  |succ j ih=>
   intro i q hi hq;obtain⟨q,rfl⟩:∃k,q=k+1:=⟨q-1,by omega⟩;rw[Ba,By,Acz (by rw[Af,Ac];simp;omega),G9 (by omega),Aa,Aa,Ag];split
   ·exact⟨_,rfl⟩
   ·split
    ·exact⟨_,rfl⟩
    ·exact ih (i+1) q (by omega) (by omega)
 obtain⟨e,he⟩:=key l.length 0 Az (by omega) (by have:=As;omega);rw[Ao,Cn,SU h,Aa,Abe (by rw[Bf];simp;omega),Abe (by rw[Ap,Ac];simp;omega)];exact⟨e,he⟩
theorem vQ{bits:Int}{ch:Nat}{t:List Int32}{v:List UInt32}(hb:Cb bits)(ht:t.length=16)(h1:1<=ch)(h6:ch<=6)(hv:v.length<=4000)(hm:v.length %ch=0):
  ∃l e,Ic (ch:Int) bits t v=some l/\Kw (ch:Int) bits l=some (if e≠0 then([],e)else(l,0))/\Tr (ch:Int) bits t v=some (if e≠0 then([],e)else(l,0))/\Ao bits l=some e/\l.length=v.length:=by
 have hlen:=bU bits ch t v;have hul:=bM ch (kQ bits ch t v);obtain⟨e,he⟩:=O8 hb (oW ch (kQ bits ch t v)) (by omega);refine⟨oW ch (kQ bits ch t v),e,mq hb ht h1 h6 hv hm,?_,?_,he,by omega⟩
 ·rw[Kw,he,Aa];by_cases h:e=0
  ·rw[Abe (by rw[Ah];simpa using h),Abe (by simpa using h)]
  ·rw[Acz (by rw[Ah];simpa using h),Acz h]
 ·rw[qd hb ht h1 h6 hv,Kr,KR,Aef ch _ h1 h6 (by rw[hlen];exact hm) (by omega),Aa];simp only;rw[Abe (by rw[Ah];simp),eD hb _ (by omega),he,Aa];by_cases h:e=0
  ·rw[Abe (by rw[Ah];simpa using h),Abe (by simpa using h)]
  ·rw[Acz (by rw[Ah];simpa using h),Acz h]
def ZD(s:Nat):Nat:=(s/2)^^^ (if s %2=1 then 3988292384 else 0)
theorem qI{s:Nat}(h:s<4294967296):ZD s<4294967296:=by
 unfold ZD;exact Als (n:=32) (by simp;omega) (by split<;>decide)
theorem zD(x y:Nat):(x^^^y)/2=(x/2)^^^ (y/2):=by
 have:=Nat.shiftRight_xor_distrib (a:=x) (b:=y) (i:=1);simpa [Nat.shiftRight_eq_div_pow]using this
theorem kg(x y:Nat):ZD (x^^^y)=ZD x^^^ZD y:=by
 have h:(x^^^y) %2=(x %2+y %2) %2:=by
  have:=Nat.xor_mod_two_eq_one (a:=x) (b:=y);have h1:(x^^^y) %2<2:=Anm _ (by omega);omega
 simp only[ZD,zD,h];have hx:x %2=0\/x %2=1:=by omega
 have hy:y %2=0\/y %2=1:=by omega
 rcases hx with hx|hx<;>rcases hy with hy|hy<;>simp only[hx,hy]<;>simp
 ·rw[Am6]
 ·rw[Am6,Aot (y/2),Am6,Aot 3988292384 (y/2)]
 ·rw[Am6,Aot 3988292384,Am6,Nat.xor_self];simp
def Yr:Nat->Nat->Nat
 |0,s=>s
 |k+1,s=>Yr k (ZD s)
theorem tJ:∀(k x y:Nat),Yr k (x^^^y)=Yr k x^^^Yr k y
 |0,_,_=>rfl
 |k+1,x,y=>by rw[Yr,kg,tJ k];rfl
theorem sL:∀(k h:Nat),Yr k (2^k*h)=h
 |0,h=>by simp[Yr]
 |k+1,h=>by
  have:ZD (2^(k+1)*h)=2^k*h:=by
   rw[Aku,Aj3 (2^k) 2,Anz,ZD,Abe (by omega),Nat.mul_div_cancel_left _ (by omega)];simp
  rw[Yr,this,sL k]
theorem nI:∀(k:Nat) {s:Nat},s<4294967296->Yr k s<4294967296
 |0,_,h=>h
 |k+1,_,h=>nI k (qI h)
def kP(s c:Nat):Nat:=Yr 8 (s^^^c)
theorem nE{s c:Nat}(h:s<4294967296)(hc:c<256):kP s c<4294967296:=nI 8 (Als (n:=32) (by simpa using h) (by simp;omega))
theorem zC{s c:Nat}(hc:c<256):kP s c=(s/256)^^^Yr 8 ((s %256)^^^c):=by
 have h:s=(2^8*(s/256))^^^ (s %256):=by
  have h1:s %256<2^8:=by simpa using Anm s (by omega:256>0)
  have:=Alv h1 (s/256);have h2:2^8*(s/256)|||s %256=(2^8*(s/256))^^^ (s %256):=by
   apply Nat.eq_of_testBit_eq;intro i;rw[Nat.testBit_or,Nat.testBit_xor];by_cases hi:i<8
   ·have:(2^8*(s/256)).testBit i=false:=by rw[Nat.testBit_two_pow_mul];simp;omega
    rw[this];simp
   ·have:(s %256).testBit i=false:=Nat.testBit_lt_two_pow (Ajk h1 (Agg (by omega) (by omega)));rw[this];simp
  omega
 rw[kP]
 conv=>lhs;rw[h]
 rw[Am6,tJ,sL]
def gq(s:Nat)(l:List UInt8):Nat:=l.foldl (λs c=>kP s c.toNat) s
def Gk(b:List UInt8):UInt32:=4294967295-UInt32.ofNat (gq 4294967295 b)
theorem Ad5(s:UInt32)(c:Nat)(hc:c<256):Vu s (Ad (CJ (UInt8.ofNat c) (2:UInt8)):Int)=some (UInt32.ofNat (s.toNat/2^^^ (if(s.toNat^^^c) %2=1 then 3988292384 else 0))):=by
 have h1:(Ad (CJ (UInt8.ofNat c) (2:UInt8)):Int)=((c %2:Nat):Int):=by
  rw[ML,Afr,UInt8.toNat_mod,Aiy];show((c %256 %2:Nat):Int)=_;omega
 have h2:geq (CJ s (2:UInt32)) (1:UInt32)=decide (s.toNat %2=1):=by
  rw[vE,yC,Ah4];simp only[Ang,Ada];rw[<-UInt32.toNat_inj,UInt32.toNat_mod];rfl
 have h3:Cg s (2:UInt32)=UInt32.ofNat (s.toNat/2):=by
  apply UInt32.toNat_inj.1;rw[yL,UInt32.toNat_div,Ahh]
  show s.toNat/2=_;have:=s.toNat_lt;omega
 have h4:Zx (Cg s (2:UInt32)) (3988292384:UInt32)=UInt32.ofNat (s.toNat/2^^^3988292384):=by
  apply UInt32.toNat_inj.1;rw[h3,eZ,UInt32.toNat_xor,Ahh,Ahh];have:=s.toNat_lt;rw[Ac8 (a:=s.toNat/2) (by omega),Ac8]
  ·rfl
  ·exact Als (n:=32) (by omega) (by decide)
 have hx:(s.toNat^^^c) %2=(s.toNat %2+c %2) %2:=by
  have:=Nat.xor_mod_two_eq_one (a:=s.toNat) (b:=c);have h1:(s.toNat^^^c) %2<2:=Anm _ (by omega);omega
 have hs:s.toNat %2=0\/s.toNat %2=1:=by omega
 have hc2:c %2=0\/c %2=1:=by omega
 rw[Vu,Vy,h1,h2,hx];rcases hs with hs|hs<;>rcases hc2 with hc2|hc2<;>simp[hs,hc2,Bf,Wj,JB,eZ,h3]
theorem kH:∀(j i q:Nat) (s:UInt32) (c:Nat),i+j=8->j<q->c<2^j->Gz q s (UInt8.ofNat c) (i:Int)=some (UInt32.ofNat (Yr j (s.toNat^^^c)))
 |0,i,q+1,s,c,hi,_,hc=>by
  obtain rfl:i=8:=by omega
  obtain rfl:c=0:=by simpa using hc
  rw[Gz,Oh,Abe (by rw[Af];simp),Xz,JJ,Yr];simp
 |j+1,i,q+1,s,c,hi,hq,hc=>by
  have hc8:c<256:=Ajk hc (show 2^(j+1)<=2^8 from Agg (by omega) (by omega));rw[Gz,Oh,Acz (by rw[Af];simp;omega),Ad5 s c hc8,Aa,Ag];have e:Cg (UInt8.ofNat c) (2:UInt8)=UInt8.ofNat (c/2):=by
   apply UInt8.toNat_inj.1;rw[Afc,UInt8.toNat_div,Aiy,Aiy]
   show c %256/2=_;omega
  rw[e];have h:=kH j (i+1) q (UInt32.ofNat (s.toNat/2^^^ (if(s.toNat^^^c) %2=1 then 3988292384 else 0))) (c/2) (by omega) (by omega) (by rw[Aku]at hc;omega);rw[show((i:Int)+1)=((i+1:Nat):Int) by omega,h,Ahh,Yr];congr 3;have:=s.toNat_lt;rw[Ac8,ZD,zD,Am6,Am6,Aot (c/2)];exact Als (n:=32) (by omega) (by split<;>decide)
theorem Ae8(s:UInt32)(c:UInt8):EP s c=some (UInt32.ofNat (kP s.toNat c.toNat)):=by
 have h:=kH 8 0 Az s c.toNat (by omega) (by have:=As;omega) (by simpa using c.toNat_lt);rw[UInt8.ofNat_toNat]at h;exact h
theorem cS(b:List UInt8)(hb:b.length<4611686018427387904):∀(j i q:Nat) (s:UInt32),i+j=b.length->j<q->Ff b q s (i:Int)=some (UInt32.ofNat (gq s.toNat (b.drop i)))
 |0,i,q+1,s,hi,_=>by
  rw[Ff,Kz,Abe (by rw[Af,Ac];simp;omega),show i=b.length by omega,An5];simp[Tm,DT,gq]
 |j+1,i,q+1,s,hi,hq=>by
  have hlt:i<b.length:=by omega
  rw[Ff,Kz,Acz (by rw[Af,Ac];simp;omega),Cq hlt,Aa,Ae8,Aa,Ag];have h:=cS b hb j (i+1) q (UInt32.ofNat (kP s.toNat b[i].toNat)) (by omega) (by omega);rw[show((i:Int)+1)=((i+1:Nat):Int) by omega,h,drop_cons hlt,Ahh,Ac8 (nE s.toNat_lt b[i].toNat_lt)];rfl
theorem xq(b:List UInt8)(hb:b.length<4611686018427387904):Ni b=some (Gk b):=by
 have h:=cS b hb b.length 0 Az 4294967295 (by omega) (by have:=As;omega);rw[Ni,Yu,Ry,Sm,show((0:Int))=((0:Nat):Int)from rfl,h,Aa,yI];rfl
theorem Afs(c:UInt32):Zx (Cr c (GI.toZ (1:UInt64)).toNat) (Be (3988292384:UInt32) (Hk c (1:UInt32)))=UInt32.ofNat (ZD c.toNat):=by
 apply UInt32.toNat_inj.1;have e:(GI.toZ (1:UInt64)).toNat=1:=rfl;have h1:(Cr c 1).toNat=c.toNat/2:=by rw[SL]
 have h2:(Be (3988292384:UInt32) (Hk c (1:UInt32))).toNat=if c.toNat %2=1 then 3988292384 else 0:=by
  rw[Ab2,yW,UInt32.toNat_mul,UInt32.toNat_and]
  show 3988292384*(c.toNat&&&1) %4294967296=_;rw[Nat.and_one_is_mod];have:c.toNat %2=0\/c.toNat %2=1:=by omega
  rcases this with h|h<;>simp[h]
 rw[e,eZ,UInt32.toNat_xor,h1,h2,Ahh,Ac8 (qI c.toNat_lt)];rfl
theorem xS(Ln:Int->List UInt32->Option (UInt32×Int))(s:UInt32)(b:List UInt8)(x:Int)(t:List UInt32):∀(j i q:Nat) (c:UInt32),i+j=8->j<q->
  Qh Ln s b x t q c (i:Int)=DN Ln s b x (UInt32.ofNat (Yr j c.toNat)) t
 |0,i,q+1,c,hi,_=>by
  obtain rfl:i=8:=by omega
  rw[Qh,DF,Abe (by rw[Af];simp),Yr,UInt32.ofNat_toNat]
 |j+1,i,q+1,c,hi,hq=>by
  rw[Qh,DF,Acz (by rw[Af];simp;omega),Afs,Ag,show((i:Int)+1)=((i+1:Nat):Int) by omega,xS Ln s b x t j (i+1) q _ (by omega) (by omega),Ahh,Ac8 (qI c.toNat_lt)];rfl
def S0(n:Nat):List UInt32:=(List.range n).map λi=>UInt32.ofNat (Yr 8 i)
theorem X3(s:UInt32)(b:List UInt8):∀(j i q:Nat),i+j=256->j<q->Lr s b q (i:Int) (S0 i++List.replicate j 0)=DQ s b (S0 256)
 |0,i,q+1,hi,_=>by
  obtain rfl:i=256:=by omega
  rw[Lr,ES,Abe (by rw[Af];simp)];simp
 |j+1,i,q+1,hi,hq=>by
  have hlen:(S0 i++List.replicate (j+1) 0).length=i+(j+1):=by simp[S0]
  rw[Lr,ES,Acz (by rw[Af];simp;omega),MX];have h:=xS (Lr s b q) s b (i:Int) (S0 i++List.replicate (j+1) 0) 8 0 Az (Ad (i:Int)) (by omega) (by have:=As;omega);rw[show((0:Int))=((0:Nat):Int)from rfl,h,DN,OB,Cq (by rw[hlen];omega),Aa,Zg _ (by rw[hlen];omega),Aa,PF,YH,Ag];have e:(Ad (i:Int):UInt32).toNat=i:=by rw[uA,Ahh,Ac8 (by omega)]
  rw[e,Am7,bD (by simp[S0])];have h2:=X3 s b j (i+1) q (by omega) (by omega);have h3:S0 (i+1)=S0 i++[UInt32.ofNat (Yr 8 i)]:=by simp[S0,List.range_succ]
  rw[h3]at h2;rw[show((i:Int)+1)=((i+1:Nat):Int) by omega,<-h2];simp
theorem Aem{i:Nat}(h:i<256):Aj (S0 256) (i:Int)=some (UInt32.ofNat (Yr 8 i)):=by
 rw[Cq (by simpa [S0]using h)];simp[S0]
theorem Ack(s:UInt32)(c:UInt8):Aj (S0 256) (GI.toZ (Zx (Ad s:UInt8) c))=some (UInt32.ofNat (Yr 8 ((s.toNat %256)^^^c.toNat))):=by
 have e:GI.toZ (Zx (Ad s:UInt8) c)=(((s.toNat %256)^^^c.toNat:Nat):Int):=by
  rw[BC,Q2,UInt8.toNat_xor,eC,Aiy]
 rw[e,Aem];exact Als (n:=8) (by simp;omega) (by simpa using c.toNat_lt)
theorem jv(s:UInt32)(c:UInt8):Zx (Cr s (GI.toZ (8:UInt64)).toNat) (UInt32.ofNat (Yr 8 ((s.toNat %256)^^^c.toNat)))=UInt32.ofNat (kP s.toNat c.toNat):=by
 apply UInt32.toNat_inj.1;have hlt:Yr 8 ((s.toNat %256)^^^c.toNat)<4294967296:=nI 8 (Als (n:=32) (by simp;omega) (by have:=c.toNat_lt;simp;omega));have e:(GI.toZ (8:UInt64)).toNat=8:=rfl;rw[e,eZ,UInt32.toNat_xor,SL,Ahh,Ahh,Ac8 hlt,Ac8 (nE s.toNat_lt c.toNat_lt),zC c.toNat_lt]
theorem A9(b:List UInt8)(hb:b.length<4611686018427387904):∀(j i q:Nat) (s:UInt32),i+j=b.length->j<q->Qp b (S0 256) q s (i:Int)=some (UInt32.ofNat (gq s.toNat (b.drop i)),0)
 |0,i,q+1,s,hi,_=>by
  rw[Qp,ER,Abe (by rw[Af,Ac];simp;omega),show i=b.length by omega,An5];simp[NK,YT,gq]
 |j+1,i,q+1,s,hi,hq=>by
  have hlt:i<b.length:=by omega
  rw[Qp,ER,Acz (by rw[Af,Ac];simp;omega),Cq hlt,Aa,Ack,Aa,Aa,jv,Ag];have h:=A9 b hb j (i+1) q (UInt32.ofNat (kP s.toNat b[i].toNat)) (by omega) (by omega);rw[show((i:Int)+1)=((i+1:Nat):Int) by omega,h,drop_cons hlt,Ahh,Ac8 (nE s.toNat_lt b[i].toNat_lt)];rfl
theorem Ad1(s:UInt32)(b:List UInt8)(hb:b.length<=100000):WB s b=some (UInt32.ofNat (gq s.toNat b),0):=by
 have h:=X3 s b 256 0 Az (by omega) (by have:=As;omega);have h2:=A9 b (by omega) b.length 0 Az s (by omega) (by have:=As;omega);rw[WB,RJ,Abe (by rw[Ap,Ac];simp;omega),NG];refine Anl h ?_;rw[DQ,NL,NN,NT,OE];exact h2
theorem zx(a:UInt32):pN a=4294967295-a:=by
 have h:=a.toNat_lt;have e:pN a=UInt32.ofNat (BitVec.ofInt 32 4294967295^^^BitVec.ofInt 32 (a.toNat:Int)).toNat:=Dy _;apply UInt32.toNat_inj.1;rw[e,Ahh,UInt32.toNat_sub_of_le _ _ (by rw[UInt32.le_iff_toNat_le];show a.toNat<=4294967295;omega)];have h1:BitVec.ofInt 32 (a.toNat:Int)=a.toBitVec:=wN a;have h2:(BitVec.ofInt 32 4294967295:BitVec 32)=BitVec.allOnes 32:=by decide
 rw[h1,h2,BitVec.allOnes_xor,BitVec.toNat_not];show(4294967296-1-a.toNat) %4294967296=4294967295-a.toNat;omega
theorem K3(b:List UInt8)(hb:b.length<=100000):GV b=some (Gk b,0):=by
 rw[GV,Ad1 _ _ hb,Aa];simp only[Ah,zx];rfl
theorem P6:∀{l m:List UInt8},l.length=m.length->Dz l=Dz m->l=m
 |[],[],_,_=>rfl
 |x::l,y::m,h,e=>by
  simp only[Dz]at e;have hx:=x.toNat_lt;have hy:=y.toNat_lt;have h1:x=y:=UInt8.toNat_inj.1 (by omega);rw[h1,P6 (l:=l) (m:=m) (by simpa using h) (by omega)]
theorem wD:∀(w n:Nat),Dz (Tv n w)=n %256^w
 |0,n=>by simp[Tv,Dz,Nat.mod_one]
 |w+1,n=>by
  rw[Tv,Dz,wD w (n/256),Aiy,show(256:Nat)^(w+1)=256*256^w by rw[Aku,Aj3],Nat.mod_mul]
def BM(b:List UInt8):Int:=
 if b.length<5 then 24 else if 41254<b.length then 4 else if(Gk (b.take (b.length-4))).toNat≠Dz (b.drop (b.length-4))then 22 else 0
theorem A3(b:List UInt8):EA b=some (if BM b≠0 then([],BM b)else(b.take (b.length-4),0)):=by
 rw[EA];by_cases h1:b.length<5
 ·have hS:BM b=24:=by rw[BM,Acz h1]
  rw[Acz (by rw[Af,Ac];simp;omega),hS];rfl
 rw[Abe (by rw[Af,Ac];simp;omega)];by_cases h2:41254<b.length
 ·have hS:BM b=4:=by rw[BM,Abe h1,Acz h2]
  rw[Acz (by rw[Ap,Ac];simp;omega),hS];rfl
 have e4:Am (Ac b) 4=((b.length-4:Nat):Int):=by rw[Ac,Bk];omega
 have hd:(b.drop (b.length-4)).length=4:=by simp;omega
 rw[Abe (by rw[Ap,Ac];simp;omega),e4,Jz,Aa,show((b.length-4:Nat):Int).toNat=b.length-4 from rfl,K3 _ (by simp;omega),Aa];simp only;rw[Abe (by rw[Ah];simp),Lm,Aa,show((b.length-4:Nat):Int).toNat=b.length-4 from rfl,C2 _ (by omega) (by omega),Aa];have hne:Ch (cT (b.drop (b.length-4))) (Ad (Gk (b.take (b.length-4))):UInt64)=decide ((Gk (b.take (b.length-4))).toNat≠Dz (b.drop (b.length-4))):=by
  have hlt:=(Gk (b.take (b.length-4))).toNat_lt;rw[LW,Ah4];simp only[Aos,ne_eq,<-An4,Ada];rw[QU (by omega),Ih,Age,Ac8 (by omega)];exact⟨λh e=>h e.symm,λh e=>h e.symm⟩
 simp only;rw[hne,Aa];by_cases h3:(Gk (b.take (b.length-4))).toNat≠Dz (b.drop (b.length-4))
 ·have hS:BM b=22:=by rw[BM,Abe h1,Abe h2,Acz h3]
  rw[Acz (by simp[h3]),hS];rfl
 ·have hS:BM b=0:=by rw[BM,Abe h1,Abe h2,Abe h3]
  rw[Abe (by rw[An0 h3];decide),hS];rfl
theorem lg(b:List UInt8)(hb:b.length<=1000000):Pm b=some (b++Tv (Gk b).toNat 4):=by
 have h:∀k:Nat,(Ad (Cr (Gk b) k):UInt8)=UInt8.ofNat ((Gk b).toNat/2^k):=by
  intro k;rw[eC,SL]
 have h0:(Ad (Gk b):UInt8)=UInt8.ofNat (Gk b).toNat:=eC _;have h1:=h 8;have h2:=h 16;have h3:=h 24;rw[Pm,xq b (by omega),Aa,Cc (by simp;omega),Aa,Cc (by simp;omega),Aa,h0,show(GI.toZ (8:UInt64)).toNat=8 from rfl,show(GI.toZ (16:UInt64)).toNat=16 from rfl,show(GI.toZ (24:UInt64)).toNat=24 from rfl,h1,h2,h3];simp only[Tv,Anu,All]
theorem J1(b:List UInt8):Kt b=some (BM b):=by
 rw[Kt];by_cases h1:b.length<5
 ·rw[Acz (by rw[Af,Ac];simp;omega),BM,Acz h1]
 rw[Abe (by rw[Af,Ac];simp;omega)];by_cases h2:41254<b.length
 ·rw[Acz (by rw[Ap,Ac];simp;omega),BM,Abe h1,Acz h2]
 have e4:Am (Ac b) 4=((b.length-4:Nat):Int):=by rw[Ac,Bk];omega
 have hd:(b.drop (b.length-4)).length=4:=by simp;omega
 rw[Abe (by rw[Ap,Ac];simp;omega),e4,Jz,Aa,show((b.length-4:Nat):Int).toNat=b.length-4 from rfl,lg _ (by simp;omega),Aa];have hlt:=(Gk (b.take (b.length-4))).toNat_lt;have hiff:(b.take (b.length-4)++Tv (Gk (b.take (b.length-4))).toNat 4 !=b)=decide ((Gk (b.take (b.length-4))).toNat≠Dz (b.drop (b.length-4))):=by
  rw[Ah4];simp only[Aos,ne_eq,Ada];constructor
  ·intro h e;apply h;have:Tv (Gk (b.take (b.length-4))).toNat 4=b.drop (b.length-4):=P6 (by rw[Bj,hd]) (by rw[wD,Ac8 (by omega),e]);rw[this,List.take_append_drop]
  ·intro h e;apply h;have hx:Tv (Gk (b.take (b.length-4))).toNat 4=b.drop (b.length-4):=by
    have e2:b.take (b.length-4)++Tv (Gk (b.take (b.length-4))).toNat 4=b.take (b.length-4)++b.drop (b.length-4):=by rw[e,List.take_append_drop]
    exact List.append_cancel_left e2
   rw[<-hx,wD,Ac8 (by omega)]
 rw[hiff];by_cases h3:(Gk (b.take (b.length-4))).toNat≠Dz (b.drop (b.length-4))
 ·rw[Acz (by simp[h3]),BM,Abe h1,Abe h2,Acz h3]
 ·rw[Abe (by rw[An0 h3];decide),BM,Abe h1,Abe h2,Abe h3]
theorem Ab5{b:List UInt8}(h:BM b=0):5<=b.length/\b.length<=41254:=by
 unfold BM at h;split at h
 ·simp at h
 ·split at h
  ·simp at h
  ·omega
theorem uP{c:Nat}(h1:1<=c)(h6:c<=6):Cg (4000:Int) (c:Int)=((4000/c:Nat):Int):=by
 have:c=1\/c=2\/c=3\/c=4\/c=5\/c=6:=by omega
 rcases this with rfl|rfl|rfl|rfl|rfl|rfl<;>rfl
theorem Adl(p:List UInt8)(h:p.length<=41250):okB p (8*p.length):=⟨by omega,by omega,λk h1 h2=>by omega⟩
theorem yT{bits:Int}{ch n:Nat}{t:List Int32}(b:List UInt8)(hb:Cb bits)(ht:t.length=16)(h1:1<=ch)(h6:ch<=6)(n1:1<=n)(n2:n<=4000/ch):
  ∃l e,Wb (ch:Int) bits t (n:Int) b=some (l,e)/\Fm (ch:Int) bits t (n:Int) b=some (l,e)/\ (e=0->Ao bits l=some 0/\l.length<=4000/\l.length=n*ch)/\ (e≠0->l=[]):=by
 have hn:n*ch<=4000:=by
  have:=Aey ch n2;have h2:=Am8 4000 ch;omega
 have hq4:=uP h1 h6;generalize 4000/ch=mm at*
 have hck:Gi (ch:Int) bits=some 0:=by
  have hr:∃x y,Rl bits=some (x,y,0):=⟨_,_,vD hb⟩;obtain⟨x,y,hr⟩:=hr;rw[Gi,hr,Aa];simp only;rw[Abe (by simp[Ah,Af,Ap];omega)]
 have hh:=RE bits;have Ajh:Dr (ch:Int) bits (n:Int)=some 0:=by
  rw[Dr,Cj,Abe (by simp[Af,Ap];omega),SU hb,Aa,Abe (by rw[Bf];simp;omega),Aa,Abe (by simp[Ah,Af];omega),Bw (by rw[Ah];simp;omega),Aa,hq4,Abe (by rw[Ap];simp;omega)]
 rw[Wb,Fm,Tn,hck,Ajh,Aa,Aa,Abe (by rw[Ah];simp),Abe (by rw[Af];simp;omega),Bw (by rw[Ah];simp;omega),Aa,hq4,Abe (by rw[Ap];simp;omega),Abe (by rw[Ah];simp),A3,J1];by_cases hs:BM b≠0
 ·rw[Acz hs];simp only[Aa];rw[Acz (by rw[Ah];simpa using hs),Acz (by rw[Ah];simpa using hs)];exact⟨[],BM b,rfl,rfl,λe=>absurd e hs,λ_=>rfl⟩
 have hs0:BM b=0:=by simpa using hs
 have hlen:=Ab5 hs0;have e4:Am (Ac b) 4=((b.length-4:Nat):Int):=by rw[Ac,Bk];omega
 rw[Abe hs,hs0];simp only[Aa];rw[Abe (by rw[Ah];simp),Abe (by rw[Ah];simp),e4,Jz,Aa,show((b.length-4:Nat):Int).toNat=b.length-4 from rfl];have hpl:(b.take (b.length-4)).length=b.length-4:=by simp
 generalize b.take (b.length-4)=p at*
 have e8:Be (8:Int) (Ac p)=((8*p.length:Nat):Int):=by rw[Ac,Hr];omega
 have hp:=Adl p (by omega);have hv:=values_eq hp h1 h6 hn;have hr:=Ae2 (N:=8*p.length) (p:=p) rfl (by omega) h1 h6 hn;have hat:=uS (ch:=ch) (p:=p) (N:=8*p.length) (n*ch) 0 [] (by omega);rw[wO,Abe (by rw[Ap,Ac];simp;omega),Hx,Cc (by simp;omega),Aa,Aa,Aa,All,e8];simp only;rw[Abe (by rw[Ah];simp),hv,hr,Aa,Aa];generalize CK ch p (8*p.length) (n*ch) 0 []=V at*
 obtain⟨v,at',e⟩:=V;simp only at*
 by_cases he:e≠0
 ·rw[Acz he,Acz he];simp only;rw[Acz (by rw[Ah];simpa using he),Ld,Hu,Acz (by rw[Ah];simpa using he)];exact⟨[],e,rfl,rfl,λh=>absurd h he,λ_=>rfl⟩
 have he0:e=0:=by simpa using he
 have hvl:=hat.2.2 he0;simp only[List.length_nil,Amp]at hvl;rw[Abe he,Abe he];simp only;rw[Abe (by rw[Ah];simp),Bk,show((8*p.length:Nat):Int)-(at':Int)=((8*p.length-at':Nat):Int) by omega,Ld,Hu];by_cases h7:7<8*p.length-at'
 ·have hE:(if 7<8*p.length-at'\/Cf p at' (8*p.length-at')≠0 then(12:Int)else 0)=12:=Acz (.inl h7);rw[Acz (by rw[Ef];simp;omega),hE,Acz (by decide)];exact⟨[],12,rfl,rfl,λh=>absurd h (by decide),λ_=>rfl⟩
 rw[Abe (by rw[Ef];simp;omega),jS hp at' _ (by omega),Abe (by omega),Aa];have hz:Ch (We p at' (8*p.length-at')) (0:UInt64)=decide (Cf p at' (8*p.length-at')≠0):=by
  rw[LW,Ah4];simp only[Aos,ne_eq,<-An4,Ada];rw[FA p _ _ (by omega)];rfl
 simp only;rw[hz];by_cases hv0:Cf p at' (8*p.length-at')≠0
 ·have hE:(if 7<8*p.length-at'\/Cf p at' (8*p.length-at')≠0 then(12:Int)else 0)=12:=Acz (.inr hv0);rw[Acz (by simp[hv0]),hE,Acz (by decide)];exact⟨[],12,rfl,rfl,λh=>absurd h (by decide),λ_=>rfl⟩
 have hm:v.length %ch=0:=by rw[hvl];exact Ans n ch
 obtain⟨l,e,g1,g2,g3,g4,g5⟩:=vQ (v:=v) hb ht h1 h6 (by omega) hm;have hE:(if 7<8*p.length-at'\/Cf p at' (8*p.length-at')≠0 then(12:Int)else 0)=0:=Abe (by omega);rw[Abe (by rw[An0 hv0];decide),hE,Abe (by decide),g1,g3,Aa,Aa,g2];by_cases hl:e≠0
 ·rw[Acz hl];exact⟨[],e,rfl,rfl,λh=>absurd h hl,λ_=>rfl⟩
 ·rw[Abe hl];have hl0:e=0:=by simpa using hl
  exact⟨l,0,rfl,rfl,λ_=>⟨by rw[g4,hl0],by omega,by omega⟩,λe=>absurd rfl e⟩
def P64:Nat:=4823603603198064275
def KM(s:Nat):Nat:=(2*s %18446744073709551616)^^^ (s/9223372036854775808*P64)
theorem TQ{s:Nat}(h:s<18446744073709551616):KM s<18446744073709551616:=by
 have h1:s/9223372036854775808=0\/s/9223372036854775808=1:=by omega
 exact Als (n:=64) (Anm _ (by decide)) (by rcases h1 with e|e<;>rw[e]<;>decide)
theorem X5(x y:Nat):(x^^^y)/9223372036854775808=(x/9223372036854775808)^^^ (y/9223372036854775808):=by
 have:=Nat.shiftRight_xor_distrib (a:=x) (b:=y) (i:=63);simpa [Nat.shiftRight_eq_div_pow]using this
theorem T3(x y:Nat):2*(x^^^y) %18446744073709551616=(2*x %18446744073709551616)^^^ (2*y %18446744073709551616):=by
 have h1:=Nat.shiftLeft_xor_distrib (a:=x) (b:=y) (i:=1);have h2:=Nat.xor_mod_two_pow (a:=2*x) (b:=2*y) (n:=64);have e:2*(x^^^y)=(2*x)^^^ (2*y):=by simpa [Nat.shiftLeft_eq,Aj3]using h1
 rw[e];exact h2
theorem Aet{a b:Nat}(ha:a=0\/a=1)(hb:b=0\/b=1)(p:Nat):(a^^^b)*p=(a*p)^^^ (b*p):=by
 rcases ha with rfl|rfl<;>rcases hb with rfl|rfl<;>simp
theorem Al2(a b c d:Nat):(a^^^b)^^^ (c^^^d)=(a^^^c)^^^ (b^^^d):=by
 rw[Am6,Am6,<-Am6 b c d,Aot b c,Am6 c b d]
theorem K0{x y:Nat}(hx:x<18446744073709551616)(hy:y<18446744073709551616):KM (x^^^y)=KM x^^^KM y:=by
 rw[KM,KM,KM,T3,X5,Aet (by omega) (by omega),Al2]
def Nb:Nat->Nat->Nat
 |0,s=>s
 |k+1,s=>Nb k (KM s)
theorem iL:∀(k:Nat) {s:Nat},s<18446744073709551616->Nb k s<18446744073709551616
 |0,_,h=>h
 |k+1,_,h=>iL k (TQ h)
theorem oT:∀(k:Nat) {x y:Nat},x<18446744073709551616->y<18446744073709551616->Nb k (x^^^y)=Nb k x^^^Nb k y
 |0,_,_,_,_=>rfl
 |k+1,x,y,hx,hy=>by rw[Nb,K0 hx hy,oT k (TQ hx) (TQ hy)];rfl
theorem mR:∀(k h:Nat),2^k*h<18446744073709551616->Nb k h=2^k*h
 |0,h,_=>by simp[Nb]
 |k+1,h,hl=>by
  have hpos:0<2^k:=Anp (by omega);rw[Aku,Anz]at hl;have h2:2*h<18446744073709551616:=Amu (Nat.le_mul_of_pos_left _ hpos) hl;have:KM h=2*h:=by rw[KM,Ac8 h2,show h/9223372036854775808=0 by omega];simp
  rw[Nb,this,mR k _ hl,Aku,Anz]
def aH(s c:Nat):Nat:=Nb 8 (s^^^ (c*72057594037927936))
theorem c56{c:Nat}(hc:c<256):c*72057594037927936<18446744073709551616:=by omega
theorem jG{s c:Nat}(h:s<18446744073709551616)(hc:c<256):aH s c<18446744073709551616:=iL 8 (Als (n:=64) h (c56 hc))
theorem Aeh(s:Nat):s=(s/72057594037927936*72057594037927936)^^^ (s %72057594037927936):=by
 have h1:s %72057594037927936<2^56:=Anm _ (by decide);have:=Alv h1 (s/72057594037927936);have h2:2^56*(s/72057594037927936)|||s %72057594037927936=(2^56*(s/72057594037927936))^^^ (s %72057594037927936):=by
  apply Nat.eq_of_testBit_eq;intro i;rw[Nat.testBit_or,Nat.testBit_xor];by_cases hi:i<56
  ·have:(2^56*(s/72057594037927936)).testBit i=false:=by rw[Nat.testBit_two_pow_mul];simp;omega
   rw[this];simp
  ·have:(s %72057594037927936).testBit i=false:=Nat.testBit_lt_two_pow (Ajk h1 (Agg (by omega) (by omega)));rw[this];simp
 rw[Aj3 (s/72057594037927936)]
 show s=(2^56*(s/72057594037927936))^^^ _;rw[<-h2,<-this];have:=Aoe s 72057594037927936
 show s=72057594037927936*_+_;omega
theorem Z5(a c:Nat):(a^^^c)*72057594037927936=(a*72057594037927936)^^^ (c*72057594037927936):=by
 have h1:=Nat.shiftLeft_xor_distrib (a:=a) (b:=c) (i:=56);simpa [Nat.shiftLeft_eq]using h1
theorem vC{s c:Nat}(h:s<18446744073709551616)(hc:c<256):aH s c=(256*s %18446744073709551616)^^^Nb 8 (((s/72057594037927936)^^^c)*72057594037927936):=by
 have hs:s/72057594037927936<2^8:=by show _<256;omega
 have hx:(s/72057594037927936)^^^c<256:=Als (n:=8) hs (by simpa using hc);have hl:s %72057594037927936<72057594037927936:=Anm _ (by decide);rw[aH]
 conv=>lhs;rw[Aeh s]
 rw[Aot (s/72057594037927936*72057594037927936),Am6,<-Z5,oT 8 (by omega) (c56 hx),mR 8 _ (by show 256*_<_;omega)];congr 1
 show 256*(s %72057594037927936)=_;omega
def oF(s:Nat)(l:List UInt8):Nat:=l.foldl (λs c=>aH s c.toNat) s
theorem rH{n:Nat}(h:n<18446744073709551616):(UInt64.ofNat n).toNat=n:=by rw[Age];exact Ac8 h
theorem Ahn(s:UInt64)(bit:Nat)(hb:bit=0\/bit=1):Vv s (bit:Int)=some (UInt64.ofNat ((2*s.toNat %18446744073709551616)^^^ (((s.toNat/9223372036854775808)^^^bit)*P64))):=by
 have hs:=s.toNat_lt;have ht:s.toNat/9223372036854775808=0\/s.toNat/9223372036854775808=1:=by omega
 have e1:(Be s (2:UInt64)).toNat=2*s.toNat %18446744073709551616:=by
  rw[JA,UInt64.toNat_mul];show s.toNat*2 %_=_;rw[Aj3]
 have hlt:2*s.toNat %18446744073709551616<18446744073709551616:=Anm _ (by decide);have ey:Zx (Be s (2:UInt64)) (4823603603198064275:UInt64)=UInt64.ofNat ((2*s.toNat %18446744073709551616)^^^P64):=by
  apply UInt64.toNat_inj.1;rw[nA,UInt64.toNat_xor,e1,rH (Als (n:=64) hlt (by decide))];rfl
 have en:Be s (2:UInt64)=UInt64.ofNat (2*s.toNat %18446744073709551616):=by
  apply UInt64.toNat_inj.1;rw[e1,rH hlt]
 have eg:Ts s (9223372036854775808:UInt64)=decide (s.toNat/9223372036854775808=1):=by
  rw[Adj,decide_eq_decide]
  show 9223372036854775808<=s.toNat↔_;omega
 have hp:∀b:Bool,Nl s b=some (if b=true then UInt64.ofNat ((2*s.toNat %18446744073709551616)^^^P64)else UInt64.ofNat (2*s.toNat %18446744073709551616)):=by
  intro b;rw[Nl,JK,ey,en];cases b<;>rfl
 rw[Vv,Xb,hp,hp,eg];rcases hb with rfl|rfl<;>rcases ht with h|h<;>rw[h]<;>simp[Bf]
theorem lE(c:UInt8):∀(j q:Nat) (s:UInt64),j<=8->j<q->Ha c q s ((2^j/2:Nat):Int)=some (UInt64.ofNat (Nb j (s.toNat^^^ (c.toNat %2^j*2^(64-j)))))
 |0,q+1,s,_,_=>by
  rw[Ha,Om,Abe (by rw[Ap];simp),Wa,JN];simp[Nb,Nat.mod_one]
 |j+1,q+1,s,hj,hq=>by
  have hc:=c.toNat_lt;have hs:=s.toNat_lt;have hj2:2^j<=2^7:=Agg (by omega) (by omega);have hpos:0<2^j:=Anp (by omega);have e1:2^(j+1)/2=2^j:=by rw[Aku];omega
  have e2:Cg ((2^j:Nat):Int) 2=((2^j/2:Nat):Int):=by
   generalize 2^j=K at*
   rw[KE,Alz (by omega),Bs (by omega) (by omega)];omega
  have e3:Is (Cg (Ad c:Int) ((2^j:Nat):Int)) (2:Int)=((c.toNat/2^j %2:Nat):Int):=by
   have hX:=Aj5 c.toNat (2^j);rw[ML,KE,<-Int.ofNat_tdiv];generalize c.toNat/2^j=X at*
   rw[Bs (by omega) (by omega),Is,Anf (by omega)];omega
  have hbit:c.toNat/2^j %2=0\/c.toNat/2^j %2=1:=by omega
  rw[Ha,Om,e1,Acz (by rw[Ap,Ada];omega),Bw (by rw[Ah,Aos];omega),Aa,e3,Ahn s _ hbit,Aa,e2,lE c j q _ (by omega) (by omega)];congr 2;rw[Nb];congr 1;have hx:c.toNat %2^(j+1)*2^(64-(j+1))=(c.toNat/2^j %2)*9223372036854775808+c.toNat %2^j*2^(63-j):=by
   have h63:(9223372036854775808:Nat)=2^j*2^(63-j):=by rw[<-Aog,show j+(63-j)=63 by omega]
   rw[Nat.mod_pow_succ,h63,show 64-(j+1)=63-j by omega,Aki,Aor,Anz,Nat.mul_left_comm]
  have hr:c.toNat %2^j<2^j:=Anm _ hpos;have Apc:c.toNat %2^j*2^(63-j)<9223372036854775808:=by
   have h63:(9223372036854775808:Nat)=2^j*2^(63-j):=by rw[<-Aog,show j+(63-j)=63 by omega]
   rw[h63];exact Nat.mul_lt_mul_of_pos_right hr (Anp (by omega))
  have h64:c.toNat %2^j*2^(64-j)=2*(c.toNat %2^j*2^(63-j)):=by
   rw[show 64-j=(63-j)+1 by omega,Aku,<-Anz,Aj3]
  rw[hx,h64];generalize c.toNat %2^j*2^(63-j)=R at*
  generalize c.toNat/2^j %2=b at*
  have ht:s.toNat/9223372036854775808=0\/s.toNat/9223372036854775808=1:=by omega
  have hp:((s.toNat/9223372036854775808^^^b)*P64)<18446744073709551616:=by
   rcases ht with h|h<;>rcases hbit with h2|h2<;>rw[h,h2]<;>decide
  rw[rH (Als (n:=64) (Anm _ (by decide)) hp),KM,T3,X5,show(b*9223372036854775808+R)/9223372036854775808=b by omega,show 2*(b*9223372036854775808+R) %18446744073709551616=2*R by omega,Am6,Am6,Aot (2*R)]
theorem Aht(c:UInt8)(s:UInt64):CR s c=some (UInt64.ofNat (aH s.toNat c.toNat)):=by
 have h:=lE c 8 Az s (Ag9 _) (by have:=As;omega);have hc:=c.toNat_lt;rw[Ac8 (show c.toNat<2^8 by simpa using hc)]at h;exact h
theorem cX(b:List UInt8)(hb:b.length<4611686018427387904):∀(j i q:Nat) (s:UInt64),i+j=b.length->j<q->Fe b q s (i:Int)=some (UInt64.ofNat (oF s.toNat (b.drop i)))
 |0,i,q+1,s,hi,_=>by
  rw[Fe,Le,Abe (by rw[Af,Ac];simp;omega),show i=b.length by omega,An5];simp[Sk,EJ,oF]
 |j+1,i,q+1,s,hi,hq=>by
  have hlt:i<b.length:=by omega
  have hc:=b[i].toNat_lt;rw[Fe,Le,Acz (by rw[Af,Ac];simp;omega),Cq hlt,Aa,Aht,Aa,Ag];have h:=cX b hb j (i+1) q (UInt64.ofNat (aH s.toNat b[i].toNat)) (by omega) (by omega);rw[show((i:Int)+1)=((i+1:Nat):Int) by omega,h,drop_cons hlt,rH (jG s.toNat_lt (by simpa using hc))];rfl
def FL(b:List UInt8):UInt64:=UInt64.ofNat (oF 0 b)
theorem A8(b:List UInt8)(hb:b.length<=100000):Ph 0 b=some (FL b):=
 cX b (by omega) b.length 0 Az 0 (by omega) (by have:=As;omega)
theorem K5(c:UInt64):Zx (Ej c (GI.toZ (1:UInt64)).toNat) (Be (4823603603198064275:UInt64) (Cr c (GI.toZ (63:UInt64)).toNat))=UInt64.ofNat (KM c.toNat):=by
 have hc:=c.toNat_lt;apply UInt64.toNat_inj.1;have h1:(Ej c (GI.toZ (1:UInt64)).toNat).toNat=2*c.toNat %18446744073709551616:=by
  rw[show(GI.toZ (1:UInt64)).toNat=1 from rfl,TU,Aj3]
 have h2:(Be (4823603603198064275:UInt64) (Cr c (GI.toZ (63:UInt64)).toNat)).toNat=c.toNat/9223372036854775808*P64:=by
  rw[show(GI.toZ (63:UInt64)).toNat=63 from rfl,JA,UInt64.toNat_mul,JR]
  show 4823603603198064275*(c.toNat/9223372036854775808) %18446744073709551616=_;have h1:c.toNat/9223372036854775808=0\/c.toNat/9223372036854775808=1:=by omega
  rcases h1 with e|e<;>rw[e]<;>decide
 rw[nA,UInt64.toNat_xor,h1,h2,rH (TQ hc)];rfl
theorem kE(Ln:Int->List UInt64->Option (UInt64×Int))(s:UInt64)(b:List UInt8)(x:Int)(t:List UInt64):∀(j i q:Nat) (c:UInt64),i+j=8->j<q->
  Qx Ln s b x t q c (i:Int)=DG Ln s b x (UInt64.ofNat (Nb j c.toNat)) t
 |0,i,q+1,c,hi,_=>by
  obtain rfl:i=8:=by omega
  rw[Qx,CP,Abe (by rw[Af];simp),Nb,UInt64.ofNat_toNat]
 |j+1,i,q+1,c,hi,hq=>by
  rw[Qx,CP,Acz (by rw[Af];simp;omega),K5,Ag,show((i:Int)+1)=((i+1:Nat):Int) by omega,kE Ln s b x t j (i+1) q _ (by omega) (by omega),rH (TQ c.toNat_lt)];rfl
def QS(n:Nat):List UInt64:=(List.range n).map λi=>UInt64.ofNat (Nb 8 (i*72057594037927936))
theorem oJ(s:UInt64)(b:List UInt8):∀(j i q:Nat),i+j=256->j<q->Md s b q (i:Int) (QS i++List.replicate j 0)=EC s b (QS 256)
 |0,i,q+1,hi,_=>by
  obtain rfl:i=256:=by omega
  rw[Md,DR,Abe (by rw[Af];simp)];simp
 |j+1,i,q+1,hi,hq=>by
  have hlen:(QS i++List.replicate (j+1) 0).length=i+(j+1):=by simp[QS]
  rw[Md,DR,Acz (by rw[Af];simp;omega),PN];have h:=kE (Md s b q) s b (i:Int) (QS i++List.replicate (j+1) 0) 8 0 Az (Ej (Ad (i:Int):UInt64) (GI.toZ (56:UInt64)).toNat) (by omega) (by have:=As;omega);rw[show((0:Int))=((0:Nat):Int)from rfl,h,DG,NF,Cq (by rw[hlen];omega),Aa,Zg _ (by rw[hlen];omega),Aa,NM,YB,Ag];have e:(Ej (Ad (i:Int):UInt64) (GI.toZ (56:UInt64)).toNat).toNat=i*72057594037927936:=by
   rw[TU,Ll,rH (by omega)]
   show i*72057594037927936 %18446744073709551616=_;omega
  rw[e,Am7,bD (by simp[QS])];have h2:=oJ s b j (i+1) q (by omega) (by omega);have h3:QS (i+1)=QS i++[UInt64.ofNat (Nb 8 (i*72057594037927936))]:=by simp[QS,List.range_succ]
  rw[h3]at h2;rw[show((i:Int)+1)=((i+1:Nat):Int) by omega,<-h2];simp
theorem lq{i:Nat}(h:i<256):Aj (QS 256) (i:Int)=some (UInt64.ofNat (Nb 8 (i*72057594037927936))):=by
 rw[Cq (by simpa [QS]using h)];simp[QS]
theorem E7(s:UInt64)(c:UInt8):Aj (QS 256) (GI.toZ (Zx (Ad (Cr s (GI.toZ (56:UInt64)).toNat):UInt8) c))=some (UInt64.ofNat (Nb 8 (((s.toNat/72057594037927936)^^^c.toNat)*72057594037927936))):=by
 have hs:=s.toNat_lt;have e:GI.toZ (Zx (Ad (Cr s (GI.toZ (56:UInt64)).toNat):UInt8) c)=(((s.toNat/72057594037927936)^^^c.toNat:Nat):Int):=by
  have e2:((Ad (Cr s (GI.toZ (56:UInt64)).toNat):UInt8)).toNat=s.toNat/72057594037927936:=by
   rw[VN,Aiy,JR]
   show s.toNat/72057594037927936 %256=_;omega
  rw[BC,Q2,UInt8.toNat_xor,e2]
 rw[e,lq];exact Als (n:=8) (by show _<256;omega) (by simpa using c.toNat_lt)
theorem vF(s:UInt64)(c:UInt8):Zx (Ej s (GI.toZ (8:UInt64)).toNat) (UInt64.ofNat (Nb 8 (((s.toNat/72057594037927936)^^^c.toNat)*72057594037927936)))=UInt64.ofNat (aH s.toNat c.toNat):=by
 have hs:=s.toNat_lt;have hc:c.toNat<256:=by simpa using c.toNat_lt
 apply UInt64.toNat_inj.1;have hlt:Nb 8 (((s.toNat/72057594037927936)^^^c.toNat)*72057594037927936)<18446744073709551616:=iL 8 (c56 (Als (n:=8) (by show _<256;omega) (by simpa using c.toNat_lt)));have e:(GI.toZ (8:UInt64)).toNat=8:=rfl;rw[e,nA,UInt64.toNat_xor,TU,rH hlt,rH (jG hs hc),vC hs hc,Aj3 s.toNat]
theorem kF(b:List UInt8)(s0:UInt64)(hb:b.length<4611686018427387904):∀(j i q:Nat) (s:UInt64),i+j=b.length->j<q->Qk b s0 (QS 256) q s (i:Int)=some (UInt64.ofNat (oF s.toNat (b.drop i)),0)
 |0,i,q+1,s,hi,_=>by
  rw[Qk,DO,Abe (by rw[Af,Ac];simp;omega),show i=b.length by omega,An5];simp[OP,NB,OI,ZM,oF]
 |j+1,i,q+1,s,hi,hq=>by
  have hlt:i<b.length:=by omega
  have hc:=b[i].toNat_lt;rw[Qk,DO,Acz (by rw[Af,Ac];simp;omega),Cq hlt,Aa,E7,Aa,Aa,vF,Ag];have h:=kF b s0 hb j (i+1) q (UInt64.ofNat (aH s.toNat b[i].toNat)) (by omega) (by omega);rw[show((i:Int)+1)=((i+1:Nat):Int) by omega,h,drop_cons hlt,rH (jG s.toNat_lt (by simpa using hc))];rfl
theorem B9(b:List UInt8)(hb:b.length<=100000):SW b=some (FL b,0):=by
 have h:=oJ 0 b 256 0 Az (by omega) (by have:=As;omega);have h2:=kF b 0 (by omega) b.length 0 Az 0 (by omega) (by have:=As;omega);have hn:VP 0 b=some (FL b,0):=by
  rw[VP,RW,Abe (by rw[Ap,Ac];simp;omega),NX];refine Anl h ?_;rw[EC,MY,NH];exact h2
 rw[SW,hn,Aa]
theorem sN(p:List UInt8)(hp:p.length<=64):ME p=some (Tv (FL p).toNat 8,0):=by
 rw[ME,jE,Abe (by rw[Ap,Ac];simp;omega),B9 p (by omega),Aa,Aa];simp only;have h:=aD (FL p) 8 (by omega) (by omega) (by simpa using(FL p).toNat_lt);rw[Abe (by rw[Ah];simp)];exact congrArg (λo=>Option.bind o λx:List UInt8×Int=>some (x.1,x.2)) h
theorem rW(p:List UInt8)(hp:p.length<=64):Hf p=some (Tv (FL p).toNat 8):=by
 have h:=VE (FL p) 8 (by omega);rw[Hf,EF,A8 p (by omega),Aa,Aa];exact congrArg (λo=>Option.bind o λl=>some l) h
def s8(n:Nat):Int32:=Int32.ofInt (if n<128 then(n:Int)else(n:Int)-256)
def QO(d:UInt64)(n:Nat):List Int32:=(List.range n).map λi=>s8 (d.toNat/256^i %256)
theorem TF(d:UInt64)(n:Nat):(QO d n).length=n:=by simp[QO]
theorem qF(d:UInt64)(n:Nat):QO d (n+1)=QO d n++[s8 (d.toNat/256^n %256)]:=by simp[QO,List.range_succ]
theorem bm8(z:Nat):(z:Int).bmod Int8.size=if z %256<128 then((z %256:Nat):Int)else((z %256:Nat):Int)-256:=by
 rw[show Int8.size=256 from rfl,Int.bmod_def];split<;>split<;>omega
theorem T5(d:UInt64):∀(j i q:Nat),i+j=8->j<q->HF d q (i:Int) (QO d i++List.replicate (16-i) 0)=some (QO d 8++List.replicate 8 0)
 |0,i,q+1,hi,_=>by
  obtain rfl:i=8:=by omega
  rw[HF,WO,Abe (by rw[Af];simp)];rfl
 |j+1,i,q+1,hi,hq=>by
  have hlen:(QO d i++List.replicate (16-i) 0).length=16:=by simp[TF];omega
  have ih:=T5 d j (i+1) q (by omega) (by omega);have e8:Be (8:Int) (i:Int)=((8*i:Nat):Int):=by rw[Hr];omega
  have ev:(Ad (Ad (Cr d (GI.toZ (((8*i:Nat):Int))).toNat):Int8):Int32)=s8 (d.toNat/256^i %256):=by
   have e1:(Cr d (GI.toZ (((8*i:Nat):Int))).toNat).toNat=d.toNat/256^i:=by
    rw[show(GI.toZ (((8*i:Nat):Int))).toNat=8*i from rfl,JR,Nat.pow_mul]
   show Int32.ofInt (Int8.ofInt ((Cr d (GI.toZ (((8*i:Nat):Int))).toNat).toNat:Int)).toInt=_;rw[e1,s8,Int8.toInt_ofInt,bm8]
  rw[HF,WO,Acz (by rw[Af];simp;omega),e8,Bw (by rw[Ef];simp;omega),Aa,ev,Cq,Aa,Zg _ (by omega),Aa,Ag,show 16-i=(15-i)+1 by omega,Am7,bD (TF d i)];rw[qF,show 16-(i+1)=15-i by omega,Ais]at ih;exact ih
theorem zy(d:UInt64):∀(j i q:Nat) (e:UInt64),i+j=8->j<q->e.toNat=d.toNat/256^i->Gw q e (i:Int) (QO d i++List.replicate (16-i) 0)=some (QO d 8++List.replicate 8 0)
 |0,i,q+1,e,hi,_,he=>by
  obtain rfl:i=8:=by omega
  rw[Gw,Rv,Abe (by rw[Af];simp)];rfl
 |j+1,i,q+1,e,hi,hq,he=>by
  have hlen:(QO d i++List.replicate (16-i) 0).length=16:=by simp[TF];omega
  have hq2:(Cg e (256:UInt64)).toNat=d.toNat/256^(i+1):=by
   rw[gQ,Aoj,he,Aku,<-Anu];rfl
  have ih:=zy d j (i+1) q (Cg e (256:UInt64)) (by omega) (by omega) hq2;have ev:(Ad (CJ e (256:UInt64)):Int32)=Int32.ofInt ((d.toNat/256^i %256:Nat):Int):=by
   show Int32.ofInt ((CJ e (256:UInt64)).toNat:Int)=_;rw[yH,UInt64.toNat_mod,he];rfl
  have hz:d.toNat/256^i %256<256:=Anm _ (by omega);have et:(Int32.ofInt ((d.toNat/256^i %256:Nat):Int)).toInt=((d.toNat/256^i %256:Nat):Int):=by
   rw[Anv,Aop (by show -(4294967296/2:Int)<= _;omega) (by show _<(4294967296+1)/2;omega)]
  have hp8:∀x:Int32,x=s8 (d.toNat/256^i %256)->Sn (Gw q) e (i:Int) (QO d i++List.replicate (16-i) 0) x=some (QO d 8++List.replicate 8 0):=by
   intro x hx;rw[Sn,ON,hx,Cq,Aa,Zg _ (by omega),Aa,Ag,show 16-i=(15-i)+1 by omega,Am7,bD (TF d i)];rw[qF,show 16-(i+1)=15-i by omega,Ais]at ih;exact ih
  rw[Gw,Rv,Acz (by rw[Af];simp;omega),ev,J6,et,show(127:Int32).toInt=127 from rfl];by_cases h:d.toNat/256^i %256<128
  ·rw[Abe (by simp only[Ada];omega)];exact hp8 _ (by rw[s8,Acz h])
  ·rw[Acz (by simp only[Ada];omega)];refine hp8 _ ?_;rw[s8,Abe h,oE,Int32.ofInt_sub];rfl
def HE(p:List UInt8):List Int32:=QO (FL p) 8++List.replicate 8 0
theorem K1(p:List UInt8):(HE p).length=16:=by simp[HE,TF]
theorem mg(p:List UInt8)(hp:p.length<=64):bX p=some (HE p,0):=by
 have h:=T5 (FL p) 8 0 Az (by omega) (by have:=As;omega);have h2:uX (FL p)=some (HE p):=h;rw[bX,Abe (by rw[Ap,Ac];simp;omega),B9 p (by omega),Aa];simp only;rw[Abe (by rw[Ah];simp),h2,Aa]
theorem zV(p:List UInt8)(hp:p.length<=64):Hn p=some (HE p,0):=by
 have h:=zy (FL p) 8 0 Az (FL p) (by omega) (by have:=As;omega) (by simp);have h2:KH (FL p)=some (HE p):=h;rw[Hn,Abe (by rw[Ap,Ac];simp;omega),HJ,DZ,Abe (by rw[Ap,Ac];simp;omega),A8 p (by omega),Aa,Aa,Aa];simp only;rw[h2,Aa]
def u8(z:Int):UInt8:=UInt8.ofNat (z %256).toNat
theorem uU(z:Int):u8 (z %256)=u8 z:=by rw[u8,u8];congr 2;omega
def wB(bits:Int):Nat:=if bits=8 then 1 else if bits=16 then 2 else 3
theorem Ab3{bits:Int}(h:Cb bits):Cg bits 8=(wB bits:Int):=by obtain rfl|rfl|rfl:=h<;>rfl
theorem yw(bits:Int):1<=wB bits/\wB bits<=3:=by
 unfold wB;split; · omega
 ·split<;>omega
def FI(bits:Int)(x:Int):List UInt8:=if bits=8 then [u8 (x+128)]else if bits=16 then [u8 x,u8 (x/256)]else [u8 x,u8 (x/256),u8 (x/65536)]
theorem mG(bits x:Int):(FI bits x).length<=3:=by
 unfold FI;split; · simp
 ·split<;>simp
theorem Aay(x:Int32)(k:Nat)(hk:k<=32):(Ad (Cr x k):UInt8)=u8 (x.toInt.fdiv (2^k)):=by
 have h:=EU x;have e:Cr x k=Int32.ofInt (x.toInt.fdiv (2^k)):=by
  show Int32.ofInt (x.toInt.fdiv (2^min k 32))=_;rw[Amf hk]
 have hb: -2147483648<=x.toInt.fdiv (2^k)/\x.toInt.fdiv (2^k)<2147483648:=by
  have hpos:(0:Int)<2^k:=Int.pow_pos (by omega);rw[Akh _ (by omega)];constructor
  ·refine(Int.le_ediv_iff_mul_le hpos).2 ?_;have:(1:Int)<=2^k:=by omega
   have h2: -2147483648*(2^k:Int)<= -2147483648*1:=Int.mul_le_mul_of_nonpos_left (by omega) this;omega
  ·refine Int.ediv_lt_of_lt_mul hpos ?_;have:(1:Int)<=2^k:=by omega
   have h2:(2147483648:Int)*1<=2147483648*2^k:=Int.mul_le_mul_of_nonneg_left this (by omega);omega
 show UInt8.ofNat ((Cr x k).toInt %256).toNat=_;rw[e,Anv,Aop (by show -(4294967296/2:Int)<= _;omega) (by show _<(4294967296+1)/2;omega)];rfl
section
variable (bk:Int->List UInt8->Option (List UInt8×Int)) (l:List Int32)
theorem lQ{bits:Int}(h:Cb bits)(c:Int32)(x:Int)(i q:Nat)(acc:List UInt8)(hi:i<wB bits)(ha:acc.length<=100000):
  Ii bk bits l c x (q+1) (i:Int) acc=Ii bk bits l c x q ((i+1:Nat):Int) (acc++[u8 (c.toInt.fdiv (2^(8*i)))]):=by
 have hw:=yw bits;have e8:Be (8:Int) (i:Int)=((8*i:Nat):Int):=by rw[Hr];omega
 rw[Ii,AA,Ab3 h,Acz (by rw[Af];simp;omega),e8,Bw (by rw[Ef];simp;omega),Aa,show(GI.toZ (((8*i:Nat):Int))).toNat=8*i from rfl,Aay _ _ (by omega),Cc (by simp;omega),Aa,Ag];rfl
theorem K2{bits:Int}(h:Cb bits)(c:Int32)(x:Int)(q:Nat)(acc:List UInt8):Ii bk bits l c x (q+1) ((wB bits:Nat):Int) acc=bk (Ae x 1) acc:=by
 rw[Ii,AA,Ab3 h,Abe (by rw[Af];simp),KI,XA]
theorem Ahr{bits:Int}(h:Cb bits)(c:Int32)(x:Int)(acc:List UInt8)(ha:acc.length<=90000)(hr: -(hB bits)<=c.toInt/\c.toInt<hB bits):
  Kn bk bits l x acc (if bits=8 then Ae c (128:Int32)else c)=bk (Ae x 1) (acc++FI bits c.toInt):=by
 have e:Az=(Az-4)+1+1+1+1:=by have:=As;omega
 have hc:=EU c;rw[Kn,JZ,KP,e];have g0:=λ(c:Int32) q acc ha=>lQ bk l h c x 0 q acc (by have:=yw bits;omega) ha;obtain rfl|rfl|rfl:=h
 ·have hh:hB 8=128:=rfl;rw[hh]at hr;have e1:(Ae c (128:Int32)).toInt=c.toInt+128:=by
   show(Int32.ofInt (c.toInt+(128:Int32).toInt)).toInt=_;rw[show(128:Int32).toInt=128 from rfl,Anv,Aop (by show -(4294967296/2:Int)<= _;omega) (by show _<(4294967296+1)/2;omega)]
  have g1:=K2 bk l (bits:=8) (.inl rfl) (Ae c (128:Int32)) x (Az-4+1+1);rw[Acz rfl,show(0:Int)=((0:Nat):Int)from rfl,g0 _ _ _ (by omega)];refine Anl (g1 _) ?_;rw[e1,FI,Acz rfl]
  show bk _ (acc++[u8 ((c.toInt+128).fdiv 1)])=_;rw[Int.fdiv_one]
 ·have g1:=λq acc ha=>lQ bk l (bits:=16) (.inr (.inl rfl)) c x 1 q acc (by decide) ha;have g2:=K2 bk l (bits:=16) (.inr (.inl rfl)) c x (Az-4+1);rw[Abe (by decide),show(0:Int)=((0:Nat):Int)from rfl,g0 _ _ _ (by omega),g1 _ _ (by simp;omega)];refine Anl (g2 _) ?_;rw[FI,Abe (by decide),Acz rfl,Ais]
  show bk _ (acc++[u8 (c.toInt.fdiv 1),u8 (c.toInt.fdiv 256)])=_;rw[Int.fdiv_one,Akh _ (by omega)]
 ·have g1:=λq acc ha=>lQ bk l (bits:=24) (.inr (.inr rfl)) c x 1 q acc (by decide) ha;have g2:=λq acc ha=>lQ bk l (bits:=24) (.inr (.inr rfl)) c x 2 q acc (by decide) ha;have g3:=K2 bk l (bits:=24) (.inr (.inr rfl)) c x (Az-4);rw[Abe (by decide),show(0:Int)=((0:Nat):Int)from rfl,g0 _ _ _ (by omega),g1 _ _ (by simp;omega),g2 _ _ (by simp;omega)];refine Anl (g3 _) ?_;rw[FI,Abe (by decide),Abe (by decide),Ais,Ais]
  show bk _ (acc++[u8 (c.toInt.fdiv 1),u8 (c.toInt.fdiv 256),u8 (c.toInt.fdiv 65536)])=_;rw[Int.fdiv_one,Akh _ (by omega),Akh _ (by omega)]
end
def Cy(bits:Int)(l:List Int32):List UInt8:=l.flatMap λx=>FI bits x.toInt
theorem HN(bits:Int):∀l:List Int32,(Cy bits l).length<=3*l.length
 |[]=>by simp[Cy]
 |x::l=>by
  have h1:=HN bits l;have h2:=mG bits x.toInt;simp only[Cy,List.flatMap_cons,Agv,Alh]at*
  omega
def L8(bits:Int)(l:List Int32):Prop:=∀x∈l, -(hB bits)<=x.toInt/\x.toInt<hB bits
theorem Q3{bits:Int}(h:Cb bits)(l:List Int32)(hl:l.length<=4000)(hr:L8 bits l):∀(j i q:Nat),i+j=l.length->j<q->Fa bits l q (i:Int) (Cy bits (l.take i))=some (Cy bits l,0)
 |0,i,q+1,hi,_=>by
  rw[Fa,AG,Abe (by rw[Af,Ac];simp;omega),Amr (by omega)];rfl
 |j+1,i,q+1,hi,hq=>by
  have hlt:i<l.length:=by omega
  have ih:=Q3 h l hl hr j (i+1) q (by omega) (by omega);have hlen:=HN bits (l.take i);have hx:=hr l[i] (Al3 _);have h1:=Ahr (Fa bits l q) l h l[i] (i:Int) (Cy bits (l.take i)) (by rw[Ahf]at hlen;omega) hx;rw[Fa,AG,Acz (by rw[Af,Ac];simp;omega),Cq hlt,Aa];have e:(if(geq bits (8:Int))=true then Kn (Fa bits l q) bits l (i:Int) (Cy bits (l.take i)) (Ae l[i] (128:Int32))else Kn (Fa bits l q) bits l (i:Int) (Cy bits (l.take i)) l[i])=Kn (Fa bits l q) bits l (i:Int) (Cy bits (l.take i)) (if bits=8 then Ae l[i] (128:Int32)else l[i]):=by
   by_cases h8:bits=8
   ·rw[Acz (by rw[Bf];simpa using h8),Acz h8]
   ·rw[Abe (by rw[Bf];simpa using h8),Abe h8]
  rw[e,h1,Ag];rw[MK hlt]at ih;have e2:Cy bits (l.take i++[l[i]])=Cy bits (l.take i)++FI bits l[i].toInt:=by unfold Cy;rw[List.flatMap_append,List.flatMap_singleton]
  rw[e2]at ih;exact ih
theorem TT{bits:Int}(h:Cb bits){l:List Int32}(hl:l.length<=4000)(hc:Ao bits l=some 0):L8 bits l:=by
 have hh:=RE bits;have key:∀(j i q:Nat),i+j=l.length->j<q->Ba l (hB bits) q (i:Int)=some 0->∀k,i<=k-> (hk:k<l.length)-> -(hB bits)<=l[k].toInt/\l[k].toInt<hB bits:=by
  intro j
  induction j with
  |zero=>intro i q hi hq _ k h1 h2;omega
  |succ j ih=>
   intro i q hi hq hs k h1 h2;obtain⟨q,rfl⟩:∃k,q=k+1:=⟨q-1,by omega⟩;rw[Ba,By,Acz (by rw[Af,Ac];simp;omega),Cq,Aa,Aa,Dx,vH,Bs (by omega) (by omega),Ag,Af,Ef]at hs;by_cases g1:l[i].toInt<0-hB bits
   ·rw[Acz (by simpa using g1)]at hs;simp at hs
   ·rw[Abe (by simpa using g1)]at hs;by_cases g2:hB bits<=l[i].toInt
    ·rw[Acz (by simpa using g2)]at hs;simp at hs
    ·rw[Abe (by simpa using g2)]at hs;by_cases hk:k=i
     ·subst hk;omega
     ·exact ih (i+1) q (by omega) (by omega) hs k (by omega) h2
 rw[Ao,Cn,SU h,Aa,Abe (by rw[Bf];simp;omega),Abe (by rw[Ap,Ac];simp;omega)]at hc;have:=key l.length 0 Az (by omega) (by have:=As;omega) hc;intro x hx;obtain⟨k,hk,rfl⟩:=List.getElem_of_mem hx;exact this k (by omega) hk
theorem pA{bits:Int}(h:Cb bits){l:List Int32}(hl:l.length<=4000)(hc:Ao bits l=some 0):CF bits l=some (Cy bits l,0):=by
 have h1:=Q3 h l hl (TT h hl hc) l.length 0 Az (by omega) (by have:=As;omega);rw[CF,OR,eD h l hl,hc,Aa,Abe (by rw[Ah];simp)];exact h1
theorem P4{bits:Int}(h:Cb bits)(x:Int32)(hr: -(hB bits)<=x.toInt/\x.toInt<hB bits):Qe bits x=some (FI bits x.toInt):=by
 have hx:=EU x;have gu:∀z:Int,(Ad z:UInt8)=u8 z:=λz=>rfl;have hq:∀n:Int,0<=n->n<=20000000->Cg n (256:Int)=n/256/\Cg n (65536:Int)=n/65536:=by
  intro n h1 h2;constructor<;>(rw[KE,Alz h1,Bs (by omega) (by omega)])
 have hm:∀n:Int,0<=n->Is n (256:Int)=n %256:=λn h1=>by rw[Is,Anf h1]
 rw[Qe,Zj,Dx];obtain rfl|rfl|rfl:=h
 ·rw[Acz (by rw[Bf];rfl),Ag,gu,FI,Acz rfl]
 ·have hh:hB 16=32768:=rfl;rw[hh]at hr;have hp:∀n:Int,0<=n->n<=70000->u8 n=u8 x.toInt->u8 (n/256)=u8 (x.toInt/256)->Ib 16 n=some (FI 16 x.toInt):=by
   intro n h1 h2 h3 h4;rw[Ib,Zi,Abe (by rw[Bf];decide),hm n h1,(hq n h1 (by omega)).1,hm _ (by omega),gu,gu,uU,uU,h3,h4,FI,Abe (by decide),Acz rfl]
  rw[Abe (by rw[Bf];decide)];by_cases hn:x.toInt<0
  ·rw[Acz (by rw[Af];simpa using hn),SU (.inr (.inl rfl)),Aa,hh,Hr,Ag];refine hp _ (by omega) (by omega) ?_ ?_
   ·rw[u8,u8];congr 2;omega
   ·rw[u8,u8];congr 2;omega
  ·rw[Abe (by rw[Af];simpa using hn)];exact hp _ (by omega) (by omega) rfl rfl
 ·have hh:hB 24=8388608:=rfl;rw[hh]at hr;have hp:∀n:Int,0<=n->n<=16777215->u8 n=u8 x.toInt->u8 (n/256)=u8 (x.toInt/256)->u8 (n/65536)=u8 (x.toInt/65536)->Ib 24 n=some (FI 24 x.toInt):=by
   intro n h1 h2 h3 h4 h5;rw[Ib,Zi,Acz (by rw[Bf];rfl),hm n h1,(hq n h1 (by omega)).1,(hq n h1 (by omega)).2,hm _ (by omega),gu,gu,gu,uU,uU,h3,h4,h5,Cc (by simp),Aa,FI,Abe (by decide),Abe (by decide)];rfl
  rw[Abe (by rw[Bf];decide)];by_cases hn:x.toInt<0
  ·rw[Acz (by rw[Af];simpa using hn),SU (.inr (.inr rfl)),Aa,hh,Hr,Ag];refine hp _ (by omega) (by omega) ?_ ?_ ?_
   ·rw[u8,u8];congr 2;omega
   ·rw[u8,u8];congr 2;omega
   ·rw[u8,u8];congr 2;omega
  ·rw[Abe (by rw[Af];simpa using hn)];exact hp _ (by omega) (by omega) rfl rfl rfl
theorem Q0{bits:Int}(h:Cb bits)(l:List Int32)(hl:l.length<=4000)(hr:L8 bits l):∀(j i q:Nat),i+j=l.length->j<q->Ir bits l q (i:Int) (Cy bits (l.take i))=some (Cy bits l,0)
 |0,i,q+1,hi,_=>by
  rw[Ir,Ur,Abe (by rw[Af,Ac];simp;omega),Amr (by omega)];rfl
 |j+1,i,q+1,hi,hq=>by
  have hlt:i<l.length:=by omega
  have ih:=Q0 h l hl hr j (i+1) q (by omega) (by omega);have hlen:=HN bits (l.take i);have hol:=mG bits l[i].toInt;rw[Ahf]at hlen;have e2:Cy bits (l.take i++[l[i]])=Cy bits (l.take i)++FI bits l[i].toInt:=by unfold Cy;rw[List.flatMap_append,List.flatMap_singleton]
  rw[MK hlt,e2]at ih;rw[Ir,Ur,Acz (by rw[Af,Ac];simp;omega),Cq hlt,Aa,P4 h _ (hr l[i] (Al3 _)),Aa,Cc,Aa,Ag];exact ih
theorem jh{bits:Int}(h:Cb bits){l:List Int32}(hl:l.length<=4000)(hc:Ao bits l=some 0):Rt bits l=some (Cy bits l,0):=by
 have h1:=Q0 h l hl (TT h hl hc) l.length 0 Az (by omega) (by have:=As;omega);rw[Rt,GD,hc,Aa,Abe (by rw[Ah];simp)];exact h1
def SV:List UInt8->Nat->Int×Int
 |[],n=>((n:Int),0)
 |c::r,n=>if 128<=c.toNat then(0,12)else SV r (128*n+c.toNat)
theorem X4:∀(l:List UInt8) (n k:Nat),n<128^k->0<= (SV l n).1/\ (SV l n).1<((128^(k+l.length):Nat):Int)
 |[],n,k,h=>by simp[SV];exact_mod_cast h
 |c::r,n,k,h=>by
  rw[SV];split
  ·have:0<128^(k+(c::r).length):=Anp (by omega);exact⟨Int.le_refl _,by simp only;exact_mod_cast this⟩
  ·have:=X4 r (128*n+c.toNat) (k+1) (by rw[Aku];omega);rw[Alh,show k+(r.length+1)=k+1+r.length by omega];exact this
theorem or7(n c:Nat)(hn:n<268435456)(hc:c<128):rD (Ej (n:Int) (GI.toZ (7:UInt64)).toNat) (c:Int)=((128*n+c:Nat):Int):=by
 have e:(GI.toZ (7:UInt64)).toNat=7:=rfl;have h1:Ej (n:Int) 7=((2^7*n:Nat):Int):=by
  have:Ej (n:Int) 7=wrap64 ((n:Int)*2^7):=rfl;rw[this,Bs (by omega) (by omega)];omega
 rw[e,h1];have h2:rD ((2^7*n:Nat):Int) (c:Int)=wrap64 ((BitVec.ofInt 64 ((2^7*n:Nat):Int)|||BitVec.ofInt 64 (c:Int)).toNat:Int):=rfl;rw[h2,BitVec.toNat_or,Alr,Alr];have h3:(((2^7*n:Nat):Int) %((2^64:Nat):Int)).toNat=2^7*n:=by omega
 have h4:((c:Int) %((2^64:Nat):Int)).toNat=c:=by omega
 rw[h3,h4,<-Alv (by simpa using hc),Bs (by omega) (by omega)]
theorem V4(b:List UInt8)(hb:b.length=4):∀(j i q n:Nat),i+j=4->j<q->n<128^i->Li b q (n:Int) (i:Int)=some (SV (b.drop i) n)
 |0,i,q+1,n,hi,_,_=>by
  rw[Li,Yd,Abe (by rw[Af,Ac];simp;omega),show b.drop i=[] by simp;omega];rfl
 |j+1,i,q+1,n,hi,hq,hn=>by
  have hlt:i<b.length:=by omega
  have hn2:n<268435456:=Ajk hn (show 128^i<=128^4 from Agg (by omega) (by omega));rw[Li,Yd,Acz (by rw[Af,Ac];simp;omega),Cq hlt,Aa,drop_cons hlt,SV,Acg];by_cases hc:128<=b[i].toNat
  ·rw[Acz (by simp;omega),Acz hc]
  ·rw[Abe (by simp;omega),Abe hc,ML,or7 n _ hn2 (by omega),Ag];exact V4 b hb j (i+1) q _ (by omega) (by omega) (by rw[Aku];omega)
theorem Acd(b:List UInt8)(hb:b.length=4):∀(j i q n:Nat),i+j=4->j<q->n<128^i->Gc b q (n:Int) (i:Int)=some (SV (b.drop i) n)
 |0,i,q+1,n,hi,_,_=>by
  rw[Gc,Mp,Abe (by rw[Af];simp;omega),show b.drop i=[] by simp;omega];rfl
 |j+1,i,q+1,n,hi,hq,hn=>by
  have hlt:i<b.length:=by omega
  have hn2:n<268435456:=Ajk hn (show 128^i<=128^4 from Agg (by omega) (by omega));rw[Gc,Mp,Acz (by rw[Af];simp;omega),Cq hlt,Aa,drop_cons hlt,SV,Aaw];have h128:(128:UInt8).toNat=128:=rfl;by_cases hc:128<=b[i].toNat
  ·rw[Acz (by simpa using hc),Acz hc]
  ·have h3:=b[i].toNat_lt;rw[Abe (by simpa using hc),Abe hc,Aa,ML,Hr,Ag,Ag];have:=Acd b hb j (i+1) q (128*n+b[i].toNat) (by omega) (by omega) (by rw[Aku];omega);rw[<-this];rfl
theorem J9(b:List UInt8)(hb:b.length=4):HV b=some (SV b 0):=by
 have h:=V4 b hb 4 0 Az 0 (by omega) (by have:=As;omega) (by simp);rw[HV,HI,Abe (by rw[Ah,Ac];simp;omega),GN];exact h
theorem pq(b:List UInt8)(hb:b.length=4):Tc b=some (SV b 0):=by
 have h:=Acd b hb 4 0 Az 0 (by omega) (by have:=As;omega) (by simp);rw[Tc,Uz,Abe (by rw[Ah,Ac];simp;omega),Um];exact h
theorem I7{b:List UInt8}(hb:b.length=4):0<= (SV b 0).1/\ (SV b 0).1<268435456:=by
 have:=X4 b 0 0 (by simp);rw[hb]at this;simpa using this
theorem UQ(s p:List UInt8):Kk s p=some (decide (p.length<=s.length/\s.take p.length=p)):=by
 rw[Kk];by_cases h:p.length<=s.length
 ·rw[Acz (by rw[Ef,Ac,Ac];simp;omega),show Ac p=(p.length:Int)from rfl,Jz,Aa,Hi,Aa,Ajf];congr 1;rw[Ah4];simp[h]
 ·rw[Abe (by rw[Ef,Ac,Ac];simp;omega)];simp[h]
def cQ(b:List UInt8)(n:Int):Int×Int:=
 if 4000<n then(0,4)else if(b.length:Int)<n then(0,24)else
 if b.getD 5 0=16/\ (b.take n.toNat).drop (n-10).toNat≠ [51,68,73]++part b 3 7 then(0,12)else(n,0)
def tG(b:List UInt8)(r:Int):Int×Int:=cQ b (r+10+(if b.getD 5 0=16 then 10 else 0))
def WU(b:List UInt8):Int×Int:=
 if ¬(3<=b.length/\b.take 3=[73,68,51])then(0,6)else if b.length<10 then(0,24)else
 if(SV (part b 6 4) 0).2≠0\/b.getD 4 0≠0\/ ¬((b.getD 5 0=0/\2<= (b.getD 3 0).toNat/\ (b.getD 3 0).toNat<=4)\/ (b.getD 5 0=16/\b.getD 3 0=4))then(0,12)else
 tG b (SV (part b 6 4) 0).1
theorem dH{b:List UInt8}{i:Nat}(h:i<b.length):Aj b (i:Int)=some (b.getD i 0):=by
 rw[Cq h];simp[List.getD_eq_getElem?_getD,h]
theorem Oc{b:List UInt8}(a w:Nat)(h:a+w<=b.length:=by omega):Bv b (a:Int) ((a+w:Nat):Int)=some (part b a w):=by
 rw[Wn];rfl
theorem Aek(b:List UInt8)(r:Int)(h10:10<=b.length)(h0:0<=r)(h1:r<268435456):Nr b r=some (tG b r):=by
 have g5:Aj b (5:Int)=some (b.getD 5 0):=dH (i:=5) (by omega);have key:∀n:Int,10<=n->n<268435500->Nk b n=some (cQ b n):=by
  intro n hn hn2;rw[Nk,JF,cQ];by_cases c1:4000<n
  ·rw[Acz (by rw[Ap];simpa using c1),Acz c1]
  ·rw[Abe (by rw[Ap];simpa using c1),Abe c1];by_cases c2:(b.length:Int)<n
   ·rw[Acz (by rw[Af,Ac];simpa using c2),Acz c2]
   ·have e3:Bv b (3:Int) (10:Int)=some (part b 3 7):=Oc 3 7;rw[Abe (by rw[Af,Ac];simpa using c2),Abe c2,g5,Aa];by_cases c3:b.getD 5 0=16
    ·rw[Acz (by rw[UN];simpa using c3),Bk,Wn,Aa,e3,Aa,Cc (by rw[Cz];simp),Aa];by_cases c4:(b.take n.toNat).drop (n-10).toNat=[51,68,73]++part b 3 7
     ·rw[Abe (by simpa using c4),Abe (by intro h;exact h.2 c4)]
     ·rw[Acz (by simpa using c4),Acz ⟨c3,c4⟩]
    ·rw[Abe (by rw[UN];simpa using c3),Abe (λh=>c3 h.1)]
 rw[Nr,Wh,g5,Aa,tG];by_cases c3:b.getD 5 0=16
 ·rw[Acz (by rw[UN];simpa using c3),Ag (by rw[Ag]<;>omega) (by rw[Ag]<;>omega),Ag,key _ (by omega) (by omega),Acz c3,show 10+r+10=r+10+10 by omega]
 ·rw[Abe (by rw[UN];simpa using c3),Ag,key _ (by omega) (by omega),Abe c3,show 10+r=r+10+0 by omega]
theorem Abt(b:List UInt8)(hb:b.length<4611686018427387904):Vm b=some (WU b):=by
 rw[Vm,Wl,WU];by_cases h3:3<=b.length
 ·rw[Abe (by rw[Af,Ac];simp;omega),Jz,Aa];by_cases hp:b.take 3=[73,68,51]
  ·rw[Abe (by simpa using hp),Abe (by simp[h3,hp]),Xy,Ww];by_cases h10:b.length<10
   ·rw[Acz (by rw[Af,Ac];simp;omega),Acz h10]
   ·have e6:Bv b (6:Int) (10:Int)=some (part b 6 4):=Oc 6 4;have g3:Aj b (3:Int)=some (b.getD 3 0):=dH (i:=3) (by omega);have g4:Aj b (4:Int)=some (b.getD 4 0):=dH (i:=4) (by omega);have g5:Aj b (5:Int)=some (b.getD 5 0):=dH (i:=5) (by omega);obtain⟨v1,v2⟩:=I7 (b:=part b 6 4) (Cz);rw[Abe (by rw[Af,Ac];simp;omega),Abe h10,e6,Aa,pq _ (Cz),Aa];have ht:=Aek b (SV (part b 6 4) 0).1 (by omega) v1 v2;generalize SV (part b 6 4) 0=v at*
    obtain⟨v,e⟩:=v;simp only at ht v1 v2⊢;simp only[Aa,g3,g4,g5,ht];generalize b.getD 3 0=x at*
    generalize b.getD 4 0=y at*
    generalize b.getD 5 0=z at*
    simp only[M1,Aif,Acg,Ah];by_cases he:e=0<;>by_cases hy:y=0<;>by_cases hz:z=0<;>by_cases hz2:z=16<;>by_cases hx:x=4<;>by_cases hx2:x.toNat<2<;>by_cases hx4:4<x.toNat<;>simp_all<;>(rw[Abe (by omega),Abe (by omega)])
  ·rw[Acz (by simpa using hp),Acz (by simp[hp])]
 ·rw[Acz (by rw[Af,Ac];simp;omega),Acz (by simp[h3])]
theorem rY(b:List UInt8)(n:Int)(h10:10<=b.length)(hn:10<=n)(hn2:n<268435500):AB b (b.getD 5 0) n=some (cQ b n):=by
 rw[AB,WW];by_cases c1:4000<n
 ·rw[Acz (by rw[Ap];simpa using c1),cQ,Acz c1]
 ·rw[Abe (by rw[Ap];simpa using c1)];by_cases c2:(b.length:Int)<n
  ·rw[Acz (by rw[Af,Ac];simpa using c2),cQ,Abe c1,Acz c2]
  ·have e3:Bv b (3:Int) (10:Int)=some (part b 3 7):=Oc 3 7;rw[Abe (by rw[Af,Ac];simpa using c2)];by_cases c3:b.getD 5 0=16
   ·have hl:((b.take n.toNat).drop (n-10).toNat).length=10:=by simp;omega
    have ht:cQ b n=if(b.take n.toNat).drop (n-10).toNat≠ [51,68,73]++part b 3 7 then(0,12)else(n,0):=by rw[cQ,Abe c1,Abe c2];simp only[c3,true_and]
    rw[Acz (by rw[UN];simpa using c3),Bk,Wn,Aa,ht];generalize(b.take n.toNat).drop (n-10).toNat=f at*
    rw[Jz,Aa,Lm,Aa,e3,Aa,Hi,Aa];have hf:f=f.take 3++f.drop 3:=(List.take_append_drop 3 f).symm;by_cases c4:f=[51,68,73]++part b 3 7
    ·subst c4;simp
    ·by_cases c5:f.take 3=[51,68,73]
     ·have:f.drop 3≠part b 3 7:=λh=>c4 (by rw[hf,c5,h]);simp only[An3,All]at c4;simp[c4,c5,this]
     ·simp only[An3,All]at c4;simp[c4,c5]
   ·rw[Abe (by rw[UN];simpa using c3),cQ,Abe c1,Abe c2,Abe (λh=>c3 h.1)]
theorem Abb(b:List UInt8)(r:Int)(h10:10<=b.length)(h0:0<=r)(h1:r<268435456):AI b r (b.getD 5 0)=some (tG b r):=by
 rw[AI,KJ,tG];by_cases c3:b.getD 5 0=16
 ·rw[Acz (by rw[UN];simpa using c3),Ag (by rw[Ag]<;>omega) (by rw[Ag]<;>omega),Ag,rY b _ h10 (by omega) (by omega),Acz c3]
 ·rw[Abe (by rw[UN];simpa using c3),Ag,rY b _ h10 (by omega) (by omega),Abe c3];simp
theorem oo(b:List UInt8)(hb:b.length<4611686018427387904):LO b=some (WU b):=by
 rw[LO,AD,UQ,Aa];by_cases hp:3<=b.length/\b.take 3=[73,68,51]
 ·rw[Abe (by simpa using hp)];by_cases h10:b.length<10
  ·rw[Acz (by rw[Af,Ac];simp;omega),WU,Abe (λh=>h hp),Acz h10]
  ·have e6:Bv b (6:Int) (10:Int)=some (part b 6 4):=Oc 6 4;have g3:Aj b (3:Int)=some (b.getD 3 0):=dH (i:=3) (by omega);have g4:Aj b (4:Int)=some (b.getD 4 0):=dH (i:=4) (by omega);have g5:Aj b (5:Int)=some (b.getD 5 0):=dH (i:=5) (by omega);obtain⟨v1,v2⟩:=I7 (b:=part b 6 4) (Cz);have ht:=Abb b (SV (part b 6 4) 0).1 (by omega) v1 v2;rw[Abe (by rw[Af,Ac];simp;omega),g3,Aa,g5,Aa,KG,KO,e6,Aa,J9 _ (Cz),Aa,WU,Abe (λh=>h hp),Abe h10];generalize SV (part b 6 4) 0=v at*
   obtain⟨v,e⟩:=v;simp only at ht v1 v2⊢;simp only[Aa,g4,KB,KA];generalize b.getD 3 0=x at*
   generalize b.getD 4 0=y at*
   generalize b.getD 5 0=z at*
   simp only[M1,Ai4,UN,Aaw,Ah];have e2:(2:UInt8).toNat=2:=rfl;have e4:(4:UInt8).toNat=4:=rfl;by_cases he:e=0<;>by_cases hy:y=0<;>by_cases hz:z=0<;>by_cases hz2:z=16<;>by_cases hx:x=4<;>by_cases hx2:2<=x.toNat<;>by_cases hx4:x.toNat<=4<;>simp_all
 ·rw[Acz (by rw[Akv,Ami];exact hp),WU,Acz hp]
theorem Acu{b:List UInt8}{n:Int}(h:WU b=(n,0)):10<=n/\n<=b.length/\n<=4000:=by
 unfold WU at h;split at h; · simp at h
 split at h; · simp at h
 split at h; · simp at h
 rename_i h10 _;obtain⟨v1,v2⟩:=I7 (b:=part b 6 4) (Cz);unfold tG at h;generalize hm:(SV (part b 6 4) 0).1+10+(if b.getD 5 0=16 then 10 else 0)=m at h;unfold cQ at h;split at h; · simp at h
 split at h; · simp at h
 split at h; · simp at h
 simp only[Aly,and_true]at h;subst h;refine⟨?_,by omega,by omega⟩;rw[<-hm];split<;>omega
def vL:List UInt8:=[65,80,69,84,65,71,69,88]
def Nh(n m fl:Nat):List UInt8:=vL++Tv 2000 4++Tv (n+32) 4++Tv m 4++Tv fl 4++List.replicate 8 0
theorem QT{n:Nat}(h:n<18446744073709551616):(UInt64.ofNat n).toNat=n:=by rw[Age,Ac8 h]
theorem bW(n m:Int)(fl:UInt64)(c:UInt64)(i q:Nat)(acc:List UInt8)(hi:i<6)(hc:Aj ([(2000:UInt64),(Ad (Ae n (32:Int)):UInt64),(Ad m:UInt64),fl,(0:UInt64),(0:UInt64)]:List UInt64) (i:Int)=some c)(h:c.toNat<4294967296)(ha:acc.length<=1000000):
  BD n m fl (q+1) (i:Int) acc=BD n m fl q ((i+1:Nat):Int) (acc++Tv c.toNat 4):=by
 have hb:=aD c 4 (by omega) (by omega) (by simpa using h);rw[BD,UT,Acz (by rw[Af,Ac];simp;omega),hc,Aa,Aa,show((4:Int))=((4:Nat):Int)from rfl,hb,Aa];simp only;rw[Cc (by rw[Bj];omega),Aa,Ag];rfl
theorem nH(n m:Nat)(fl:UInt64)(hn:n<=3000)(hm:m<=1000)(hf:fl.toNat<4294967296):bH (n:Int) (m:Int) fl=some (Nh n m fl.toNat):=by
 have e1:(Ad (Ae (n:Int) (32:Int)):UInt64).toNat=n+32:=by rw[Ag,show(n:Int)+32=((n+32:Nat):Int) by omega,Ll,QT (by omega)]
 have e2:(Ad (m:Int):UInt64).toNat=m:=by rw[Ll,QT (by omega)]
 have hF:Az=(Az-7)+1+1+1+1+1+1+1:=by have:=As;omega
 rw[bH,eL,dR,hF];rw[show((0:Int))=((0:Nat):Int)from rfl,bW n m fl 2000 0 _ _ (by omega) rfl (by decide) (by simp),bW n m fl _ 1 _ _ (by omega) rfl (by rw[e1];omega) (by simp[Bj]),bW n m fl _ 2 _ _ (by omega) rfl (by rw[e2];omega) (by simp[Bj]),
  bW n m fl fl 3 _ _ (by omega) rfl hf (by simp[Bj]),bW n m fl 0 4 _ _ (by omega) rfl (by decide) (by simp[Bj]),bW n m fl 0 5 _ _ (by omega) rfl (by decide) (by simp[Bj]),e1,e2]
 rw[BD,UT,Abe (by rw[Af,Ac];simp),dV,pV,Nh];have z:Tv (0:UInt64).toNat 4++Tv (0:UInt64).toNat 4=List.replicate 8 0:=by decide
 have z2:Tv (2000:UInt64).toNat 4=Tv 2000 4:=rfl;rw[Ais _ (Tv (0:UInt64).toNat 4),z,z2];rfl
theorem iB(n m:Nat)(fl:UInt64)(hn:n<=3000)(hm:m<=1000)(hf:fl.toNat<4294967296):Lj (n:Int) (m:Int) fl=some (Nh n m fl.toNat):=by
 have e1:(Ad (Ae (n:Int) (32:Int)):UInt64).toNat=n+32:=by rw[Ag,show(n:Int)+32=((n+32:Nat):Int) by omega,Ll,QT (by omega)]
 have e2:(Ad (m:Int):UInt64).toNat=m:=by rw[Ll,QT (by omega)]
 have w:∀c:UInt64,Au c 4=some (Tv c.toNat 4):=λc=>VE c 4 (by omega);have z2:Tv (2000:UInt64).toNat 4=Tv 2000 4:=rfl;rw[Lj];simp only[w,e1,e2,Aa];rw[Cc (by simp[Bj]),Aa,Cc (by simp[Bj]),Aa,Cc (by simp[Bj]),Aa,Cc (by simp[Bj]),Aa,lA,Aa,Cc (by simp[Bj]),Aa,z2];rfl
theorem MJ{b:List UInt8}{a w k:Nat}(h:a+w<=k):part (b.take k) a w=part b a w:=by rw[part,part,List.take_take,Amf h]
def JC(b:List UInt8):Bool:=decide (Dz (part b 12 4)<32\/3032<Dz (part b 12 4)\/1000<Dz (part b 16 4))
theorem Ab6(b:List UInt8)(h:20<=b.length):(((Cp (cT (part b 12 4)) (32:UInt64))||(Fv (cT (part b 12 4)) (3032:UInt64)))||(Fv (cT (part b 16 4)) (1000:UInt64)))=JC b:=by
 rw[mA,QL,QL,QU (by rw[Cz];omega),QU (by rw[Cz];omega),JC];show((decide (Dz (part b 12 4)<32)||decide (3032<Dz (part b 12 4)))||decide (1000<Dz (part b 16 4)))=_;simp[Bool.or_assoc]
theorem iW(b:List UInt8)(h:20<=b.length)(hb:JC b=false):Am (Ad (cT (part b 12 4)):Int) (32:Int)=((Dz (part b 12 4)-32:Nat):Int)/\ (Ad (cT (part b 16 4)):Int)=((Dz (part b 16 4):Nat):Int)/\Dz (part b 12 4)-32<=3000/\Dz (part b 16 4)<=1000:=by
 simp only[JC,Ami]at hb;refine⟨?_,IC (by rw[Cz];omega),by omega,by omega⟩;rw[IC (by rw[Cz];omega),Bk];omega
theorem VA(b:List UInt8)(fl:UInt64)(h:20<=b.length)(hl:b.length<4611686018427387904)(hf:fl.toNat<4294967296):
  MN b fl=some (if JC b=true then(0,0,false)else(((Dz (part b 12 4)-32:Nat):Int),((Dz (part b 16 4):Nat):Int),b==Nh (Dz (part b 12 4)-32) (Dz (part b 16 4)) fl.toNat)):=by
 have a1:TI b 12 4=some (cT (part b 12 4),0):=sI b 12 4 (by omega) (by omega) (by omega) hl;have a2:TI b 16 4=some (cT (part b 16 4),0):=sI b 16 4 (by omega) (by omega) (by omega) hl;rw[MN,a1,Aa];simp only;rw[a2,Aa];simp only;rw[Ab6 b h];cases hb:JC b with
 |true=>rfl
 |false=>
  obtain⟨i1,i2,i3,i4⟩:=iW b h hb;rw[i1,i2,nH _ _ _ i3 i4 hf];rfl
theorem xO(b:List UInt8)(h:20<=b.length)(hl:b.length<4611686018427387904):
  Jo b=some (if JC b=true then(0,0,false)else(((Dz (part b 12 4)-32:Nat):Int),((Dz (part b 16 4):Nat):Int),true)):=by
 have a1:Bv b 12 16=some (part b 12 4):=Oc 12 4;have a2:Bv b 16 20=some (part b 16 4):=Oc 16 4;rw[Jo,a1,Aa,B3 _ (by rw[Cz];omega),Aa,a2,Aa,B3 _ (by rw[Cz];omega),Aa,Ab6 b h];cases hb:JC b with
 |true=>rfl
 |false=>
  obtain⟨i1,i2,i3,i4⟩:=iW b h hb;rw[i1,i2];rfl
def Th(b:List UInt8):Int×Int:=
 if ¬(8<=b.length/\b.take 8=vL)then(0,6)else if b.length<32 then(0,24)else
 if JC b=true\/b.take 32≠Nh (Dz (part b 12 4)-32) (Dz (part b 16 4)) 2684354560 then(0,12)else
 if b.length<Dz (part b 12 4)+32 then(0,24)else
 if(b.take (Dz (part b 12 4)+32)).drop (Dz (part b 12 4))≠Nh (Dz (part b 12 4)-32) (Dz (part b 16 4)) 2147483648 then(0,12)else(((Dz (part b 12 4)+32:Nat):Int),0)
theorem yR(b:List UInt8):JC (b.take 32)=JC b:=by rw[JC,JC,MJ (by omega),MJ (by omega)]
section
variable {b:List UInt8}
theorem fa1(h:¬(8<=b.length/\b.take 8=vL)):Th b=(0,6):=by rw[Th,Acz h]
theorem fa2(h:8<=b.length/\b.take 8=vL)(h2:b.length<32):Th b=(0,24):=by rw[Th,Abe (λh'=>h' h),Acz h2]
variable (h:8<=b.length/\b.take 8=vL) (h2:¬b.length<32)
include h h2
theorem fa3(h3:JC b=true):Th b=(0,12):=by rw[Th,Abe (λh'=>h' h),Abe h2,Acz (.inl h3)]
theorem fa4(h4:b.take 32≠Nh (Dz (part b 12 4)-32) (Dz (part b 16 4)) 2684354560):Th b=(0,12):=by rw[Th,Abe (λh'=>h' h),Abe h2,Acz (.inr h4)]
variable (h3:JC b=false) (h4:b.take 32=Nh (Dz (part b 12 4)-32) (Dz (part b 16 4)) 2684354560)
include h3 h4
theorem fa5(h5:b.length<Dz (part b 12 4)+32):Th b=(0,24):=by
 rw[Th,Abe (λh'=>h' h),Abe h2,Abe (λh'=>h'.elim (λe=>by rw[h3]at e;cases e) λe=>e h4),Acz h5]
theorem fa6(h5:¬b.length<Dz (part b 12 4)+32)(h6:(b.take (Dz (part b 12 4)+32)).drop (Dz (part b 12 4))≠Nh (Dz (part b 12 4)-32) (Dz (part b 16 4)) 2147483648):Th b=(0,12):=by
 rw[Th,Abe (λh'=>h' h),Abe h2,Abe (λh'=>h'.elim (λe=>by rw[h3]at e;cases e) λe=>e h4),Abe h5,Acz h6]
theorem fa7(h5:¬b.length<Dz (part b 12 4)+32)(h6:(b.take (Dz (part b 12 4)+32)).drop (Dz (part b 12 4))=Nh (Dz (part b 12 4)-32) (Dz (part b 16 4)) 2147483648):Th b=(((Dz (part b 12 4)+32:Nat):Int),0):=by
 rw[Th,Abe (λh'=>h' h),Abe h2,Abe (λh'=>h'.elim (λe=>by rw[h3]at e;cases e) λe=>e h4),Abe h5,Abe (λh'=>h' h6)]
end
theorem J3(b:List UInt8)(hl:b.length<4611686018427387904):bK b=some (Th b):=by
 rw[bK,UQ,Aa];by_cases hp:8<=b.length/\b.take 8=vL
 ·rw[Abe (by simpa [vL]using hp)];by_cases h32:b.length<32
  ·rw[Acz (by rw[Af,Ac];simp;omega),fa2 hp h32]
  ·have t:=VA (b.take 32) 2684354560 (by simp;omega) (by simp;omega) (by decide);rw[yR,MJ (by omega),MJ (by omega)]at t;rw[Abe (by rw[Af,Ac];simp;omega),Jz,Aa,show(32:Int).toNat=32 from rfl,t,Aa];cases hb:JC b with
   |true=>rw[fa3 hp h32 hb];simp
   |false=>
    obtain⟨i1,i2,i3,i4⟩:=iW b (by omega) hb;have i5:32<=Dz (part b 12 4):=by simp only[JC,Ami]at hb;omega
    simp only[Ajm,Ann,false_or];by_cases c1:b.take 32=Nh (Dz (part b 12 4)-32) (Dz (part b 16 4)) 2684354560
    ·have c1':b.take 32=Nh (Dz (part b 12 4)-32) (Dz (part b 16 4)) (2684354560:UInt64).toNat:=c1;rw[Abe (by simpa using c1'),Ag];have e1:((Dz (part b 12 4)-32:Nat):Int)+64=((Dz (part b 12 4)+32:Nat):Int):=by omega
     rw[e1];by_cases c2:b.length<Dz (part b 12 4)+32
     ·rw[Acz (by rw[Af,Ac];simp;omega),fa5 hp h32 hb c1 c2]
     ·rw[Abe (by rw[Af,Ac];simp;omega),Bk,Wn,Aa,nH _ _ _ i3 i4 (by decide),Aa,Hi,Aa];rw[show(((Dz (part b 12 4)+32:Nat):Int)).toNat=Dz (part b 12 4)+32 by omega,show(((Dz (part b 12 4)+32:Nat):Int)-32).toNat=Dz (part b 12 4) by omega];by_cases c3:(b.take (Dz (part b 12 4)+32)).drop (Dz (part b 12 4))=Nh (Dz (part b 12 4)-32) (Dz (part b 16 4)) 2147483648
      ·have c3':(b.take (Dz (part b 12 4)+32)).drop (Dz (part b 12 4))=Nh (Dz (part b 12 4)-32) (Dz (part b 16 4)) (2147483648:UInt64).toNat:=c3;rw[Abe (by simpa using c3'),fa7 hp h32 hb c1 c2 c3]
      ·have c3':¬(b.take (Dz (part b 12 4)+32)).drop (Dz (part b 12 4))=Nh (Dz (part b 12 4)-32) (Dz (part b 16 4)) (2147483648:UInt64).toNat:=c3;rw[Acz (by simpa using c3'),fa6 hp h32 hb c1 c2 c3]
    ·have c1':¬b.take 32=Nh (Dz (part b 12 4)-32) (Dz (part b 16 4)) (2684354560:UInt64).toNat:=c1;rw[Acz (by simpa using c1'),fa4 hp h32 c1]
 ·rw[Acz (by rw[Akv,Ami];exact hp),fa1 hp]
theorem iy(b:List UInt8)(hl:b.length<4611686018427387904):Sf b=some (Th b):=by
 rw[Sf,Ug];by_cases h8:8<=b.length
 ·rw[Abe (by rw[Af,Ac];simp;omega),Jz,Aa,show(8:Int).toNat=8 from rfl];by_cases ha:b.take 8=vL
  ·have hp:=And.intro h8 ha;rw[Abe (by simpa [vL]using ha),Uw,Un];by_cases h32:b.length<32
   ·rw[Acz (by rw[Af,Ac];simp;omega),fa2 hp h32]
   ·have t:=xO (b.take 32) (by simp;omega) (by simp;omega);rw[yR,MJ (by omega),MJ (by omega)]at t;rw[Abe (by rw[Af,Ac];simp;omega),Jz,Aa,show(32:Int).toNat=32 from rfl,t,Aa];cases hb:JC b with
    |true=>rw[fa3 hp h32 hb];simp
    |false=>
     obtain⟨i1,i2,i3,i4⟩:=iW b (by omega) hb;have i5:32<=Dz (part b 12 4):=by simp only[JC,Ami]at hb;omega
     simp only[Ajm,Ann,false_or,Aa,Aob];rw[Nw,iB _ _ _ i3 i4 (by decide),Aa,Aa];by_cases c1:b.take 32=Nh (Dz (part b 12 4)-32) (Dz (part b 16 4)) 2684354560
     ·have c1':b.take 32=Nh (Dz (part b 12 4)-32) (Dz (part b 16 4)) (2684354560:UInt64).toNat:=c1;rw[Abe (by simpa using c1'),Vi,GB,Ag];have e1:64+((Dz (part b 12 4)-32:Nat):Int)=((Dz (part b 12 4)+32:Nat):Int):=by omega
      rw[e1];by_cases c2:b.length<Dz (part b 12 4)+32
      ·rw[Acz (by rw[Af,Ac];simp;omega),fa5 hp h32 hb c1 c2]
      ·rw[Abe (by rw[Af,Ac];simp;omega),Bk,Wn,Aa,Dk,Acz rfl,iB _ _ _ i3 i4 (by decide),Aa,Aa];rw[show(((Dz (part b 12 4)+32:Nat):Int)).toNat=Dz (part b 12 4)+32 by omega,show(((Dz (part b 12 4)+32:Nat):Int)-32).toNat=Dz (part b 12 4) by omega];by_cases c3:(b.take (Dz (part b 12 4)+32)).drop (Dz (part b 12 4))=Nh (Dz (part b 12 4)-32) (Dz (part b 16 4)) 2147483648
       ·have c3':(b.take (Dz (part b 12 4)+32)).drop (Dz (part b 12 4))=Nh (Dz (part b 12 4)-32) (Dz (part b 16 4)) (2147483648:UInt64).toNat:=c3;rw[Abe (by simpa using c3'),fa7 hp h32 hb c1 c2 c3]
       ·have c3':¬(b.take (Dz (part b 12 4)+32)).drop (Dz (part b 12 4))=Nh (Dz (part b 12 4)-32) (Dz (part b 16 4)) (2147483648:UInt64).toNat:=c3;rw[Acz (by simpa using c3'),fa6 hp h32 hb c1 c2 c3]
     ·have c1':¬b.take 32=Nh (Dz (part b 12 4)-32) (Dz (part b 16 4)) (2684354560:UInt64).toNat:=c1;rw[Acz (by simpa using c1'),fa4 hp h32 c1]
  ·rw[Acz (by simpa [vL]using ha),fa1 (λh=>ha h.2)]
 ·rw[Acz (by rw[Af,Ac];simp;omega),fa1 (λh=>h8 h.1)]
theorem qb{b:List UInt8}{n:Int}(h:Th b=(n,0)):64<=n/\n<=b.length:=by
 unfold Th at h;split at h; · simp at h
 split at h; · simp at h
 split at h; · simp at h
 rename_i hb;split at h; · simp at h
 split at h; · simp at h
 simp only[Aly,and_true]at h;have hb':¬JC b=true:=λe=>hb (.inl e);simp only[JC,Ada]at hb';omega
def Eo(b:List UInt8):Int×Int:=if(WU b).2≠6 then WU b else Th b
theorem size_eq(b:List UInt8)(hl:b.length<4611686018427387904):Ws b=some (Eo b):=by
 rw[Ws,oo b hl,Aa,J3 b hl];by_cases h:(WU b).2=6
 ·simp[Eo,h,Ah]
 ·simp[Eo,h,Ah]
theorem pX{b:List UInt8}{n:Int}(h:Eo b=(n,0)):10<=n/\n<=b.length:=by
 unfold Eo at h;split at h
 ·have:=Acu h;omega
 ·have:=qb h;omega
def Cw(b:List UInt8):Nat->Nat->List Int×Int
 |0,_=>([],6)
 |j+1,p=>if(Eo (b.drop p)).2=6 then([],0)else if(Eo (b.drop p)).2≠0 then([],(Eo (b.drop p)).2)else
  if 4000<(p:Int)+(Eo (b.drop p)).1 then([],4)else
  if(Cw b j (p+(Eo (b.drop p)).1.toNat)).2=0 then((Eo (b.drop p)).1::(Cw b j (p+(Eo (b.drop p)).1.toNat)).1,0)else([],(Cw b j (p+(Eo (b.drop p)).1.toNat)).2)
theorem jO(b:List UInt8):∀(j p:Nat),p<=b.length->p<=4000-> (Cw b j p).2=0-> (∀x∈(Cw b j p).1,10<=x)/\ (p:Int)+(Cw b j p).1.sum<=b.length/\ (p:Int)+(Cw b j p).1.sum<=4000
 |0,p,_,_,h=>by simp[Cw]at h
 |j+1,p,hp,hq,h=>by
  rw[Cw]at h⊢;split at h
  ·rename_i h6;rw[Acz h6];simp;omega
  ·rename_i h6;split at h
   ·rename_i h0;exact absurd h h0
   ·rename_i h0;rw[Abe h6,Abe h0];have hz:Eo (b.drop p)=((Eo (b.drop p)).1,0):=by rw[Prod.ext_iff];exact⟨rfl,Classical.not_not.1 h0⟩
    have hs:=pX hz;rw[Ak8]at hs;split at h
    ·simp at h
    ·rename_i h4;rw[Abe h4];split at h
     ·rename_i h00;rw[Acz h00];obtain⟨i1,i2,i3⟩:=jO b j _ (by omega) (by omega) h00;refine⟨λx hx=>?_,?_,?_⟩
      ·rcases List.mem_cons.1 hx with rfl|hx
       ·exact hs.1
       ·exact i1 x hx
      ·simp only[Amk];omega
      ·simp only[Amk];omega
     ·rename_i h00;exact absurd h h00
def dw(b:List UInt8)(j p:Nat):Int×Int:=if(Cw b j p).2=0 then((p:Int)+(Cw b j p).1.sum,0)else(0,(Cw b j p).2)
theorem pQ(b:List UInt8)(hl:b.length<4611686018427387904):∀(j p q:Nat),p<=b.length->p<=4000->b.length-p<j->j<=q->Tz b q (p:Int)=some (dw b j p)
 |0,p,q,_,_,h,_=>by omega
 |j+1,p,q,hp,hp4,hj,hq=>by
  obtain⟨q,rfl⟩:∃k,q=k+1:=⟨q-1,by omega⟩;rw[Tz,Lm,Aa,Ajf,size_eq _ (by simp;omega),Aa,Bf,Bf,Ah,dw];by_cases h6:(Eo (b.drop p)).2=6
  ·rw[Acz (by simpa using h6)];have:Cw b (j+1) p=([],0):=by rw[Cw,Acz h6]
   rw[this];simp
  ·rw[Abe (by simpa using h6)];by_cases h0:(Eo (b.drop p)).2=0
   ·have hz:Eo (b.drop p)=((Eo (b.drop p)).1,0):=by rw[Prod.ext_iff];exact⟨rfl,h0⟩
    have hs:=pX hz;rw[Ak8]at hs;rw[Ag,Ap];by_cases h4:4000<(p:Int)+(Eo (b.drop p)).1
    ·rw[Acz (by simp[h0];omega)];have:Cw b (j+1) p=([],4):=by rw[Cw,Abe h6,Abe (λh=>h h0),Acz h4]
     rw[this];simp
    ·rw[Abe (by simp[h0];omega),Abe (by simpa using h0)];have ih:=pQ b hl j (p+(Eo (b.drop p)).1.toNat) q (by omega) (by omega) (by omega) (by omega);rw[show(p:Int)+(Eo (b.drop p)).1=((p+(Eo (b.drop p)).1.toNat:Nat):Int) by omega,ih,dw];have:Cw b (j+1) p=if(Cw b j (p+(Eo (b.drop p)).1.toNat)).2=0 then((Eo (b.drop p)).1::(Cw b j (p+(Eo (b.drop p)).1.toNat)).1,0)else([],(Cw b j (p+(Eo (b.drop p)).1.toNat)).2):=by
      rw[Cw,Abe h6,Abe (λh=>h h0),Abe h4]
     rw[this];by_cases hr:(Cw b j (p+(Eo (b.drop p)).1.toNat)).2=0
     ·simp only[hr,Aou,Amk];congr 2;omega
     ·simp only[hr,Ann]
   ·rw[Abe (by simp[h0]),Acz (by simpa using h0)];have:Cw b (j+1) p=([],(Eo (b.drop p)).2):=by rw[Cw,Abe h6,Acz h0]
    rw[this];simp[h0]
def zh(b:List UInt8)(j p:Nat)(xs:List Int):List Int×Int:=if(Cw b j p).2=0 then(xs++(Cw b j p).1,0)else([],(Cw b j p).2)
theorem zm(bk:Int->List Int->Option (List Int×Int))(b:List UInt8)(p:Nat)(hp:p<=b.length)(xs:List Int)(hx:xs.length<=4000)(hl:b.length<4611686018427387904):Ms (Iu bk b) b (p:Int) xs=Iu bk b (p:Int) xs (Eo (b.drop p)).1 (Eo (b.drop p)).2:=by
 have hf:=iy (b.drop p) (by simp;omega);rw[Ms,Lm,Aa,Ajf,Abt _ (by simp;omega),Aa];by_cases h:(WU (b.drop p)).2=6
 ·simp[Eo,h,Bf,hf]
 ·simp[Eo,h,Bf]
theorem tP(b:List UInt8)(hl:b.length<4611686018427387904):∀(j p q:Nat) (xs:List Int),p<=b.length->p<=4000->b.length-p<j->j<=q->xs.length<=p->Ip b q (p:Int) xs=some (zh b j p xs)
 |0,p,q,_,_,_,h,_,_=>by omega
 |j+1,p,q,xs,hp,hp4,hj,hq,hx=>by
  obtain⟨q,rfl⟩:∃k,q=k+1:=⟨q-1,by omega⟩;rw[Ip,zm _ b p hp xs (by omega) hl,Iu,GA,Bf,Ah,zh];by_cases h6:(Eo (b.drop p)).2=6
  ·rw[Acz (by simpa using h6)];have:Cw b (j+1) p=([],0):=by rw[Cw,Acz h6]
   rw[this];simp
  ·rw[Abe (by simpa using h6)];by_cases h0:(Eo (b.drop p)).2=0
   ·have hz:Eo (b.drop p)=((Eo (b.drop p)).1,0):=by rw[Prod.ext_iff];exact⟨rfl,h0⟩
    have hs:=pX hz;rw[Ak8]at hs;rw[Abe (by simpa using h0),Ag,Ap];by_cases h4:4000<(p:Int)+(Eo (b.drop p)).1
    ·rw[Acz (by simp;omega)];have:Cw b (j+1) p=([],4):=by rw[Cw,Abe h6,Abe (λh=>h h0),Acz h4]
     rw[this];simp
    ·rw[Abe (by simp;omega),Cc (by simp;omega),Aa];have ih:=tP b hl j (p+(Eo (b.drop p)).1.toNat) q (xs++[(Eo (b.drop p)).1]) (by omega) (by omega) (by omega) (by omega) (by simp;omega);rw[show(p:Int)+(Eo (b.drop p)).1=((p+(Eo (b.drop p)).1.toNat:Nat):Int) by omega,ih,zh];have:Cw b (j+1) p=if(Cw b j (p+(Eo (b.drop p)).1.toNat)).2=0 then((Eo (b.drop p)).1::(Cw b j (p+(Eo (b.drop p)).1.toNat)).1,0)else([],(Cw b j (p+(Eo (b.drop p)).1.toNat)).2):=by
      rw[Cw,Abe h6,Abe (λh=>h h0),Abe h4]
     rw[this];by_cases hr:(Cw b j (p+(Eo (b.drop p)).1.toNat)).2=0
     ·simp only[hr,Aou];simp
     ·simp only[hr,Ann]
   ·rw[Acz (by simpa using h0)];have:Cw b (j+1) p=([],(Eo (b.drop p)).2):=by rw[Cw,Abe h6,Acz h0]
    rw[this];simp[h0]
theorem lW:∀{l:List Int},(∀x∈l,10<=x)->0<=l.sum/\ (l.length:Int)<=l.sum
 |[],_=>by simp
 |x::l,h=>by
  have h1:=h x Alq;have h2:=lW (l:=l) λy hy=>h y (Ajo _ hy);simp only[Amk,Alh];omega
theorem mW(r:Int)(l:List Int)(hl:l.length<=4000)(hx:∀x∈l,10<=x):∀(j i q:Nat) (n:Int),i+j=l.length->j<q->0<=n->n+(l.drop i).sum<=4000->Fy r l q n (i:Int)=some (n+(l.drop i).sum,r)
 |0,i,q+1,n,hi,_,_,_=>by
  rw[Fy,Mf,Abe (by rw[Af,Ac];simp;omega),show i=l.length by omega,An5];simp[Vh,FP]
 |j+1,i,q+1,n,hi,hq,hn,hs=>by
  have hlt:i<l.length:=by omega
  rw[drop_cons hlt,Amk]at hs⊢;have h1:=hx l[i] (Al3 hlt);have h2:=lW (l:=l.drop (i+1)) λy hy=>hx y (List.mem_of_mem_drop hy);rw[Fy,Mf,Acz (by rw[Af,Ac];simp;omega),Cq hlt,Aa,Aa,Ag,Ag];have ih:=mW r l hl hx j (i+1) q (n+l[i]) (by omega) (by omega) (by omega) (by omega);rw[show((i:Int)+1)=((i+1:Nat):Int) by omega,ih];congr 2;omega
def Fb(b:List UInt8):Int×Int:=dw b (b.length+1) 0
theorem YA(b:List UInt8)(hl:b.length<4611686018427387904):Xh b=some (Fb b):=by
 have:=pQ b hl (b.length+1) 0 Az (by omega) (by omega) (by omega) (by have:=As;omega);exact this
theorem UM(b:List UInt8)(hl:b.length<4611686018427387904):Jd b=some (Fb b):=by
 have h:=tP b hl (b.length+1) 0 Az [] (by omega) (by omega) (by omega) (by have:=As;omega) (by simp);have h':AL b=some (zh b (b.length+1) 0 []):=h;rw[Jd,Uv,h',Aa,Fb,dw,zh];have ho:=jO b (b.length+1) 0 (by omega) (by omega);by_cases h0:(Cw b (b.length+1) 0).2=0
 ·obtain⟨i1,i2,i3⟩:=ho h0;have hp:=lW i1;simp only[h0,Aou,All];have:=mW 0 (Cw b (b.length+1) 0).1 (by omega) i1 (Cw b (b.length+1) 0).1.length 0 Az 0 (by omega) (by have:=As;omega) (by omega) (by simpa using i3);simpa [Mm]using this
 ·simp only[h0,Ann];have:=mW (Cw b (b.length+1) 0).2 [] (by simp) (by simp) 0 0 Az 0 (by simp) (by have:=As;omega) (by omega) (by simp);simpa [Mm]using this
theorem iH{b:List UInt8}(h:(Fb b).2=0):0<= (Fb b).1/\ (Fb b).1<=b.length/\ (Fb b).1<=4000:=by
 unfold Fb dw at h⊢;split at h
 ·rename_i h0;rw[Acz h0];obtain⟨i1,i2,i3⟩:=jO b (b.length+1) 0 (by omega) (by omega) h0;have hp:=lW i1;exact⟨by simp;omega,i2,i3⟩
 ·rename_i h0;exact absurd h h0
def Ar(r:Nat):Nat:=max 1 (256*r/245)
theorem Rc(r:Nat):1<=Ar r:=Nat.le_max_left _ _
theorem fZ{r:Nat}(h:r<=1048576):Ar r<=1100000:=by unfold Ar;omega
theorem pT{r:Nat}(h:r<=1048576):cD (1:Int) (Cg (Be (256:Int) (r:Int)) (245:Int))=(Ar r:Int):=by
 rw[Hr,KE,Alz (by omega),Bs (by omega) (by omega),wM,Ar];omega
def Ax(g n:Nat):List Int:=List.replicate ((n-1)/g) (g:Int)++[((n-(n-1)/g*g:Nat):Int)]
theorem YP(g n:Nat):(Ax g n).length=(n-1)/g+1:=by simp[Ax]
theorem IE{g n:Nat}(h:n<=g)(h1:1<=n):Ax g n=[(n:Int)]:=by
 rw[Ax,Ane (by omega)];simp
theorem aX{g n:Nat}(hg:1<=g)(h:g<n):Ax g n=(g:Int)::Ax g (n-g):=by
 have e:(n-1)/g=(n-g-1)/g+1:=by rw[<-Nat.add_div_right _ (by omega)];congr 1;omega
 rw[Ax,Ax,e,Am7,An3];congr 4;have:=Am8 (n-g-1) g;rw[Aki,Nat.one_mul];omega
theorem eY{g n:Nat}(hg:1<=g)(h1:1<=n):(n+g-1)/g=(n-1)/g+1:=by
 rw[<-Nat.add_div_right _ (by omega)];congr 1;omega
theorem rV{r:Nat}(h1:1<=r)(h:r<=1048576):Rn (r:Int)=some ((Ar r:Int),0):=by
 rw[Rn,Abe (by simp[Af,Ap];omega),pT h]
theorem Aau{r:Nat}(h:r<=1048576):Nz (r:Int)=some (Ar r:Int):=by rw[Nz,pT h]
theorem UO{r n:Nat}(h1:1<=r)(h:r<=1048576)(n1:1<=n)(n2:n<=4000):Hl (r:Int) (n:Int)=some (if 1000<(n-1)/Ar r+1 then(0,4)else((((n-1)/Ar r+1:Nat):Int),0)):=by
 have hp:=Rc r;have hl:=fZ h;have e:Cg (Am (Ae (n:Int) (Ar r:Int)) (1:Int)) (Ar r:Int)=(((n-1)/Ar r+1:Nat):Int):=by
  have:(n+Ar r-1)/Ar r<=n+Ar r-1:=Aj5 _ _;rw[Ag,Bk,KE,Alz (by omega),show(n:Int)+(Ar r:Int)-1=((n+Ar r-1:Nat):Int) by omega,<-Int.natCast_ediv,eY hp n1];rw[eY hp n1]at this;generalize(n-1)/Ar r=k at*
  exact Bs (by omega) (by omega)
 rw[Hl,rV h1 h,Aa];simp only;rw[Abe (by rw[Ah];simp),Abe (by simp[Af,Ap];omega),Bw (by rw[Ah];simp;omega),Aa,e];by_cases hk:1000<(n-1)/Ar r+1
 ·rw[Acz (by rw[Ap];simp;omega),Acz hk]
 ·rw[Abe (by rw[Ap];simp;omega),Abe hk]
theorem pW{r:Nat}(h:r<=1048576):∀(j n q:Nat) (acc:List Int),n<=4000->n<=j->j<q->acc.length+n<=10000->Da (r:Int) q (n:Int) acc=some (acc++(if n=0 then []else Ax (Ar r) n))
 |0,n,q+1,acc,hn,hj,hq,ha=>by
  obtain rfl:n=0:=by omega
  rw[Da,Gb,Abe (by rw[Ap];simp)];simp[Iw,Ml]
 |j+1,n,q+1,acc,hn,hj,hq,ha=>by
  have hp:=Rc r;have hl:=fZ h;by_cases h0:n=0
  ·subst h0;rw[Da,Gb,Abe (by rw[Ap];simp)];simp[Iw,Ml]
  ·rw[Da,Gb,Acz (by rw[Ap];simp;omega),Aau h,Aa,Cc (by simp;omega),Aa,Aa,Bk,KC];by_cases hs:n<=Ar r
   ·rw[show min (n:Int) (Ar r:Int)=(n:Int) by omega,Abe h0,IE hs (by omega)];have hz:∃k,q=k+1:=⟨q-1,by omega⟩;obtain⟨q,rfl⟩:=hz;rw[Da,Gb,Abe (by rw[Ap];simp;omega)];simp[Iw,Ml]
   ·rw[show min (n:Int) (Ar r:Int)=(Ar r:Int) by omega,show(n:Int)-(Ar r:Int)=((n-Ar r:Nat):Int) by omega,pW h j (n-Ar r) q _ (by omega) (by omega) (by omega) (by simp;omega),Abe (by omega),Abe h0,aX hp (show Ar r<n by omega)];simp
theorem gG{r n:Nat}(h:r<=1048576)(n1:1<=n)(n2:n<=4000):Cm (r:Int) (n:Int)=some (Ax (Ar r) n):=by
 have:=pW h n n Az [] n2 (Ag9 _) (by have:=As;omega) (by simp;omega);rw[Cm,Uu,Uf,this,Abe (by omega)];rfl
theorem mul_one(m:Nat)(h:m<=100000):ID (1:UInt64) (UInt64.ofNat m)=some (0,UInt64.ofNat m):=by
 have y1:(UInt64.ofNat m).toNat=m:=QT (by omega);have s1:Cr (1:UInt64) (GI.toZ (32:UInt64)).toNat=0:=by decide
 have s2:Cr (UInt64.ofNat m) (GI.toZ (32:UInt64)).toNat=0:=by
  apply UInt64.toNat_inj.1;rw[JR,y1];exact Ane (Amu h (by decide))
 have s0:Cr (0:UInt64) (GI.toZ (32:UInt64)).toNat=0:=by decide
 have a1:Hk (1:UInt64) (4294967295:UInt64)=1:=by decide
 have a0:Hk (0:UInt64) (4294967295:UInt64)=0:=by decide
 have a2:Hk (UInt64.ofNat m) (4294967295:UInt64)=UInt64.ofNat m:=by
  apply UInt64.toNat_inj.1;rw[pI,UInt64.toNat_and,y1]
  show m&&& (2^32-1)=m;rw[Amh,Ac8 (by omega)]
 have m1:∀x:UInt64,Be 1 x=x:=λx=>by rw[JA,UInt64.one_mul]
 have m0:∀x:UInt64,Be 0 x=0:=λx=>by rw[JA,UInt64.zero_mul]
 have p0:∀x:UInt64,Ae 0 x=x:=λx=>by rw[JH,UInt64.zero_add]
 have p1:∀x:UInt64,Ae x 0=x:=λx=>by rw[JH,UInt64.add_zero]
 rw[ID,KK];simp only[s1,s2,a1,a2,m1,m0,p0,p1,s0,a0,Aa]
theorem kD(v:Int)(m:Nat)(hm:m<=100000):∀(j n q:Nat),1<=n->n<=m->m-n<=j->j<q->Dw q (n:Int) (List.replicate n v++List.replicate (m-n) 0)=some (List.replicate m v)
 |j,n,q+1,hn,hnm,hj,hq=>by
  have hlen:Ac (List.replicate n v++List.replicate (m-n) 0)=(m:Int):=by simp[Ac];omega
  rw[Dw,Gg,hlen];by_cases h:n<m
  ·obtain⟨j,rfl⟩:∃k,j=k+1:=⟨j-1,by omega⟩;rw[Acz (by rw[Af];simp;omega)];have v1:eX (m:Int) (n:Int) (m:Int)=some ():=by rw[eX,Bw];simp;omega
   have v2:eX (m:Int) (0:Int) (n:Int)=some ():=by rw[eX,Bw];simp;omega
   have e1:TE (List.replicate n v++List.replicate (m-n) 0) (0:Int) ((n:Int)-0)=List.replicate n v:=by
    simp[TE]
   rw[v1,Aa,v2,Aa,e1];have e2:OU ((m:Int)-(n:Int)) (List.replicate n v).length=((min n (m-n):Nat):Int):=by
    rw[OU,List.length_replicate];split<;>omega
   have e3:Ud (List.replicate n v++List.replicate (m-n) 0) (n:Int) ((m:Int)-(n:Int)) (List.replicate n v)=List.replicate (n+min n (m-n)) v++List.replicate (m-(n+min n (m-n))) 0:=by
    have t1:((m:Int)-(n:Int)).toNat=m-n:=by omega
    have t2:(List.replicate n v++List.replicate (m-n) (0:Int)).take n=List.replicate n v:=by simp
    rw[Ud,t1,Ajf,t2,List.take_replicate,List.length_replicate,<-Ais,List.replicate_append_replicate,List.drop_append,List.length_replicate,Nat.min_comm (m-n) n];simp only[List.drop_replicate];rw[show n-(n+min n (m-n))=0 by omega,List.replicate_zero,All,show m-n-(n+min n (m-n)-n)=m-(n+min n (m-n)) by omega]
   rw[e2,e3,Ag,show(n:Int)+((min n (m-n):Nat):Int)=((n+min n (m-n):Nat):Int) by omega];exact kD v m hm j (n+min n (m-n)) q (by omega) (by omega) (by omega) (by omega)
  ·rw[Abe (by rw[Af];simp;omega)];obtain rfl:n=m:=by omega
   simp[Il,My]
theorem qg(v:Int)(m:Nat)(hm:m<=100000):Mt [v] (m:Int)=some (List.replicate m v):=by
 have y1:(UInt64.ofNat m).toNat=m:=QT (by omega);have c1:(Ad (Ac [v]):UInt64)=1:=by rfl
 have c2:(Ad (m:Int):UInt64)=UInt64.ofNat m:=Ll m;have c3:(Ad (UInt64.ofNat m):Int)=(m:Int):=by rw[jQ (by omega),y1]
 rw[Mt,Oy,Abe (by rw[Af];simp),Pb,Oo,c1,c2,mul_one m hm,Aa];simp only;rw[Abe (by rw[QL,QL,y1];simp;show m<=9223372036854775807;omega),Ou,Pa,c3,lA,Aa,Bw (by rw[Bf];simp),Aa,Oz,Ajf];by_cases h0:m=0
 ·subst h0;have hF:Az=(Az-1)+1:=by have:=As;omega
  rw[hF,Dw,Gg];simp[Ac,qO,OU,Af,Il,My]
 ·have:=kD v m hm m 1 Az (by omega) (by omega) (by omega) (by have:=As;omega);have e1:OU (Ac (List.replicate m (0:Int))) [v].length=((1:Nat):Int):=by simp[OU,Ac];omega
  have e2:qO (List.replicate m (0:Int)) [v]=List.replicate 1 v++List.replicate (m-1) 0:=by
   obtain⟨k,rfl⟩:∃k,m=k+1:=⟨m-1,by omega⟩;simp[qO]
  rw[e1,e2,this]
theorem ny(l m:List Int)(h:l.length+m.length<=1000000):Mi [l,m]=some (l++m):=by
 have hF:Az=(Az-3)+1+1+1:=by have:=As;omega
 rw[Mi,Ox,Oq];have g0:Aj [l,m] (0:Int)=some l:=rfl;have g1:Aj [l,m] (1:Int)=some m:=rfl;have l2:Ac [l,m]=2:=rfl;have h3:Io [l,m] []=some (l++m):=by
  rw[Io,Mz,Nd,hF,Dm,Fi,l2,Acz (by decide),g0,Aa,Cc (by simp;omega),Aa,All,show Ae (0:Int) 1=1 by decide,
   Dm,Fi,l2,Acz (by decide),g1,Aa,Cc,Aa,show Ae (1:Int) 1=2 by decide,Dm,Fi,l2,Abe (by decide)]
  rfl
 rw[hF,Dv,Gf,l2,Acz (by decide),g0,Aa,Ag (by unfold Ac;omega) (by unfold Ac;omega),Abe (by rw[Af,Ac];simp),show Ae (0:Int) 1=1 by decide,
  Dv,Gf,l2,Acz (by decide),g1,Aa,Ag (by unfold Ac;omega) (by unfold Ac;omega),Abe (by rw[Af,Ac,Ac];simp;omega),show Ae (1:Int) 1=2 by decide,
  Dv,Gf,l2,Abe (by decide),Mw,Nf,Abe (by rw[Af,Ac,Ac];simp;omega),Nc,Na]
 have z:Am (0:Int) 0=0:=by decide
 have n0:(0:Int)+Ac l+Ac m=((l.length+m.length:Nat):Int):=by simp[Ac]
 rw[z,n0,Bk,Int.sub_zero];by_cases hp:0<l.length+m.length
 ·rw[Acz (by rw[Ap];simp;omega),show eX (0:Int) 0 0=some ()from rfl,Aa,lA,Aa,Cc (by simp;omega),Aa];rw[show eX (Ac ([]++List.replicate ((l.length+m.length:Nat):Int).toNat (0:Int))) 0 0=some () by rw[eX,Bw];simp[Ac];omega,Aa];simp only[TE,Int.sub_self,Int.toNat_zero,Anx];exact h3
 ·rw[Abe (by rw[Ap];simp;omega)];exact h3
theorem Ace{r n:Nat}(h1:1<=r)(h:r<=1048576)(n1:1<=n)(n2:n<=4000)(hk:(n-1)/Ar r+1<=1000):QE (r:Int) (n:Int)=some (Ax (Ar r) n,0):=by
 have hp:=Rc r;have hl:=fZ h;have hd:=Am8 (n-1) (Ar r);rw[QE,UO h1 h n1 n2,Abe (by omega),Aa];simp only;rw[Abe (by rw[Ah];simp),rV h1 h,Aa];simp only;rw[Ax];generalize(n-1)/Ar r=k at*
 have e1:Am ((k+1:Nat):Int) 1=(k:Int):=by rw[Bk];omega
 have e2:(k:Int)*(Ar r:Int)=((k*Ar r:Nat):Int):=by simp
 rw[e1,qg _ _ (by omega),Aa,Hr (by rw[e2];omega) (by rw[e2];omega),e2,Bk,OG,ny _ _ (by simp;omega),Aa,Aa,show(n:Int)-((k*Ar r:Nat):Int)=((n-k*Ar r:Nat):Int) by omega]
def Hm(f c w r n:Nat):Bool:=decide ((f=1\/f=2)/\ (1<=c/\c<=6)/\ (w=8\/w=16\/w=24)/\ (1<=r/\r<=1048576)/\1<=n)
def KF(c r n:Nat):Bool:=decide (n<=4000/c/\ (n-1)/Ar r+1<=1000)
theorem kA(f c w r n:Nat):Zo (f:Int) (c:Int) (w:Int) (r:Int) (n:Int)=some (Hm f c w r n):=by
 have e2:Yg (f:Int) (c:Int) (w:Int) (r:Int) (n:Int)=some (decide ((f=1\/f=2)/\ (1<=c/\c<=6)/\ (1<=r/\r<=1048576)/\1<=n)):=by
  rw[Yg,SS];congr 1;rw[Ah4];simp only[Bf,Ap,tO,Ac9,Ani,Ang,Ada];omega
 have g:∀k:Nat,geq (w:Int) (k:Int)=decide (w=k):=λk=>by rw[Bf,Ah4];simp;omega
 have g8:geq (w:Int) (8:Int)=decide (w=8):=g 8;have g16:geq (w:Int) (16:Int)=decide (w=16):=g 16;have g24:geq (w:Int) (24:Int)=decide (w=24):=g 24;rw[Zo,GR,e2,g8,g16,g24,Hm];by_cases h8:w=8
 ·subst h8;simp
 ·by_cases h16:w=16
  ·subst h16;simp
  ·by_cases h24:w=24
   ·subst h24;simp
   ·simp[h8,h16,h24]
theorem N4(f c w r n:Nat):Pq (f:Int) (c:Int) (w:Int) (r:Int) (n:Int)=some (Hm f c w r n):=by
 rw[Pq,Hm];simp only[Bf,Ef,tO,Ac9,Ani,Ang,Ada,Aol];split
 ·rename_i h;congr 1;rw[Ah4];simp only[Ac9,Ani,Ang,Ada];omega
 ·rename_i h;congr 1;symm;rw[Ami];omega
theorem Ag1{c:Nat}(h:1<=c):Cg (4000:Int) (c:Int)=((4000/c:Nat):Int):=by
 have:4000/c<=4000:=Aj5 _ _;rw[KE,Alz (by omega),show(4000:Int)=((4000:Nat):Int)from rfl,<-Int.natCast_ediv];generalize 4000/c=k at*
 exact Bs (by omega) (by omega)
theorem sV{f c w r n:Nat}(h:Hm f c w r n=true):JL (f:Int) (c:Int) (w:Int) (r:Int) (n:Int)=some (KF c r n):=by
 simp only[Hm,Ada]at h;have hd:4000/c<=4000:=Aj5 _ _;rw[JL,Bw (by rw[Ah];simp;omega),Aa,Ag1 (by omega),KF];generalize 4000/c=m at*
 by_cases h1:n<=m
 ·rw[Abe (by rw[Ap];simp;omega),UO (by omega) (by omega) (by omega) (by omega),Aa];generalize(n-1)/Ar r+1=k;by_cases h2:1000<k
  ·rw[Acz h2];simp[Bf,tO];omega
  ·rw[Abe h2];simp[Bf,tO,h1];omega
 ·rw[Acz (by rw[Ap];simp;omega)];simp[h1]
theorem Acn{f c w r n:Nat}(h:Hm f c w r n=true):Kg (f:Int) (c:Int) (w:Int) (r:Int) (n:Int)=some (!KF c r n):=by
 simp only[Hm,Ada]at h;have hd:4000/c<=4000:=Aj5 _ _;rw[Kg,Bw (by rw[Ah];simp;omega),Aa,Ag1 (by omega),KF];generalize 4000/c=m at*
 by_cases h1:n<=m
 ·rw[Abe (by rw[Ap];simp;omega),gG (by omega) (by omega) (by omega),Aa,Ac,YP];generalize(n-1)/Ar r+1=k;congr 1;rw[Ap,Ah4];simp only[Ada,Akv,Ami];omega
 ·rw[Acz (by rw[Ap];simp;omega)];simp[h1]
def gE:List UInt8:=[84,84,65,49]
def f0(b:List UInt8):Nat:=Dz (part b 4 2)
def f1(b:List UInt8):Nat:=Dz (part b 6 2)
def f2(b:List UInt8):Nat:=Dz (part b 8 2)
def f3(b:List UInt8):Nat:=Dz (part b 10 4)
def f4(b:List UInt8):Nat:=Dz (part b 14 4)
abbrev H6:=Int×Int×Int×Int×Int×Int
def Mv(b:List UInt8):H6:=
 if b.take (min 4 b.length)≠gE.take (min 4 b.length)then(0,0,0,0,0,12)else if b.length<22 then(0,0,0,0,0,24)else
 if(Gk (b.take 18)).toNat≠Dz (part b 18 4)then(0,0,0,0,0,22)else
 if Hm (f0 b) (f1 b) (f2 b) (f3 b) (f4 b)=false then(0,0,0,0,0,12)else
 if KF (f1 b) (f3 b) (f4 b)=false then(0,0,0,0,0,4)else((f0 b:Int),(f1 b:Int),(f2 b:Int),(f3 b:Int),(f4 b:Int),0)
section
variable {b:List UInt8}
theorem rs1(h:b.take (min 4 b.length)≠gE.take (min 4 b.length)):Mv b=(0,0,0,0,0,12):=by rw[Mv,Acz h]
variable (h:b.take (min 4 b.length)=gE.take (min 4 b.length))
include h
theorem rs2(h2:b.length<22):Mv b=(0,0,0,0,0,24):=by rw[Mv,Abe (λe=>e h),Acz h2]
variable (h2:¬b.length<22)
include h2
theorem rs3(h3:(Gk (b.take 18)).toNat≠Dz (part b 18 4)):Mv b=(0,0,0,0,0,22):=by rw[Mv,Abe (λe=>e h),Abe h2,Acz h3]
variable (h3:(Gk (b.take 18)).toNat=Dz (part b 18 4))
include h3
theorem rs4(h4:Hm (f0 b) (f1 b) (f2 b) (f3 b) (f4 b)=false):Mv b=(0,0,0,0,0,12):=by rw[Mv,Abe (λe=>e h),Abe h2,Abe (λe=>e h3),Acz h4]
variable (h4:Hm (f0 b) (f1 b) (f2 b) (f3 b) (f4 b)=true)
include h4
theorem rs5(h5:KF (f1 b) (f3 b) (f4 b)=false):Mv b=(0,0,0,0,0,4):=by rw[Mv,Abe (λe=>e h),Abe h2,Abe (λe=>e h3),Abe (by rw[h4];simp),Acz h5]
theorem rs6(h5:KF (f1 b) (f3 b) (f4 b)=true):Mv b=((f0 b:Int),(f1 b:Int),(f2 b:Int),(f3 b:Int),(f4 b:Int),0):=by rw[Mv,Abe (λe=>e h),Abe h2,Abe (λe=>e h3),Abe (by rw[h4];simp),Abe (by rw[h5];simp)]
end
theorem wz(b:List UInt8)(h2:¬b.length<22):Ch (Ad (Gk (b.take 18)):UInt64) (cT (part b 18 4))=decide ((Gk (b.take 18)).toNat≠Dz (part b 18 4)):=by
 rw[LW,Ih,Ah4];simp only[Aos,ne_eq,Ada];rw[<-An4,QT (by have:=(Gk (b.take 18)).toNat_lt;omega),QU (by rw[Cz];omega)]
theorem YC(b:List UInt8)(a w:Nat)(i q:Nat)(l:List Int)(hi:i<5)(hl:l.length=5)(hw:Aj ([2,2,2,4,4]:List Int) (i:Int)=some (w:Int))(h1:1<=w)(h4:w<=4)(ha:a+w<=b.length)(hb:b.length<4611686018427387904):
  Lq b (q+1) (a:Int) (i:Int) l=Lq b q ((a+w:Nat):Int) ((i+1:Nat):Int) (l.set i (Dz (part b a w):Int)):=by
 rw[Lq,CZ,Acz (by rw[Af];simp;omega),hw,Aa,sI b a w h1 (by omega) ha hb,Aa];simp only;rw[Cq,Aa,Zg _ (by omega),Aa,IC (by rw[Cz ha];omega),Ag,Ag];rfl
theorem Aaq(b:List UInt8)(h22:¬b.length<22)(hb:b.length<4611686018427387904):DM b 4 0 (List.replicate 5 0)=CX [(f0 b:Int),(f1 b:Int),(f2 b:Int),(f3 b:Int),(f4 b:Int)]:=by
 have hF:Az=(Az-6)+1+1+1+1+1+1:=by have:=As;omega
 rw[DM,hF,show(4:Int)=((4:Nat):Int)from rfl,show(0:Int)=((0:Nat):Int)from rfl];rw[YC b 4 2 0 _ _ (by omega) (by simp) rfl (by omega) (by omega) (by omega) hb,YC b 6 2 1 _ _ (by omega) (by simp) rfl (by omega) (by omega) (by omega) hb,YC b 8 2 2 _ _ (by omega) (by simp) rfl (by omega) (by omega) (by omega) hb,
  YC b 10 4 3 _ _ (by omega) (by simp) rfl (by omega) (by omega) (by omega) hb,YC b 14 4 4 _ _ (by omega) (by simp) rfl (by omega) (by omega) (by omega) hb,Lq,CZ,Abe (by rw[Af];simp)]
 rfl
theorem Amb(b:List UInt8):Vj [84,84,65,49] (b.take (min 4 b.length))=some (decide (b.take (min 4 b.length)=gE.take (min 4 b.length))):=by
 have hl:(b.take (min 4 b.length)).length=min 4 b.length:=by rw[Ahf];omega
 rw[Vj,Iz,Acz (by rw[Ef,Ac,Ac,hl];simp;omega),Ac,hl,Jz (by omega) (by simp;omega),Aa,Aa,Ajf];congr 1;rw[Ah4];rw[Ada,Ang];exact eq_comm
theorem Aks(b:List UInt8):Gv (4:Int) (Ac b)=((min 4 b.length:Nat):Int):=by rw[KC,Ac];omega
theorem tL(b:List UInt8)(hb:b.length<4611686018427387904):IM b=some (Mv b):=by
 rw[IM,OV,Aks,Jz,Aa,Ajf,Amb,Aa];by_cases h:b.take (min 4 b.length)=gE.take (min 4 b.length)
 ·rw[Abe (by simpa using h)];by_cases h2:b.length<22
  ·rw[Acz (by rw[Af,Ac];simp;omega),rs2 h h2]
  ·have a1:TI b 18 4=some (cT (part b 18 4),0):=sI b 18 4 (by omega) (by omega) (by omega) hb;rw[Abe (by rw[Af,Ac];simp;omega),a1,Aa];simp only;rw[Jz,Aa,show(18:Int).toNat=18 from rfl,K3 _ (by simp;omega),Aa];simp only;rw[wz b h2];by_cases h3:(Gk (b.take 18)).toNat=Dz (part b 18 4)
   ·rw[Abe (by simpa using h3),Aaq b h2 hb,CX,aO];rw[show Aj [(f0 b:Int),(f1 b:Int),(f2 b:Int),(f3 b:Int),(f4 b:Int)] 0=some (f0 b:Int)from rfl,show Aj [(f0 b:Int),(f1 b:Int),(f2 b:Int),(f3 b:Int),(f4 b:Int)] 1=some (f1 b:Int)from rfl,show Aj [(f0 b:Int),(f1 b:Int),(f2 b:Int),(f3 b:Int),(f4 b:Int)] 2=some (f2 b:Int)from rfl,
     show Aj [(f0 b:Int),(f1 b:Int),(f2 b:Int),(f3 b:Int),(f4 b:Int)] 3=some (f3 b:Int)from rfl,show Aj [(f0 b:Int),(f1 b:Int),(f2 b:Int),(f3 b:Int),(f4 b:Int)] 4=some (f4 b:Int)from rfl]
    simp only[Aa,kA];cases h4:Hm (f0 b) (f1 b) (f2 b) (f3 b) (f4 b)with
    |false=>rw[rs4 h h2 h3 h4];rfl
    |true=>
     rw[sV h4,Abe (by simp),Aa];cases h5:KF (f1 b) (f3 b) (f4 b)with
     |false=>rw[rs5 h h2 h3 h4 h5];rfl
     |true=>rw[rs6 h h2 h3 h4 h5];rfl
   ·rw[Acz (by simpa using h3),rs3 h h2 h3]
 ·rw[Acz (by simpa using h),rs1 h]
theorem nG(b:List UInt8)(hb:b.length<4611686018427387904):Ke b=some (Mv b):=by
 rw[Ke,Wo,Aks,Jz,Aa,Ajf,Jz (by omega) (by simp;omega),Aa,Ajf];by_cases h:b.take (min 4 b.length)=gE.take (min 4 b.length)
 ·rw[Abe (by rw[h];simp[gE]),Xl,Wv];by_cases h2:b.length<22
  ·rw[Acz (by rw[Af,Ac];simp;omega),rs2 h h2]
  ·have a1:Bv b 18 22=some (part b 18 4):=Oc 18 4;have c1:Bv b 4 6=some (part b 4 2):=Oc 4 2;have c2:Bv b 6 8=some (part b 6 2):=Oc 6 2;have c3:Bv b 8 10=some (part b 8 2):=Oc 8 2;have c4:Bv b 10 14=some (part b 10 4):=Oc 10 4;have c5:Bv b 14 18=some (part b 14 4):=Oc 14 4;have hs:Ch (cT (part b 18 4)) (Ad (Gk (b.take 18)):UInt64)=decide ((Gk (b.take 18)).toNat≠Dz (part b 18 4)):=by
    rw[<-wz b h2,LW,LW,Ah4];simp only[Aos,ne_eq];exact not_congr eq_comm
   have lp:∀a w,a+w<=b.length->Al (part b a w)=some (cT (part b a w)):=λa w h=>B3 _ (by rw[Cz h];omega);rw[Abe (by rw[Af,Ac];simp;omega),a1,Aa,Jz,Aa,show(18:Int).toNat=18 from rfl,lp _ _ (by omega),Aa,xq _ (by simp;omega),Aa,hs];by_cases h3:(Gk (b.take 18)).toNat=Dz (part b 18 4)
   ·rw[Abe (by simpa using h3),Xo,Oa,c1,Aa,c2,Aa,c3,Aa,c4,Aa,c5,Aa,lp _ _ (by omega),Aa,lp _ _ (by omega),Aa,lp _ _ (by omega),Aa,lp _ _ (by omega),Aa,lp _ _ (by omega),Aa,
     Xj,IY,IC (by rw[Cz];omega),IC (by rw[Cz];omega),IC (by rw[Cz];omega),IC (by rw[Cz];omega),IC (by rw[Cz];omega)]
    rw[show Dz (part b 4 2)=f0 b from rfl,show Dz (part b 6 2)=f1 b from rfl,show Dz (part b 8 2)=f2 b from rfl,show Dz (part b 10 4)=f3 b from rfl,show Dz (part b 14 4)=f4 b from rfl,N4,Aa];cases h4:Hm (f0 b) (f1 b) (f2 b) (f3 b) (f4 b)with
    |false=>rw[rs4 h h2 h3 h4];rfl
    |true=>
     rw[Acn h4,Abe (by simp),Aa];cases h5:KF (f1 b) (f3 b) (f4 b)with
     |false=>rw[rs5 h h2 h3 h4 h5];rfl
     |true=>rw[rs6 h h2 h3 h4 h5];rfl
   ·rw[Acz (by simpa using h3),rs3 h h2 h3]
 ·rw[Acz (by simpa [gE]using h),rs1 h]
theorem B4{b:List UInt8}(h:(Mv b).2.2.2.2.2=0):Mv b=((f0 b:Int),(f1 b:Int),(f2 b:Int),(f3 b:Int),(f4 b:Int),0)/\22<=b.length/\Hm (f0 b) (f1 b) (f2 b) (f3 b) (f4 b)=true/\KF (f1 b) (f3 b) (f4 b)=true:=by
 unfold Mv at h⊢;split at h; · simp at h
 rename_i c1;rw[Abe c1];split at h; · simp at h
 rename_i c2;rw[Abe c2];split at h; · simp at h
 rename_i c3;rw[Abe c3];split at h; · simp at h
 rename_i c4;rw[Abe c4];split at h; · simp at h
 rename_i c5;rw[Abe c5];exact⟨rfl,by omega,by simpa using c4,by simpa using c5⟩
theorem kO{f c w r n:Nat}(h:Hm f c w r n=true)(h2:KF c r n=true):Zq (f:Int) (c:Int) (w:Int) (r:Int) (n:Int)=some (Ax (Ar r) n,0):=by
 have hc:LM (f:Int) (c:Int) (w:Int) (r:Int) (n:Int)=some 0:=by
  rw[LM,kA,Aa,h,Abe (by simp),sV h,Aa,h2];rfl
 have hd:4000/c<=4000:=Aj5 _ _;simp only[Hm,Ada]at h;simp only[KF,Ada]at h2;rw[Zq,hc,Aa,Abe (by rw[Ah];simp),Ace (by omega) (by omega) (by omega) (by omega) h2.2];rfl
def okL:List Int->Int->Bool
 |[],_=>true
 |x::l,left=>decide (5<=x/\x<=left)&&okL l (left-x)
theorem Aaa:∀l:List Int,(∀x∈l,5<=x)->0<=l.sum
 |[],_=>by simp
 |x::l,h=>by
  have h1:=h x Alq;have h2:=Aaa l λy hy=>h y (Ajo _ hy);rw[Amk];omega
theorem vZ:∀(l:List Int) (left:Int),0<=left-> (okL l left=true↔(∀x∈l,5<=x)/\l.sum<=left)
 |[],left,h=>by simp[okL];exact h
 |x::l,left,h=>by
  rw[okL,Ac9,Ada,Amk];by_cases hx:5<=x/\x<=left
  ·rw[vZ l (left-x) (by omega)];constructor
   ·rintro⟨_,h1,h2⟩;exact⟨λy hy=>(List.mem_cons.1 hy).elim (λe=>e▸hx.1) (h1 y),by omega⟩
   ·rintro⟨h1,h2⟩;exact⟨hx,λy hy=>h1 y (Ajo _ hy),by omega⟩
  ·constructor
   ·rintro⟨h1,_⟩;exact absurd h1 hx
   ·rintro⟨h1,h2⟩;have h3:=h1 x Alq;have:0<=l.sum:=Aaa l λy hy=>h1 y (Ajo _ hy);omega
theorem qD(l:List Int)(hl:l.length<=1000):∀(j i q:Nat) (left:Int),i+j=l.length->j<q->0<=left->left<=100000->Qq l q left (i:Int)=some (if okL (l.drop i) left=true then 0 else 8)
 |0,i,q+1,left,hi,_,_,_=>by
  rw[Qq,FB,Abe (by rw[Af,Ac];simp;omega),show i=l.length by omega,An5];rfl
 |j+1,i,q+1,left,hi,hq,h0,h1=>by
  have hlt:i<l.length:=by omega
  rw[Qq,FB,Acz (by rw[Af,Ac];simp;omega),Cq hlt,Aa,drop_cons hlt];by_cases h:5<=l[i]/\l[i]<=left
  ·rw[Abe (by simp[Af,Ap];omega),Bk,Ag];have ih:=qD l hl j (i+1) q (left-l[i]) (by omega) (by omega) (by omega) (by omega);rw[show((i:Int)+1)=((i+1:Nat):Int) by omega,ih];simp[okL,h]
  ·rw[Acz (by simp[Af,Ap];omega)];have:okL (l[i]::l.drop (i+1)) left=false:=by rw[okL,An0 h];rfl
   rw[this];rfl
def cH(l:List Int):Bool:=decide (1<=l.length/\l.length<=1000)&&okL l 100000
theorem xE(l:List Int)(hl:l.length<=1000):Xt l=some (if cH l=true then 0 else 8):=by
 rw[Xt,EN,cH];by_cases h:1<=l.length
 ·rw[Abe (by rw[Bf,Ap,Ac];simp;constructor;(intro e;subst e;simp at h);omega),OM];have:=qD l hl l.length 0 Az 100000 (by omega) (by have:=As;omega) (by omega) (by omega);rw[List.drop_zero]at this;rw[decide_eq_true (show 1<=l.length/\l.length<=1000 from⟨h,hl⟩),Aoa];exact this
 ·have:l=[]:=by
   cases l with
   |nil=>rfl
   |cons _ _=>simp at h
  subst this;rfl
theorem tM(l:List Int)(hl:l.length<=1000):∀(j i q:Nat) (s:Int),i+j=l.length->j<q->0<=s->s<=100000*(i:Int)->Gd l q s (i:Int)=some (if(∀x∈l.drop i,5<=x/\x<=100000)/\s+(l.drop i).sum<=100000 then 0 else 8)
 |0,i,q+1,s,hi,_,_,_=>by
  rw[Gd,Mq,Abe (by rw[Af,Ac];simp;omega),show i=l.length by omega,An5,Sy,EX];by_cases h:s<=100000
  ·rw[Abe (by rw[Ap];simp;omega),Acz (by simp;omega)]
  ·rw[Acz (by rw[Ap];simp;omega),Abe (by simp;omega)]
 |j+1,i,q+1,s,hi,hq,h0,h1=>by
  have hlt:i<l.length:=by omega
  rw[Gd,Mq,Acz (by rw[Af,Ac];simp;omega),Cq hlt,Aa,drop_cons hlt];by_cases h5:l[i]<5
  ·rw[Acz (by rw[Af];simpa using h5),Abe (λh=>by have:=(h.1 l[i] Alq).1;omega)]
  ·rw[Abe (by rw[Af];simpa using h5),Aa];by_cases h6:100000<l[i]
   ·rw[Acz (by rw[Ap];simpa using h6),Abe (λh=>by have:=(h.1 l[i] Alq).2;omega)]
   ·rw[Abe (by rw[Ap];simpa using h6),Ux,FZ,Cq hlt,Aa,Ag,Ag];have ih:=tM l hl j (i+1) q (s+l[i]) (by omega) (by omega) (by omega) (by omega);rw[show((i:Int)+1)=((i+1:Nat):Int) by omega,ih];have e:((∀x∈l.drop (i+1),5<=x/\x<=100000)/\s+l[i]+(l.drop (i+1)).sum<=100000)↔((∀x∈l[i]::l.drop (i+1),5<=x/\x<=100000)/\s+(l[i]::l.drop (i+1)).sum<=100000):=by
     rw[Amk,List.forall_mem_cons,Aoh];constructor
     ·rintro⟨a,b⟩;exact⟨⟨by omega,a⟩,b⟩
     ·rintro⟨⟨_,a⟩,b⟩;exact⟨a,b⟩
    simp only[e]
theorem xw:∀{l:List Int},(∀x∈l,5<=x)->∀x∈l,x<=l.sum
 |[],_,x,hx=>by simp at hx
 |y::l,h,x,hx=>by
  have h1:=h y Alq;have h2:=Aaa l λz hz=>h z (Ajo _ hz);rw[Amk];rcases List.mem_cons.1 hx with rfl|hx
  ·omega
  ·have:=xw (l:=l) (λz hz=>h z (Ajo _ hz)) x hx;omega
theorem D7(l:List Int)(hl:l.length<=1000):Gm l=some (if cH l=true then 0 else 8):=by
 rw[Gm,Mg,cH];by_cases h:1<=l.length
 ·have:=tM l hl l.length 0 Az 0 (by omega) (by have:=As;omega) (by omega) (by omega);rw[Abe (by rw[Af,Ap,Ac];simp;omega),Vb];refine Anl this ?_;rw[List.drop_zero,decide_eq_true (show 1<=l.length/\l.length<=1000 from⟨h,hl⟩),Aoa];have e:((∀x∈l,5<=x/\x<=100000)/\0+l.sum<=100000)↔okL l 100000=true:=by
   rw[vZ l 100000 (by omega),Int.zero_add];constructor
   ·rintro⟨a,b⟩;exact⟨λx hx=>(a x hx).1,b⟩
   ·rintro⟨a,b⟩;exact⟨λx hx=>⟨a x hx,Int.le_trans (xw a x hx) b⟩,b⟩
  simp only[e]
 ·have:l=[]:=by
   cases l with
   |nil=>rfl
   |cons _ _=>simp at h
  subst this;rfl
theorem mI(l:List Int):Xt l=some (if cH l=true then 0 else 8):=by
 by_cases hl:l.length<=1000
 ·exact xE l hl
 ·rw[Xt,EN,Acz (by rw[Ap,Ac];simp;omega),cH,An0 (by omega)];rfl
theorem rJ(l:List Int):Gm l=some (if cH l=true then 0 else 8):=by
 by_cases hl:l.length<=1000
 ·exact D7 l hl
 ·rw[Gm,Mg,Acz (by rw[Ap,Ac];simp;omega),cH,An0 (by omega)];rfl
theorem M9(l:List Int)(hl:l.length<=1000)(hx:∀x∈l,0<=x/\x<4294967296):Xt l=some (if cH l=true then 0 else 8):=mI l
theorem cu(l:List Int)(hl:l.length<=1000)(hx:∀x∈l,0<=x/\x<4294967296):Gm l=some (if cH l=true then 0 else 8):=rJ l
def SD(b:List UInt8)(n:Nat):List Int:=(List.range n).map λi=>(Dz (part b (4*i) 4):Int)
theorem IW(b:List UInt8)(n:Nat):(SD b n).length=n:=by simp[SD]
theorem sQ(b:List UInt8)(n:Nat):SD b (n+1)=SD b n++[(Dz (part b (4*n) 4):Int)]:=by simp[SD,List.range_succ]
theorem P9(b:List UInt8)(n:Nat)(h:4*n<=b.length):∀x∈SD b n,0<=x/\x<4294967296:=by
 intro x hx;simp only[SD,List.mem_map,List.mem_range]at hx;obtain⟨i,hi,rfl⟩:=hx;have:=U4 (l:=part b (4*i) 4) (by rw[Cz];omega);omega
def Ku(b:List UInt8)(n:Nat):List Int×Int:=
 if ¬(1<=n/\n<=1000)then([],2)else if b.length<4*n+4 then([],24)else if(Gk (b.take (4*n))).toNat≠Dz (part b (4*n) 4)then([],22)else
 if cH (SD b n)=true then(SD b n,0)else([],12)
theorem T7{b:List UInt8}{n:Nat}(h:1<=n/\n<=1000)(h2:¬b.length<4*n+4):Ch (Ad (Gk (b.take (4*n))):UInt64) (cT (part b (4*n) 4))=decide ((Gk (b.take (4*n))).toNat≠Dz (part b (4*n) 4)):=by
 rw[LW,Ih,Ah4];simp only[Aos,ne_eq,Ada];rw[<-An4,QT (by have:=(Gk (b.take (4*n))).toNat_lt;omega),QU (by rw[Cz];omega)]
section
variable {b:List UInt8} {n:Nat}
theorem ss1(h:¬(1<=n/\n<=1000)):Ku b n=([],2):=by rw[Ku,Acz h]
variable (h:1<=n/\n<=1000)
include h
theorem ss2(h2:b.length<4*n+4):Ku b n=([],24):=by rw[Ku,Abe (λe=>e h),Acz h2]
variable (h2:¬b.length<4*n+4)
include h2
theorem ss3(h3:(Gk (b.take (4*n))).toNat≠Dz (part b (4*n) 4)):Ku b n=([],22):=by rw[Ku,Abe (λe=>e h),Abe h2,Acz h3]
theorem ss4(h3:(Gk (b.take (4*n))).toNat=Dz (part b (4*n) 4)):Ku b n=if cH (SD b n)=true then(SD b n,0)else([],12):=by rw[Ku,Abe (λe=>e h),Abe h2,Abe (λe=>e h3)]
end
theorem tH(b:List UInt8)(l8:List Int)(n:Nat)(hn:n<=1000)(h8:l8.length=n)(hb:4*n+4<=b.length)(hb2:b.length<4611686018427387904):∀(j i q:Nat),i+j=n->j<q->Tx b l8 q (i:Int) (SD b i++List.replicate j 0)=HR (SD b n)
 |0,i,q+1,hi,_=>by
  obtain rfl:i=n:=by omega
  rw[Tx,HU,Abe (by rw[Af,Ac];simp;omega)];simp
 |j+1,i,q+1,hi,hq=>by
  have hlen:(SD b i++List.replicate (j+1) 0).length=i+(j+1):=by simp[IW]
  have ha:=sI b (4*i) 4 (by omega) (by omega) (by omega) hb2;rw[Tx,HU,Acz (by rw[Af,Ac];simp;omega),Hr,show(4:Int)*(i:Int)=((4*i:Nat):Int) by omega,show(4:Int)=((4:Nat):Int)from rfl,ha,Aa];simp only;rw[Cq (by rw[hlen];omega),Aa,Zg _ (by rw[hlen];omega),Aa,IC (by rw[Cz];omega),Ag,Am7,bD (IW _ _)];have ih:=tH b l8 n hn h8 hb hb2 j (i+1) q (by omega) (by omega);rw[sQ]at ih;rw[show((i:Int)+1)=((i+1:Nat):Int) by omega,<-ih];simp
theorem uL(b:List UInt8)(n:Nat)(hb:b.length<=100100):OH b (n:Int)=some (Ku b n):=by
 rw[OH,SC];by_cases h:1<=n/\n<=1000
 ·rw[Abe (by simp[Af,Ap];omega),Hr,Ag];by_cases h2:b.length<4*n+4
  ·rw[Acz (by rw[Af,Ac];simp;omega),ss2 h h2]
  ·have ha:TI b (4*(n:Int)) 4=some (cT (part b (4*n) 4),0):=by
    rw[show(4:Int)*(n:Int)=((4*n:Nat):Int) by omega];exact sI b (4*n) 4 (by omega) (by omega) (by omega) (by omega)
   rw[Abe (by rw[Af,Ac];simp;omega),ha,Aa];simp only;rw[Jz,Aa,show(4*(n:Int)).toNat=4*n by omega,K3 _ (by simp;omega),Aa];simp only;rw[T7 h h2];by_cases h3:(Gk (b.take (4*n))).toNat=Dz (part b (4*n) 4)
   ·have hlp:=tH b (List.replicate n 0) n (by omega) (by simp) (by omega) (by omega) n 0 Az (by omega) (by have:=As;omega);rw[Abe (by simpa using h3),lA,Aa,Bw (by rw[Bf];simp),Aa,RL,Ajf];refine Anl (hlp) ?_;rw[HR,dE,M9 _ (by rw[IW];omega) (P9 b n (by omega)),Aa,ss4 h h2 h3];cases cH (SD b n)<;>rfl
   ·rw[Acz (by simpa using h3),ss3 h h2 h3]
 ·rw[Acz (by simp[Af,Ap];omega),ss1 h]
theorem cW(b:List UInt8)(n:Nat)(hn:n<=1000)(hb:4*n+4<=b.length)(hb2:b.length<4611686018427387904):∀(j i q:Nat),i+j=n->j<q->Gy b (n:Int) q (i:Int) (SD b i)=Nx (SD b n)
 |0,i,q+1,hi,_=>by
  obtain rfl:i=n:=by omega
  rw[Gy,Nv,Abe (by rw[Af];simp)]
 |j+1,i,q+1,hi,hq=>by
  have hc:Bv b ((4:Int)*(i:Int)) ((4:Int)*(i:Int)+4)=some (part b (4*i) 4):=by
   rw[show(4:Int)*(i:Int)=((4*i:Nat):Int) by omega];exact Oc (4*i) 4
  rw[Gy,Nv,Acz (by rw[Af];simp;omega),Hr,Ag,hc,Aa,B3 _ (by rw[Cz];omega),Aa,Cc (by rw[IW];simp;omega),Aa,
   IC (by rw[Cz];omega),Ag,<-sQ]
  exact cW b n hn hb hb2 j (i+1) q (by omega) (by omega)
theorem D6(b:List UInt8)(n:Nat)(hb:b.length<=100100):Kf b (n:Int)=some (Ku b n):=by
 rw[Kf,Wf];by_cases h:1<=n/\n<=1000
 ·rw[Abe (by simp[Af,Ap];omega),Hr,Ag];by_cases h2:b.length<4*n+4
  ·rw[Acz (by rw[Af,Ac];simp;omega),ss2 h h2]
  ·have hc:Bv b ((4:Int)*(n:Int)) ((4:Int)*(n:Int)+4)=some (part b (4*n) 4):=by
    rw[show(4:Int)*(n:Int)=((4*n:Nat):Int) by omega];exact Oc (4*n) 4
   have hs:Ch (cT (part b (4*n) 4)) (Ad (Gk (b.take (4*n))):UInt64)=decide ((Gk (b.take (4*n))).toNat≠Dz (part b (4*n) 4)):=by
    rw[<-T7 h h2,LW,LW,Ah4];simp only[Aos,ne_eq];exact not_congr eq_comm
   rw[Abe (by rw[Af,Ac];simp;omega),hc,Aa,Jz,Aa,show(4*(n:Int)).toNat=4*n by omega,B3 _ (by rw[Cz];omega),Aa,xq _ (by simp;omega),Aa,hs];by_cases h3:(Gk (b.take (4*n))).toNat=Dz (part b (4*n) 4)
   ·have hlp:=cW b n (by omega) (by omega) (by omega) n 0 Az (by omega) (by have:=As;omega);rw[Abe (by simpa using h3),Wr,Wd,Xq];refine Anl hlp ?_;rw[Nx,JG,cu _ (by rw[IW];omega) (P9 b n (by omega)),Aa,ss4 h h2 h3];cases cH (SD b n)<;>rfl
   ·rw[Acz (by simpa using h3),ss3 h h2 h3]
 ·rw[Acz (by simp[Af,Ap];omega),ss1 h]
theorem nT{b:List UInt8}{n:Nat}(h:(Ku b n).2=0):Ku b n=(SD b n,0)/\1<=n/\n<=1000/\4*n+4<=b.length/\ (∀x∈SD b n,5<=x)/\ (SD b n).sum<=100000:=by
 unfold Ku at h⊢;split at h; · simp at h
 rename_i c1;rw[Abe c1];split at h; · simp at h
 rename_i c2;rw[Abe c2];split at h; · simp at h
 rename_i c3;rw[Abe c3];split at h
 ·rename_i c4;rw[Acz c4];have c4':=c4;rw[cH,Ac9,vZ _ _ (by omega)]at c4';exact⟨rfl,by omega,by omega,by omega,c4'.2.1,c4'.2.2⟩
 ·simp at h
def RM(b:List UInt8):List UInt8:=b.drop (Fb b).1.toNat
abbrev Op8:=Int×Int×Int×Int×Int×Int×(List Int)×Int
def eB(e:Int):Op8:=(0,0,0,0,0,0,[],e)
theorem Acb(A K:Nat)(h:A<=200000)(hk:K<=1000):Ae (Ae (A:Int) (Be 4 (K:Int))) 4=((A+4*K+4:Nat):Int):=by
 rw[Hr,Ag (a:=(A:Int)) (by omega) (by omega),Ag];omega
theorem sX{f c w r n:Nat}(h1:Hm f c w r n=true)(h2:KF c r n=true)(b:List UInt8)(hb:b.length<=100100)(A:Nat)(hA:A<=b.length):
  Wx b (f:Int) (c:Int) (w:Int) (r:Int) (n:Int) (A:Int)=
   some (if(Ku (b.drop A) (Ax (Ar r) n).length).2≠0 then eB (Ku (b.drop A) (Ax (Ar r) n).length).2 else((f:Int),(c:Int),(w:Int),(r:Int),(n:Int),((A+4*(Ax (Ar r) n).length+4:Nat):Int),(Ku (b.drop A) (Ax (Ar r) n).length).1,0)):=by
 rw[Wx,ZC,kO h1 h2,Aa];simp only;rw[Abe (by rw[Ah];simp),Lm,Aa,Ac,show(A:Int).toNat=A from rfl,uL _ _ (by simp;omega),Aa];by_cases h:(Ku (b.drop A) (Ax (Ar r) n).length).2≠0
 ·rw[Acz h,Acz (by rw[Ah];simpa using h)];rfl
 ·have h0:(Ku (b.drop A) (Ax (Ar r) n).length).2=0:=by simpa using h
  obtain⟨g1,g2,g3,g4,g5,g6⟩:=nT h0;have gl:(Ku (b.drop A) (Ax (Ar r) n).length).1.length=(Ax (Ar r) n).length:=by rw[g1];exact IW _ _
  rw[Abe h,Abe (by rw[Ah];simpa using h),Ac,gl,Acb _ _ (by omega) (by omega)]
theorem yj{f c w r n:Nat}(h1:Hm f c w r n=true)(h2:KF c r n=true)(b:List UInt8)(hb:b.length<=100100)(A:Nat)(hA:A<=b.length):
  Ky b (f:Int) (c:Int) (w:Int) (r:Int) (n:Int) (A:Int)=
   some (if(Ku (b.drop A) (Ax (Ar r) n).length).2≠0 then eB (Ku (b.drop A) (Ax (Ar r) n).length).2 else((f:Int),(c:Int),(w:Int),(r:Int),(n:Int),((A+4*(Ax (Ar r) n).length+4:Nat):Int),(Ku (b.drop A) (Ax (Ar r) n).length).1,0)):=by
 have hs:(1<=r/\r<=1048576)/\1<=n/\1<=c:=by
  simp only[Hm,Ada]at h1;omega
 have hf:n<=4000:=by
  simp only[KF,Ada]at h2;have:=Aj5 4000 c;omega
 rw[Ky,DE,Lm,Aa,gG hs.1.2 hs.2.1 hf,Aa,Ac,show(A:Int).toNat=A from rfl,D6 _ _ (by simp;omega),Aa];simp only;rw[DA,DJ];by_cases h:(Ku (b.drop A) (Ax (Ar r) n).length).2≠0
 ·rw[Acz h,Acz (by rw[Ah];simpa using h)];rfl
 ·have h0:(Ku (b.drop A) (Ax (Ar r) n).length).2=0:=by simpa using h
  obtain⟨g1,g2,g3,g4,g5,g6⟩:=nT h0;have gl:(Ku (b.drop A) (Ax (Ar r) n).length).1.length=(Ax (Ar r) n).length:=by rw[g1];exact IW _ _
  rw[Abe h,Abe (by rw[Ah];simpa using h),Ac,gl,Acb _ _ (by omega) (by omega)]
structure Opn (b p:List UInt8) (f c w r n A:Nat) (l:List Int):Prop where
 prog:Ft b p=some ((f:Int),(c:Int),(w:Int),(r:Int),(n:Int),(A:Int),l,0)
 ref:De b p=some ((f:Int),(c:Int),(w:Int),(r:Int),(n:Int),(A:Int),l,0)
 pass:p.length<=64
 file:b.length<=100000
 shape:Hm f c w r n=true
 fit:KF c r n=true
 len:l.length=(Ax (Ar r) n).length
 some1:1<=l.length/\l.length<=1000
 five:∀x∈l,5<=x
 sum:l.sum<=100000
 at':A<=b.length
 tag:(Fb b).2=0
 head:Mv (RM b)=((f:Int),(c:Int),(w:Int),(r:Int),(n:Int),0)
 tab:Ku (b.drop ((Fb b).1.toNat+22+(if f=2 then 8 else 0))) l.length=(l,0)
 pos:A=(Fb b).1.toNat+22+(if f=2 then 8 else 0)+4*l.length+4
theorem wQ(b p:List UInt8)(hb:b.length<=100100)(hp:p.length<=64):
  (∃e:Int,e≠0/\Ft b p=some (eB e)/\De b p=some (eB e))\/ (∃f c w r n A l,Opn b p f c w r n A l):=by
 by_cases h1:100000<b.length
 ·refine .inl ⟨4,by omega,?_,?_⟩
  ·rw[Ft,DD,Abe (by rw[Ap,Ac];simp;omega),Acz (by rw[Ap,Ac];simp;omega)];rfl
  ·rw[De,Ro,Acz (by rw[Ap,Ac];simp;omega)];rfl
 have hP:Ft b p=Ft b p:=rfl;have hR:De b p=De b p:=rfl
 conv at hP=>rhs;rw[Ft,DD,Abe (by rw[Ap,Ac];simp;omega),Abe (by rw[Ap,Ac];simp;omega),YA b (by omega),Aa]
 conv at hR=>rhs;rw[De,Ro,Abe (by rw[Ap,Ac];simp;omega),UM b (by omega),Aa]
 by_cases h2:(Fb b).2=0
 ·obtain⟨p0,p1,p2⟩:=iH h2;have hc:=Lm (l:=b) p0 p1;simp only[h2]at hP hR;rw[Abe (by rw[Ah];simp),hc,Aa,show b.drop (Fb b).1.toNat=RM b from rfl,tL _ (by simp[RM];omega),Aa]at hP;rw[Abe (by rw[Ah];simp),hc,Aa,show b.drop (Fb b).1.toNat=RM b from rfl,nG _ (by simp[RM];omega),Aa]at hR;by_cases h3:(Mv (RM b)).2.2.2.2.2=0
  ·obtain⟨g1,g2,g3,g4⟩:=B4 h3;have hlen:(RM b).length=b.length-(Fb b).1.toNat:=by simp[RM]
   generalize hF:(Fb b).1.toNat=F at*
   have hF':(Fb b).1=(F:Int):=by omega
   rw[g1,hF']at hP hR;simp only at hP hR;generalize f0 (RM b)=f at*
   generalize f1 (RM b)=c at*
   generalize f2 (RM b)=w at*
   generalize f3 (RM b)=r at*
   generalize f4 (RM b)=n at*
   have t22:Ae (F:Int) 22=((F+22:Nat):Int):=by rw[Ag];omega
   have t30:Ae ((F+22:Nat):Int) 8=((F+30:Nat):Int):=by rw[Ag];omega
   have Anb:f=1\/f=2:=by simp only[Hm,Ada]at g3;omega
   rw[Abe (by rw[Ah];simp),t22,t30]at hP hR;have hend:∀A:Nat,A<=b.length->A=F+22+(if f=2 then 8 else 0)->Ft b p=Wx b (f:Int) (c:Int) (w:Int) (r:Int) (n:Int) (A:Int)->De b p=Ky b (f:Int) (c:Int) (w:Int) (r:Int) (n:Int) (A:Int)->
     (∃e:Int,e≠0/\Ft b p=some (eB e)/\De b p=some (eB e))\/ (∃f c w r n A l,Opn b p f c w r n A l):=by
    intro A hA hA2 e1 e2;rw[sX g3 g4 b hb A hA]at e1;rw[yj g3 g4 b hb A hA]at e2;by_cases h:(Ku (b.drop A) (Ax (Ar r) n).length).2≠0
    ·rw[Acz h]at e1 e2;exact .inl ⟨_,h,e1,e2⟩
    ·have h0:(Ku (b.drop A) (Ax (Ar r) n).length).2=0:=by simpa using h
     obtain⟨k1,k2,k3,k4,k5,k6⟩:=nT h0;have gl:(Ku (b.drop A) (Ax (Ar r) n).length).1.length=(Ax (Ar r) n).length:=by rw[k1];exact IW _ _
     rw[Abe h]at e1 e2;rw[Ak8]at k4;refine .inr ⟨f,c,w,r,n,_,_,⟨e1,e2,hp,by omega,g3,g4,gl,by omega,by rw[k1];exact k5,by rw[k1];exact k6,by omega,h2,g1,by rw[gl,hF,<-hA2];exact Prod.ext rfl h0,by rw[gl,hF,<-hA2]⟩⟩
   by_cases TW:((p==([]:List UInt8)) !=(geq (f:Int) (1:Int)))=true
   ·rw[Acz TW]at hP hR;exact .inl ⟨26,by omega,hP,hR⟩
   ·rw[Abe TW]at hP hR;have hpf:(p=[]↔f=1):=by
     rw[Bf]at TW;have h5:(p==([]:List UInt8))=((f:Int)==1):=by simpa using TW
     have h6:(p==([]:List UInt8))=true↔((f:Int)==1)=true:=by rw[h5]
     rw[Ang,Ang]at h6;rw[h6];omega
    by_cases h5:f=2
    ·have Agn:p≠ []:=λe=>by have:=hpf.1 e;omega
     have h64:(p !=([]:List UInt8))=true:=by simpa using Agn
     rw[Acz h64]at hP;rw[Acz (by rw[Bf,h5];rfl),Bk (by rw[Ac];omega) (by rw[Ac];omega)]at hR;by_cases h6:b.length<F+30
     ·rw[Acz (by rw[Af,Ac];simp;omega)]at hP hR;exact .inl ⟨24,by omega,hP,hR⟩
     ·have hseg:((b.take (F+30)).drop (F+22)).length=8:=by simp;omega
      rw[Abe (by rw[Af,Ac];simp;omega),Wn,Aa]at hP hR;rw[Ym,sN p hp,Aa]at hP;rw[rW p hp,Aa]at hR;simp only at hP;rw[Abe (by rw[Ah,Ah,Ac,Ac,Bj,show((F+30:Nat):Int).toNat=F+30 from rfl,show((F+22:Nat):Int).toNat=F+22 from rfl,hseg];simp),Hi,Aa,Aa]at hP;simp only at hP;rw[Abe (by rw[Ah];simp)]at hP;generalize(b.take ((F+30:Nat):Int).toNat).drop ((F+22:Nat):Int).toNat=seg at*
      by_cases h7:seg=Tv (FL p).toNat 8
      ·rw[Abe (by simp[h7])]at hP;rw[Abe (by simp[h7])]at hR;exact hend (F+30) (by omega) (by rw[Acz h5]) hP hR
      ·rw[Acz (by simpa using h7)]at hP;rw[Acz (by simpa using h7)]at hR;exact .inl ⟨26,by omega,hP,hR⟩
    ·have hpe:p=[]:=hpf.2 (by omega);rw[Abe (by rw[hpe];simp)]at hP;rw[Abe (by rw[Bf];simp;omega)]at hR;exact hend (F+22) (by omega) (by rw[Abe h5]) hP hR
  ·generalize Mv (RM b)=v at*
   obtain⟨v1,v2,v3,v4,v5,v6⟩:=v;simp only at h3 hP hR;rw[Acz (by rw[Ah];simpa using h3)]at hP hR;exact .inl ⟨v6,h3,hP,hR⟩
 ·generalize Fb b=v at*
  obtain⟨v,e⟩:=v;simp only at h2 hP hR;rw[Acz (by rw[Ah];simpa using h2)]at hP hR;exact .inl ⟨e,h2,hP,hR⟩
theorem uF(l:List Int)(i:Nat):(l.take i).sum+(l.drop i).sum=l.sum:=by
 conv=>rhs;rw[<-List.take_append_drop i l,List.sum_append]
theorem Kj{l:List Int}(h5:∀x∈l,5<=x)(i:Nat):0<= (l.take i).sum/\ (l.take i).sum<=l.sum:=by
 have h1:=Aaa (l.take i) λx hx=>h5 x (List.mem_of_mem_take hx);have h2:=Aaa (l.drop i) λx hx=>h5 x (List.mem_of_mem_drop hx);have:=uF l i;omega
theorem Tw{l:List Int}{i:Nat}(h:i<l.length):(l.take (i+1)).sum=(l.take i).sum+l[i]:=by
 rw[MK h,List.sum_append];simp
section
variable {l:List Int} (hl:l.length<=1000) (h5:∀x∈l,5<=x) (hs:l.sum<=100000)
include hl h5 hs
theorem pD(f c w r n A:Int)(hA:0<=A)(hA2:A<=200000)(k:Nat)(hk:k<=l.length):∀(j i q:Nat),i+j=k->j<q->It (k:Int) f c w r n A l q (A+(l.take i).sum) (i:Int)=some (A+(l.take k).sum)
 |0,i,q+1,hi,_=>by
  rw[It,Ul,Abe (by rw[Af];simp;omega),show i=k by omega];rfl
 |j+1,i,q+1,hi,hq=>by
  have hlt:i<l.length:=by omega
  have ih:=pD f c w r n A hA hA2 k hk j (i+1) q (by omega) (by omega);have b1:=Kj h5 i;have b2:=Kj h5 (i+1);have e:=Tw hlt;rw[e,<-Aoh]at ih;rw[It,Ul,Acz (by rw[Af];simp;omega),Cq hlt,Aa,Ag,Ag];exact ih
theorem Z3(f c w r n A:Int)(hA:0<=A)(hA2:A<=200000)(k:Nat)(hk:k<=l.length):MU f c w r n A l (k:Int)=some (A+(l.take k).sum):=by
 have h:=pD hl h5 hs f c w r n A hA hA2 k hk k 0 Az (by omega) (by have:=As;omega);rw[Anx,List.sum_nil,Int.add_zero]at h;exact h
end
theorem nB{g n:Nat}(hg:1<=g)(hn:1<=n){x:Int}(h:x∈Ax g n):∃m:Nat,x=m/\1<=m/\m<=n:=by
 have hmul:=Am8 (n-1) g;rw[Ax,List.mem_append]at h;rcases h with h|h
 ·rw[List.mem_replicate]at h;have h1:1<= (n-1)/g:=Nat.pos_of_ne_zero h.1;have:=Aey g h1;exact⟨g,h.2,hg,by omega⟩
 ·rw[List.mem_singleton]at h;exact⟨_,h,by omega,by omega⟩
theorem DC{f c w r n:Nat}(h:Hm f c w r n=true):(1<=c/\c<=6)/\Cb (w:Int)/\ (1<=r/\r<=1048576)/\1<=n/\ (f=1\/f=2):=by
 simp only[Hm,Ada]at h;refine⟨h.2.1,?_,h.2.2.2.1,h.2.2.2.2,h.1⟩;rcases h.2.2.1 with rfl|rfl|rfl
 ·exact .inl rfl
 ·exact .inr (.inl rfl)
 ·exact .inr (.inr rfl)
theorem Ahp(n m:Nat):Nh n m 0≠Nh n m 2147483648:=by
 intro h;simp[Nh,Tv,vL]at h
def Bu(b:List UInt8):List UInt8:=b.drop (b.length-32)
theorem yV{b:List UInt8}(h:32<=b.length):(Bu b).length=32:=by rw[Bu,Ak8];omega
def GF(t:List UInt8):Nat:=Dz (part t 12 4)-32
def oR(t:List UInt8):Nat:=Dz (part t 16 4)
def Wy(b:List UInt8):Int×Int:=
 if ¬(32<=b.length/\ (Bu b).take 8=vL)then(0,6)else if JC (Bu b)=true then(0,12)else
 if Bu b=Nh (GF (Bu b)) (oR (Bu b)) 0 then(if b.length<GF (Bu b)+32 then(0,24)else(((GF (Bu b)+32:Nat):Int),0))else
 if Bu b≠Nh (GF (Bu b)) (oR (Bu b)) 2147483648 then(0,12)else
 if b.length<GF (Bu b)+64 then(0,24)else
 if(b.take (b.length-(GF (Bu b)+64)+32)).drop (b.length-(GF (Bu b)+64))≠Nh (GF (Bu b)) (oR (Bu b)) 2684354560 then(0,12)else(((GF (Bu b)+64:Nat):Int),0)
section
variable {b:List UInt8}
theorem ba1(h:¬(32<=b.length/\ (Bu b).take 8=vL)):Wy b=(0,6):=by rw[Wy,Acz h]
variable (h:32<=b.length/\ (Bu b).take 8=vL)
include h
theorem ba2(h2:JC (Bu b)=true):Wy b=(0,12):=by rw[Wy,Abe (λh'=>h' h),Acz h2]
variable (h2:JC (Bu b)=false)
include h2
theorem ba3(h3:Bu b=Nh (GF (Bu b)) (oR (Bu b)) 0):Wy b=if b.length<GF (Bu b)+32 then(0,24)else(((GF (Bu b)+32:Nat):Int),0):=by
 rw[Wy,Abe (λh'=>h' h),Abe (by rw[h2];simp),Acz h3]
variable (h3:Bu b≠Nh (GF (Bu b)) (oR (Bu b)) 0)
include h3
theorem ba4(h4:Bu b≠Nh (GF (Bu b)) (oR (Bu b)) 2147483648):Wy b=(0,12):=by
 rw[Wy,Abe (λh'=>h' h),Abe (by rw[h2];simp),Abe h3,Acz h4]
variable (h4:Bu b=Nh (GF (Bu b)) (oR (Bu b)) 2147483648)
include h4
theorem ba5(h5:b.length<GF (Bu b)+64):Wy b=(0,24):=by
 rw[Wy,Abe (λh'=>h' h),Abe (by rw[h2];simp),Abe h3,Abe (λe=>e h4),Acz h5]
theorem ba6(h5:¬b.length<GF (Bu b)+64):Wy b=if(b.take (b.length-(GF (Bu b)+64)+32)).drop (b.length-(GF (Bu b)+64))≠Nh (GF (Bu b)) (oR (Bu b)) 2684354560 then(0,12)else(((GF (Bu b)+64:Nat):Int),0):=by
 rw[Wy,Abe (λh'=>h' h),Abe (by rw[h2];simp),Abe h3,Abe (λe=>e h4),Abe h5]
end
theorem yQ{b:List UInt8}{n:Int}(h:Wy b=(n,0)):32<=n/\n<=b.length:=by
 unfold Wy at h;split at h; · simp at h
 rename_i h32;split at h; · simp at h
 split at h
 ·split at h; · simp at h
  simp only[Aly,and_true]at h;omega
 split at h; · simp at h
 split at h; · simp at h
 split at h; · simp at h
 simp only[Aly,and_true]at h;omega
theorem iw{b:List UInt8}(h:(Wy b).2≠0):(Wy b).1=0:=by
 revert h
 unfold Wy;split; · simp
 split; · simp
 split
 ·split<;>simp
 split; · simp
 split; · simp
 split<;>simp
theorem Abk{b:List UInt8}(h:32<=b.length)(hl:b.length<4611686018427387904):Am (Ac b) 32=((b.length-32:Nat):Int)/\Bv b ((b.length-32:Nat):Int) (Ac b)=some (Bu b):=by
 refine⟨by rw[Ac,Bk];omega,?_⟩;rw[Lm];rfl
theorem rz(b:List UInt8)(hl:b.length<4611686018427387904):fM b=some (Wy b):=by
 rw[fM,ZQ];by_cases h32:32<=b.length
 ·obtain⟨e1,e2⟩:=Abk h32 hl;have hl3:=yV h32;rw[Abe (by rw[e1,Af];simp),e1,e2,Aa,UQ,Aa];by_cases hp:(Bu b).take 8=vL
  ·have h:=And.intro h32 hp;rw[Abe (by simpa [vL,hl3]using hp),XV,kY,e1,e2,Aa,VA _ 0 (by omega) (by omega) (by decide),Aa];cases hb:JC (Bu b)with
   |true=>
    rw[ba2 h hb];simp only[Aou,Ajm,Ann];rw[Aa,VA _ 2147483648 (by omega) (by omega) (by decide),Aa,hb];rfl
   |false=>
    obtain⟨i1,i2,i3,i4⟩:=iW (Bu b) (by omega) hb;have eI:Dz (part (Bu b) 12 4)-32=GF (Bu b):=rfl;have eM:Dz (part (Bu b) 16 4)=oR (Bu b):=rfl;simp only[Ajm,Ann];rw[eI]at i3;rw[eM]at i4;rw[eI,eM];by_cases c1:Bu b=Nh (GF (Bu b)) (oR (Bu b)) 0
    ·have c1':Bu b=Nh (GF (Bu b)) (oR (Bu b)) (0:UInt64).toNat:=c1;rw[Acz (by simpa using c1'),ba3 h hb c1];by_cases c2:b.length<GF (Bu b)+32
     ·rw[Acz (by rw[Af];simp;omega),Acz c2]
     ·rw[Abe (by rw[Af];simp;omega),Abe c2,Ag];rfl
    ·have c1':¬Bu b=Nh (GF (Bu b)) (oR (Bu b)) (0:UInt64).toNat:=c1;rw[Abe (by simpa using c1'),Aa,VA _ 2147483648 (by omega) (by omega) (by decide),Aa,hb];simp only[Ajm,Ann];rw[eI,eM];by_cases c2:Bu b=Nh (GF (Bu b)) (oR (Bu b)) 2147483648
     ·have c2':Bu b=Nh (GF (Bu b)) (oR (Bu b)) (2147483648:UInt64).toNat:=c2;rw[Abe (by simpa using c2'),Ag];by_cases c3:b.length<GF (Bu b)+64
      ·rw[Acz (by rw[Af,Ac];simp;omega),ba5 h hb c1 c2 c3]
      ·rw[Abe (by rw[Af,Ac];simp;omega),Ac,Bk,Ag,Wn,Aa,nH _ _ _ i3 i4 (by decide),Aa,Hi,Aa,ba6 h hb c1 c2 c3];rw[show((b.length:Int)-(((GF (Bu b):Nat):Int)+64)).toNat=b.length-(GF (Bu b)+64) by omega,show((b.length:Int)-(((GF (Bu b):Nat):Int)+64)+32).toNat=b.length-(GF (Bu b)+64)+32 by omega];have e7:(2684354560:UInt64).toNat=2684354560:=rfl;rw[e7];by_cases c4:(b.take (b.length-(GF (Bu b)+64)+32)).drop (b.length-(GF (Bu b)+64))=Nh (GF (Bu b)) (oR (Bu b)) 2684354560
       ·rw[Abe (by simpa using c4),Abe (λe=>e c4)];rfl
       ·rw[Acz (by simpa using c4),Acz c4]
     ·have c2':¬Bu b=Nh (GF (Bu b)) (oR (Bu b)) (2147483648:UInt64).toNat:=c2;rw[Acz (by simpa using c2'),ba4 h hb c1 c2]
  ·rw[Acz (by rw[Akv,Ami];intro h;exact hp h.2),ba1 (λh=>hp h.2)]
 ·rw[Acz (by rw[Ac,Bk,Af];simp;omega),ba1 (λh=>h32 h.1)]
theorem Afd{b:List UInt8}(h:32<=b.length):(b.take (b.length-32+8)).drop (b.length-32)=(Bu b).take 8:=by
 rw[Bu,List.take_drop]
theorem Aci(b:List UInt8)(hl:b.length<4611686018427387904):Vn b=some (Wy b):=by
 rw[Vn,Vz];by_cases h32:32<=b.length
 ·obtain⟨e1,e2⟩:=Abk h32 hl;have hl3:=yV h32;rw[Abe (by rw[Af,Ac];simp;omega),e1,Ag,Wn,Aa,show((b.length-32:Nat):Int).toNat=b.length-32 from rfl,show(((b.length-32:Nat):Int)+8).toNat=b.length-32+8 by omega,Afd h32];by_cases hp:(Bu b).take 8=vL
  ·have h:=And.intro h32 hp;rw[Abe (by simpa [vL]using hp),Xp,Og,e1,e2,Aa,xO _ (by omega) (by omega),Aa];cases hb:JC (Bu b)with
   |true=>rw[ba2 h hb];rfl
   |false=>
    obtain⟨i1,i2,i3,i4⟩:=iW (Bu b) (by omega) hb;have eI:Dz (part (Bu b) 12 4)-32=GF (Bu b):=rfl;have eM:Dz (part (Bu b) 16 4)=oR (Bu b):=rfl;simp only[Ajm,Ann,Aob];rw[eI]at i3;rw[eM]at i4;rw[eI,eM,Dk,Acz rfl,iB _ _ _ i3 i4 (by decide),Aa,Aa];have e7:(2147483648:UInt64).toNat=2147483648:=rfl;have e8:(2684354560:UInt64).toNat=2684354560:=rfl;rw[e7];by_cases c2:Bu b=Nh (GF (Bu b)) (oR (Bu b)) 2147483648
    ·have c1:Bu b≠Nh (GF (Bu b)) (oR (Bu b)) 0:=λe=>Ahp (GF (Bu b)) (oR (Bu b)) (e.symm.trans c2);rw[Abe (by simpa using c2),Ny,Nq,Acz (by simpa using c2),Oi,Xw,Ag (a:=32) (by omega) (by omega),Ag];by_cases c3:b.length<GF (Bu b)+64
     ·rw[Acz (by rw[Af,Ac];simp;omega),ba5 h hb c1 c2 c3]
     ·rw[Abe (by rw[Af,Ac];simp;omega),Acz (by simpa using c2),Ac,Bk,Ag,Wn,Aa,Nw,iB _ _ _ i3 i4 (by decide),Aa,Aa,ba6 h hb c1 c2 c3,e8];rw[show((b.length:Int)-(32+((GF (Bu b):Nat):Int)+32)).toNat=b.length-(GF (Bu b)+64) by omega,show((b.length:Int)-(32+((GF (Bu b):Nat):Int)+32)+32).toNat=b.length-(GF (Bu b)+64)+32 by omega];by_cases c4:(b.take (b.length-(GF (Bu b)+64)+32)).drop (b.length-(GF (Bu b)+64))=Nh (GF (Bu b)) (oR (Bu b)) 2684354560
      ·rw[Abe (by simpa using c4),Abe (λe=>e c4),show(32+((GF (Bu b):Nat):Int)+32)=((GF (Bu b)+64:Nat):Int) by omega]
      ·rw[Acz (by simpa using c4),Acz c4]
    ·rw[Acz (by simpa using c2),Dk,Abe (by simp),iB _ _ _ i3 i4 (by decide),Aa,Aa];have e9:(0:UInt64).toNat=0:=rfl;rw[e9];by_cases c1:Bu b=Nh (GF (Bu b)) (oR (Bu b)) 0
     ·rw[Abe (by simpa using c1),Ny,Nq,Abe (by simpa using c2),Oi,Xw,Ag,ba3 h hb c1,Abe (c:=(Bu b==Nh (GF (Bu b)) (oR (Bu b)) 2147483648)=true) (by simpa using c2)];by_cases c3:b.length<GF (Bu b)+32
      ·rw[Acz (by rw[Af,Ac];simp;omega),Acz c3]
      ·rw[Abe (by rw[Af,Ac];simp;omega),Abe c3,show(32+((GF (Bu b):Nat):Int))=((GF (Bu b)+32:Nat):Int) by omega]
     ·rw[Acz (by simpa using c1),ba4 h hb c1 c2]
  ·rw[Acz (by simpa [vL]using hp),ba1 (λh=>hp h.2)]
 ·rw[Acz (by rw[Af,Ac];simp;omega),ba1 (λh=>h32 h.1)]
def mh:Nat->List UInt8->Nat->Int×Int
 |0,_,_=>(0,38)
 |j+1,b,a=>if b=[]then((a:Int),0)else if(Wy b).2≠0 then(0,38)else mh j (b.take (b.length-(Wy b).1.toNat)) (a+1)
theorem zY:∀(j q a:Nat) (b:List UInt8),b.length<j->j<=q->b.length<=4000->a+b.length<=4000->Tq q (a:Int) b=some (mh j b a)
 |0,_,_,_,h,_,_,_=>by omega
 |j+1,q+1,a,b,h,hq,h4,ha=>by
  rw[Tq,KN,mh];by_cases hb:b=[]
  ·subst hb;rw[Abe (by decide),Acz rfl];rfl
  ·have hpos:0<b.length:=List.length_pos_iff.2 hb;rw[Acz (by rw[Ap,Ac];simp;omega),Abe hb,rz b (by omega),Aa];have hbad:=iw (b:=b);have hok:=λn=>yQ (b:=b) (n:=n);generalize Wy b=v at*
   obtain⟨n,e⟩:=v;simp only at hbad⊢;rw[GZ,HL];by_cases he:e≠0
   ·rw[Acz he,hbad he,Acz (by decide)]
   ·obtain⟨k1,k2⟩:=hok n (by rw[show e=0 by simpa using he]);rw[Abe he,Abe (by rw[Bf];simp;omega),Ac,Bk,Jz,Aa,HM,TR,Ag];rw[show((b.length:Int)-n).toNat=b.length-n.toNat by omega];have ih:=zY j q (a+1) (b.take (b.length-n.toNat)) (by rw[Ahf];omega) (by omega) (by rw[Ahf];omega) (by rw[Ahf];omega);rw[<-ih];rfl
theorem R8:∀(j q a:Nat) (b:List UInt8),b.length<j->j<=q->b.length<=4000->a+b.length<=4000->Hw q b (a:Int)=some (mh j b a)
 |0,_,_,_,h,_,_,_=>by omega
 |j+1,q+1,a,b,h,hq,h4,ha=>by
  rw[Hw,To,mh];by_cases hb:b=[]
  ·subst hb;rw[Abe (by decide),Acz rfl];rfl
  ·have hpos:0<b.length:=List.length_pos_iff.2 hb;rw[Acz (by rw[Ap,Ac];simp;omega),Abe hb,Aci b (by omega),Aa];have hok:=λn=>yQ (b:=b) (n:=n);generalize Wy b=v at*
   obtain⟨n,e⟩:=v;simp only;by_cases he:e≠0
   ·rw[Acz he,Acz (by rw[Ah];simpa using he)]
   ·obtain⟨k1,k2⟩:=hok n (by rw[show e=0 by simpa using he]);rw[Abe he,Abe (by rw[Ah];simpa using he),Ac,Bk,Jz,Aa,Ag];rw[show((b.length:Int)-n).toNat=b.length-n.toNat by omega];have ih:=R8 j q (a+1) (b.take (b.length-n.toNat)) (by rw[Ahf];omega) (by omega) (by rw[Ahf];omega) (by rw[Ahf];omega);rw[<-ih];rfl
def VS(b:List UInt8):Int×Int:=if 4000<b.length then(0,38)else mh (b.length+1) b 0
theorem yY(b:List UInt8)(hl:b.length<4611686018427387904):LY b=some (VS b):=by
 rw[LY,KL,VS];by_cases h:4000<b.length
 ·rw[Acz (by rw[Ap,Ac];simp;omega),Acz h]
 ·rw[Abe (by rw[Ap,Ac];simp;omega),Abe h];exact zY _ Az 0 b (by omega) (by have:=As;omega) (by omega) (by omega)
theorem O5(b:List UInt8)(hl:b.length<4611686018427387904):Pk b=some (VS b):=by
 rw[Pk,Rs,VS];by_cases h:4000<b.length
 ·rw[Acz (by rw[Ap,Ac];simp;omega),Acz h]
 ·rw[Abe (by rw[Ap,Ac];simp;omega),Abe h];exact R8 _ Az 0 b (by omega) (by have:=As;omega) (by omega) (by omega)
theorem N6{a b:Nat}(h:a<9223372036854775808:=by omega):Cg (a:Int) (b:Int)=((a/b:Nat):Int):=by
 have:a/b<=a:=Aj5 _ _;rw[KE,Alz (by omega),<-Int.natCast_ediv];generalize a/b=k at*
 exact Bs (by omega) (by omega)
theorem iI{bits:Int}(h:Cb bits)(x:Int):(FI bits x).length=wB bits:=by
 obtain rfl|rfl|rfl:=h<;>rfl
theorem YD{bits:Int}(h:Cb bits):∀l:List Int32,(Cy bits l).length=l.length*wB bits
 |[]=>by simp[Cy]
 |x::l=>by
  have h1:=YD h l;have h2:=iI h x.toInt;simp only[Cy,List.flatMap_cons,Agv,Alh,An9]at*
  omega
def oh(b:List UInt8)(A:Nat)(l:List Int)(k:Nat):List UInt8:=(b.take ((A:Int)+(l.take (k+1)).sum).toNat).drop ((A:Int)+(l.take k).sum).toNat
structure Gts (b p:List UInt8) (f c w r n A:Nat) (l:List Int) (k m:Nat) (x:List Int32) (s:List UInt8) (e:Int):Prop where
 mom:Aj (Ax (Ar r) n) (k:Int)=some (m:Int)
 pos:1<=m/\m*c<=4000
 got:Qu b p (f:Int) (c:Int) (w:Int) (r:Int) (n:Int) (A:Int) l (k:Int)=some (s,e)
 none':e≠0->s=[]/\x=[]
 some':e=0->s=Cy (w:Int) x/\x.length=m*c/\Ao (w:Int) x=some 0/\CF (w:Int) x=some (s,0)/\ (A:Int)+(l.take (k+1)).sum<=b.length
 way:((b.length:Int)<(A:Int)+(l.take (k+1)).sum/\e=24)\/ ((A:Int)+(l.take (k+1)).sum<=b.length/\Wb (c:Int) (w:Int) (HE p) (m:Int) (oh b A l k)=some (x,e)/\Fm (c:Int) (w:Int) (HE p) (m:Int) (oh b A l k)=some (x,e))
theorem iE{b p:List UInt8}{f c w r n A:Nat}{l:List Int}(o:Opn b p f c w r n A l)(k:Nat)(hk:k<l.length):∃m x s e,Gts b p f c w r n A l k m x s e:=by
 obtain⟨hc,hw,hr,hn,_⟩:=DC o.shape;have hfit:n<=4000/c:=by have:=o.fit;simp only[KF,Ada]at this;exact this.1
 have hn4:n<=4000:=by have:=Aj5 4000 c;omega
 have hA:=o.at';have G6:=o.file;have hlen:=o.len;have b1:=Kj o.five k;have b2:=Kj o.five (k+1);have e:=Tw hk;have h5:=o.five l[k] (Al3 _);have hsum:=o.sum;have hs1:=o.some1;have hkf:k<(Ax (Ar r) n).length:=by omega
 obtain⟨m,hm,m1,m2⟩:=nB (Rc r) hn (Al3 hkf);have Agp:Aj (Ax (Ar r) n) (k:Int)=some (m:Int):=by rw[Cq hkf,hm]
 have hpos:1<=m/\m*c<=4000:=by
  refine⟨m1,?_⟩;have:=Aey c (Nat.le_trans m2 hfit);have:=Am8 4000 c;omega
 have hR:Qu b p (f:Int) (c:Int) (w:Int) (r:Int) (n:Int) (A:Int) l (k:Int)=Qu b p (f:Int) (c:Int) (w:Int) (r:Int) (n:Int) (A:Int) l (k:Int):=rfl
 conv at hR=>rhs;rw[Qu,KV,Z3 hs1.2 o.five o.sum _ _ _ _ _ (A:Int) (by omega) (by omega) k (by omega),Aa,Cq hk,Aa,Bk (by rw[Ac];omega) (by rw[Ac];omega)]
 by_cases hto:(b.length:Int)<(A:Int)+(l.take (k+1)).sum
 ·rw[Acz (by rw[Af,Ac,Ada];omega)]at hR;exact⟨m,[],[],24,Agp,hpos,hR,λ_=>⟨rfl,rfl⟩,λh=>by simp at h, .inl ⟨hto,rfl⟩⟩
 ·rw[Abe (by rw[Af,Ac,Ada];omega),zV p o.pass,gG hr.2 hn hn4]at hR;simp only[Aa]at hR;rw[Ag (a:=(A:Int)+(l.take k).sum) (b:=l[k]) (by omega) (by omega),Aoh,<-e,Agp]at hR;simp only[Aa]at hR;rw[Wn,Aa]at hR;obtain⟨x,er,g1,g2,g3,g4⟩:=yT (ch:=c) (n:=m) (t:=HE p) (oh b A l k) hw (K1 p) hc.1 hc.2 m1 (by omega);rw[show(b.take ((A:Int)+(l.take (k+1)).sum).toNat).drop ((A:Int)+(l.take k).sum).toNat=oh b A l k from rfl,g2,Aa]at hR;simp only at hR;rw[KX,KZ]at hR;by_cases her:er=0
  ·obtain⟨g5,g6,g7⟩:=g3 her;rw[Abe (by rw[Ah];simpa using her),jh hw g6 g5,Aa]at hR;subst her;exact⟨m,x,_,0,Agp,hpos,hR,λh=>absurd rfl h,λ_=>⟨rfl,g7,g5,pA hw g6 g5,by omega⟩, .inr ⟨by omega,g1,g2⟩⟩
  ·rw[Acz (by rw[Ah];simpa using her)]at hR;exact⟨m,x,_,er,Agp,hpos,hR,λh=>⟨rfl,g4 h⟩,λh=>absurd h her, .inr ⟨by omega,g1,g2⟩⟩
theorem Gts.lens{b p:List UInt8}{f c w r n A:Nat}{l:List Int}{k m:Nat}{x:List Int32}{s:List UInt8}{e:Int}(hw:Cb (w:Int))(g:Gts b p f c w r n A l k m x s e):s.length<=12000/\x.length<=4000/\ (e=0->s.length=m*c*wB (w:Int)):=by
 by_cases he:e=0
 ·obtain⟨h1,h2,_⟩:=g.some' he;have h3:=HN (w:Int) x;have h4:=YD hw x;have h5:=g.pos;rw[<-h1]at h3 h4;refine⟨by omega,by omega,λ_=>by rw[h4,h2]⟩
 ·obtain⟨h1,h2⟩:=g.none' he;exact⟨by simp[h1],by simp[h2],λh=>absurd h he⟩
def SZ(b p:List UInt8)(f c w r n A:Nat)(l:List Int)(k:Nat):List UInt8×Int:=(Qu b p (f:Int) (c:Int) (w:Int) (r:Int) (n:Int) (A:Int) l (k:Int)).getD ([],0)
theorem Gts.eq{b p:List UInt8}{f c w r n A:Nat}{l:List Int}{k m:Nat}{x:List Int32}{s:List UInt8}{e:Int}(g:Gts b p f c w r n A l k m x s e):SZ b p f c w r n A l k=(s,e):=by rw[SZ,g.got];rfl
def ng(b:List UInt8)(A:Nat)(l:List Int):Int:=(VS (b.drop ((A:Int)+l.sum).toNat)).2
def cF(b:List UInt8)(k:Nat):Nat:=(b.getD k 0).toNat
def sx(n:Nat)(b:List UInt8)(a:Nat):Int:=
 if n=1 then(cF b a:Int)-128 else
 if n=2 then(if cF b a+256*cF b (a+1)<32768 then(cF b a+256*cF b (a+1):Nat)else((cF b a+256*cF b (a+1):Nat):Int)-65536)else
 (if cF b a+256*cF b (a+1)+65536*cF b (a+2)<8388608 then(cF b a+256*cF b (a+1)+65536*cF b (a+2):Nat)else((cF b a+256*cF b (a+1)+65536*cF b (a+2):Nat):Int)-16777216)
def sxs(n m:Nat)(b:List UInt8):List Int32:=(List.range m).map λx=>Int32.ofInt (sx n b (x*n))
theorem Ae0(n m:Nat)(b:List UInt8):(sxs n m b).length=m:=by simp[sxs]
theorem sx2(b:List UInt8)(a:Nat):sx 2 b a=if cF b a+256*cF b (a+1)<32768 then((cF b a+256*cF b (a+1):Nat):Int)else((cF b a+256*cF b (a+1):Nat):Int)-65536:=rfl
theorem sx3(b:List UInt8)(a:Nat):sx 3 b a=if cF b a+256*cF b (a+1)+65536*cF b (a+2)<8388608 then((cF b a+256*cF b (a+1)+65536*cF b (a+2):Nat):Int)else((cF b a+256*cF b (a+1)+65536*cF b (a+2):Nat):Int)-16777216:=rfl
variable (b:List UInt8)
end Go.Pl
namespace Go.Pl
open Go Go.Lv
end Go.Pl
namespace Go.Pl
open Go Go.Lv
def S5(w:Nat)(y:List UInt8×Int):List Int32:=if y.2≠0 then []else sxs (wB (w:Int)) (y.1.length/wB (w:Int)) y.1
theorem jB(z:Int):(u8 z).toNat=(z %256).toNat:=by
 have:(z %256).toNat<256:=by omega
 rw[u8,Aiy,Ac8 (by omega)]
theorem mU{bits:Int}(h:Cb bits):∀(l:List Int32) (i j:Nat),i<l.length->j<wB bits-> (Cy bits l).getD (i*wB bits+j) 0=(FI bits (l.getD i 0).toInt).getD j 0
 |[],i,j,hi,_=>by simp at hi
 |x::l,0,j,_,hj=>by
  have h1:=iI h x.toInt;have e:Cy bits (x::l)=FI bits x.toInt++Cy bits l:=by simp[Cy]
  rw[e,Nat.zero_mul,Amp,List.getD_eq_getElem?_getD,List.getD_eq_getElem?_getD,List.getElem?_append_left (by omega)];rfl
 |x::l,i+1,j,hi,hj=>by
  have h1:=iI h x.toInt;have e:Cy bits (x::l)=FI bits x.toInt++Cy bits l:=by simp[Cy]
  have ih:=mU h l i j (by simpa using hi) hj;have e2:(i+1)*wB bits+j=(FI bits x.toInt).length+(i*wB bits+j):=by rw[Aki,Nat.one_mul,h1];omega
  rw[e,e2,List.getD_eq_getElem?_getD,List.getElem?_append_right (by omega),An7,<-List.getD_eq_getElem?_getD,ih];rfl
theorem Agb{bits:Int}(h:Cb bits)(l:List Int32)(hr:L8 bits l)(i:Nat)(hi:i<l.length):Int32.ofInt (sx (wB bits) (Cy bits l) (i*wB bits))=l.getD i 0:=by
 have hm:l.getD i 0∈l:=by rw[List.getD_eq_getElem?_getD,List.getElem?_eq_getElem hi];exact Al3 hi
 have hv:=hr _ hm;have g:∀j,j<wB bits->cF (Cy bits l) (i*wB bits+j)=((FI bits (l.getD i 0).toInt).getD j 0).toNat:=λj hj=>by rw[cF,mU h l i j hi hj]
 generalize l.getD i 0=x at*
 have key:sx (wB bits) (Cy bits l) (i*wB bits)=x.toInt:=by
  generalize hA:i*wB bits=a at*
  obtain rfl|rfl|rfl:=h
  ·have g0:=g 0 (by decide);have e1:(FI 8 x.toInt).getD 0 0=u8 (x.toInt+128):=rfl;rw[Anq,e1,jB]at g0;simp only[hB]at hv;simp at hv;have e2:wB 8=1:=rfl;rw[e2,sx,Acz rfl,g0];omega
  ·have g0:=g 0 (by decide);have g1:=g 1 (by decide);have e0:(FI 16 x.toInt).getD 0 0=u8 x.toInt:=rfl;have e1:(FI 16 x.toInt).getD 1 0=u8 (x.toInt/256):=rfl;rw[Anq,e0,jB]at g0;rw[e1,jB]at g1;simp only[hB]at hv;simp at hv;have e2:wB 16=2:=rfl;rw[e2,sx2,g0,g1];split<;>omega
  ·have g0:=g 0 (by decide);have g1:=g 1 (by decide);have g2:=g 2 (by decide);have e0:(FI 24 x.toInt).getD 0 0=u8 x.toInt:=rfl;have e1:(FI 24 x.toInt).getD 1 0=u8 (x.toInt/256):=rfl;have e3:(FI 24 x.toInt).getD 2 0=u8 (x.toInt/65536):=rfl;rw[Anq,e0,jB]at g0;rw[e1,jB]at g1;rw[e3,jB]at g2;simp only[hB]at hv;simp at hv;have e2:wB 24=3:=rfl;rw[e2,sx3,g0,g1,g2];split<;>omega
 rw[key];simp
theorem Ab4{bits:Int}(h:Cb bits)(l:List Int32)(hr:L8 bits l):sxs (wB bits) l.length (Cy bits l)=l:=by
 refine Al6 (Ae0 _ _ _) λi h1 h2=>?_;have:=Agb h l hr i h2;simp only[sxs,An6,An2];rw[this,List.getD_eq_getElem?_getD,List.getElem?_eq_getElem h2];rfl
theorem Gts.kQ{b p:List UInt8}{f c w r n A:Nat}{l:List Int}{k m:Nat}{x:List Int32}{s:List UInt8}{e:Int}(hw:Cb (w:Int))(g:Gts b p f c w r n A l k m x s e):S5 w (s,e)=x:=by
 have hwb:=yw (w:Int);by_cases he:e=0
 ·obtain⟨h1,h2,h3,_⟩:=g.some' he;have h4:=g.pos;have h5:=YD hw x;rw[S5,Abe (by simpa using he)];simp only;rw[h1,h5,Nat.mul_div_cancel _ (by omega)];exact Ab4 hw x (TT hw (by omega) h3)
 ·rw[S5,Acz he,(g.none' he).2]
abbrev C5:=Int×Int×Int×List Int32×Int
def iG(e:Int):C5:=(0,0,0,[],e)
theorem Aac{seg p:List UInt8}(hs:seg.length=8)(hp:p.length<=64):Ym seg p=some (seg==Tv (FL p).toNat 8,0):=by
 rw[Ym,sN p hp,Aa];simp only;rw[Abe (by rw[Ah,Ah,Ac,Ac,Bj,hs];simp),Hi,Aa]
theorem Ado(b p:List UInt8)(m c w h o q n g y ab:Int)(k v:List Int){e:Int}(he:e≠0):Lt b p m c w h o q n g k e y ab v=some (iG e):=by
 rw[Lt,EB,Acz (by rw[Ah];simpa using he)];rfl
theorem lV(b p:List UInt8)(m c w h o q n g y ab:Int)(k:List Int){e:Int}(he:e≠0):Qm b p m c w h o q n g y ab k e=some (iG e):=by
 rw[Qm,EI,Acz (by rw[Ah];simpa using he)];rfl
theorem Abo(b p:List UInt8)(m c w h o q n g y ab:Int)(k:List Int):Qm b p m c w h o q n g y ab k 0=Xg b p m c w h o q n g y ab k:=by
 rw[Qm,EI,Abe (by rw[Ah];simp)]
def iC(X:Nat->List Int32)(E:Nat->Int)(be:Int):Nat->Nat->List Int32->List Int32×Int
 |0,_,acc=>if be≠0 then([],38)else(acc,0)
 |j+1,k,acc=>if E k≠0 then([],E k)else iC X E be j (k+1) (acc++X k)
def SN(c w r:Nat)(y:List Int32×Int):C5:=if y.2≠0 then iG y.2 else((c:Int),(w:Int),(r:Int),y.1,0)
def iA(b p:List UInt8)(f c w r n A:Nat)(l:List Int):C5:=
 SN c w r (iC (λk=>S5 w (SZ b p f c w r n A l k)) (λk=>(SZ b p f c w r n A l k).2) (ng b A l) l.length 0 [])
section
variable {b p:List UInt8} {f c w r n A:Nat} {l:List Int} (o:Opn b p f c w r n A l)
include o
theorem tT(a1 a2 a3 a4:Int):∀(j k q:Nat) (acc:List Int32),k+j=l.length->j<q-> (k=l.length-> (A:Int)+l.sum<=b.length)->acc.length<=4000*k->
  Ql b l (f:Int) (c:Int) (w:Int) (r:Int) (n:Int) a1 a2 a3 (A:Int) a4 (HE p) (Ax (Ar r) n) q ((A:Int)+(l.take k).sum) (k:Int) acc=
   some (SN c w r (iC (λk=>S5 w (SZ b p f c w r n A l k)) (λk=>(SZ b p f c w r n A l k).2) (ng b A l) j k acc))
 |0,k,q+1,acc,hk,_,hfit,_=>by
  have hA:=o.at';have G6:=o.file;have hs1:=o.some1;have hsum:=o.sum;have b1:=Kj o.five l.length;have hf:=hfit (by omega);obtain rfl:k=l.length:=by omega
  rw[Ank]at b1⊢;rw[Ql,EM,Abe (by rw[Af,Ac];simp),NV,XX,Lm,Aa,yY _ (by rw[Ak8];omega),Aa,iC,ng];generalize VS (b.drop ((A:Int)+l.sum).toNat)=v;obtain⟨v1,v2⟩:=v;simp only;by_cases hv:v2≠0
  ·rw[Acz hv,Acz (by rw[Ah];simpa using hv),SN,Acz (by simp)];rfl
  ·rw[Abe hv,Abe (by rw[Ah];simpa using hv),SN,Abe (by simp)]
 |j+1,k,q+1,acc,hk,hq,hfit,hacc=>by
  have hA:=o.at';have G6:=o.file;have hs1:=o.some1;have hsum:=o.sum;have b1:=Kj o.five k;have b2:=Kj o.five (k+1);have hkl:k<l.length:=by omega
  have e2:=Tw hkl;have h5:=o.five l[k] (Al3 _);obtain⟨m,x,s,e,g⟩:=iE o k hkl;obtain⟨hc,hw,hr,hn,_⟩:=DC o.shape;have hl:=g.lens hw;rw[Ql,EM,Acz (by rw[Af,Ac];simp;omega),Cq hkl,Aa,Aa,Ag (a:=(A:Int)+(l.take k).sum) (by omega) (by omega),Aoh,<-e2,Ac,iC,g.eq];simp only;rcases g.way with⟨h1,h2⟩|⟨h1,h2,_⟩
  ·rw[Acz (by rw[Af,Ada];omega),Acz (by rw[h2];simp),h2,SN,Acz (by simp)];rfl
  ·rw[Abe (by rw[Af,Ada];omega),g.mom];simp only[Aa];rw[Wn,Aa,show(b.take ((A:Int)+(l.take (k+1)).sum).toNat).drop ((A:Int)+(l.take k).sum).toNat=oh b A l k from rfl,h2,Aa];simp only;rw[NU,YY];by_cases he:e≠0
   ·rw[Acz (by rw[Ah];simpa using he),Acz he,SN,Acz he];rfl
   ·have he0:e=0:=by simpa using he
    have G7:=(g.some' he0).2.2.2.2;rw[Abe (by rw[Ah];simpa using he),Abe he,g.kQ hw,Cc,Aa,Ag (a:=(A:Int)+(l.take k).sum) (by omega) (by omega),Aoh,<-e2,Ag];exact tT a1 a2 a3 a4 j (k+1) q (acc++x) (by omega) (by omega) (λh=>by rw[h,Ank]at G7;exact G7) (by rw[Agv];omega)
theorem cZ:∀(j k q:Nat) (acc:List Int32),k+j=l.length->j<q-> (k=l.length-> (A:Int)+l.sum<=b.length)->acc.length<=4000*k->
  He b (f:Int) (c:Int) (w:Int) (r:Int) (n:Int) l (Ax (Ar r) n) (HE p) q ((A:Int)+(l.take k).sum) (k:Int) acc=
   some (SN c w r (iC (λk=>S5 w (SZ b p f c w r n A l k)) (λk=>(SZ b p f c w r n A l k).2) (ng b A l) j k acc))
 |0,k,q+1,acc,hk,_,hfit,_=>by
  have hA:=o.at';have G6:=o.file;have hs1:=o.some1;have hsum:=o.sum;have b1:=Kj o.five l.length;have hf:=hfit (by omega);obtain rfl:k=l.length:=by omega
  rw[Ank]at b1⊢;rw[He,Ok,Abe (by rw[Af,Ac];simp),Vf,FR,Lm,Aa,O5 _ (by rw[Ak8];omega),Aa,iC,ng];generalize VS (b.drop ((A:Int)+l.sum).toNat)=v;obtain⟨v1,v2⟩:=v;simp only;by_cases hv:v2≠0
  ·rw[Acz hv,Acz (by rw[Ah];simpa using hv),SN,Acz (by simp)];rfl
  ·rw[Abe hv,Abe (by rw[Ah];simpa using hv),SN,Abe (by simp)]
 |j+1,k,q+1,acc,hk,hq,hfit,hacc=>by
  have hA:=o.at';have G6:=o.file;have hs1:=o.some1;have hsum:=o.sum;have b1:=Kj o.five k;have b2:=Kj o.five (k+1);have hkl:k<l.length:=by omega
  have e2:=Tw hkl;have h5:=o.five l[k] (Al3 _);obtain⟨m,x,s,e,g⟩:=iE o k hkl;obtain⟨hc,hw,hr,hn,_⟩:=DC o.shape;have hl:=g.lens hw;rw[He,Ok,Acz (by rw[Af,Ac];simp;omega),Cq hkl,Aa,Aa,Ac,Bk,iC,g.eq];simp only;rcases g.way with⟨h1,h2⟩|⟨h1,_,h2⟩
  ·rw[Acz (by rw[Af,Ada];omega),Acz (by rw[h2];simp),h2,SN,Acz (by simp)];rfl
  ·rw[Abe (by rw[Af,Ada];omega),g.mom];simp only[Aa];rw[Ag (a:=(A:Int)+(l.take k).sum) (by omega) (by omega),Aoh,<-e2,Wn,Aa,show(b.take ((A:Int)+(l.take (k+1)).sum).toNat).drop ((A:Int)+(l.take k).sum).toNat=oh b A l k from rfl,h2,Aa];simp only;rw[Vg,FT];by_cases he:e≠0
   ·rw[Acz (by rw[Ah];simpa using he),Acz he,SN,Acz he];rfl
   ·have he0:e=0:=by simpa using he
    have G7:=(g.some' he0).2.2.2.2;rw[Abe (by rw[Ah];simpa using he),Abe he,g.kQ hw,Cc,Aa,Cq hkl,Aa,Aa,Ag (a:=(A:Int)+(l.take k).sum) (by omega) (by omega),Aoh,<-e2,Ag];exact cZ j (k+1) q (acc++x) (by omega) (by omega) (λh=>by rw[h,Ank]at G7;exact G7) (by rw[Agv];omega)
end
theorem sE(l:List Int)(b p:List UInt8)(m c w h o q n g:Int)(k:List Int)(hl:l.length<=1000)(h5:∀x∈l,5<=x)(A:Int)(hA:0<=A)(hb:A+l.sum<=1000000):∀(j i z:Nat),i+j=l.length->j<z->Qf l b p m c w h o q n g k z (i:Int) (A+(l.take i).sum)=DL b p l m c w h o q n g (A+l.sum) k
 |0,i,z+1,hi,_=>by
  rw[Qf,DP,Abe (by rw[Af,Ac];simp;omega),show i=l.length by omega,Ank]
 |j+1,i,z+1,hi,hz=>by
  have hlt:i<l.length:=by omega
  have b1:=Kj h5 i;have b2:=Kj h5 (i+1);have e:=Tw hlt;have ih:=sE l b p m c w h o q n g k hl h5 A hA hb j (i+1) z (by omega) (by omega);rw[e,<-Aoh]at ih;rw[Qf,DP,Acz (by rw[Af,Ac];simp;omega),Cq hlt,Aa,Aa,Ag,Ag];exact ih
theorem H9(b p:List UInt8)(hb:b.length<=100100)(hp:p.length<=64):
  (∃e:Int,e≠0/\Ft b p=some (eB e)/\Gt b p=some (iG e)/\Bz b p=some (iG e))\/
  (∃f c w r n T:Nat,∃q d:Int,T<=b.length/\b.length<=100000/\Hm f c w r n=true/\KF c r n=true/\
   Ft b p=Wx b (f:Int) (c:Int) (w:Int) (r:Int) (n:Int) (T:Int)/\
   Gt b p=Xg b p (f:Int) (c:Int) (w:Int) (r:Int) (n:Int) q d (T:Int) 0 0 (Ax (Ar r) n)/\
   Bz b p=(Se b (T:Int) (f:Int) (c:Int) (w:Int) (r:Int) (n:Int)).bind λ(h,ae)=>if Ch ae 0=true then some (iG ae)else(Cm (r:Int) (n:Int)).bind λp2=>(Hn p).bind λ(u,ap)=>Wm b (f:Int) (c:Int) (w:Int) (r:Int) (n:Int) h p2 u (Ae (T:Int) (Ae (Be 4 (Ac h)) 4)) 0 []):=by
 have hO:Ft b p=Ft b p:=rfl;have hV:Gt b p=Gt b p:=rfl;have hR:Bz b p=Bz b p:=rfl
 conv at hO=>rhs;rw[Ft,DD,Abe (by rw[Ap,Ac];simp;omega)]
 conv at hV=>rhs;rw[Gt,HS,Abe (by rw[Ap,Ac];simp;omega),XZ]
 conv at hR=>rhs;rw[Bz,Nt,Abe (by rw[Ap,Ac];simp;omega),AR]
 by_cases h1:100000<b.length
 ·rw[Acz (by rw[Ap,Ac];simp;omega)]at hO hV hR;refine .inl ⟨4,by omega,hO,?_,?_⟩
  ·rw[hV,Aa];rfl
  ·rw[hR,Aa];rfl
 rw[Abe (by rw[Ap,Ac];simp;omega)]at hO hV hR;rw[YA b (by omega),Aa]at hO hV;rw[UM b (by omega),Aa]at hR;by_cases h2:(Fb b).2=0
 ·obtain⟨p0,p1,p2⟩:=iH h2;have hc:=Lm (l:=b) p0 p1;simp only[h2]at hO hV hR;rw[Abe (by rw[Ah];simp),hc,Aa,show b.drop (Fb b).1.toNat=RM b from rfl]at hO hV hR;rw[tL _ (by simp[RM];omega),Aa]at hO hV;rw[nG _ (by simp[RM];omega),Aa]at hR;by_cases h3:(Mv (RM b)).2.2.2.2.2=0
  ·obtain⟨g1,g2,g3,g4⟩:=B4 h3;have hlen:(RM b).length=b.length-(Fb b).1.toNat:=by simp[RM]
   generalize hF:(Fb b).1.toNat=F at*
   have hF':(Fb b).1=(F:Int):=by omega
   rw[g1,hF']at hO hV hR;simp only at hO hV hR;generalize f0 (RM b)=f at*
   generalize f1 (RM b)=c at*
   generalize f2 (RM b)=w at*
   generalize f3 (RM b)=r at*
   generalize f4 (RM b)=n at*
   have t22:Ae (F:Int) 22=((F+22:Nat):Int):=by rw[Ag];omega
   have t30:Ae ((F+22:Nat):Int) 8=((F+30:Nat):Int):=by rw[Ag];omega
   have Anb:f=1\/f=2:=by simp only[Hm,Ada]at g3;omega
   rw[Abe (by rw[Ah];simp),t22,t30]at hO;rw[Abe (by rw[Ah];simp),kO g3 g4,Aa,t22,t30]at hV;rw[Aa]at hR;simp only at hV hR;rw[Abe (by rw[Ah];simp),t22,Zd,t30]at hR;by_cases TW:((p==([]:List UInt8)) !=(geq (f:Int) (1:Int)))=true
   ·rw[Acz TW]at hO hR;refine .inl ⟨26,by omega,hO,?_,?_⟩
    ·rw[hV];by_cases h5:f=2
     ·rw[Acz (by rw[Bf,h5];rfl),Aa];simp only;rw[Abe (by rw[Ah];simp),Acz TW,lV _ _ _ _ _ _ _ _ _ _ _ _ _ (by omega)]
     ·rw[Abe (by rw[Bf];simp;omega),Aa];simp only;rw[Abe (by rw[Ah];simp),Acz TW,lV _ _ _ _ _ _ _ _ _ _ _ _ _ (by omega)]
    ·rw[hR,Aa];rfl
   ·rw[Abe TW]at hO hR;have hpf:(p=[]↔f=1):=by
     rw[Bf]at TW;have h5:(p==([]:List UInt8))=((f:Int)==1):=by simpa using TW
     have h6:(p==([]:List UInt8))=true↔((f:Int)==1)=true:=by rw[h5]
     rw[Ang,Ang]at h6;rw[h6];omega
    by_cases h5:f=2
    ·have Agn:p≠ []:=λe=>by have:=hpf.1 e;omega
     rw[Acz (by rw[Bf,h5];rfl),Aa]at hV;simp only at hV;rw[Abe (by rw[Ah];simp),Abe TW,Abe (by rw[Bf];simp;omega)]at hV;rw[Acz (by simpa using Agn)]at hO;rw[Abe (by simpa using Agn)]at hR;by_cases h6:b.length<F+30
     ·rw[Acz (by rw[Af,Ac];simp;omega)]at hO hV hR;refine .inl ⟨24,by omega,hO,?_,?_⟩
      ·rw[hV,lV _ _ _ _ _ _ _ _ _ _ _ _ _ (by omega)]
      ·rw[hR,Aa];rfl
     ·have hseg:((b.take (F+30)).drop (F+22)).length=8:=by simp;omega
      rw[Abe (by rw[Af,Ac];simp;omega),Wn,Aa,show((F+30:Nat):Int).toNat=F+30 from rfl,show((F+22:Nat):Int).toNat=F+22 from rfl]at hO hV hR;rw[Aac hseg hp,Aa]at hO hV;rw[rW p hp,Aa]at hR;simp only at hO hV;rw[Abe (by rw[Ah];simp)]at hO;generalize(b.take (F+30)).drop (F+22)=seg at*
      by_cases h7:seg=Tv (FL p).toNat 8
      ·rw[Abe (by simp[h7])]at hO hV;rw[Abe (by simp[h7]),Aa]at hR;simp only at hR;rw[Abe (by rw[Ah];simp)]at hR;rw[Abo]at hV;exact .inr ⟨f,c,w,r,n,F+30,(F:Int),((F+22:Nat):Int),by omega,by omega,g3,g4,hO,hV,hR⟩
      ·rw[Acz (by simpa using h7)]at hO hV;rw[Acz (by simpa using h7)]at hR;refine .inl ⟨26,by omega,hO,?_,?_⟩
       ·rw[hV,lV _ _ _ _ _ _ _ _ _ _ _ _ _ (by omega)]
       ·rw[hR,Aa];rfl
    ·have hpe:p=[]:=hpf.2 (by omega);rw[Abe (by rw[Bf];simp;omega),Aa]at hV;simp only at hV;rw[Abe (by rw[Ah];simp),Abe TW,Acz (by rw[Bf];simp;omega),Abo]at hV;rw[Abe (by rw[hpe];simp)]at hO;rw[Acz (by rw[hpe];rfl),Aa]at hR;simp only at hR;rw[Abe (by rw[Ah];simp)]at hR;exact .inr ⟨f,c,w,r,n,F+22,(F:Int),((F+22:Nat):Int),by omega,by omega,g3,g4,hO,hV,hR⟩
  ·generalize Mv (RM b)=v at*
   obtain⟨v1,v2,v3,v4,v5,v6⟩:=v;simp only at h3 hO hV hR;rw[Acz (by rw[Ah];simpa using h3)]at hO hV;refine .inl ⟨v6,h3,hO,?_,?_⟩
   ·rw[hV,Aa];simp only;rw[Acz (by rw[Ah];simpa using h3)];rfl
   ·rw[hR,Aa];simp only;rw[Acz (by rw[Ah];simpa using h3)];rfl
 ·generalize Fb b=v at*
  obtain⟨v,e⟩:=v;simp only at h2 hO hV hR;rw[Acz (by rw[Ah];simpa using h2)]at hO hV hR;refine .inl ⟨e,h2,hO,?_,?_⟩
  ·rw[hV,Aa];simp only;rw[Acz (by rw[Ah];simpa using h2)];rfl
  ·rw[hR,Aa];simp only;rw[Acz (by rw[Ah];simpa using h2)];rfl
theorem Adv(b p:List UInt8)(hb:b.length<=100100)(hp:p.length<=64):
  (∃e:Int,e≠0/\Ft b p=some (eB e)/\De b p=some (eB e)/\Gt b p=some (iG e)/\Bz b p=some (iG e))\/
  (∃f c w r n A l,Opn b p f c w r n A l/\Gt b p=some (iA b p f c w r n A l)/\Bz b p=some (iA b p f c w r n A l)):=by
 have Ahl:∀{e e2:Int},eB e=eB e2->e=e2:=λh=>by simpa [eB]using h
 rcases H9 b p hb hp with⟨e,he,h1,h2,h3⟩|⟨f,c,w,r,n,T,q,d,hT,G6,g3,g4,hO,hV,hR⟩
 ·rcases wQ b p hb hp with⟨e',he',k1,k2⟩|⟨f,c,w,r,n,A,l,o⟩
  ·rw[h1]at k1;have:=Ahl (Alu k1);subst this;exact .inl ⟨e,he,h1,k2,h2,h3⟩
  ·have:=o.prog;rw[h1]at this;have:=Alu this;simp only[eB,Aly]at this;exact absurd this.2.2.2.2.2.2.2 he
 ·obtain⟨hc,hw,hr,hn,_⟩:=DC g3;have hfit:n<=4000/c:=by simp only[KF,Ada]at g4;exact g4.1
  have hn4:n<=4000:=by have:=Aj5 4000 c;omega
  rw[sX g3 g4 b hb T hT]at hO;have hcut:=Lm (l:=b) (a:=(T:Int)) (by omega) (by omega);rw[Ajf]at hcut;have hdl:(b.drop T).length<=100100:=by simp;omega
  rw[Xg,OL,Abe (by rw[Af,Ac];simp;omega),hcut,Aa,Ac,uL _ _ hdl,Aa]at hV;rw[Se,hcut,Aa,gG hr.2 hn hn4,Aa,Ac,D6 _ _ hdl,Aa,Aa]at hR;by_cases h:(Ku (b.drop T) (Ax (Ar r) n).length).2≠0
  ·rw[Acz h]at hO;generalize Ku (b.drop T) (Ax (Ar r) n).length=v at*
   obtain⟨v1,v2⟩:=v;simp only at h hO hV hR;rcases wQ b p hb hp with⟨e',he',k1,k2⟩|⟨f,c,w,r,n,A,l,o⟩
   ·rw[hO]at k1;have:=Ahl (Alu k1);subst this;refine .inl ⟨_,h,hO,k2,?_,?_⟩
    ·rw[hV,CN,CY,Acz (by rw[Ah];simpa using h),Ado _ _ _ _ _ _ _ _ _ _ _ _ _ _ h]
    ·rw[hR,Acz (by rw[Ah];simpa using h)]
   ·have:=o.prog;rw[hO]at this;have:=Alu this;simp only[eB,Aly]at this;exact absurd this.2.2.2.2.2.2.2 h
  ·have h0:(Ku (b.drop T) (Ax (Ar r) n).length).2=0:=by simpa using h
   rw[Abe h]at hO;generalize hsv:Ku (b.drop T) (Ax (Ar r) n).length=v at*
   obtain⟨v1,v2⟩:=v;simp only at h0 hO hV hR;subst h0;rcases wQ b p hb hp with⟨e',he',k1,k2⟩|⟨f',c',w',r',n',A,l,o⟩
   ·rw[hO]at k1;have:=Alu k1;simp only[eB,Aly]at this;exact absurd this.2.2.2.2.2.2.2.symm he'
   ·have hp2:=o.prog;rw[hO]at hp2;have hp3:=Alu hp2;simp only[Aly]at hp3;obtain⟨i1,i2,i3,i4,i5,i6,i7,_⟩:=hp3;obtain rfl:f=f':=by omega
    obtain rfl:c=c':=by omega
    obtain rfl:w=w':=by omega
    obtain rfl:r=r':=by omega
    obtain rfl:n=n':=by omega
    subst i7;have hlen:=o.len;have hs1:=o.some1;have hsum:=o.sum;have hA:=o.at';have hAT:(A:Int)=(T:Int)+4*(v1.length:Int)+4:=by omega
    have a1:Be 4 (v1.length:Int)=4*(v1.length:Int):=Hr;have eV:Ae (Ae (T:Int) (Be 4 (Ac v1))) 4=(A:Int):=by
     rw[Ac,a1,Ag (a:=(T:Int)) (by omega) (by omega),Ag];omega
    have eR:Ae (T:Int) (Ae (Be 4 (Ac v1)) 4)=(A:Int):=by
     rw[Ac,a1,Ag (a:=4*(v1.length:Int)) (by omega) (by omega),Ag];omega
    have hlv:=tT o q d (T:Int) ((A:Int)+v1.sum) v1.length 0 Az [] (by omega) (by have:=As;omega) (by omega) (by simp);have hlr:=cZ o v1.length 0 Az [] (by omega) (by have:=As;omega) (by omega) (by simp);rw[Anx,List.sum_nil,Int.add_zero]at hlv hlr;refine .inr ⟨f,c,w,r,n,A,v1,o,?_,?_⟩
    ·have hs:=sE v1 b p (f:Int) (c:Int) (w:Int) (r:Int) (n:Int) q d (T:Int) (Ax (Ar r) n) hs1.2 o.five (A:Int) (by omega) (by omega) v1.length 0 Az (by omega) (by have:=As;omega);rw[Anx,List.sum_nil,Int.add_zero]at hs;rw[hV,CN,CY,Abe (by rw[Ah];simp),MV,eV];refine Anl hs ?_;rw[DL,ND,eV,Lt,EB,Abe (by rw[Ah];simp),mg p o.pass,Aa];exact hlv
    ·rw[hR,Abe (by rw[Ah];simp),Aa,zV p o.pass,Aa,eR];exact hlr
def Alw(b:List UInt8):List Int:=Ax (Ar (f3 (RM b))) (f4 (RM b))
theorem Air{ch:Nat}{bits:Int}(hb:Cb bits)(h1:1<=ch)(h6:ch<=6):Gi (ch:Int) bits=some 0:=by
 have hr:∃x y,Rl bits=some (x,y,0):=⟨_,_,vD hb⟩;obtain⟨x,y,hr⟩:=hr;rw[Gi,hr,Aa];simp only;rw[Abe (by simp[Ah,Af,Ap];omega)]
abbrev P6':=Int×Int×Int×List Int32×List Int×Int
def Aa4(e:Int):P6':=(0,0,0,[],[],e)
theorem Q1(g:Nat):∀K:Nat,(List.replicate K (g:Int)).sum=((K*g:Nat):Int)
 |0=>by simp
 |K+1=>by
  rw[Am7,Amk,Q1 g K,An9];omega
theorem ZL{g n:Nat}(hn:1<=n):(Ax g n).sum=(n:Int):=by
 have h:=Am8 (n-1) g;rw[Ax,List.sum_append,Q1];simp only[Amk,List.sum_nil];omega
theorem O1:∀{l:List Int},(∀x∈l,0<=x)->0<=l.sum
 |[],_=>by simp
 |x::l,h=>by
  have h1:=h x Alq;have h2:=O1 (l:=l) λy hy=>h y (Ajo _ hy);rw[Amk];omega
theorem Afh{l:List Int}(h:∀x∈l,0<=x)(i:Nat):0<= (l.take i).sum/\ (l.take i).sum<=l.sum:=by
 have h1:=O1 (l:=l.take i) λx hx=>h x (List.mem_of_mem_take hx);have h2:=O1 (l:=l.drop i) λx hx=>h x (List.mem_of_mem_drop hx);have:=uF l i;omega
def Aca(c w:Nat)(fr:List Int)(k:Nat):Int:=(((fr.take k).sum.toNat*(c*wB (w:Int)):Nat):Int)
section
variable {f c w r n:Nat} (h1:Hm f c w r n=true) (h2:KF c r n=true)
include h1 h2
theorem L9:(∀x∈Ax (Ar r) n,0<=x)/\ (Ax (Ar r) n).sum=(n:Int)/\n<=4000:=by
 obtain⟨hc,hw,hr,hn,_⟩:=DC h1;have hfit:n<=4000/c:=by simp only[KF,Ada]at h2;exact h2.1
 have hn4:n<=4000:=by have:=Aj5 4000 c;omega
 refine⟨λx hx=>?_,ZL hn,hn4⟩;obtain⟨m,rfl,_⟩:=nB (Rc r) hn hx;omega
end
theorem K9(C W:Nat)(fr:List Int):Aca C W fr 0=0:=by rw[Aca,Anx,List.sum_nil];simp
theorem tV{bits:Int}(h:Cb bits){l:List Int32}(hl:l.length<=4000)(hr:L8 bits l):Ao bits l=some 0:=by
 have hh:=RE bits;have key:∀(j i q:Nat),i+j=l.length->j<q->Ba l (hB bits) q (i:Int)=some 0:=by
  intro j
  induction j with
  |zero=>
   intro i q hi hq;obtain⟨q,rfl⟩:∃k,q=k+1:=⟨q-1,by omega⟩;rw[Ba,By,Abe (by rw[Af,Ac];simp;omega)];rfl
  |succ j ih=>
   intro i q hi hq;obtain⟨q,rfl⟩:∃k,q=k+1:=⟨q-1,by omega⟩;have hx:=hr l[i] (Al3 (by omega));rw[Ba,By,Acz (by rw[Af,Ac];simp;omega),Cq,Aa,Aa,Dx,vH,Bs (by omega) (by omega),Ag,Af,Ef,Abe (by simp;omega),Abe (by simp;omega)];exact ih (i+1) q (by omega) (by omega)
 rw[Ao,Cn,SU h,Aa,Abe (by rw[Bf];simp;omega),Abe (by rw[Ap,Ac];simp;omega)];exact key l.length 0 Az (by omega) (by have:=As;omega)
def SY{α:Type}(G:Nat->List α):Nat->Nat->List α
 |0,_=>[]
 |j+1,k=>G k++SY G j (k+1)
theorem zG{α:Type}(G:Nat->List α):∀(i j k:Nat),SY G (i+j) k=SY G i k++SY G j (k+i)
 |0,j,k=>by simp[SY]
 |i+1,j,k=>by
  rw[show i+1+j=(i+j)+1 by omega,SY,SY,zG G i j (k+1),Ais,show k+1+i=k+(i+1) by omega]
theorem qj{α:Type}(G:Nat->List α)(i k:Nat):SY G (i+1) k=SY G i k++G (k+i):=by
 rw[zG G i 1 k];simp[SY]
theorem C8(X:Nat->List Int32)(E:Nat->Int)(be:Int):∀(j k:Nat) (acc:List Int32),(iC X E be j k acc).2=0->be=0/\ (∀i,k<=i->i<k+j->E i=0)/\ (iC X E be j k acc).1=acc++SY X j k
 |0,k,acc,h=>by
  rw[iC]at h⊢;by_cases hb:be≠0
  ·rw[Acz hb]at h;cases h
  ·rw[Abe hb];exact⟨by simpa using hb,λi h1 h2=>by omega,by simp[SY]⟩
 |j+1,k,acc,h=>by
  rw[iC]at h⊢;by_cases hb:E k≠0
  ·rw[Acz hb]at h;exact absurd h hb
  ·rw[Abe hb]at h⊢;obtain⟨h1,h2,h3⟩:=C8 X E be j (k+1) _ h;refine⟨h1,λi i1 i2=>?_,?_⟩
   ·by_cases hi:i=k
    ·subst hi;simpa using hb
    ·exact h2 i (by omega) (by omega)
   ·rw[h3,SY,Ais]
section
variable {b p:List UInt8} {f c w r n A:Nat} {l:List Int} (o:Opn b p f c w r n A l) (hE:∀i,i<l.length-> (SZ b p f c w r n A l i).2=0)
include o hE
theorem X6(i:Nat)(hi:i<l.length):∃m:Nat,Aj (Ax (Ar r) n) (i:Int)=some (m:Int)/\1<=m/\ (SZ b p f c w r n A l i).1=Cy (w:Int) (S5 w (SZ b p f c w r n A l i))/\ (S5 w (SZ b p f c w r n A l i)).length=m*c/\L8 (w:Int) (S5 w (SZ b p f c w r n A l i)):=by
 have hw:=(DC o.shape).2.1;obtain⟨m,x,s,e,g⟩:=iE o i hi;have h0:=hE i hi;have hsm:=g.kQ hw;have hl:=g.lens hw;rw[g.eq]at h0⊢;rw[hsm];obtain⟨h1,h2,h3,_⟩:=g.some' h0;exact⟨m,g.mom,g.pos.1,h1,h2,TT hw (by omega) h3⟩
theorem W7:∀(j k:Nat),k+j<=l.length->L8 (w:Int) (SY (λi=>S5 w (SZ b p f c w r n A l i)) j k)
 |0,k,_=>λx hx=>by simp[SY]at hx
 |j+1,k,h=>by
  obtain⟨m,_,_,_,_,h1⟩:=X6 o hE k (by omega);intro x hx;rw[SY,List.mem_append]at hx;rcases hx with hx|hx
  ·exact h1 x hx
  ·exact W7 j (k+1) (by omega) x hx
theorem X2:∀(j:Nat),j<=l.length-> (SY (λi=>S5 w (SZ b p f c w r n A l i)) j 0).length=((Ax (Ar r) n).take j).sum.toNat*c
 |0,_=>by simp[SY]
 |j+1,h=>by
  obtain⟨m,h0,_,_,h1,_⟩:=X6 o hE j (by omega);have hlen:=o.len;have hlt:j<(Ax (Ar r) n).length:=by omega
  rw[Cq hlt]at h0;have h0':=Alu h0;obtain⟨g1,g2,g3⟩:=L9 o.shape o.fit;have b:=Afh g1 j;rw[qj,Agv,X2 j (by omega),Amp,h1,Tw hlt,h0'];rw[show(((Ax (Ar r) n).take j).sum+(m:Int)).toNat=((Ax (Ar r) n).take j).sum.toNat+m by omega,Aki]
theorem jg:(SY (λi=>S5 w (SZ b p f c w r n A l i)) l.length 0).length=n*c:=by
 have hn:=(DC o.shape).2.2.2.1;rw[X2 o hE l.length (Ag9 _),o.len,Ank,ZL hn];simp
end
theorem vg{r:Nat}(h1:1<=r)(h:r<=1048576):Vs (r:Int)=some ((Ar r:Int),0):=by
 have hv:=pT h;have e:Be (r:Int) 256=Be 256 (r:Int):=by rw[Hr,Hr];omega
 rw[Vs,Abe (by simp[Af,Ap];omega),e];have hq:0<=Cg (Be 256 (r:Int)) 245:=by
  have e2:Be 256 (r:Int)=((256*r:Nat):Int):=by rw[Hr];omega
  rw[e2,show(245:Int)=((245:Nat):Int)from rfl,N6];omega
 rw[wM]at hv;by_cases hz:Cg (Be 256 (r:Int)) 245=0
 ·rw[Acz (by rw[Bf];simpa using hz)];rw[hz]at hv;have:(1:Int)=(Ar r:Int):=by omega
  rw[this]
 ·rw[Abe (by rw[Bf];simpa using hz)];have:Cg (Be 256 (r:Int)) 245=(Ar r:Int):=by omega
  rw[this]
theorem eO{r:Nat}(h:r<=1048576)(K:Nat)(hK:K<=1000):∀(j n q:Nat) (acc:List Int),n<=4000->n<=j->j<q->acc.length+n<=10000-> (acc++(if n=0 then []else Ax (Ar r) n)).length=K->Df (Ar r:Int) q (n:Int) acc=some (acc++(if n=0 then []else Ax (Ar r) n),0)
 |0,n,q+1,acc,hn,hj,hq,ha,hk=>by
  obtain rfl:n=0:=by omega
  rw[Acz rfl,Ajn]at hk;rw[Df,Ie,Abe (by rw[Ap];simp),Pn,Pv,Abe (by rw[Ap,Ac];simp;omega),Acz rfl,Ajn]
 |j+1,n,q+1,acc,hn,hj,hq,ha,hk=>by
  have hp:=Rc r;have hl:=fZ h;by_cases h0:n=0
  ·subst h0;rw[Acz rfl,Ajn]at hk;rw[Df,Ie,Abe (by rw[Ap];simp),Pn,Pv,Abe (by rw[Ap,Ac];simp;omega),Acz rfl,Ajn]
  ·rw[Df,Ie,Acz (by rw[Ap];simp;omega),Cc (by simp;omega),Aa,KC];rw[Abe h0]at hk⊢;by_cases hs:n<=Ar r
   ·rw[show min (n:Int) (Ar r:Int)=(n:Int) by omega,Bk,Int.sub_self];have ih:=eO h K hK j 0 q (acc++[(n:Int)]) (by omega) (by omega) (by omega) (by simp;omega) (by rw[Acz rfl,Ajn];rw[IE hs (by omega)]at hk;exact hk);rw[Acz rfl,Ajn]at ih;rw[IE hs (by omega)];exact ih
   ·rw[show min (n:Int) (Ar r:Int)=(Ar r:Int) by omega,Bk,show(n:Int)-(Ar r:Int)=((n-Ar r:Nat):Int) by omega];have e:acc++Ax (Ar r) n=(acc++[(Ar r:Int)])++Ax (Ar r) (n-Ar r):=by rw[aX hp (show Ar r<n by omega)];simp
    have ih:=eO h K hK j (n-Ar r) q (acc++[(Ar r:Int)]) (by omega) (by omega) (by omega) (by simp;omega) (by rw[Abe (by omega),<-e];exact hk);rw[Abe (by omega),<-e]at ih;exact ih
theorem Aga{r n:Nat}(h1:1<=r)(h:r<=1048576)(n1:1<=n)(n2:n<=4000)(hk:(n-1)/Ar r+1<=1000):∃z:Int,Gq (r:Int) (n:Int)=some (z,0):=by
 have hl:=eO h (Ax (Ar r) n).length (by rw[YP];omega) n n Az [] n2 (Ag9 _) (by have:=As;omega) (by simp;omega) (by rw[Abe (by omega)];rfl);rw[Gq,Yp,Ps,vg h1 h,Aa];simp only;rw[Abe (by simp[Ah,Af,Ap];omega),Zh,hl,Aa];exact⟨_,rfl⟩
section
variable {b p:List UInt8} {f c w r n A:Nat} {l:List Int} (o:Opn b p f c w r n A l)
include o
theorem Afp{X:List Int32}{N:Nat}(hN:1<=N)(hNn:N<=n)(hX:X.length=N*c)(hr':L8 (w:Int) X):Ci (c:Int) (w:Int) (r:Int) X=some 0:=by
 obtain⟨hc,hw,hr,hn,_⟩:=DC o.shape;have hfit:n<=4000/c/\ (n-1)/Ar r+1<=1000:=by have:=o.fit;simpa only[KF,Ada]using this
 have hX4:X.length<=4000:=by
  have h1:=Aey c (Nat.le_trans hNn hfit.1);have h2:=Am8 4000 c;omega
 have hX1:1<=X.length:=by rw[hX];exact Nat.mul_pos hN (by omega)
 have hhB:=RE (w:Int);have hq4:=uP hc.1 hc.2;have hn4:n<=4000:=by have:=Aj5 4000 c;omega
 generalize 4000/c=mm at*
 have e20:Cj (c:Int) (w:Int)=some 0:=by
  rw[Cj,Abe (by simp[Af,Ap];omega),SU hw,Aa,Abe (by rw[Bf];simp;omega)]
 have Anc:Is (Ac X) (c:Int)=0:=by
  rw[Ac,hX,dN,Ans];rfl
 have eA:Bm (c:Int) (w:Int) X=some 0:=by
  rw[Bm,e20,Aa,Abe (by decide),tV hw hX4 hr',Aa,Abe (by decide),Abe (by rw[Af,Ac];simp;omega),Bw (by rw[Ah];simp;omega),Aa,Anc,Abe (by decide)]
 have Ajj:Cg (Ac X) (c:Int)=(N:Int):=by rw[Ac,N6,hX,Nat.mul_div_cancel _ (by omega)]
 have e21:Dr (c:Int) (w:Int) (N:Int)=some 0:=by
  rw[Dr,e20,Aa,Abe (by simp[Ah,Af];omega),Bw (by rw[Ah];simp;omega),Aa,hq4,Abe (by rw[Ap];simp;omega)]
 obtain⟨z,e22⟩:=Aga hr.1 hr.2 hN (by omega) (by have:=Nat.div_le_div_right (c:=Ar r) (show N-1<=n-1 by omega);omega);rw[Ci,Ev,Aa];simp only;rw[eA,Aa,Abe (by decide),Bw (by rw[Ah];simp;omega),Aa,Ajj,FH,Ev,Aa];simp only;rw[e21,Aa,Abe (by decide),e22,Aa,Aa];rfl
end
def qx(n:Nat):LB:=List.replicate (n %2) 0
def chB(c k:LB):LB:=c++Tv k.length 4++k++qx k.length
def KY(k m:LB):Nat:=20+k.length+k.length %2+m.length+m.length %2
def E4(k m:LB):LB:=[82,73,70,70]++Tv (KY k m) 4++[87,65,86,69]++chB [102,109,116,32] k++chB [100,97,116,97] m
abbrev two(k m:LB):List (LB×LB×Unit):=[([102,109,116,32],k,()),([100,97,116,97],m,())]
theorem Acq(n:Nat)(h:n<4611686018427387904):Hk (n:Int) (1:Int)=((n %2:Nat):Int):=by
 have e:Hk (n:Int) (1:Int)=wrap64 ((BitVec.ofInt 64 (n:Int)&&&BitVec.ofInt 64 1).toNat:Int):=rfl;rw[e,Aoi,Alr,Alr];have h1:((n:Int) %((2^64:Nat):Int)).toNat=n:=by omega
 have h2:((1:Int) %((2^64:Nat):Int)).toNat=2^1-1:=by decide
 rw[h1,h2,Amh,Bs (by omega) (by omega)]
theorem U2:∃q,Az=q+1+1+1:=⟨Az-3,by have:=As;omega⟩
theorem EW(k m:LB):Ac (two k m)=2:=rfl
theorem V5(k m:LB):Aj (two k m) 0=some ([102,109,116,32],k,()):=rfl
theorem T4(k m:LB):Aj (two k m) 1=some ([100,97,116,97],m,()):=rfl
theorem g01:Ae (0:Int) 1=1:=by decide
theorem g11:Ae (1:Int) 1=2:=by decide
theorem Ag8{k m:LB}(hk:k.length<=100)(hm:m.length<=20000):GQ (two k m)=some ((KY k m:Nat):Int):=by
 obtain⟨q,hq⟩:=U2;rw[GQ,UZ,UC,hq,Yc,ED,EW,Acz (by decide),V5,Aa,g01,Yc,ED,EW,Acz (by decide),T4,Aa,g11,Yc,ED,EW,Abe (by decide),UR,hH];simp only[Ac];rw[Acq _ (by omega),Acq _ (by omega)];have h1:Ae (8:Int) (k.length:Int)=8+(k.length:Int):=Ag;have h2:Ae (8:Int) (m.length:Int)=8+(m.length:Int):=Ag;have h3:Ae (8+(k.length:Int)) ((k.length %2:Nat):Int)=8+(k.length:Int)+((k.length %2:Nat):Int):=Ag;have h4:Ae (8+(m.length:Int)) ((m.length %2:Nat):Int)=8+(m.length:Int)+((m.length %2:Nat):Int):=Ag;have h5:Ae (4:Int) (8+(k.length:Int)+((k.length %2:Nat):Int))=4+(8+(k.length:Int)+((k.length %2:Nat):Int)):=Ag;rw[h1,h2,h3,h4,h5,Ag];unfold KY;congr 1;omega
theorem Alf(k:LB):DY [102,109,116,32] k=some false:=by kernel_rfl
theorem Ajx(k:LB):DY [100,97,116,97] k=some false:=by kernel_rfl
theorem Ai6{k m:LB}(hk:k.length<=100)(hm:m.length<=20000):Wq [87,65,86,69] (two k m)=some 0:=by
 obtain⟨q,hq⟩:=U2;rw[Wq,HQ,EW,Abe (by decide),show QD [87,65,86,69]=some true from by kernel_rfl,Aa,Abe (by decide),Ag8 hk hm,Aa,Abe (by
  rw[Ag (by unfold KY;omega) (by unfold KY;omega),Ap];unfold KY;simp;omega)]
 rw[OO,hq,Qt,Xs,EW,Acz (by decide),V5,Aa];dsimp only;rw[Alf,Aa,EZ,DU,Abe (by decide),DH,OA,g01,Qt,Xs,EW,Acz (by decide),T4,Aa];dsimp only;rw[Ajx,Aa,EZ,DU,Abe (by decide),DH,OA,g11,Qt,Xs,EW,Abe (by decide),PB,NS,DS,NY,Xm,OT,Abe (by decide),PX,YU]
theorem V8{o id:LB}{n:Nat}(ho:o.length<=100000)(hi:id.length<=4)(hn:n<4294967296):MM o id (n:Int)=some (o++id++Tv n 4):=by
 have h1:(UInt64.ofNat n).toNat=n:=by rw[Age];omega
 have h:=aD (UInt64.ofNat n) 4 (by omega) (by omega) (by rw[h1];omega);rw[h1]at h;rw[MM,Ll,show(4:Int)=((4:Nat):Int)from rfl,h,Aa];simp only;rw[Cc,Aa,Cc (by simp[Bj];omega)]
theorem Akz{o k:LB}{c:LB}{l:List (LB×LB×Unit)}(ho:o.length<=60000)(hc:c.length<=4)(hk:k.length<=20000):II ((c,k,())::l) o=II l (o++chB c k):=by
 rw[II];dsimp only;rw[show Ac k=((k.length:Nat):Int)from rfl,V8 (by omega) hc (by omega),Aa,Cc (by simp[Bj];omega),Aa,Acq _ (by omega),lA,Aa,Ajf,Cc (by simp[Bj];omega),Aa];unfold chB qx;simp only[Ais]
theorem J4{k m:LB}(hk:k.length<=100)(hm:m.length<=20000):HK [87,65,86,69] (two k m)=some (E4 k m,0):=by
 rw[HK,Ai6 hk hm,Aa,Abe (by decide),Ag8 hk hm,Aa,V8 (by simp) (by simp) (by unfold KY;omega),Aa,Cc (by simp[Bj]),Aa,Akz (by simp[Bj]) (by simp) (by omega),Akz (by simp[chB,qx,Bj];omega) (by simp) hm,II,Aa];unfold E4;simp only[All,Ais]
def Aao(c w r:Int)(g:UInt64):LB:=
 Tv g.toNat 2++Tv (Ad c:UInt64).toNat 2++Tv (Ad r:UInt64).toNat 4++Tv (Be (Ad r:UInt64) (Ad (Cg (Be c w) 8):UInt64)).toNat 4++Tv (Ad (Cg (Be c w) 8):UInt64).toNat 2++Tv (Ad w:UInt64).toNat 2
theorem wr2(n:UInt64):Au n 2=some (Tv n.toNat 2):=VE n 2 (by omega)
theorem wr4(n:UInt64):Au n 4=some (Tv n.toNat 4):=VE n 4 (by omega)
theorem rZ(c w r:Int)(g:UInt64):Me c w r g=some (Aao c w r g):=by
 rw[Me,wr2,Aa,wr2,Aa,Cc (by simp[Bj]),Aa,wr4,Aa,Cc (by simp[Bj]),Aa,wr4,Aa,Cc (by simp[Bj]),Aa,wr2,Aa,Cc (by simp[Bj]),Aa,wr2,Aa,Cc (by simp[Bj]),Aa];rfl
theorem Yo{a:Bool}{n:Int}{f:LQ}{h:Int}{v:UInt64}{k:Nat}{b:LB}(q:Nat)(hn:h<n)(hg:Aj f h=some v)(hw:Aj ([(2:Int),(2:Int),(4:Int),(4:Int),(2:Int),(2:Int),(2:Int),(2:Int),(4:Int)]:LI) h=some (k:Int))
  (h1:1<=k) (h8:k<=8) (hv:v.toNat<256^k) (hb:b.length<=100):Dg a n f (q+1) h b=Dg a n f q (Ae h 1) (b++Tv v.toNat k):=by
 rw[Dg,Qd,Acz (by rw[Af];simpa using hn),hg,Aa,Aa,hw,Aa,aD v k h1 h8 hv,Aa];simp only;rw[Cc (by simp[Bj];omega),Aa]
theorem Ah5:∃q,Az=q+1+1+1+1+1+1+1+1+1+1:=⟨Az-10,by have:=As;omega⟩
theorem Agz{v0 v1 v2 v3 v4 v5:UInt64}{t:LQ}(h0:v0.toNat<65536)(h1:v1.toNat<65536)(h2:v2.toNat<4294967296)(h3:v3.toNat<4294967296)(h4:v4.toNat<65536)(h5:v5.toNat<65536)(a:Bool)(n:Int)(hn:6<=n):
  ∃q,Ya a n (v0::v1::v2::v3::v4::v5::t) 0 []=Dg a n (v0::v1::v2::v3::v4::v5::t) (q+1+1+1+1) 6 (Tv v0.toNat 2++Tv v1.toNat 2++Tv v2.toNat 4++Tv v3.toNat 4++Tv v4.toNat 2++Tv v5.toNat 2):=by
 obtain⟨q,hq⟩:=Ah5;refine⟨q,?_⟩;have e:∀i:Nat,i<10->Ae ((i:Nat):Int) 1=((i+1:Nat):Int):=λi hi=>by rw[Ag];omega
 rw[Ya,hq,
  Yo (k:=2) _ (by omega) (show _=some v0 from rfl) rfl (by omega) (by omega) h0 (by simp),show Ae (0:Int) 1=1 from e 0 (by omega),
  Yo (k:=2) _ (by omega) (show _=some v1 from rfl) rfl (by omega) (by omega) h1 (by simp[Bj]),show Ae (1:Int) 1=2 from e 1 (by omega),
  Yo (k:=4) _ (by omega) (show _=some v2 from rfl) rfl (by omega) (by omega) h2 (by simp[Bj]),show Ae (2:Int) 1=3 from e 2 (by omega),
  Yo (k:=4) _ (by omega) (show _=some v3 from rfl) rfl (by omega) (by omega) h3 (by simp[Bj]),show Ae (3:Int) 1=4 from e 3 (by omega),
  Yo (k:=2) _ (by omega) (show _=some v4 from rfl) rfl (by omega) (by omega) h4 (by simp[Bj]),show Ae (4:Int) 1=5 from e 4 (by omega),
  Yo (k:=2) _ (by omega) (show _=some v5 from rfl) rfl (by omega) (by omega) h5 (by simp[Bj]),show Ae (5:Int) 1=6 from e 5 (by omega)]
 simp only[All]
theorem Aa1{n:Int}{f:LQ}{b:LB}(q:Nat):Dg false n f (q+1) n b=some b:=by
 rw[Dg,Qd,Abe (by rw[Af];simp),Yl,HO,Abe (by decide)]
def zU:LB:=[1,0,0,0,0,0,16,0,128,0,0,170,0,56,155,113]
theorem qm{n:Int}{f:LQ}{b:LB}(hb:b.length<=100)(q:Nat):Dg true n f (q+1) n b=some (b++zU):=by
 rw[Dg,Qd,Abe (by rw[Af];simp),Yl,HO,Acz rfl,show Bv ([1,0,0,0,0,0,16,0,128,0,0,170,0,56,155,113]:LB) 0 16=some zU from by kernel_rfl,Aa,Cc (by simp[zU];omega),Aa]
theorem Ae5{c:Nat}(h1:1<=c)(h6:c<=6):(Ad (Am (Ej (1:UInt32) (GI.toZ (Ad (c:Int):UInt64)).toNat) 1):UInt64)=Am (Ej (1:UInt64) (GI.toZ (c:Int)).toNat) 1/\ (Am (Ej (1:UInt64) (GI.toZ (c:Int)).toNat) 1).toNat<4294967296:=by
 have:c=1\/c=2\/c=3\/c=4\/c=5\/c=6:=by omega
 rcases this with rfl|rfl|rfl|rfl|rfl|rfl<;>exact⟨by kernel_rfl,by decide⟩
theorem Aiv{c w:Nat}(h1:1<=c)(h6:c<=6)(hw:Cb (w:Int)){R:UInt64}(hR:R.toNat<=1048576):
  (Ad (c:Int):UInt64).toNat<65536/\ (Ad (Cg (Be (c:Int) (w:Int)) 8):UInt64).toNat<65536/\ (Ad (w:Int):UInt64).toNat<65536/\ (Be R (Ad (Cg (Be (c:Int) (w:Int)) 8):UInt64)).toNat<4294967296:=by
 have hc:c=1\/c=2\/c=3\/c=4\/c=5\/c=6:=by omega
 have hw':w=8\/w=16\/w=24:=by unfold Cb at hw;omega
 have key:∀B:UInt64,B.toNat<=18-> (Be R B).toNat<4294967296:=λB hB=>by
  have e:Be R B=UInt64.ofNat (R.toNat*B.toNat):=by
   show GI.ofZ (((R.toNat:Nat):Int)*((B.toNat:Nat):Int))=_;rw[<-Anh];exact Fs _
  have:=An8 hR hB;rw[e,Age,Ac8 (by omega)];omega
 rcases hc with rfl|rfl|rfl|rfl|rfl|rfl<;>rcases hw' with rfl|rfl|rfl<;>exact⟨by decide,by decide,by decide,key _ (by decide)⟩
theorem nu{c w r:Nat}(h1:1<=c)(h6:c<=6)(hw:Cb (w:Int))(hr1:1<=r)(hr:r<=1048576):FF (c:Int) (w:Int) (r:Int)=some 0:=by
 rw[FF,Abe (by simp[Af,Ap];omega)];have hw':w=8\/w=16\/w=24:=by unfold Cb at hw;omega
 rcases hw' with rfl|rfl|rfl
 ·rw[Acz (by decide),Acz (by decide)]
 ·rw[Abe (by decide),Acz (by decide),Acz (by decide)]
 ·rw[Abe (by decide),Abe (by decide),Acz (by decide)]
theorem SJ(c w r:Int)(g:UInt64):(Aao c w r g).length=16:=by simp[Aao,Bj]
theorem sw{c w r:Nat}(h1:1<=c)(h6:c<=6)(hw:Cb (w:Int))(hr1:1<=r)(hr:r<=1048576):
  ∃k:LB,FG (c:Int) (w:Int) (r:Int)=some (k,0)/\Hq (c:Int) (w:Int) (r:Int)=some k/\k.length<=100:=by
 have hR:(Ad (r:Int):UInt64).toNat=r:=by rw[Ll,Age];omega
 obtain⟨b1,b2,b3,b4⟩:=Aiv h1 h6 hw (R:=(Ad (r:Int):UInt64)) (by omega);obtain⟨m1,m2⟩:=Ae5 h1 h6;have hok:Rj (Ts (c:Int) 0)=some ():=Bw (by rw[Ef];simp);rw[FG,RP,nu h1 h6 hw hr1 hr,Aa,Abe (by decide),Aa];simp only;rw[Abe (by decide),hok,Aa,RZ,GP,Hq,AY,Aa];by_cases hb:(Fv (c:Int) 2||Fv (w:Int) 16)=true
 ·rw[hb,Acz rfl,Acz rfl];generalize hM:Am (Ej (1:UInt64) (GI.toZ (c:Int)).toNat) 1=M at m1 m2⊢;refine⟨Aao c w r 65534++[22,0]++Tv (Ad (w:Int):UInt64).toNat 2++Tv M.toNat 4++zU,?_,?_,?_⟩
  ·rw[show Aj _ 0=some (1:UInt64)from rfl,Aa,show Pd _ 0 65534=some ((65534:UInt64)::_)from rfl,Aa,Yq,Yn];obtain⟨q,hq⟩:=Agz (v0:=65534) (t:=[22,Ad (w:Int),M]) (by decide) b1 (by rw[hR];omega) b4 b2 b3 true 9 (by omega);rw[hq,Yo (k:=2) _ (by omega) (show _=some (22:UInt64)from rfl) rfl (by omega) (by omega) (by decide) (by simp[Bj]),show Ae (6:Int) 1=7 from by decide,
    Yo (k:=2) _ (by omega) (show _=some (Ad (w:Int):UInt64)from rfl) rfl (by omega) (by omega) b3 (by simp[Bj]),show Ae (7:Int) 1=8 from by decide,
    Yo (k:=4) _ (by omega) (show _=some M from rfl) rfl (by omega) (by omega) m2 (by simp[Bj]),show Ae (8:Int) 1=9 from by decide,qm (by simp[Bj]),Aa]
   rfl
  ·rw[Zb,rZ,Aa,Cc (by simp[SJ]),Aa,wr2,Aa,Cc (by simp[SJ,Bj]),Aa,m1,wr4,Aa,Cc (by simp[SJ,Bj]),Aa,Cc (by simp[SJ,Bj]),Aa,Aa];rfl
  ·simp[SJ,Bj,zU]
 ·have hb':(Fv (c:Int) 2||Fv (w:Int) 16)=false:=by simpa using hb
  rw[hb',Abe (by decide),Abe (by decide)];refine⟨Aao c w r 1,?_,?_,by rw[SJ];omega⟩
  ·rw[Yq,Yn];obtain⟨q,hq⟩:=Agz (v0:=1) (t:=[22,Ad (w:Int),Am (Ej (1:UInt64) (GI.toZ (c:Int)).toNat) 1]) (by decide) b1 (by rw[hR];omega) b4 b2 b3 false 6 (by omega);rw[hq,Aa1,Aa];rfl
  ·rw[AW,rZ,Aa,Aa]
end Go.Pl
