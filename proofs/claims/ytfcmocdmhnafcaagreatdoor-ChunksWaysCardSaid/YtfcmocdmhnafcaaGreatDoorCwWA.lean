/- A part of the proof of a statement of this seat (see the text that ends in Proof): LwBase, LwBitB, LwLe, LwBits, LwRef02, LwCut, LwUn, LwRice, LwDual, LwVal, LwI32, LwFil, LwUnm, LwSam, LwCrc, LwFrm, LwC64, LwWby, LwId, LwApe, LwStrip, LwLen, LwHead, LwSeek, LwOpen, LwFrame, LwBack, LwGot, LwWs, LwGoes, LwPol, LwRt, LwClip, LwPts, LwTrc, LwPd, LwDt, LwDu, LwNn, LwHdI, LwFit, LwFitC. No conditions of its own. -/
import Derived.Test.YtfcmocdmhnafcaaGreatDoorCwBA
import Derived.Test.YtfcmocdmhnafcaaGreatDoorCwPA
set_option linter.unusedVariables false
set_option linter.unusedSimpArgs false
namespace Go.Lv
theorem Aj{a b:Int}(h: -9223372036854775808≤a+b)(h':a+b≤9223372036854775807):Ae a b=a+b:=by rw[Cd5,Ch h h']
theorem Bp{a b:Int}(h: -9223372036854775808≤a-b)(h':a-b≤9223372036854775807):Ah a b=a-b:=by rw[Ce9,Ch h h']
theorem Ih{a b:Int}(h: -9223372036854775808≤a*b)(h':a*b≤9223372036854775807):Bk a b=a*b:=by rw[Bxp,Ch h h']
theorem Ajf(c:UInt8):(Ad c:Int)=(c.toNat:Int):=by rw[By6,Ch]<;>have:=c.toNat_lt<;>omega
theorem Brt(c:UInt32):(Ad c:Int)=(c.toNat:Int):=by rw[Bwc,Ch]<;>have:=c.toNat_lt<;>omega
theorem Ayn(c:UInt8):(Ad c:UInt64)=UInt64.ofNat c.toNat:=by simp only[Ad,Yi,Gw]
theorem Ib(c:UInt32):(Ad c:UInt64)=UInt64.ofNat c.toNat:=by simp only[Ad,Vo,Gw]
theorem Aqh(c:UInt64):(Ad c:UInt8)=UInt8.ofNat c.toNat:=by simp only[Ad,Ij,Ln]
theorem Ayg(c:UInt32):(Ad c:UInt8)=UInt8.ofNat c.toNat:=by simp only[Ad,Vo,Ln]
theorem Aaf(n:Nat):(Ad (n:Int):UInt64)=UInt64.ofNat n:=by simp only[Ad];exact Gw n
theorem Biz(n:Nat):(Ad (n:Int):UInt32)=UInt32.ofNat n:=by simp only[Ad];exact Ei n
theorem Byk(n:Nat):(Ad (n:Int):UInt8)=UInt8.ofNat n:=by simp only[Ad];exact Ln n
theorem Bbi{c:UInt64}(h:c.toNat<9223372036854775808):(Ad c:Int)=(c.toNat:Int):=by rw[Bu5,Ch]<;>omega
theorem Bta:LIM=17179869184:=by decide
theorem Am:36893488147419103231<FUEL:=by decide
theorem Cq{α:Type}{l:List α}{n:Nat}(h:n<l.length):Ak l (n:Int)=some l[n]:=by simp[Ak,h]
theorem Wc{α:Type}{l:List α}{n:Nat}(x:α)(h:n<l.length):Kw l (n:Int) x=some (l.set n x):=by simp[Kw,h]
theorem Aee{α:Type}{l:List α}{a b:Int}(h:0≤a)(h1:a≤b)(h2:b≤l.length):Bc l a b=some ((l.take b.toNat).drop a.toNat):=by rw[Bc,if_pos ⟨h,h1,h2⟩]
theorem Cy{α:Type}{l:List α}{a:Int}(h:0≤a)(h1:a≤l.length):Bc l a (Ac l)=some (l.drop a.toNat):=by
 unfold Ac;rw[Aee h h1 (Int.le_refl _),Int.toNat_natCast,List.take_length]
theorem Cp{α:Type}{l:List α}{b:Int}(h:0≤b)(h1:b≤l.length):Bc l 0 b=some (l.take b.toNat):=by rw[Aee (Int.le_refl _) h h1];rfl
theorem Cm{α:Type}{l m:List α}(h:l.length+m.length≤17179869184):Cw l m=some (l++m):=by rw[Cw,Bta,if_pos h]
theorem Bid{α:Type}{n:Int}{z:α}(h:0≤n)(h':n≤17179869184):mkI n z=some (List.replicate n.toNat z):=by rw[mkI,Bta,if_pos ⟨h,h'⟩]
theorem Cgm:Hx true=some ():=rfl
theorem Db{b:Bool}(h:b=true):Hx b=some ():=by rw[h];rfl
theorem Aa{α β:Type}(a:α)(f:α→Option β):Option.bind (some a) f=f a:=rfl
theorem drop_cons{α:Type}{l:List α}{n:Nat}(h:n<l.length):l.drop n=l[n]::l.drop (n+1):=List.drop_eq_getElem_cons h
theorem Aje{α:Type}{l:List α}{n:Nat}(h:n<l.length):l.take (n+1)=l.take n++[l[n]]:=by rw[List.take_add_one,List.getElem?_eq_getElem h];rfl
def Ee:List UInt8→Nat
 |[]=>0
 |x::r=>x.toNat+256*Ee r
theorem Bme:∀l:List UInt8,Ee l<256^l.length
 |[]=>by simp[Ee]
 |x::r=>by
  have h:=Bme r
  have:=x.toNat_lt
  simp only[Ee,List.length_cons,Nat.pow_succ]
  omega
theorem Bh0:∀l m:List UInt8,Ee (l++m)=Ee l+256^l.length*Ee m
 |[],m=>by simp[Ee]
 |x::r,m=>by
  simp only[Ee,List.cons_append,Bh0 r m,List.length_cons,Nat.pow_succ,Nat.mul_add]
  rw[Nat.mul_comm (256^r.length) 256,Nat.mul_assoc];omega
def leU(l:List UInt8):UInt64:=UInt64.ofNat (Ee l)
theorem Ca6{l:List UInt8}(h:l.length≤8):Ee l<18446744073709551616:=by
 have h1:=Bme l
 have h2:256^l.length≤256^8:=Nat.pow_le_pow_right (by omega) h
 exact Nat.lt_of_lt_of_le h1 (by simpa using h2)
theorem Bsb{l:List UInt8}(h:l.length≤4):Ee l<4294967296:=by
 have h1:=Bme l
 have h2:256^l.length≤256^4:=Nat.pow_le_pow_right (by omega) h
 exact Nat.lt_of_lt_of_le h1 (by simpa using h2)
theorem Ami{l:List UInt8}(h:l.length≤8):(leU l).toNat=Ee l:=by
 rw[leU,UInt64.toNat_ofNat',Nat.mod_eq_of_lt (Ca6 h)]
theorem Afa{l:List UInt8}(h:l.length≤4):(Ad (leU l):Int)=(Ee l:Int):=by
 have:=Bsb h
 rw[Bbi]<;>rw[Ami (by omega)];omega
def leB(n:Nat):Nat→List UInt8
 |0=>[]
 |w+1=>UInt8.ofNat n::leB (n/256) w
theorem Oj:∀(w n:Nat),(leB n w).length=w
 |0,_=>rfl
 |w+1,n=>by simp[leB,Oj w]
theorem Boq:∀(w n:Nat),leB n (w+1)=leB n w++[UInt8.ofNat (n/256^w)]
 |0,n=>by simp[leB]
 |w+1,n=>by
  rw[leB,Boq w (n/256),leB]
  simp[Nat.div_div_eq_div_mul,Nat.pow_succ,Nat.mul_comm]
end Go.Lv
set_option linter.unusedVariables false
set_option linter.unusedSimpArgs false
namespace Go.Lv
def Kc(p:List UInt8)(i:Nat):Nat:=(p.getD (i/8) 0).toNat/2^(i %8) %2
theorem Xp(p:List UInt8)(i:Nat):Kc p i<2:=Nat.mod_lt _ (by omega)
def Cg(p:List UInt8):Nat→Nat→Nat
 |_,0=>0
 |a,n+1=>Kc p a+2*Cg p (a+1) n
theorem Qa(p:List UInt8):∀(n a:Nat),Cg p a n<2^n
 |0,_=>by simp[Cg]
 |n+1,a=>by
  have:=Qa p n (a+1)
  have:=Xp p a
  rw[Cg,Nat.pow_succ];omega
theorem Aj0(p:List UInt8):∀(m n a:Nat),Cg p a (m+n)=Cg p a m+2^m*Cg p (a+m) n
 |0,n,a=>by simp[Cg]
 |m+1,n,a=>by
  rw[show m+1+n=(m+n)+1 by omega,Cg,Cg,Aj0 p m n (a+1),show a+1+m=a+(m+1) by omega,Nat.pow_succ,Nat.mul_add,Nat.mul_comm (2^m) 2,Nat.mul_assoc];omega
theorem Bm1(p:List UInt8)(a:Nat):Cg p a 1=Kc p a:=by simp[Cg]
theorem Bjz(p:List UInt8)(a n:Nat):Cg p a (n+1)=Cg p a n+2^n*Kc p (a+n):=by rw[Aj0 p n 1 a,Bm1]
theorem Bbw(p:List UInt8)(a:Nat):∀t:Nat,a %8+t≤8→Cg p a t=(p.getD (a/8) 0).toNat/2^(a %8) %2^t
 |0,_=>by simp[Cg,Nat.mod_one]
 |t+1,h=>by
  have h1:(a+t)/8=a/8:=by omega
  have h2:(a+t) %8=a %8+t:=by omega
  rw[Bjz,Bbw p a t (by omega),Kc,h1,h2,Nat.mod_pow_succ,Nat.pow_add,Nat.div_div_eq_div_mul]
theorem Bjj{p:List UInt8}:∀(n a:Nat),(∀k,k<n→Kc p (a+k)=0)→Cg p a n=0
 |0,_,_=>rfl
 |n+1,a,h=>by
  have h0:=h 0 (by omega)
  rw[Cg,Bjj n (a+1) fun k hk=>by have:=h (k+1) (by omega);rwa [show a+1+k=a+(k+1) by omega]]
  rw[Nat.add_zero]at h0;omega
def okB(p:List UInt8)(n:Nat):Prop:=n≤330000∧p.length=(n+7)/8∧∀k,n≤k→k<8*p.length→Kc p k=0
def Ad8(p:List UInt8)(a n:Nat):List UInt8:=(List.range ((n+7)/8)).map fun j=>UInt8.ofNat (Cg p (a+8*j) (min 8 (n-8*j)))
theorem Nc(p:List UInt8)(a n:Nat):(Ad8 p a n).length=(n+7)/8:=by simp[Ad8]
theorem Bpc(p:List UInt8):∀(n a k:Nat),k<n→Cg p a n/2^k %2=Kc p (a+k)
 |n+1,a,0,_=>by have:=Xp p a;rw[Cg];simp;omega
 |n+1,a,k+1,h=>by
  have hb:=Xp p a
  have e:(Kc p a+2*Cg p (a+1) n)/2=Cg p (a+1) n:=by omega
  rw[Cg,Nat.pow_succ,Nat.mul_comm (2^k) 2,←Nat.div_div_eq_div_mul,e,Bpc p n (a+1) k (by omega),show a+1+k=a+(k+1) by omega]
theorem Bup(p:List UInt8)(n a k:Nat)(h:n≤k):Cg p a n/2^k %2=0:=by
 have:=Qa p n a
 rw[Nat.div_eq_of_lt (Nat.lt_of_lt_of_le this (Nat.pow_le_pow_right (by omega) h))]
theorem Bx8(p:List UInt8)(a n k:Nat):Kc (Ad8 p a n) k=if k<n then Kc p (a+k)else 0:=by
 rw[Kc]
 by_cases hj:k/8<(n+7)/8
 ·have e:(Ad8 p a n).getD (k/8) 0=UInt8.ofNat (Cg p (a+8*(k/8)) (min 8 (n-8*(k/8)))):=by
   rw[List.getD_eq_getElem?_getD,List.getElem?_eq_getElem (by rw[Nc];exact hj)];simp[Ad8]
  have hlt:Cg p (a+8*(k/8)) (min 8 (n-8*(k/8)))<256:=by
   have:=Qa p (min 8 (n-8*(k/8))) (a+8*(k/8))
   have h2:2^(min 8 (n-8*(k/8)))≤2^8:=Nat.pow_le_pow_right (by omega) (by omega)
   omega
  have hu:(UInt8.ofNat (Cg p (a+8*(k/8)) (min 8 (n-8*(k/8))))).toNat=Cg p (a+8*(k/8)) (min 8 (n-8*(k/8))):=by
   rw[UInt8.toNat_ofNat'];exact Nat.mod_eq_of_lt hlt
  rw[e,hu]
  by_cases hk:k<n
  ·rw[if_pos hk,Bpc p _ _ _ (by omega),show a+8*(k/8)+k %8=a+k by omega]
  ·rw[if_neg hk,Bup p _ _ _ (by omega)]
 ·have e:(Ad8 p a n).getD (k/8) 0=0:=by
   rw[List.getD_eq_getElem?_getD,List.getElem?_eq_none (by rw[Nc];omega)];rfl
  rw[e,if_neg (by omega)];simp
theorem Bty(p:List UInt8)(a n:Nat)(h:n≤330000):okB (Ad8 p a n) n:=⟨h,Nc p a n,fun k hk _=>by rw[Bx8,if_neg (by omega)]⟩
end Go.Lv
set_option linter.unusedVariables false
set_option linter.unusedSimpArgs false
namespace Go.Pl
open Go Go.Lv
theorem Bwn(b:List UInt8)(hb:b.length<4611686018427387904):∀(j q:Nat),j≤b.length→j<q→Lp b q (leU (b.drop j)) ((j:Int)-1)=some (leU b)
 |0,q+1,_,_=>by
  rw[Lp,Yn,if_neg (by rw[Eb];simp)]
  simp[Ajs,Akf]
 |j+1,q+1,hj,hq=>by
  rw[Lp,Yn,if_pos (by rw[Eb];simp),show((j+1:Nat):Int)-1=(j:Int) by omega,Cq (by omega),Aa,Bp (by omega) (by omega)]
  have h:Ae (Bk (256:UInt64) (leU (b.drop (j+1)))) (Ad b[j]:UInt64)=leU (b.drop j):=by
   rw[Agw,Agf,Ayn,drop_cons (n:=j) (by omega),leU,leU,Ee,UInt64.ofNat_add,UInt64.ofNat_mul]
   exact UInt64.add_comm _ _
  rw[h]
  exact Bwn b hb j q (by omega) (by omega)
theorem Bn8(b:List UInt8)(hb:b.length<4611686018427387904):Dd b=some (leU b):=by
 have h:=Bwn b hb b.length FUEL (Nat.le_refl _) (by have:=Am;omega)
 rw[Dd,Aj8,Ajr]
 have e:Ah (Ac b) 1=(b.length:Int)-1:=Bp (by unfold Ac;omega) (by unfold Ac;omega)
 rw[e,←h,List.drop_length];rfl
theorem Bxv{n c:UInt64}{i:Nat}(hn:n.toNat<2^i)(hc:c.toNat*2^i<18446744073709551616):gor n (Df c i)=UInt64.ofNat (n.toNat+c.toNat*2^i):=by
 rw[Cb1];apply UInt64.toNat_inj.1
 rw[UInt64.toNat_or,Apm,Nat.mod_eq_of_lt hc,Nat.mul_comm,Nat.or_comm,←Nat.two_pow_add_eq_or_of_lt hn,UInt64.toNat_ofNat',Nat.mod_eq_of_lt,Nat.add_comm,Nat.mul_comm]
 have h:=Nat.two_pow_add_eq_or_of_lt hn c.toNat
 have h2:2^i*c.toNat+n.toNat<2^64:=by
  rw[h]
  exact Nat.or_lt_two_pow (by rw[Nat.mul_comm];simpa using hc) n.toNat_lt
 rw[Nat.add_comm];first|exact h2|(rw[Nat.mul_comm];exact h2)
theorem Bkw(b:List UInt8)(hb:b.length≤8):∀(j i q:Nat),i+j=b.length→j<q→Zj b q (leU (b.take i)) (i:Int)=some (leU b,0)
 |0,i,q+1,hi,_=>by
  rw[Zj,Am4,if_neg (by rw[Af,Ac];simp;omega),show i=b.length by omega,List.take_length];rfl
 |j+1,i,q+1,hi,hq=>by
  have hlt:i<b.length:=by omega
  rw[Zj,Am4,if_pos (by rw[Af,Ac];simp;omega),Cq hlt,Aa,Ih (by omega) (by omega),Db (by rw[Eb];simp;omega),Aa,Aj (by omega) (by omega)]
  have h:gor (leU (b.take i)) (Df (Ad b[i]:UInt64) (GI.toZ ((8:Int)*(i:Int))).toNat)=leU (b.take (i+1)):=by
   have e:(GI.toZ ((8:Int)*(i:Int))).toNat=8*i:=by show((8:Int)*(i:Int)).toNat=_;omega
   have e2:(2:Nat)^(8*i)=256^i:=by rw[Nat.pow_mul]
   have h1:=Bme (b.take i)
   rw[List.length_take,Nat.min_eq_left (by omega)]at h1
   have h3:=b[i].toNat_lt
   have hle:(256:Nat)^(i+1)≤256^8:=Nat.pow_le_pow_right (by omega) (by omega)
   rw[Nat.pow_succ]at hle
   have h4:(Ad b[i]:UInt64).toNat=b[i].toNat:=by rw[Ayn,UInt64.toNat_ofNat'];omega
   have h5:b[i].toNat*256^i<18446744073709551616:=by
    have:b[i].toNat*256^i<256*256^i:=Nat.mul_lt_mul_of_pos_right (by simpa using h3) (Nat.pow_pos (by omega))
    simp at hle;omega
   rw[e,Bxv (by rw[Ami (by simp;omega),e2];exact h1) (by rw[h4,e2];exact h5),Ami (by simp;omega),h4,e2,Aje hlt]
   rw[leU,Bh0]
   simp only[Ee,List.length_take,Nat.min_eq_left (Nat.le_of_lt hlt),Nat.mul_zero,Nat.add_zero]
   rw[Nat.mul_comm]
  rw[h]
  exact Bkw b hb j (i+1) q (by omega) (by omega)
theorem Bp3(b:List UInt8)(h1:1≤b.length)(h2:b.length≤8):Auy b=some (leU b,0):=by
 have h:=Bkw b h2 b.length 0 FUEL (by omega) (by have:=Am;omega)
 rw[Auy,Au6,if_neg (by simp[Af,Ap,Ac];omega),Auf]
 exact h
def part(b:List UInt8)(at' w:Nat):List UInt8:=(b.take (at'+w)).drop at'
theorem Dn{b:List UInt8}{a w:Nat}(h:a+w≤b.length):(part b a w).length=w:=by simp[part];omega
theorem Bjn(b:List UInt8)(a w:Nat)(h1:1≤w)(h2:w≤8)(h3:a+w≤b.length)(hb:b.length<4611686018427387904):Ap5 b (a:Int) (w:Int)=some (leU (part b a w),0):=by
 rw[Ap5,if_neg (by simp[Af,Ap];omega),if_neg (by rw[Ap,Bp (by unfold Ac;omega) (by unfold Ac;omega),Ac];simp;omega),Aj (by omega) (by omega),Aee (by omega) (by omega) (by omega),Aa]
 rw[show((a:Int)+(w:Int)).toNat=a+w by omega,show(a:Int).toNat=a by omega]
 rw[Bp3 _ (by rw[show((b.take (a+w)).drop a).length=_ from Dn h3];exact h1) (by rw[show((b.take (a+w)).drop a).length=_ from Dn h3];exact h2),Aa];rfl
theorem Bcw(w:Nat)(hw:w≤1000):∀(j i q:Nat) (n:UInt64) (acc:List UInt8),i+j=w→j<q→acc.length+j≤1000000→Hb (w:Int) q n (i:Int) acc=some (acc++leB n.toNat j)
 |0,i,q+1,n,acc,hi,_,_=>by
  rw[Hb,Ot,if_neg (by rw[Af];simp;omega)]
  simp[Aab,Zi,leB]
 |j+1,i,q+1,n,acc,hi,hq,ha=>by
  rw[Hb,Ot,if_pos (by rw[Af];simp;omega)]
  have e:(Ad (Aaj n (256:UInt64)):UInt8)=UInt8.ofNat n.toNat:=by
   rw[Aqh,Bo4];apply UInt8.toNat_inj.1
   rw[UInt8.toNat_ofNat',UInt8.toNat_ofNat',UInt64.toNat_mod]
   show n.toNat %256 %256=_
   omega
  have e2:(Bw n (256:UInt64)).toNat=n.toNat/256:=by rw[Bah,UInt64.toNat_div];rfl
  rw[Cm (by simp;omega),Aa,Aj (by omega) (by omega),e]
  have h:=Bcw w hw j (i+1) q (Bw n 256) (acc++[UInt8.ofNat n.toNat]) (by omega) (by omega) (by simp;omega)
  rw[e2]at h
  rw[show((i:Int)+1)=((i+1:Nat):Int) by omega,h,leB];simp
theorem Bfa(n:UInt64)(w:Nat)(hw:w≤1000):Du n (w:Int)=some (leB n.toNat w):=by
 rw[Du,Zu,Zh]
 have h:=Bcw w hw w 0 FUEL n [] (by omega) (by have:=Am;omega) (by simp;omega)
 simpa using h
theorem Awo{α:Type}{l m:List α}{x y:α}{i:Nat}(h:l.length=i):(l++x::m).set i y=l++y::m:=by subst h;simp
theorem Bjb(n:UInt64)(l4:List UInt8)(w:Nat)(hl:l4.length=w)(hw:w≤8):∀(j i q:Nat),i+j=w→j<q→Zc n l4 q (i:Int) (leB n.toNat i++List.replicate j 0)=some (leB n.toNat w,0)
 |0,i,q+1,hi,_=>by
  rw[Zc,Amd,if_neg (by rw[Af,Ac];simp;omega)]
  obtain rfl:i=w:=by omega
  simp[Aun,Bc5]
 |j+1,i,q+1,hi,hq=>by
  have hlen:(leB n.toNat i++List.replicate (j+1) 0).length=i+(j+1):=by simp[Oj]
  rw[Zc,Amd,if_pos (by rw[Af,Ac];simp;omega),Ih (by omega) (by omega),Db (by rw[Eb];simp;omega),Aa,Cq (by rw[hlen];omega),Aa,Wc _ (by rw[hlen];omega),Aa,Aj (by omega) (by omega)]
  have e:(Ad (Bv n (GI.toZ ((8:Int)*(i:Int))).toNat):UInt8)=UInt8.ofNat (n.toNat/256^i):=by
   have e:(GI.toZ ((8:Int)*(i:Int))).toNat=8*i:=by show((8:Int)*(i:Int)).toNat=_;omega
   rw[e,Aqh,Agm,Nat.pow_mul]
  rw[e,List.replicate_succ,Awo (Oj _ _)]
  have h:=Bjb n l4 w hl hw j (i+1) q (by omega) (by omega)
  rw[Boq]at h
  simpa using h
theorem Cbz(n:UInt64)(w:Nat)(h1:1≤w)(h2:w≤8)(h:n.toNat<256^w):Beq n (w:Int)=some true:=by
 rw[Beq]
 by_cases h8:w=8
 ·subst h8;rw[if_pos (by rw[As];rfl)]
 ·rw[if_neg (by rw[As];simp;omega),Ih (by omega) (by omega),Db (by rw[Eb];simp;omega),Aa]
  have e:(GI.toZ ((8:Int)*(w:Int))).toNat=8*w:=by show((8:Int)*(w:Int)).toNat=_;omega
  rw[e,Bet]
  have:Bv n (8*w)=0:=by
   apply UInt64.toNat_inj.1
   rw[Agm,Nat.pow_mul]
   exact Nat.div_eq_of_lt h
  rw[this];rfl
theorem Bot(n:UInt64)(w:Nat)(h1:1≤w)(h2:w≤8)(h:n.toNat<256^w):Xm n (w:Int)=some (leB n.toNat w,0):=by
 rw[Xm,Aud,if_neg (by simp[Af,Ap];omega),Cbz n w h1 h2 h,Aa,if_neg (by simp),Bid (by omega) (by omega),Aa,Db (by rw[As];simp),Aa,Auh]
 have h:=Bjb n (List.replicate (w:Int).toNat 0) w (by simp) h2 w 0 FUEL (by omega) (by have:=Am;omega)
 simpa [leB]using h
end Go.Pl
set_option linter.unusedVariables false
set_option linter.unusedSimpArgs false
namespace Go.Pl
open Go Go.Lv
theorem Bpw(n:Nat)(h:n<4611686018427387904):Dq (n:Int) (7:Int)=((n %8:Nat):Int):=by
 have e:Dq (n:Int) (7:Int)=wrap64 ((BitVec.ofInt 64 (n:Int)&&&BitVec.ofInt 64 7).toNat:Int):=rfl
 rw[e,BitVec.toNat_and,BitVec.toNat_ofInt,BitVec.toNat_ofInt]
 have h1:((n:Int) %((2^64:Nat):Int)).toNat=n:=by omega
 have h2:((7:Int) %((2^64:Nat):Int)).toNat=2^3-1:=by decide
 rw[h1,h2,Nat.and_two_pow_sub_one_eq_mod,Ch (by omega) (by omega)]
theorem Cfr(n:Nat):Bd6 (n:Int) (GI.toZ (3:UInt64)).toNat=((n/8:Nat):Int):=by
 have e:Bd6 (n:Int) (GI.toZ (3:UInt64)).toNat=(n:Int).fdiv 8:=rfl
 rw[e,Int.fdiv_eq_ediv_of_nonneg _ (by omega)];omega
theorem Cfn{t:Nat}(h:t≤8):Ah (Df (1:UInt8) t) (1:UInt8)=UInt8.ofNat (2^t-1):=by
 have:t=0∨t=1∨t=2∨t=3∨t=4∨t=5∨t=6∨t=7∨t=8:=by omega
 rcases this with rfl|rfl|rfl|rfl|rfl|rfl|rfl|rfl|rfl<;>decide
theorem bitsOf(c:UInt8)(off t:Nat)(h:t≤8):(Dq (Bv c off) (Ah (Df (1:UInt8) t) (1:UInt8))).toNat=c.toNat/2^off %2^t:=by
 have hp:2^t≤2^8:=Nat.pow_le_pow_right (by omega) h
 rw[Cfn h,Cce,UInt8.toNat_and,Bsr,UInt8.toNat_ofNat',Nat.mod_eq_of_lt (by have:=Nat.pow_pos (n:=t) (show 0<2 by omega);omega),Nat.and_two_pow_sub_one_eq_mod]
theorem Bfy{p:List UInt8}{k:Nat}(h:k<p.length):Ak p (k:Int)=some (p.getD k 0):=by
 rw[Cq h];simp[List.getD_eq_getElem?_getD,h]
def Tx(p:List UInt8)(a n:Nat):UInt64:=UInt64.ofNat (Cg p a n)
theorem Aa2(p:List UInt8)(a n:Nat)(h:n≤64):(Tx p a n).toNat=Cg p a n:=by
 have h1:=Qa p n a
 have h2:2^n≤2^64:=Nat.pow_le_pow_right (by omega) h
 rw[Tx,UInt64.toNat_ofNat',Nat.mod_eq_of_lt (by omega)]
theorem Bmw(p:List UInt8)(N:Int)(a n:Nat)(hn:n≤64)(ha:a+n≤8*p.length)(hp:p.length≤1000000):∀(j h q:Nat),h+j=n→j<q→Afm (a:Int) (n:Int) p N q (Tx p a h) (h:Int)=some (Tx p a n)
 |j,h,q+1,hj,hq=>by
  rw[Afm,Atz]
  by_cases hlt:h<n
  ·have e1:Ae (a:Int) (h:Int)=((a+h:Nat):Int):=by rw[Aj (by omega) (by omega)];omega
   have e2:Ec (Ah (n:Int) (h:Int)) (Ah (8:Int) (((a+h) %8:Nat):Int))=((min (n-h) (8-(a+h) %8):Nat):Int):=by
    rw[Anv,Bp (by omega) (by omega),Bp (by omega) (by omega)];omega
   have hm:(a+h)/8<p.length:=by omega
   rw[if_pos (by rw[Af];simp;omega),e1,Cfr,Bfy hm,Aa,Bpw _ (by omega),Db (by rw[Eb];simp;omega),Aa,e2,Db (by rw[Eb];simp),Aa,Db (by rw[Eb];simp),Aa]
   generalize hT:min (n-h) (8-(a+h) %8)=T
   have hT8:T≤8:=by omega
   have hT1:1≤T:=by omega
   have hb:(a+h) %8+T≤8:=by omega
   have hv:=Bbw p (a+h) T hb
   have z1:(GI.toZ (((a+h) %8:Nat):Int)).toNat=(a+h) %8:=rfl
   have z2:(GI.toZ ((T:Nat):Int)).toNat=T:=rfl
   have z3:(GI.toZ ((h:Nat):Int)).toNat=h:=rfl
   rw[z1,z2,z3]
   have hx:(Ad (Dq (Bv (p.getD ((a+h)/8) 0) ((a+h) %8)) (Ah (Df (1:UInt8) T) (1:UInt8))):UInt64).toNat=Cg p (a+h) T:=by
    rw[Ayn,UInt64.toNat_ofNat',bitsOf _ _ _ hT8,←hv]
    have:=Qa p T (a+h)
    have h2:2^T≤2^8:=Nat.pow_le_pow_right (by omega) hT8
    omega
   have hlt2:=Qa p (h+T) a
   rw[Aj0]at hlt2
   have h64:2^(h+T)≤2^64:=Nat.pow_le_pow_right (by omega) (by omega)
   have hor:gor (Tx p a h) (Df (Ad (Dq (Bv (p.getD ((a+h)/8) 0) ((a+h) %8)) (Ah (Df (1:UInt8) T) (1:UInt8))):UInt64) h)=Tx p a (h+T):=by
    rw[Bxv (by rw[Aa2 p a h (by omega)];exact Qa p h a) (by rw[hx,Nat.mul_comm];omega),hx,Aa2 p a h (by omega),Tx,Aj0,Nat.mul_comm (2^h)]
   rw[hor,Aj (by omega) (by omega),show(h:Int)+((T:Nat):Int)=((h+T:Nat):Int) by omega]
   exact Bmw p N a n hn ha hp (j-T) (h+T) q (by omega) (by omega)
  ·rw[if_neg (by rw[Af];simp;omega),show h=n by omega];rfl
theorem get_eq(p:List UInt8)(N:Int)(a n:Nat)(hn:n≤64)(ha:a+n≤8*p.length)(hp:p.length≤1000000):Bas p N (a:Int) (n:Int)=some (Tx p a n):=by
 have:=Bmw p N a n hn ha hp n 0 FUEL (by omega) (by have:=Am;omega)
 exact this
theorem Ajk{p:List UInt8}{n:Nat}(h:okB p n):Jg p (n:Int)=some 0:=by
 obtain⟨h1,h2,h3⟩:=h
 have e7:Ae (n:Int) 7=((n+7:Nat):Int):=by rw[Aj (by omega) (by omega)];omega
 rw[Jg,e7,Cfr,if_neg (by simp[Af,Ap,Al,Ac,h2];omega),Bpw _ (by omega)]
 by_cases hz:n %8=0
 ·rw[if_neg (by rw[Ap];simp;omega)]
 ·have el:Ah (Ac p) 1=((p.length-1:Nat):Int):=by rw[Ac,Bp (by omega) (by omega)];omega
  rw[if_pos (by rw[Ap];simp;omega),el,Bfy (by omega),Aa,Db (by rw[Eb];simp;omega),Aa]
  have z:(GI.toZ ((n %8:Nat):Int)).toNat=n %8:=rfl
  have hs:Bv (p.getD (p.length-1) 0) (n %8)=0:=by
   apply UInt8.toNat_inj.1
   rw[Bsr]
   have hv:=Bbw p n (8-n %8) (by omega)
   have h0:Cg p n (8-n %8)=0:=Bjj _ _ fun k hk=>h3 _ (by omega) (by omega)
   rw[h0,show n/8=p.length-1 by omega]at hv
   have hlt:(p.getD (p.length-1) 0).toNat/2^(n %8)<2^(8-n %8):=by
    have:=(p.getD (p.length-1) 0).toNat_lt
    rw[Nat.div_lt_iff_lt_mul (Nat.pow_pos (by omega)),←Nat.pow_add,show 8-n %8+n %8=8 by omega];simpa using this
   rw[Nat.mod_eq_of_lt hlt]at hv
   exact hv.symm
  rw[z,hs,if_neg (by rw[Bqp];simp)]
theorem Bbn{p:List UInt8}{N:Nat}(h:okB p N)(a n:Nat)(hn:n≤64):Aau p (N:Int) (a:Int) (n:Int)=some (if N<a+n then(0,24)else(Tx p a n,0)):=by
 obtain⟨h1,h2,h3⟩:=h
 rw[Aau,Ajk ⟨h1,h2,h3⟩,Aa,if_neg (by rw[Al];simp),if_neg (by simp[Af,Ap];omega),Bp (by omega) (by omega)]
 by_cases hl:N<a+n
 ·rw[if_pos (by rw[Ap];simp;omega),if_pos hl]
 ·rw[if_neg (by rw[Ap];simp;omega),get_eq p N a n hn (by omega) (by omega),Aa,if_neg hl]
end Go.Pl
set_option linter.unusedVariables false
set_option linter.unusedSimpArgs false
namespace Go.Pl
open Go Go.Lv
theorem Cg2(c:Nat)(h:c<4611686018427387904):Bw (c:Int) (2:Int)=((c/2:Nat):Int):=by
 rw[Ag8,Int.tdiv_eq_ediv_of_nonneg (by omega),Ch (by omega) (by omega)];omega
theorem Cfz(c:Nat)(h:c<4611686018427387904):Bw (c:Int) (8:Int)=((c/8:Nat):Int):=by
 rw[Ag8,Int.tdiv_eq_ediv_of_nonneg (by omega),Ch (by omega) (by omega)];omega
theorem Bxm(c:Nat):Fz (c:Int) (8:Int)=((c %8:Nat):Int):=by rw[Fz,Int.tmod_eq_emod_of_nonneg (by omega)];omega
theorem Cg3(c:Nat):Fz (c:Int) (2:Int)=((c %2:Nat):Int):=by rw[Fz,Int.tmod_eq_emod_of_nonneg (by omega)];omega
theorem Btf(i c:Nat)(hc:c<256):∀(j k q:Nat),k+j=i %8→j<q→Lo (i:Int) q ((c/2^k:Nat):Int) (k:Int)=some (((c/2^(i %8) %2:Nat):Int))
 |0,k,q+1,hk,_=>by
  rw[Lo,Ym,Bxm,if_neg (by rw[Af];simp;omega),Akm,Alp,Cg3,show k=i %8 by omega]
 |j+1,k,q+1,hk,hq=>by
  have hle:c/2^k≤c:=Nat.div_le_self _ _
  rw[Lo,Ym,Bxm,if_pos (by rw[Af];simp;omega),Cg2 _ (by omega),Aj (by omega) (by omega),Nat.div_div_eq_div_mul,←Nat.pow_succ]
  exact Btf i c hc j (k+1) q (by omega) (by omega)
theorem Bcc(p:List UInt8)(N:Int)(i:Nat)(h:i/8<p.length)(hi:i<4611686018427387904):Kf p N (i:Int)=some ((Kc p i:Nat):Int):=by
 have hc:=(p.getD (i/8) 0).toNat_lt
 have:=Btf i (p.getD (i/8) 0).toNat (by simpa using hc) (i %8) 0 FUEL (by omega) (by have:=Am;omega)
 rw[Kf,Ake,Cfz _ hi,Bfy h,Aa,Ajf,Ak4]
 simpa [Kc]using this
theorem Bfi(p:List UInt8)(N:Int)(a n:Nat)(ha:a+n≤8*p.length)(hp:p.length≤1000000):∀(j q:Nat),j≤n→j<q→Iq (a:Int) p N q (Tx p (a+j) (n-j)) ((j:Int)-1)=some (Tx p a n)
 |0,q+1,_,_=>by
  rw[Iq,Rw,if_neg (by rw[Eb];simp)];rfl
 |j+1,q+1,hj,hq=>by
  have hb:=Xp p (a+j)
  rw[Iq,Rw,show((j+1:Nat):Int)-1=(j:Int) by omega,if_pos (by rw[Eb];simp),Aj (a:=(a:Int)) (by omega) (by omega),show(a:Int)+(j:Int)=((a+j:Nat):Int) by omega,Bcc p N (a+j) (by omega) (by omega),Aa,Bp (by omega) (by omega)]
  have e:Ae (Bk (2:UInt64) (Tx p (a+(j+1)) (n-(j+1)))) (Ad ((Kc p (a+j):Nat):Int):UInt64)=Tx p (a+j) (n-j):=by
   rw[Agw,Agf,Aaf,Tx,Tx,show n-j=(n-(j+1))+1 by omega,Cg,show a+j+1=a+(j+1) by omega,UInt64.ofNat_add,UInt64.ofNat_mul]
   exact UInt64.add_comm _ _
  rw[e]
  exact Bfi p N a n ha hp j q (by omega) (by omega)
theorem Ay9(p:List UInt8)(N:Int)(a n:Nat)(ha:a+n≤8*p.length)(hp:p.length≤1000000):Qf p N (a:Int) (n:Int)=some (Tx p a n):=by
 have:=Bfi p N a n ha hp n FUEL (Nat.le_refl _) (by have:=Am;omega)
 have hz:Tx p (a+n) (n-n)=0:=by rw[Nat.sub_self];rfl
 rw[hz]at this
 rw[Qf,Adl,Adf,Bp (by omega) (by omega)]
 exact this
theorem Bsg(bit:Int)(N:Nat)(l:List UInt8):∀(j k q:Nat),k+j=N %8→j<q→Ks bit (N:Int) l q ((2^k:Nat):Int) (k:Int)=Wu bit ((2^(N %8):Nat):Int) (N:Int) l
 |0,k,q+1,hk,_=>by
  rw[Ks,Vz,Bxm,if_neg (by rw[Af];simp;omega),show k=N %8 by omega]
 |j+1,k,q+1,hk,hq=>by
  have hp:2^k≤2^8:=Nat.pow_le_pow_right (by omega) (by omega)
  have e:Bk ((2^k:Nat):Int) 2=((2^(k+1):Nat):Int):=by
   rw[Nat.pow_succ]
   generalize 2^k=K at*
   rw[Ih (by omega) (by omega)];omega
  rw[Ks,Vz,Bxm,if_pos (by rw[Af];simp;omega),e,Aj (by omega) (by omega)]
  exact Bsg bit N l j (k+1) q (by omega) (by omega)
theorem Bh4(p:List UInt8)(a n j:Nat)(h:j<(n+7)/8):(Ad8 p a n)[j]'(by rw[Nc];exact h)=UInt8.ofNat (Cg p (a+8*j) (min 8 (n-8*j))):=by simp[Ad8]
theorem Bn3(p:List UInt8)(a t:Nat)(h:t≤8):Cg p a t<256:=by
 have h1:=Qa p t a
 have h2:2^t≤2^8:=Nat.pow_le_pow_right (by omega) h
 omega
def room(p:List UInt8)(a n:Nat):List UInt8:=if n %8=0 then Ad8 p a n++[0]else Ad8 p a n
theorem Xc(p:List UInt8)(a n:Nat):(room p a n).length=n/8+1:=by
 rw[room];split<;>simp[Nc]<;>omega
theorem Bpd(p:List UInt8)(a n j:Nat)(h:j<n/8+1):(room p a n)[j]'(by rw[Xc];exact h)=UInt8.ofNat (Cg p (a+8*j) (min 8 (n-8*j))):=by
 have h0:(room p a n)[j]? =some (UInt8.ofNat (Cg p (a+8*j) (min 8 (n-8*j)))):=by
  rw[room]
  split
  ·by_cases hj:j<(n+7)/8
   ·rw[List.getElem?_append_left (by rw[Nc];exact hj),List.getElem?_eq_getElem (by rw[Nc];exact hj),Bh4 p a n j hj]
   ·rw[List.getElem?_append_right (by rw[Nc];omega),Nc,show j-(n+7)/8=0 by omega,show n-8*j=0 by omega];rfl
  ·rw[List.getElem?_eq_getElem (by rw[Nc];omega),Bh4 p a n j (by omega)]
 rw[List.getElem?_eq_getElem (by rw[Xc];exact h)]at h0
 exact Option.some.inj h0
theorem Bmq(p:List UInt8)(a n T:Nat)(h1:1≤T)(h:n %8+T≤8):(room p a n).set (n/8) (UInt8.ofNat (Cg p (a+8*(n/8)) (n %8+T)))=Ad8 p a (n+T):=by
 apply List.ext_getElem (by rw[List.length_set,Xc,Nc];omega)
 intro j g1 g2
 rw[List.length_set,Xc]at g1
 rw[List.getElem_set,Bh4 p a (n+T) j (by rw[Nc]at g2;exact g2)]
 split
 ·rename_i e;subst e;rw[show min 8 (n+T-8*(n/8))=n %8+T by omega]
 ·rw[Bpd p a n j g1,show min 8 (n-8*j)=8 by omega,show min 8 (n+T-8*j)=8 by omega]
theorem Bjq(p:List UInt8)(a n:Nat):(room p a n)[n/8]'(by rw[Xc];omega)=UInt8.ofNat (Cg p (a+8*(n/8)) (n %8)):=by
 rw[Bpd p a n _ (by omega),show min 8 (n-8*(n/8))=n %8 by omega]
theorem Bwm(p:List UInt8)(a n:Nat)(hn:n≤400000):Vq (Ad8 p a n) (n:Int) ((Kc p (a+n):Nat):Int)=some (Ad8 p a (n+1),((n+1:Nat):Int)):=by
 have hb:=Xp p (a+n)
 have hp:2^(n %8)≤2^7:=Nat.pow_le_pow_right (by omega) (by omega)
 have hroom:Vq (Ad8 p a n) (n:Int) ((Kc p (a+n):Nat):Int)=Wq ((Kc p (a+n):Nat):Int) (n:Int) (room p a n):=by
  rw[Vq,Ain,Bxm,room]
  by_cases h0:n %8=0
  ·rw[if_pos (by rw[As,h0];rfl),Cm (by rw[Nc];simp;omega),Aa,if_pos h0]
  ·rw[if_neg (by rw[As];simp;omega),if_neg h0]
 have hl:=Bsg ((Kc p (a+n):Nat):Int) n (room p a n) (n %8) 0 FUEL (by omega) (by have:=Am;omega)
 rw[hroom,Wq,Ah7,Aif]
 refine Eq.trans hl ?_
 have hg:Ak (room p a n) ((n/8:Nat):Int)=some (UInt8.ofNat (Cg p (a+8*(n/8)) (n %8))):=by
  rw[Cq (by rw[Xc];omega),Bjq]
 have hlt:=Bn3 p (a+8*(n/8)) (n %8+1) (by omega)
 have hsn:=Bjz p (a+8*(n/8)) (n %8)
 rw[show a+8*(n/8)+n %8=a+n by omega]at hsn
 have hm:Bk ((Kc p (a+n):Nat):Int) ((2^(n %8):Nat):Int)=((2^(n %8)*Kc p (a+n):Nat):Int):=by
  have hle:2^(n %8)*Kc p (a+n)≤2^7*1:=Nat.mul_le_mul hp (by omega)
  rw[Bxp,←Int.natCast_mul,Ch (by omega) (by rw[Nat.mul_comm];omega),Nat.mul_comm]
 have hx:Ae (UInt8.ofNat (Cg p (a+8*(n/8)) (n %8))) (Ad (((2^(n %8)*Kc p (a+n):Nat):Int)):UInt8)=UInt8.ofNat (Cg p (a+8*(n/8)) (n %8+1)):=by
  rw[Cbk,Byk,hsn,UInt8.ofNat_add]
 rw[Wu,Ah9,Cfz _ (by omega),hg,Aa,Aa,Aa,hm,hx,Wc _ (by rw[Xc];omega),Aa,Bmq p a n 1 (by omega) (by omega),Aj (by omega) (by omega)];rfl
theorem Bav(p:List UInt8)(N:Int)(a n:Nat)(ha:a+n≤8*p.length)(hp:p.length≤1000000)(hn:n≤300000):∀(j m q:Nat),m+j=n→j<q→Gz ((a+n:Nat):Int) p N q ((a+m:Nat):Int) (m:Int) (Ad8 p a m)=some (Ad8 p a n,(n:Int))
 |0,m,q+1,hm,_=>by
  rw[Gz,Pa,if_neg (by rw[Af];simp;omega),show m=n by omega];rfl
 |j+1,m,q+1,hm,hq=>by
  rw[Gz,Pa,if_pos (by rw[Af];simp;omega),Bcc p N (a+m) (by omega) (by omega),Aa,Bwm p a m (by omega),Aa]
  simp only
  rw[Aj (by omega) (by omega)]
  exact Bav p N a n ha hp hn j (m+1) q (by omega) (by omega)
theorem Bos(p:List UInt8)(N:Int)(a n:Nat)(ha:a+n≤8*p.length)(hp:p.length≤1000000)(hn:n≤300000):Agd p N (a:Int) ((a+n:Nat):Int)=some (Ad8 p a n,(n:Int)):=by
 have:=Bav p N a n ha hp hn n 0 FUEL (by omega) (by have:=Am;omega)
 exact this
end Go.Pl
set_option linter.unusedVariables false
set_option linter.unusedSimpArgs false
namespace Go.Pl
open Go Go.Lv
theorem Cew{t:Nat}(h:t≤8):Ah (Df (1:UInt64) t) (1:UInt64)=UInt64.ofNat (2^t-1):=by
 have:t=0∨t=1∨t=2∨t=3∨t=4∨t=5∨t=6∨t=7∨t=8:=by omega
 rcases this with rfl|rfl|rfl|rfl|rfl|rfl|rfl|rfl|rfl<;>decide
theorem Cgv(v:UInt64){t:Nat}(h:t≤8):(Dq v (Ah (Df (1:UInt64) t) (1:UInt64))).toNat=v.toNat %2^t:=by
 have hp:2^t≤2^8:=Nat.pow_le_pow_right (by omega) h
 rw[Cew h,Bfu,UInt64.toNat_and,UInt64.toNat_ofNat',Nat.mod_eq_of_lt (by have:=Nat.pow_pos (n:=t) (show 0<2 by omega);omega),Nat.and_two_pow_sub_one_eq_mod]
theorem or8{v w i:Nat}(hv:v<2^i)(hw:w*2^i<256)(hi:i<8):gor (UInt8.ofNat v) (Df (UInt8.ofNat w) i)=UInt8.ofNat (v+w*2^i):=by
 have hp:2^i≤2^8:=Nat.pow_le_pow_right (by omega) (by omega)
 have hpos:0<2^i:=Nat.pow_pos (by omega)
 have hw2:w<256:=Nat.lt_of_le_of_lt (Nat.le_mul_of_pos_right w hpos) hw
 rw[Ceh];apply UInt8.toNat_inj.1
 have e1:(UInt8.ofNat v).toNat=v:=by rw[UInt8.toNat_ofNat',Nat.mod_eq_of_lt (by omega)]
 have e2:(UInt8.ofNat w).toNat=w:=by rw[UInt8.toNat_ofNat',Nat.mod_eq_of_lt (by omega)]
 rw[UInt8.toNat_or,Cbc,e1,e2,Nat.mod_eq_of_lt hw,Nat.mul_comm w,Nat.or_comm,←Nat.two_pow_add_eq_or_of_lt hv,UInt8.toNat_ofNat',Nat.add_comm v]
 rw[Nat.mul_comm]at hw
 have hb:2^i*w+v<256:=by
  rw[Nat.two_pow_add_eq_or_of_lt hv]
  exact Nat.or_lt_two_pow (n:=8) hw (by omega)
 rw[Nat.mod_eq_of_lt hb]
theorem Bxe(p:List UInt8)(a n T:Nat)(h:T≤n)(hn:n≤64):Bv (Tx p a n) T=Tx p (a+T) (n-T):=by
 apply UInt64.toNat_inj.1
 rw[Agm,Aa2 p a n hn,Aa2 p (a+T) (n-T) (by omega)]
 have:=Qa p T a
 conv=>lhs;rw[show n=T+(n-T) by omega,Aj0,Nat.add_mul_div_left _ _ (Nat.pow_pos (by omega)),Nat.div_eq_of_lt this,Nat.zero_add]
theorem Bwi(p:List UInt8)(a n T:Nat)(h:T≤n)(hn:n≤64):(Tx p a n).toNat %2^T=Cg p a T:=by
 have:=Qa p T a
 rw[Aa2 p a n hn]
 conv=>lhs;rw[show n=T+(n-T) by omega,Aj0,Nat.add_mul_mod_self_left,Nat.mod_eq_of_lt this]
theorem Bf4(bk:Int→Int→List UInt8→Option (List UInt8×Int×Int))(to':Int)(p:List UInt8)(N fr:Int)(r6:UInt64)(a:Nat):∀(j m q:Nat),m+j≤300000→j≤64→j<q→
  Nf bk to' p N fr r6 q (Tx p (a+m) j) (j:Int) (m:Int) (Ad8 p a m)=Ai6 bk to' p N fr ((m+j:Nat):Int) (Ad8 p a (m+j))
 |0,m,q+1,_,_,_=>by
  rw[Nf,Ai8,if_neg (by rw[Ap];simp)];rfl
 |j+1,m,q+1,hm,hj,hq=>by
  have hroom:Nf bk to' p N fr r6 (q+1) (Tx p (a+m) (j+1)) ((j+1:Nat):Int) (m:Int) (Ad8 p a m)=Aiz (Nf bk to' p N fr r6 q) to' fr p N r6 (Tx p (a+m) (j+1)) ((j+1:Nat):Int) (m:Int) (room p a m):=by
   rw[Nf,Ai8,if_pos (by rw[Ap];simp),Bpw m (by omega),room]
   by_cases h0:m %8=0
   ·rw[if_pos (by rw[As,h0];rfl),Cm (by rw[Nc];simp;omega),Aa,if_pos h0]
   ·rw[if_neg (by rw[As];simp;omega),if_neg h0]
  have hl:Ah (Ac (room p a m)) 1=((m/8:Nat):Int):=by
   rw[Ac,Xc,Bp (by omega) (by omega)];omega
  have e2:Ec ((j+1:Nat):Int) (Ah (8:Int) ((m %8:Nat):Int))=((min (j+1) (8-m %8):Nat):Int):=by
   rw[Anv,Bp (by omega) (by omega)];omega
  rw[hroom,Aiz,Aqn,Bpw m (by omega),e2,hl]
  generalize hT:min (j+1) (8-m %8)=T
  have hT1:1≤T:=by omega
  have hT8:m %8+T≤8:=by omega
  have hg:Ak (room p a m) ((m/8:Nat):Int)=some (UInt8.ofNat (Cg p (a+8*(m/8)) (m %8))):=by
   rw[Cq (by rw[Xc];omega),Bjq]
  have z1:(GI.toZ ((m %8:Nat):Int)).toNat=m %8:=rfl
  have z2:(GI.toZ ((T:Nat):Int)).toNat=T:=rfl
  have hlt:=Bn3 p (a+8*(m/8)) (m %8+T) (by omega)
  have hadd:=Aj0 p (m %8) T (a+8*(m/8))
  rw[show a+8*(m/8)+m %8=a+m by omega]at hadd
  have hbyte:(Ad (Dq (Tx p (a+m) (j+1)) (Ah (Df (1:UInt64) T) (1:UInt64))):UInt8)=UInt8.ofNat (Cg p (a+m) T):=by
   rw[Aqh,Cgv _ (by omega),Bwi p (a+m) (j+1) T (by omega) hj]
  have hnew:gor (UInt8.ofNat (Cg p (a+8*(m/8)) (m %8))) (Df (UInt8.ofNat (Cg p (a+m) T)) (m %8))=UInt8.ofNat (Cg p (a+8*(m/8)) (m %8+T)):=by
   rw[or8 (Qa _ _ _) (by rw[Nat.mul_comm];omega) (by omega),hadd,Nat.mul_comm (2^(m %8))]
  rw[hg,z1,z2,hbyte]
  simp only[Aa]
  rw[Db (by rw[Eb];simp),Aa,Db (by rw[Eb];simp;omega),Aa,hnew,Wc _ (by rw[Xc];omega),Aa,Bmq p a m T hT1 hT8,Arn,Ba7,Bpw m (by omega),e2,hT,Db (by rw[Eb];simp),Aa,z2,Bxe p (a+m) (j+1) T (by omega) hj,Bp (by omega) (by omega),Aj (by omega) (by omega)]
  have ih:=Bf4 bk to' p N fr r6 a (j+1-T) (m+T) q (by omega) (by omega) (by omega)
  rw[show m+T+(j+1-T)=m+(j+1) by omega]at ih
  rw[←ih,show a+m+T=a+(m+T) by omega,show((j+1:Nat):Int)-((T:Nat):Int)=((j+1-T:Nat):Int) by omega,show(m:Int)+((T:Nat):Int)=((m+T:Nat):Int) by omega]
theorem Bnb(p:List UInt8)(N:Int)(a n:Nat)(ha:a+n≤8*p.length)(hp:p.length≤1000000)(hn:n≤300000):∀(j m f q:Nat),(f=m∨n≤f∧m=n)→m+j=n→f≤n+64→j<q→Vu ((a+n:Nat):Int) p N q ((a+f:Nat):Int) (m:Int) (Ad8 p a m)=some (Ad8 p a n,(n:Int),0)
 |j,m,f,q+1,hf,hm,hf2,hq=>by
  rw[Vu,Ari]
  by_cases hlt:f<n
  ·obtain rfl:f=m:=by omega
   have e1:Ec (64:Int) (Ah ((a+n:Nat):Int) ((a+f:Nat):Int))=((min 64 (n-f):Nat):Int):=by
    rw[Anv,Bp (by omega) (by omega)];omega
   rw[if_pos (by rw[Af];simp;omega),e1,get_eq p N (a+f) _ (by omega) (by omega) hp,Aa,Aru]
   have h1:=Bf4 (Vu ((a+n:Nat):Int) p N q) ((a+n:Nat):Int) p N ((a+f:Nat):Int) (Tx p (a+f) (min 64 (n-f))) a (min 64 (n-f)) f FUEL (by omega) (by omega) (by have:=Am;omega)
   refine Eq.trans h1 ?_
   rw[Ai6,Baz,Aj (by omega) (by omega),show((a+f:Nat):Int)+64=((a+(f+64):Nat):Int) by omega]
   exact Bnb p N a n ha hp hn (j-min 64 (n-f)) (f+min 64 (n-f)) (f+64) q (by omega) (by omega) (by omega) (by omega)
  ·rw[if_neg (by rw[Af];simp;omega),Aqb,Baa,show m=n by omega]
theorem Cd7{p:List UInt8}{N:Nat}(h:okB p N)(a n:Nat)(ha:a+n≤N)(hn:n≤300000):Att p (N:Int) (a:Int) ((a+n:Nat):Int)=some (Ad8 p a n,(n:Int),0):=by
 obtain⟨h1,h2,h3⟩:=h
 have:=Bnb p N a n (by omega) (by omega) hn n 0 0 FUEL (by omega) (by omega) (by omega) (by have:=Am;omega)
 rw[Att,Avt,Ajk ⟨h1,h2,h3⟩,Aa,if_neg (by rw[Al];simp),if_neg (by simp[Af,Ap];omega),Aqc]
 exact this
end Go.Pl
set_option linter.unusedVariables false
set_option linter.unusedSimpArgs false
namespace Go.Pl
open Go Go.Lv
def Gd(p:List UInt8):Nat→Nat→Nat
 |_,0=>0
 |a,m+1=>if Kc p a=1 then 1+Gd p (a+1) m else 0
theorem Al8(p:List UInt8):∀(m a:Nat),Gd p a m≤m
 |0,_=>Nat.le_refl _
 |m+1,a=>by rw[Gd];split<;>have:=Al8 p m (a+1)<;>omega
theorem Bny(p:List UInt8):∀(m a:Nat),∃s,Cg p a m+1=2^(Gd p a m+1)*s+2^Gd p a m∧(Gd p a m=m→s=0)
 |0,a=>⟨0,by simp[Cg,Gd],fun _=>rfl⟩
 |m+1,a=>by
  have hb:=Xp p a
  obtain⟨s,h1,h2⟩:=Bny p m (a+1)
  by_cases h:Kc p a=1
  ·refine⟨s,?_,fun e=>h2 ?_⟩
   ·rw[Gd,if_pos h,Cg,h,show 1+Gd p (a+1) m+1=(Gd p (a+1) m+1)+1 by omega,show 1+Gd p (a+1) m=Gd p (a+1) m+1 by omega,Nat.pow_succ,Nat.pow_succ (n:=2) (m:=Gd p (a+1) m)]
    rw[Nat.pow_succ]at h1
    generalize Cg p (a+1) m=V at*
    generalize 2^Gd p (a+1) m=W at*
    have e1:W*2*2*s=2*(W*2*s):=by rw[Nat.mul_right_comm (W*2) 2 s,Nat.mul_comm]
    omega
   ·rw[Gd,if_pos h]at e;omega
  ·refine⟨Cg p (a+1) m,?_,fun e=>?_⟩
   ·rw[Gd,if_neg h,Cg];simp;omega
   ·rw[Gd,if_neg h]at e;omega
theorem Cbb{n t s:Nat}(h:2^(t+1)*s+2^t≤2^n)(ht:t<n)(x:Nat)(hx:x=2^n-(2^(t+1)*s+2^t)):x&&& (2^(t+1)*s+2^t)=2^t:=by
 have hpos:0<2^t:=Nat.pow_pos (by omega)
 have hlt:2^t<2^(t+1):=by rw[Nat.pow_succ];omega
 have e:x=2^n-((2^(t+1)*s+(2^t-1))+1):=by rw[hx];congr 1;omega
 apply Nat.eq_of_testBit_eq
 intro i
 rw[Nat.testBit_and,e,Nat.testBit_two_pow_sub_succ (by omega),Nat.testBit_two_pow_mul_add _ (by omega),Nat.testBit_two_pow_mul_add _ hlt]
 by_cases hi:i<t+1
 ·rw[if_pos hi,if_pos hi,Nat.testBit_two_pow_sub_one,Nat.testBit_two_pow]
  by_cases hit:t=i
  ·subst hit;simp;exact ht
  ·have:¬i=t:=fun e=>hit e.symm
   simp[hit]
 ·rw[if_neg hi,if_neg hi,Nat.testBit_two_pow]
  have:¬t=i:=by omega
  simp[this]
theorem Bx1(a:UInt64):(Be3 a).toNat=18446744073709551615-a.toNat:=by
 have h:=a.toNat_lt
 have e:Be3 a=UInt64.ofNat (BitVec.ofInt 64 18446744073709551615^^^BitVec.ofInt 64 (a.toNat:Int)).toNat:=Gw _
 have h1:BitVec.ofInt 64 (a.toNat:Int)=a.toBitVec:=Ble a
 have h2:(BitVec.ofInt 64 18446744073709551615:BitVec 64)=BitVec.allOnes 64:=by decide
 rw[e,UInt64.toNat_ofNat',h1,h2,BitVec.allOnes_xor,BitVec.toNat_not]
 show(18446744073709551616-1-a.toNat) %18446744073709551616=18446744073709551615-a.toNat
 omega
theorem Bwj(a:UInt64):(Azu a).toNat=(18446744073709551616-a.toNat) %18446744073709551616:=by
 have h:=a.toNat_lt
 have e:Azu a=UInt64.ofNat ((0-(a.toNat:Int)) %18446744073709551616).toNat:=Blq _
 rw[e,UInt64.toNat_ofNat']
 show((0-(a.toNat:Int)) %18446744073709551616).toNat %18446744073709551616=_
 omega
def Cfu:List UInt8:=[0,1,56,2,57,49,28,3,61,58,42,50,38,29,17,4,62,47,59,36,45,43,51,22,53,39,33,30,24,18,12,5,63,55,48,27,60,41,37,16,46,35,44,21,52,32,23,11,54,26,40,15,34,20,31,10,25,14,19,9,13,8,7,6]
theorem Bv2:∀t:Fin 64,Ak Cfu (GI.toZ (Bv (Bk (UInt64.ofNat (2^t.val)) (285870213051353865:UInt64)) (GI.toZ (58:UInt64)).toNat))=some (UInt8.ofNat t.val):=by decide +kernel
theorem Cgo(x:UInt64)(t s:Nat)(ht:t<64)(h:x.toNat+(2^(t+1)*s+2^t)=18446744073709551616):Ft x=some (t:Int):=by
 have hpos:0<2^t:=Nat.pow_pos (by omega)
 have hx:x.toNat=2^64-(2^(t+1)*s+2^t):=by show x.toNat=18446744073709551616-_;omega
 have hle:2^t≤2^63:=Nat.pow_le_pow_right (by omega) (by omega)
 have hne:x≠0:=by
  intro e
  rw[e]at h
  have h':2^t*(2*s+1)=2^64:=by
   rw[Nat.mul_add,Nat.mul_one,←Nat.mul_assoc,←Nat.pow_succ]
   show _=18446744073709551616
   simpa using h
  have h2:2^64=2^t*2^(64-t):=by rw[←Nat.pow_add];congr 1;omega
  rw[h2]at h'
  have h3:=Nat.eq_of_mul_eq_mul_left hpos h'
  rw[show 64-t=(63-t)+1 by omega,Nat.pow_succ]at h3
  omega
 have hx0:x.toNat≠0:=fun e=>hne (UInt64.toNat_inj.1 e)
 have hl:Dq x (Azu x)=UInt64.ofNat (2^t):=by
  apply UInt64.toNat_inj.1
  rw[Bfu,UInt64.toNat_and,Bwj,show(18446744073709551616-x.toNat) %18446744073709551616=2^(t+1)*s+2^t by omega,Cbb (n:=64) (by show _≤18446744073709551616;omega) ht _ hx,UInt64.toNat_ofNat',Nat.mod_eq_of_lt]
  exact Nat.lt_of_le_of_lt hle (by decide)
 have hb:=Bv2 ⟨t,ht⟩
 rw[Ft,if_neg (by rw[Bet];simpa using hne),hl]
 refine Eq.trans (congrArg (fun o=>Option.bind o fun c=>some (Ad c:Int)) hb) ?_
 rw[Aa,Ajf,UInt8.toNat_ofNat',Nat.mod_eq_of_lt (by show t<256;omega)]
theorem Ccx(p:List UInt8)(a m:Nat)(hm:m≤48):Ft (Be3 (Tx p a m))=some ((Gd p a m:Nat):Int):=by
 obtain⟨s,h1,h2⟩:=Bny p m a
 have hle:=Al8 p m a
 have hlt:=Qa p m a
 have h48:2^m≤2^48:=Nat.pow_le_pow_right (by omega) hm
 have hn:(Be3 (Tx p a m)).toNat=18446744073709551615-Cg p a m:=by rw[Bx1,Aa2 p a m (by omega)]
 have h3:(281474976710656:Nat)=2^48:=rfl
 refine Cgo _ (Gd p a m) s (by omega) ?_
 rw[hn];omega
def unS(p:List UInt8)(N a:Nat):Int×Int×Int:=
 if Gd p a (min 48 (N-a))<min 48 (N-a)then((Gd p a (min 48 (N-a)):Nat),((a+Gd p a (min 48 (N-a))+1:Nat):Int),0)else
 if Gd p a (min 48 (N-a))=48 then(48,((a+48:Nat):Int),0)else(0,0,24)
theorem Byl{p:List UInt8}{N:Nat}(h:okB p N)(a:Nat)(ha:a<N):Ad9 p (N:Int) (a:Int)=some (unS p N a):=by
 have hN:=h.1
 have e1:Ec (48:Int) (Ah (N:Int) (a:Int))=((min 48 (N-a):Nat):Int):=by rw[Anv,Bp (by omega) (by omega)];omega
 have hle:=Al8 p (min 48 (N-a)) a
 rw[Ad9,Xe,Ajk h,Aa,if_neg (by rw[Al];simp),if_neg (by rw[Af];simp),if_neg (by rw[Eb];simp;omega),e1,Bbn h a _ (by omega),if_neg (by omega),Aa]
 simp only
 rw[An0,An4,if_neg (by rw[Al];simp),Ccx p a _ (by omega),Aa,An7,Anm,e1,unS]
 by_cases h1:Gd p a (min 48 (N-a))<min 48 (N-a)
 ·rw[if_pos (by rw[Af];simp;omega),if_pos h1,Aj (a:=(a:Int)) (by omega) (by omega),show Ae (0:Int) 1=1 by decide,Aj (by omega) (by omega)]
  congr 3;omega
 ·rw[if_neg (by rw[Af];simp;omega),if_neg h1,Ann,Anf]
  by_cases h2:Gd p a (min 48 (N-a))=48
  ·rw[if_pos (by rw[As,h2];rfl),if_pos h2,h2,Aj (a:=(a:Int)) (by omega) (by omega),Aj (by omega) (by omega)]
   congr 3;omega
  ·rw[if_neg (by rw[As];simp;omega),if_neg h2];rfl
theorem Bkv(p:List UInt8):∀(m a:Nat),Gd p a m<m→Kc p (a+Gd p a m)≠1
 |0,_,h=>by simp[Gd]at h
 |m+1,a,h=>by
  by_cases hb:Kc p a=1
  ·rw[Gd,if_pos hb]at h⊢
   have:=Bkv p m (a+1) (by omega)
   rwa [show a+(1+Gd p (a+1) m)=a+1+Gd p (a+1) m by omega]
  ·rw[Gd,if_neg hb];exact hb
theorem Bj6(p:List UInt8):∀(m a k:Nat),k<Gd p a m→Kc p (a+k)=1
 |0,a,k,h=>by simp[Gd]at h
 |m+1,a,k,h=>by
  by_cases hb:Kc p a=1
  ·rw[Gd,if_pos hb]at h
   cases k with
   |zero=>exact hb
   |succ k=>
    have:=Bj6 p m (a+1) k (by omega)
    rwa [show a+(k+1)=a+1+k by omega]
  ·rw[Gd,if_neg hb]at h;omega
def unR(p:List UInt8)(N a:Nat):Int×Int:=if(unS p N a).2.2=0 then((unS p N a).1,(unS p N a).2.1)else(-1,0)
theorem Bhh{p:List UInt8}{N:Nat}(h:okB p N)(a:Nat)(ha:a<N):∀(j k q:Nat),k+j=Gd p a (min 48 (N-a))→j<q→Kt (a:Int) p (N:Int) q (k:Int)=some (unR p N a)
 |0,k,q+1,hk,_=>by
  obtain⟨hN,hl,hz⟩:=h
  have hle:=Al8 p (min 48 (N-a)) a
  have hk':k=Gd p a (min 48 (N-a)):=by omega
  have e1:Ae (a:Int) (k:Int)=((a+k:Nat):Int):=by rw[Aj (by omega) (by omega)];omega
  have hend:Wv (a:Int) (k:Int) p (N:Int)=some (unR p N a):=by
   rw[Wv,Ah6,e1]
   by_cases h48:k=48
   ·have hu:unS p N a=(48,((a+48:Nat):Int),0):=by rw[unS,←hk',if_neg (by omega),if_pos h48]
    rw[if_pos (by rw[As,h48];rfl),unR,hu,h48];rfl
   ·rw[if_neg (by rw[As];simp;omega)]
    by_cases hN2:N≤a+k
    ·have hu:unS p N a=(0,0,24):=by rw[unS,←hk',if_neg (by omega),if_neg h48]
     rw[if_pos (by rw[Eb];simp;omega),unR,hu];rfl
    ·have hu:unS p N a=(((k:Nat):Int),((a+k+1:Nat):Int),0):=by rw[unS,←hk',if_pos (by omega)]
     rw[if_neg (by rw[Eb];simp;omega),unR,hu,Aj (by omega) (by omega)];rfl
  rw[Kt,Wr,e1]
  by_cases hc:a+k<N∧k<48
  ·have hb:=Xp p (a+k)
   have hs:=Bkv p (min 48 (N-a)) a (by omega)
   rw[←hk']at hs
   rw[if_pos (by simp[Af];omega),Bcc p _ (a+k) (by omega) (by omega),Aa,if_neg (by rw[As];simp;omega),hend]
  ·rw[if_neg (by simp[Af];omega),hend]
 |j+1,k,q+1,hk,hq=>by
  obtain⟨hN,hl,hz⟩:=h
  have hle:=Al8 p (min 48 (N-a)) a
  have hb:=Bj6 p (min 48 (N-a)) a k (by omega)
  have e1:Ae (a:Int) (k:Int)=((a+k:Nat):Int):=by rw[Aj (by omega) (by omega)];omega
  rw[Kt,Wr,e1,if_pos (by simp[Af];omega),Bcc p _ (a+k) (by omega) (by omega),Aa,hb,if_pos (by decide),Aj (by omega) (by omega)]
  exact Bhh ⟨hN,hl,hz⟩ a ha j (k+1) q (by omega) (by omega)
theorem Bxn{p:List UInt8}{N:Nat}(h:okB p N)(a:Nat)(ha:a<N):Apx p (N:Int) (a:Int)=some (unR p N a):=by
 have hle:=Al8 p (min 48 (N-a)) a
 have:=Bhh h a ha (Gd p a (min 48 (N-a))) 0 FUEL (by omega) (by have:=Am;omega)
 exact this
end Go.Pl
set_option linter.unusedVariables false
set_option linter.unusedSimpArgs false
namespace Go.Pl
open Go Go.Lv
theorem Byr{p:List UInt8}{N a:Nat}(h:Gd p a (min 48 (N-a))<min 48 (N-a)):unS p N a=(((Gd p a (min 48 (N-a)):Nat):Int),((a+Gd p a (min 48 (N-a))+1:Nat):Int),0):=by rw[unS,if_pos h]
theorem Bzh{p:List UInt8}{N a:Nat}(h:¬Gd p a (min 48 (N-a))<min 48 (N-a))(h2:Gd p a (min 48 (N-a))=48):unS p N a=(48,((a+48:Nat):Int),0):=by rw[unS,if_neg h,if_pos h2]
theorem Bwl{p:List UInt8}{N a:Nat}(h:¬Gd p a (min 48 (N-a))<min 48 (N-a))(h2:¬Gd p a (min 48 (N-a))=48):unS p N a=(0,0,24):=by rw[unS,if_neg h,if_neg h2]
theorem Bv6{p:List UInt8}{N:Nat}(h:okB p N)(a:Nat)(ha:N≤a):Ad9 p (N:Int) (a:Int)=some (0,0,24):=by
 rw[Ad9,Xe,Ajk h,Aa,if_neg (by rw[Al];simp),if_neg (by rw[Af];simp),if_pos (by rw[Eb];simp;omega)]
def rcS(p:List UInt8)(N a k:Nat):UInt32×Int×Int:=
 if N≤a then(0,0,24)else
 if Gd p a (min 48 (N-a))<min 48 (N-a)then
  (if N<a+Gd p a (min 48 (N-a))+1+k then(0,0,24)else(UInt32.ofNat (Gd p a (min 48 (N-a))*2^k+Cg p (a+Gd p a (min 48 (N-a))+1) k),((a+Gd p a (min 48 (N-a))+1+k:Nat):Int),0))
 else if Gd p a (min 48 (N-a))=48 then
  (if N<a+48+32 then(0,0,24)else if Cg p (a+48) 32/2^k<48 then(0,0,12)else(UInt32.ofNat (Cg p (a+48) 32),((a+48+32:Nat):Int),0))
 else(0,0,24)
theorem Baf{p:List UInt8}{a n:Nat}(h:n≤32):(Ad (Tx p a n):UInt32)=UInt32.ofNat (Cg p a n):=by
 have e:(Ad (Tx p a n):UInt32)=UInt32.ofNat (Tx p a n).toNat:=by simp only[Ad,Ij,Ei]
 rw[e,Aa2 p a n (by omega)]
theorem Aqt{n:Nat}(h:n<4294967296):(UInt32.ofNat n).toNat=n:=by rw[UInt32.toNat_ofNat'];exact Nat.mod_eq_of_lt h
theorem Bnl(p:List UInt8)(a:Nat){n:Nat}(h:n≤32):Cg p a n<4294967296:=by
 have h1:=Qa p n a
 have h2:2^n≤2^32:=Nat.pow_le_pow_right (by omega) h
 omega
theorem Cep{q v k:Nat}(hq:q<48)(hv:v<2^k)(hk:k≤24):gor (Df (Ad (q:Int):UInt32) k) (UInt32.ofNat v)=UInt32.ofNat (q*2^k+v):=by
 have hp:2^k≤2^24:=Nat.pow_le_pow_right (by omega) hk
 have h1:q*2^k≤47*2^24:=Nat.mul_le_mul (by omega) hp
 rw[Ccg];apply UInt32.toNat_inj.1
 rw[UInt32.toNat_or,Bgv,Biz,Aqt (by omega),Aqt (n:=v) (by omega),Nat.mod_eq_of_lt (by omega),Nat.mul_comm q,←Nat.two_pow_add_eq_or_of_lt hv,Aqt (by rw[Nat.mul_comm];omega)]
theorem Caw{p:List UInt8}{N:Nat}(h:okB p N)(a k:Nat)(hk:k≤24):Awq p (N:Int) (a:Int) (k:Int)=some (rcS p N a k):=by
 have hN:=h.1
 rw[Awq,Aq8,Ajk h,Aa,if_neg (by rw[Al];simp),if_neg (by simp[Af,Ap];omega)]
 by_cases ha:N≤a
 ·rw[Bv6 h a ha,Aa,rcS,if_pos ha];rfl
 have hle:=Al8 p (min 48 (N-a)) a
 rw[Byl h a (by omega),Aa]
 by_cases h1:Gd p a (min 48 (N-a))<min 48 (N-a)
 ·have hS:rcS p N a k=if N<a+Gd p a (min 48 (N-a))+1+k then(0,0,24)else(UInt32.ofNat (Gd p a (min 48 (N-a))*2^k+Cg p (a+Gd p a (min 48 (N-a))+1) k),((a+Gd p a (min 48 (N-a))+1+k:Nat):Int),0):=by rw[rcS,if_neg ha,if_pos h1]
  rw[Byr h1,hS]
  generalize Gd p a (min 48 (N-a))=q at*
  simp only
  rw[if_neg (by rw[Al];simp),if_neg (by rw[As];simp;omega),Ai4,Aqe,Bbn h _ k (by omega),Aa]
  by_cases h2:N<a+q+1+k
  ·rw[if_pos h2,if_pos h2];rfl
  ·rw[if_neg h2,if_neg h2]
   simp only
   have z:(GI.toZ (k:Int)).toNat=k:=rfl
   rw[if_neg (by rw[Al];simp),if_pos (by rw[Af];simp;omega),Db (by rw[Eb];simp),Aa,z,Baf (by omega),Cep (by omega) (Qa _ _ _) hk,Aj (by omega) (by omega)];rfl
 ·by_cases h2:Gd p a (min 48 (N-a))=48
  ·have hS:rcS p N a k=if N<a+48+32 then(0,0,24)else if Cg p (a+48) 32/2^k<48 then(0,0,12)else(UInt32.ofNat (Cg p (a+48) 32),((a+48+32:Nat):Int),0):=by rw[rcS,if_neg ha,if_neg h1,if_pos h2]
   have hg:=Bbn h (a+48) 32 (by omega)
   rw[Bzh h1 h2,hS]
   simp only
   rw[if_neg (by rw[Al];simp),if_pos (by rw[As];rfl),Ai4,Aqe]
   refine Eq.trans (congrArg (fun o=>Option.bind o _) hg) ?_
   rw[Aa]
   by_cases h3:N<a+48+32
   ·rw[if_pos h3,if_pos h3];rfl
   ·rw[if_neg h3,if_neg h3]
    simp only
    have z:(GI.toZ (k:Int)).toNat=k:=rfl
    have hv:=Bnl p (a+48) (n:=32) (by omega)
    rw[if_neg (by rw[Al];simp),if_neg (by rw[Af];simp),Ajb,Db (by rw[Eb];simp),Aa,Aa,z,Baf (by omega),Caf]
    have e:(decide ((48:UInt32).toNat≤(Bv (UInt32.ofNat (Cg p (a+48) 32)) k).toNat))=decide (¬Cg p (a+48) 32/2^k<48):=by
     rw[Aqa,Aqt hv];simp
    rw[e]
    by_cases h4:Cg p (a+48) 32/2^k<48
    ·rw[if_pos (by simp[h4]),if_pos h4]
    ·rw[if_neg (by simp;omega),if_neg h4,Aj (by omega) (by omega)];rfl
  ·rw[Bwl h1 h2,rcS,if_neg ha,if_neg h1,if_neg h2];rfl
theorem Bho(k:Nat)(hk:k≤63):∀(j i q:Nat),i+j=k→j<q→Iu (k:Int) q (UInt64.ofNat (2^i)) (i:Int)=some (UInt64.ofNat (2^k))
 |0,i,q+1,hi,_=>by
  rw[Iu,Rk,if_neg (by rw[Af];simp;omega),show i=k by omega];rfl
 |j+1,i,q+1,hi,hq=>by
  have e:Bk (UInt64.ofNat (2^i)) (2:UInt64)=UInt64.ofNat (2^(i+1)):=by
   rw[Agf,Nat.pow_succ,UInt64.ofNat_mul];rfl
  rw[Iu,Rk,if_pos (by rw[Af];simp;omega),Aj (by omega) (by omega),e]
  exact Bho k hk j (i+1) q (by omega) (by omega)
theorem Af3(k:Nat)(hk:k≤63):Fg (k:Int)=some (UInt64.ofNat (2^k)):=
 Bho k hk k 0 FUEL (by omega) (by have:=Am;omega)
theorem Alz{k:Nat}(hk:k≤63):(UInt64.ofNat (2^k)).toNat=2^k:=by
 have hp:2^k≤2^63:=Nat.pow_le_pow_right (by omega) hk
 rw[UInt64.toNat_ofNat',Nat.mod_eq_of_lt (by omega)]
theorem Ca1(v:UInt32)(k:Nat)(hk:k≤24):Ac8 v (k:Int)=some ((min 48 (v.toNat/2^k):Nat):Int):=by
 have hpos:0<2^k:=Nat.pow_pos (by omega)
 have hv:=v.toNat_lt
 rw[Ac8,Af3 k (by omega),Aa,Db (by rw[Ai3];simp only[bne_iff_ne,ne_eq,←UInt64.toNat_inj,Alz (show k≤63 by omega)];simp),Aa]
 have e:(Bw (Ad v:UInt64) (UInt64.ofNat (2^k))).toNat=v.toNat/2^k:=by
  rw[Bah,UInt64.toNat_div,Ib,Alz (by omega),UInt64.toNat_ofNat',Nat.mod_eq_of_lt (by omega)]
 have hle:v.toNat/2^k≤v.toNat:=Nat.div_le_self _ _
 have e2:Ec (48:UInt64) (Bw (Ad v:UInt64) (UInt64.ofNat (2^k)))=UInt64.ofNat (min 48 (v.toNat/2^k)):=by
  apply UInt64.toNat_inj.1
  rw[UInt64.toNat_ofNat',Nat.mod_eq_of_lt (by omega)]
  show(if _ then _ else _:UInt64).toNat=_
  rw[show(GI.toZ (Bw (Ad v:UInt64) (UInt64.ofNat (2^k))))=((v.toNat/2^k:Nat):Int) by rw[Ij,e],show GI.toZ (48:UInt64)=48 from rfl]
  split
  ·rw[e];omega
  ·show 48=_;omega
 rw[e2,Bbi (by rw[UInt64.toNat_ofNat',Nat.mod_eq_of_lt]<;>omega),UInt64.toNat_ofNat',Nat.mod_eq_of_lt (by omega)]
theorem Bya{p:List UInt8}{N:Nat}(h:okB p N)(a k:Nat)(hk:k≤24):Aey p (N:Int) (a:Int) (k:Int)=some (rcS p N a k):=by
 obtain⟨hN,hl,hz⟩:=h
 have h:okB p N:=⟨hN,hl,hz⟩
 rw[Aey,Aid]
 by_cases ha:N≤a
 ·rw[if_pos (by rw[Eb];simp;omega),rcS,if_pos ha]
 have hle:=Al8 p (min 48 (N-a)) a
 rw[if_neg (by rw[Eb];simp;omega),Bxn h a (by omega),Aa,unR]
 by_cases h1:Gd p a (min 48 (N-a))<min 48 (N-a)
 ·have hS:rcS p N a k=if N<a+Gd p a (min 48 (N-a))+1+k then(0,0,24)else(UInt32.ofNat (Gd p a (min 48 (N-a))*2^k+Cg p (a+Gd p a (min 48 (N-a))+1) k),((a+Gd p a (min 48 (N-a))+1+k:Nat):Int),0):=by rw[rcS,if_neg ha,if_pos h1]
  rw[Byr h1,hS]
  generalize Gd p a (min 48 (N-a))=q at*
  rw[if_pos rfl]
  simp only
  rw[if_neg (by rw[As];simp;omega),Wl,Wb,Bp (by omega) (by omega)]
  by_cases h2:N<a+q+1+k
  ·rw[if_pos (by simp[Af];omega),if_pos h2]
  ·have hp:2^k≤2^24:=Nat.pow_le_pow_right (by omega) hk
   have hm:q*2^k≤47*2^24:=Nat.mul_le_mul (by omega) hp
   have hv:=Qa p k (a+q+1)
   have e:(Ad (Ae (Bk (Ad (q:Int):UInt64) (UInt64.ofNat (2^k))) (Tx p (a+q+1) k)):UInt32)=UInt32.ofNat (q*2^k+Cg p (a+q+1) k):=by
    have e1:Ae (Bk (Ad (q:Int):UInt64) (UInt64.ofNat (2^k))) (Tx p (a+q+1) k)=UInt64.ofNat (q*2^k+Cg p (a+q+1) k):=by
     rw[Agw,Agf,Aaf,Tx,UInt64.ofNat_add,UInt64.ofNat_mul]
    rw[e1]
    have e2:∀x:UInt64,(Ad x:UInt32)=UInt32.ofNat x.toNat:=fun x=>by simp only[Ad,Ij,Ei]
    rw[e2,UInt64.toNat_ofNat',Nat.mod_eq_of_lt (by omega)]
   rw[if_neg (by simp[Af];omega),if_neg h2,Ay9 p _ _ k (by omega) (by omega),Aa,if_pos (by rw[Af];simp;omega),Af3 k (by omega),Aa,e,Aj (by omega) (by omega)];rfl
 ·by_cases h2:Gd p a (min 48 (N-a))=48
  ·have hS:rcS p N a k=if N<a+48+32 then(0,0,24)else if Cg p (a+48) 32/2^k<48 then(0,0,12)else(UInt32.ofNat (Cg p (a+48) 32),((a+48+32:Nat):Int),0):=by rw[rcS,if_neg ha,if_neg h1,if_pos h2]
   rw[Bzh h1 h2,hS,if_pos rfl]
   simp only
   rw[if_pos (by rw[As];rfl),Wl,Wb,Bp (by omega) (by omega)]
   by_cases h3:N<a+48+32
   ·rw[if_pos (by simp[Af];omega),if_pos h3]
   ·have hg:=Ay9 p (N:Int) (a+48) 32 (by omega) (by omega)
    have hv:=Bnl p (a+48) (n:=32) (by omega)
    rw[if_neg (by simp[Af];omega),if_neg h3]
    refine Eq.trans (congrArg (fun o=>Option.bind o _) hg) ?_
    rw[Aa,if_neg (by rw[Af];simp),Baf (by omega),Ca1 _ k hk,Aa,Aqt hv]
    by_cases h4:Cg p (a+48) 32/2^k<48
    ·rw[if_pos (by rw[Af];simp;omega),if_pos h4]
    ·rw[if_neg (by rw[Af];simp;omega),if_neg h4,Aj (by omega) (by omega)];rfl
  ·rw[Bwl h1 h2,rcS,if_neg ha,if_neg h1,if_neg h2]
   have e:(if((0:Int),(0:Int),(24:Int)).2.2=0 then(((0:Int),(0:Int),(24:Int)).1,((0:Int),(0:Int),(24:Int)).2.1)else((-1:Int),(0:Int)))=(-1,0):=by decide
   rw[e];rfl
theorem Cd9{p:List UInt8}{N a k:Nat}{v:UInt32}{n:Int}(h:rcS p N a k=(v,n,0)):(a:Int)<n∧n≤N:=by
 unfold rcS at h
 split at h
 ·simp at h
 split at h
 ·split at h
  ·simp at h
  ·simp only[Prod.mk.injEq]at h;omega
 ·split at h
  ·split at h
   ·simp at h
   ·split at h
    ·simp at h
    ·simp only[Prod.mk.injEq]at h;omega
  ·simp at h
end Go.Pl
set_option linter.unusedVariables false
set_option linter.unusedSimpArgs false
namespace Go.Pl
open Go Go.Lv
def okD(k l:Nat)(s t:UInt64):Prop:=k≤24∧l≤24∧s.toNat≤68719476735∧t.toNat≤68719476735
theorem Bnr(a b:UInt64)(h:a.toNat≤b.toNat):Ec a b=a:=by
 show(if _ then _ else _)=_
 rw[Ij,Ij,if_neg (by omega)]
theorem Azm(a:UInt64):geq a a=true:=by rw[Bet];simp
theorem Cev{k l:Nat}{s t:UInt64}(h:okD k l s t):Aj7 (k:Int) (l:Int) s t=some 0:=by
 obtain⟨h1,h2,h3,h4⟩:=h
 have e1:Ec (Aw5 (k:Int) 0) 24=(k:Int):=by rw[Anv,Bqu];omega
 have e2:Ec (Aw5 (l:Int) 0) 24=(l:Int):=by rw[Anv,Bqu];omega
 have e3:Ec s (68719476735:UInt64)=s:=Bnr _ _ (by simpa using h3)
 have e4:Ec t (68719476735:UInt64)=t:=Bnr _ _ (by simpa using h4)
 have e5:∀a:Int,geq a a=true:=fun a=>by rw[As];simp
 rw[Aj7,Ae8,Anx,Afd,An6,Axn,e1,e2,e3,e4,e5,e5,Azm,Azm];rfl
def Aa5(s n:UInt64):UInt64:=s+n-s/16
def kS(k:Nat)(s:UInt64):Nat:=if 0<k∧s.toNat<2^(k+4)then k-1 else if k<24∧2^(k+5)<s.toNat then k+1 else k
theorem Cc6{k:Nat}(h:k≤24)(s:UInt64):kS k s≤24:=by
 unfold kS
 by_cases h1:0<k∧s.toNat<2^(k+4)
 ·rw[if_pos h1];omega
 ·rw[if_neg h1];split<;>omega
theorem Btn{k:Nat}{s:UInt64}(h:¬(0<k∧s.toNat<2^(k+4))):(if k<24∧2^(k+5)<s.toNat then((k+1:Nat):Int)else(k:Int))=((kS k s:Nat):Int):=by
 rw[kS,if_neg h];split<;>rfl
theorem Bsn{s n:UInt64}(h:s.toNat≤68719476735)(hn:n.toNat≤4294967295):(Aa5 s n).toNat≤68719476735:=by
 have h1:=s.toNat_lt
 have e:(s+n).toNat=s.toNat+n.toNat:=by rw[UInt64.toNat_add];omega
 have e2:(s/16).toNat=s.toNat/16:=by rw[UInt64.toNat_div];rfl
 rw[Aa5,UInt64.toNat_sub_of_le _ _ (by rw[UInt64.le_iff_toNat_le,e,e2];omega),e,e2];omega
theorem Bia(s n:UInt64):Ae s (Ah n (Bv s (GI.toZ (4:UInt64)).toNat))=Aa5 s n:=by
 have e:Bv s (GI.toZ (4:UInt64)).toNat=s/16:=by
  apply UInt64.toNat_inj.1
  rw[Agm,UInt64.toNat_div];rfl
 rw[e,Agw,Bf6,Aa5,UInt64.sub_eq_add_neg,UInt64.sub_eq_add_neg,UInt64.add_assoc]
theorem Btz(s n:UInt64):Ah (Ae s n) (Bw s (16:UInt64))=Aa5 s n:=by rw[Agw,Bf6,Bah,Aa5]
theorem Cfj{k:Nat}(h:k≤24):(Df (16:UInt64) k).toNat=2^(k+4):=by
 have hp:2^k≤2^24:=Nat.pow_le_pow_right (by omega) h
 rw[Apm,Nat.pow_add]
 show 16*2^k %_=2^k*16
 rw[Nat.mod_eq_of_lt (by omega),Nat.mul_comm]
theorem Cem{k:Nat}(h:k≤24):(Df (32:UInt64) k).toNat=2^(k+5):=by
 have hp:2^k≤2^24:=Nat.pow_le_pow_right (by omega) h
 rw[Apm,Nat.pow_add]
 show 32*2^k %_=2^k*32
 rw[Nat.mod_eq_of_lt (by omega),Nat.mul_comm]
theorem Cdd{k:Nat}{s:UInt64}(h:0<k)(h2:s.toNat<2^(k+4)):kS k s=k-1:=by rw[kS,if_pos ⟨h,h2⟩]
theorem Cc1{k:Nat}{s:UInt64}(h:¬(0<k∧s.toNat<2^(k+4)))(h2:k<24)(h3:2^(k+5)<s.toNat):kS k s=k+1:=by rw[kS,if_neg h,if_pos ⟨h2,h3⟩]
theorem Bsz{k:Nat}{s:UInt64}(h:¬(0<k∧s.toNat<2^(k+4)))(h2:¬(k<24∧2^(k+5)<s.toNat)):kS k s=k:=by rw[kS,if_neg h,if_neg h2]
theorem Cdj{α:Type}(k:Nat)(hk:k≤24)(s:UInt64)(f:Int→Option α):
  (if(Di (k:Int) (0:Int))=true then(
   Option.bind (Hx (Il (k:Int) (0:Int))) fun _=>
   if(Bs s (Df (16:UInt64) (GI.toZ (k:Int)).toNat))=true then f (Ah (k:Int) (1:Int))
   else(if(Bs (k:Int) (24:Int))=true then(
    Option.bind (Hx (Il (k:Int) (0:Int))) fun _=>
    if(Di s (Df (32:UInt64) (GI.toZ (k:Int)).toNat))=true then f (Ae (k:Int) (1:Int))else f (k:Int))
    else f (k:Int)))
  else(if(Bs (k:Int) (24:Int))=true then(
    Option.bind (Hx (Il (k:Int) (0:Int))) fun _=>
    if(Di s (Df (32:UInt64) (GI.toZ (k:Int)).toNat))=true then f (Ae (k:Int) (1:Int))else f (k:Int))
    else f (k:Int)))=f ((kS k s:Nat):Int):=by
 have z:(GI.toZ (k:Int)).toNat=k:=rfl
 rw[z,Db (by rw[Eb];simp)]
 simp only[Aa]
 rw[Bem,Al0,Cfj hk,Cem hk]
 by_cases h0:0<k
 ·rw[if_pos (by rw[Ap];simp;omega)]
  by_cases h1:s.toNat<2^(k+4)
  ·rw[if_pos (by simp[h1]),Cdd h0 h1,Bp (by omega) (by omega)];congr 1;omega
  ·rw[if_neg (by simp;omega)]
   by_cases h2:k<24
   ·rw[if_pos (by rw[Af];simp;omega)]
    by_cases h3:2^(k+5)<s.toNat
    ·rw[if_pos (by simp[h3]),Cc1 (fun h=>h1 h.2) h2 h3,Aj (by omega) (by omega)];rfl
    ·rw[if_neg (by simp;omega),Bsz (fun h=>h1 h.2) (fun h=>h3 h.2)]
   ·rw[if_neg (by rw[Af];simp;omega),Bsz (fun h=>h1 h.2) (fun h=>h2 h.1)]
 ·rw[if_neg (by rw[Ap];simp;omega)]
  by_cases h2:k<24
  ·rw[if_pos (by rw[Af];simp;omega)]
   by_cases h3:2^(k+5)<s.toNat
   ·rw[if_pos (by simp[h3]),Cc1 (fun h=>h0 h.1) h2 h3,Aj (by omega) (by omega)];rfl
   ·rw[if_neg (by simp;omega),Bsz (fun h=>h0 h.1) (fun h=>h3 h.2)]
  ·rw[if_neg (by rw[Af];simp;omega),Bsz (fun h=>h0 h.1) (fun h=>h2 h.1)]
theorem Btb(k:Nat)(hk:k≤24)(s n:UInt64):Tq (k:Int) s n=some (((kS k (Aa5 s n):Nat):Int),Aa5 s n):=by
 have g1:Ae (k:Int) 4=((k+4:Nat):Int):=by rw[Aj (by omega) (by omega)];omega
 have g2:Ae (k:Int) 5=((k+5:Nat):Int):=by rw[Aj (by omega) (by omega)];omega
 have hp:Ue (k:Int) s n=some (if k<24∧2^(k+5)<(Aa5 s n).toNat then((k+1:Nat):Int)else(k:Int),Aa5 s n):=by
  rw[Ue,Afh,g2,Af3 _ (by omega),Aa,Btz,Al0,Alz (by omega)]
  by_cases h2:k<24
  ·rw[if_pos (by rw[Af];simp;omega)]
   by_cases h3:2^(k+5)<(Aa5 s n).toNat
   ·rw[if_pos (by simp[h3]),if_pos ⟨h2,h3⟩,Aj (by omega) (by omega)];rfl
   ·rw[if_neg (by simp;omega),if_neg (fun h=>h3 h.2)]
  ·rw[if_neg (by rw[Af];simp;omega),if_neg (fun h=>h2 h.1)]
 rw[Tq,Afp,g1,Af3 _ (by omega),Aa,Btz,Bem,Alz (by omega),hp]
 by_cases h0:0<k
 ·rw[if_pos (by rw[Ap];simp;omega)]
  by_cases h1:(Aa5 s n).toNat<2^(k+4)
  ·rw[if_pos (by simp[h1]),Cdd h0 h1,Bp (by omega) (by omega)];congr 2;omega
  ·rw[if_neg (by simp;omega),Btn (fun h=>h1 h.2)]
 ·rw[if_neg (by rw[Ap];simp;omega),Btn (fun h=>h0 h.1)]
def n64(v:UInt32):UInt64:=UInt64.ofNat v.toNat
theorem Bzd(v:UInt32):(n64 v).toNat≤4294967295:=by have:=v.toNat_lt;rw[n64,UInt64.toNat_ofNat',Nat.mod_eq_of_lt (by omega)];omega
def Bdb(k:Nat)(v:UInt32):UInt32:=UInt32.ofNat (v.toNat-2^k)
def lK(l:Nat)(t:UInt64)(k:Nat)(v:UInt32):Nat:=if v.toNat<2^k then l else kS l (Aa5 t (n64 (Bdb k v)))
def lT(t:UInt64)(k:Nat)(v:UInt32):UInt64:=if v.toNat<2^k then t else Aa5 t (n64 (Bdb k v))
theorem Bxy{k l:Nat}{s t:UInt64}(h:okD k l s t)(v:UInt32):okD (kS k (Aa5 s (n64 v))) (lK l t k v) (Aa5 s (n64 v)) (lT t k v):=by
 obtain⟨h1,h2,h3,h4⟩:=h
 refine⟨Cc6 h1 _,?_,Bsn h3 (Bzd v),?_⟩
 ·unfold lK;split; · exact h2
  exact Cc6 h2 _
 ·unfold lT;split; · exact h4
  exact Bsn h4 (Bzd _)
theorem Ce8(k l:Nat)(s t:UInt64)(hk:k≤24)(v:UInt32):Aew (k:Int) (l:Int) s t v=some (decide (v.toNat<2^k)):=by
 have:=v.toNat_lt
 rw[Aew,Af3 k (by omega),Aa,Bem,Alz (by omega),Ib,UInt64.toNat_ofNat',Nat.mod_eq_of_lt (by omega)]
theorem left_eq(k l:Nat)(s t:UInt64)(hk:k≤24)(v:UInt32)(h:¬v.toNat<2^k):Ac4 (k:Int) (l:Int) s t v=some (Bdb k v):=by
 have:=v.toNat_lt
 have e2:∀x:UInt64,(Ad x:UInt32)=UInt32.ofNat x.toNat:=fun x=>by simp only[Ad,Ij,Ei]
 have e3:(UInt64.ofNat v.toNat).toNat=v.toNat:=by rw[UInt64.toNat_ofNat',Nat.mod_eq_of_lt (by omega)]
 rw[Ac4,Af3 k (by omega),Aa,e2,Bf6,Ib,UInt64.toNat_sub_of_le _ _ (by rw[UInt64.le_iff_toNat_le,Alz (by omega),e3];omega),Alz (by omega),e3,Bdb]
theorem Bv7{k l:Nat}{s t:UInt64}(h:okD k l s t)(v:UInt32):Xa (k:Int) (l:Int) s t v=some (((kS k (Aa5 s (n64 v)):Nat):Int),((lK l t k v:Nat):Int),Aa5 s (n64 v),lT t k v):=by
 obtain⟨h1,h2,h3,h4⟩:=h
 have hp:∀(r1:Int) (r2:UInt64),Qh v (k:Int) (l:Int) s t r1 r2=some (((kS k (Aa5 s (n64 v)):Nat):Int),r1,Aa5 s (n64 v),r2):=by
  intro r1 r2
  rw[Qh,Abi,Ib,Btb k h1,Aa];rfl
 rw[Xa,Aa3,Ce8 k l s t h1,Aa]
 by_cases hv:v.toNat<2^k
 ·rw[if_neg (by simp[hv]),hp,lK,if_pos hv,lT,if_pos hv]
 ·rw[if_pos (by simp;omega),left_eq k l s t h1 v hv,Aa,Ib,Btb l h2,Aa]
  simp only
  rw[hp,lK,if_neg hv,lT,if_neg hv];rfl
theorem Bzz(k l:Nat)(s t:UInt64)(hk:k≤24)(v:UInt32):Aeu (k:Int) (l:Int) s t v=some (if v.toNat<2^k then(0,v)else(1,Bdb k v)):=by
 have hp:2^k≤2^24:=Nat.pow_le_pow_right (by omega) hk
 have hpos:0<2^k:=Nat.pow_pos (by omega)
 have hl:=v.toNat_lt
 have z:(GI.toZ (k:Int)).toNat=k:=rfl
 have e1:geq (Bv v k) (0:UInt32)=decide (v.toNat<2^k):=by
  rw[Bly,Bool.eq_iff_iff]
  simp only[beq_iff_eq,←UInt32.toNat_inj,Aqa,decide_eq_true_eq]
  show _/_=0↔_
  rw[Nat.div_eq_zero_iff];omega
 have e2:¬v.toNat<2^k→Ah v (Df (1:UInt32) k)=Bdb k v:=by
  intro h
  have e3:(Df (1:UInt32) k).toNat=2^k:=by rw[Bgv];show 1*2^k %_=_;rw[Nat.mod_eq_of_lt (by omega),Nat.one_mul]
  apply UInt32.toNat_inj.1
  rw[Bo2,UInt32.toNat_sub_of_le _ _ (by rw[UInt32.le_iff_toNat_le,e3];omega),e3,Bdb,Aqt (by omega)]
 rw[Aeu,Db (by rw[Eb];simp),Aa,Aa,z,e1]
 by_cases h:v.toNat<2^k
 ·rw[if_pos (by simp[h]),if_pos h]
 ·rw[if_neg (by simp;omega),if_neg h,e2 h]
abbrev Rd:=UInt32×Int×Int×Int×UInt64×UInt64×Int
theorem Be6{k l:Nat}{s t:UInt64}(h:okD k l s t)(v:UInt32)(r:Int):Ajc (k:Int) (l:Int) s t v r=some (v,r,((kS k (Aa5 s (n64 v)):Nat):Int),((lK l t k v:Nat):Int),Aa5 s (n64 v),lT t k v,0):=by
 obtain⟨h1,h2,h3,h4⟩:=h
 have hp:∀(x:Int) (y:UInt64),Acp v r (k:Int) s x y=some (v,r,((kS k (Aa5 s (n64 v)):Nat):Int),x,Aa5 s (n64 v),y,0):=by
  intro x y
  rw[Acp,Aqs,Ib,Bia,Cdj k h1]
  rw[Ar3,Aqw,Ano,Axs,Ib,Bia];rfl
 rw[Ajc,Ara,Bzz k l s t h1,Aa]
 by_cases hv:v.toNat<2^k
 ·rw[if_pos hv]
  simp only
  rw[if_neg (by rw[As];simp),hp,lK,if_pos hv,lT,if_pos hv]
 ·rw[if_neg hv]
  simp only
  rw[if_pos (by rw[As];rfl),Ib,Bia,Cdj l h2 _ (fun x=>Acp v r (k:Int) s x (Aa5 t (UInt64.ofNat (Bdb k v).toNat))),hp,lK,if_neg hv,lT,if_neg hv];rfl
def dgS(p:List UInt8)(N a k l:Nat):UInt32×Int×Int:=
 if N≤a then(0,0,24)else
 if Kc p a=0 then(if N<a+1+k then(0,0,24)else(UInt32.ofNat (Cg p (a+1) k),((a+1+k:Nat):Int),0))else
 if(rcS p N (a+1) l).2.2≠0 then(0,0,(rcS p N (a+1) l).2.2)else
 if 4294967295<(rcS p N (a+1) l).1.toNat+2^k then(0,0,12)else(UInt32.ofNat ((rcS p N (a+1) l).1.toNat+2^k),(rcS p N (a+1) l).2.1,0)
theorem Cex{p:List UInt8}{N a k l:Nat}(h:(dgS p N a k l).2.2=0):(a:Int)<(dgS p N a k l).2.1∧(dgS p N a k l).2.1≤N:=by
 revert h
 unfold dgS
 split
 ·simp
 split
 ·split
  ·simp
  ·simp only;omega
 ·split
  ·intro h;contradiction
  ·rename_i h1
   split
   ·simp
   ·intro _
    have:=Cd9 (p:=p) (N:=N) (a:=a+1) (k:=l) (v:=(rcS p N (a+1) l).1) (n:=(rcS p N (a+1) l).2.1) (by
     have e:(rcS p N (a+1) l).2.2=0:=by simpa using h1
     rw[←e])
    simp only;omega
theorem Cbn{p:List UInt8}{N:Nat}(h:okB p N)(a:Nat){k l:Nat}{s t:UInt64}(hd:okD k l s t):Ae2 p (N:Int) (a:Int) (k:Int) (l:Int) s t=
  some (if(dgS p N a k l).2.2≠0 then(0,0,0,0,0,0,(dgS p N a k l).2.2)else((dgS p N a k l).1,(dgS p N a k l).2.1,((kS k (Aa5 s (n64 (dgS p N a k l).1)):Nat):Int),((lK l t k (dgS p N a k l).1:Nat):Int),Aa5 s (n64 (dgS p N a k l).1),lT t k (dgS p N a k l).1,0)):=by
 obtain⟨h1,h2,h3,h4⟩:=hd
 have hd:okD k l s t:=⟨h1,h2,h3,h4⟩
 have hN:=h.1
 have hg:=Bbn h a 1 (by omega)
 have hb:=Xp p a
 rw[Ae2,Arp,Ajk h,Aa,if_neg (by rw[Al];simp),Cev hd,Aa,if_neg (by rw[Al];simp),Ard,Arm]
 refine Eq.trans (congrArg (fun o=>Option.bind o _) hg) ?_
 rw[Aa]
 by_cases ha:N≤a
 ·have hS:dgS p N a k l=(0,0,24):=by rw[dgS,if_pos ha]
  rw[if_pos (by omega),hS];rfl
 rw[if_neg (by omega)]
 simp only
 have e0:geq (Tx p a 1) (0:UInt64)=decide (Kc p a=0):=by
  rw[Bet,Bool.eq_iff_iff]
  simp only[beq_iff_eq,←UInt64.toNat_inj,decide_eq_true_eq,Aa2 p a 1 (by omega),Bm1];rfl
 have e1:Ae (a:Int) 1=((a+1:Nat):Int):=by rw[Aj (by omega) (by omega)];omega
 rw[if_neg (by rw[Al];simp),e0,e1]
 by_cases hz:Kc p a=0
 ·rw[if_pos (by simp[hz]),Bbn h (a+1) k (by omega),Aa]
  by_cases h5:N<a+1+k
  ·have hS:dgS p N a k l=(0,0,24):=by rw[dgS,if_neg ha,if_pos hz,if_pos h5]
   rw[if_pos h5,hS];rfl
  ·have hS:dgS p N a k l=(UInt32.ofNat (Cg p (a+1) k),((a+1+k:Nat):Int),0):=by rw[dgS,if_neg ha,if_pos hz,if_neg h5]
   rw[if_neg h5,hS]
   simp only
   rw[if_neg (by rw[Al];simp),Be6 hd,Baf (by omega),Aj (by omega) (by omega)];rfl
 ·rw[if_neg (by simp[hz]),Caw h (a+1) l h2,Aa]
  have hp:2^k≤2^24:=Nat.pow_le_pow_right (by omega) h1
  by_cases h5:(rcS p N (a+1) l).2.2≠0
  ·have hS:dgS p N a k l=(0,0,(rcS p N (a+1) l).2.2):=by rw[dgS,if_neg ha,if_neg hz,if_pos h5]
   rw[hS]
   generalize rcS p N (a+1) l=R at*
   obtain⟨v,n,e⟩:=R
   simp only at*
   rw[if_pos (by rw[Al];simpa using h5),if_pos h5]
  ·have hv:=(rcS p N (a+1) l).1.toNat_lt
   have z:(GI.toZ (k:Int)).toNat=k:=rfl
   have e3:(Df (1:UInt32) k).toNat=2^k:=by rw[Bgv];show 1*2^k %_=_;rw[Nat.mod_eq_of_lt (by omega),Nat.one_mul]
   by_cases h6:4294967295<(rcS p N (a+1) l).1.toNat+2^k
   ·have hS:dgS p N a k l=(0,0,12):=by rw[dgS,if_neg ha,if_neg hz,if_neg h5,if_pos h6]
    rw[hS]
    generalize rcS p N (a+1) l=R at*
    obtain⟨v,n,e⟩:=R
    simp only at*
    rw[if_neg (by rw[Al];simpa using h5),Db (by rw[Eb];simp),Aa,z,if_pos (by rw[Bs3,Bgm,UInt32.toNat_add,e3];simp;omega),if_pos (by decide)]
   ·have hS:dgS p N a k l=(UInt32.ofNat ((rcS p N (a+1) l).1.toNat+2^k),(rcS p N (a+1) l).2.1,0):=by rw[dgS,if_neg ha,if_neg hz,if_neg h5,if_neg h6]
    rw[hS]
    generalize rcS p N (a+1) l=R at*
    obtain⟨v,n,e⟩:=R
    simp only at*
    have e4:Ae v (Df (1:UInt32) k)=UInt32.ofNat (v.toNat+2^k):=by
     apply UInt32.toNat_inj.1
     rw[Bgm,UInt32.toNat_add,e3,Aqt (by omega),Nat.mod_eq_of_lt (by omega)]
    rw[if_neg (by rw[Al];simpa using h5),Db (by rw[Eb];simp),Aa,z,if_neg (by rw[Bs3,Bgm,UInt32.toNat_add,e3];simp;omega),e4,Be6 hd];rfl
theorem Bwp{p:List UInt8}{N:Nat}(h:okB p N)(a:Nat)(k l:Nat)(s t:UInt64)(h1:k≤24)(h2:l≤24):Aed p (N:Int) (a:Int) (k:Int) (l:Int) s t=some (dgS p N a k l):=by
 have hN:=h.1
 have hl:=h.2.1
 have hb:=Xp p a
 rw[Aed]
 by_cases ha:N≤a
 ·rw[if_pos (by rw[Eb];simp;omega),dgS,if_pos ha]
 rw[if_neg (by rw[Eb];simp;omega),Bcc p _ a (by omega) (by omega),Aa,Bp (a:=(N:Int)) (b:=(a:Int)) (by omega) (by omega),Bp (by omega) (by omega)]
 have e1:Ae (a:Int) 1=((a+1:Nat):Int):=by rw[Aj (by omega) (by omega)];omega
 rw[e1]
 by_cases hz:Kc p a=0
 ·rw[if_pos (by rw[As];simp[hz])]
  by_cases h5:N<a+1+k
  ·rw[if_pos (by rw[Af];simp;omega),dgS,if_neg ha,if_pos hz,if_pos h5]
  ·rw[if_neg (by rw[Af];simp;omega),Ay9 p _ (a+1) k (by omega) (by omega),Aa,dgS,if_neg ha,if_pos hz,if_neg h5,Baf (by omega),Aj (by omega) (by omega)];rfl
 ·rw[if_neg (by rw[As];simp;omega),Bya h (a+1) l h2,Aa]
  have hp:2^k≤2^24:=Nat.pow_le_pow_right (by omega) h1
  have hv:=(rcS p N (a+1) l).1.toNat_lt
  have e2:∀x:UInt64,(Ad x:UInt32)=UInt32.ofNat x.toNat:=fun x=>by simp only[Ad,Ij,Ei]
  by_cases h5:(rcS p N (a+1) l).2.2≠0
  ·have hS:dgS p N a k l=(0,0,(rcS p N (a+1) l).2.2):=by rw[dgS,if_neg ha,if_neg hz,if_pos h5]
   rw[hS]
   generalize rcS p N (a+1) l=R at*
   obtain⟨v,n,e⟩:=R
   simp only at*
   rw[if_pos (by rw[Al];simpa using h5)]
  ·have hsum:∀v:UInt32,(Ae (Ad v:UInt64) (UInt64.ofNat (2^k))).toNat=v.toNat+2^k:=by
    intro v
    have:=v.toNat_lt
    have:=Nat.pow_pos (n:=k) (show 0<2 by omega)
    rw[Agw,UInt64.toNat_add,Ib,Alz (by omega),UInt64.toNat_ofNat'];omega
   by_cases h6:4294967295<(rcS p N (a+1) l).1.toNat+2^k
   ·have hS:dgS p N a k l=(0,0,12):=by rw[dgS,if_neg ha,if_neg hz,if_neg h5,if_pos h6]
    rw[hS]
    generalize rcS p N (a+1) l=R at*
    obtain⟨v,n,e⟩:=R
    simp only at*
    rw[if_neg (by rw[Al];simpa using h5),Af3 k (by omega),Aa,if_pos (by rw[Al0,hsum];simpa using h6)]
   ·have hS:dgS p N a k l=(UInt32.ofNat ((rcS p N (a+1) l).1.toNat+2^k),(rcS p N (a+1) l).2.1,0):=by rw[dgS,if_neg ha,if_neg hz,if_neg h5,if_neg h6]
    rw[hS]
    generalize rcS p N (a+1) l=R at*
    obtain⟨v,n,e⟩:=R
    simp only at*
    rw[if_neg (by rw[Al];simpa using h5),Af3 k (by omega),Aa,if_neg (by rw[Al0,hsum];simpa using h6),e2,hsum]
end Go.Pl
set_option linter.unusedVariables false
set_option linter.unusedSimpArgs false
namespace Go.Pl
open Go Go.Lv
abbrev DuN:=Nat×Nat×UInt64×UInt64
def okN(d:DuN):Prop:=okD d.1 d.2.1 d.2.2.1 d.2.2.2
def nxt(d:DuN)(v:UInt32):DuN:=(kS d.1 (Aa5 d.2.2.1 (n64 v)),lK d.2.1 d.2.2.2 d.1 v,Aa5 d.2.2.1 (n64 v),lT d.2.2.2 d.1 v)
def Bln:DuN:=(10,10,16384,16384)
theorem Byu:okN Bln:=⟨by decide,by decide,by decide,by decide⟩
theorem Cdx{d:DuN}(h:okN d)(v:UInt32):okN (nxt d v):=Bxy h v
abbrev DuL:=Int×Int×UInt64×UInt64×Unit
def toI(d:DuN):DuL:=((d.1:Int),(d.2.1:Int),d.2.2.1,d.2.2.2,())
def chP(ch:Nat)(v:List UInt32)(c:Nat):Nat→DuN
 |0=>Bln
 |m+1=>if m %ch=c then nxt (chP ch v c m) (v.getD m 0)else chP ch v c m
theorem Bbq(ch:Nat)(v:List UInt32)(c:Nat):∀m,okN (chP ch v c m)
 |0=>Byu
 |m+1=>by rw[chP];split;exact Cdx (Bbq ch v c m) _;exact Bbq ch v c m
theorem Bt2(ch:Nat)(v w:List UInt32)(c:Nat):∀m,m≤v.length→chP ch (v++w) c m=chP ch v c m
 |0,_=>rfl
 |m+1,h=>by
  have e:(v++w).getD m 0=v.getD m 0:=by simp[List.getD_eq_getElem?_getD,List.getElem?_append_left (show m<v.length by omega)]
  rw[chP,chP,Bt2 ch v w c m (by omega),e]
theorem Bmd(ch:Nat)(v:List UInt32)(c:Nat):∀m,m≤c→c<ch→chP ch v c m=Bln
 |0,_,_=>rfl
 |m+1,h,h2=>by rw[chP,if_neg (by rw[Nat.mod_eq_of_lt (by omega)];omega),Bmd ch v c m (by omega) h2]
theorem Bpj(ch:Nat)(v:List UInt32)(c i:Nat)(hi:i %ch=c)(hc:c<ch):∀j,j<ch→chP ch v c (i+1+j)=chP ch v c (i+1)
 |0,_=>rfl
 |j+1,h=>by
  have hne:(i+1+j) %ch≠c:=by
   intro e
   have h1:(i+(1+j)) %ch=i %ch:=by rw[hi,←e];congr 1;omega
   have h2:(1+j) %ch=0:=by
    have h3:=Nat.sub_mod_eq_zero_of_mod_eq h1
    rwa [Nat.add_sub_cancel_left]at h3
   rw[Nat.mod_eq_of_lt (by omega)]at h2;omega
  rw[show i+1+(j+1)=(i+1+j)+1 by omega,chP,if_neg hne,Bpj ch v c i hi hc j (by omega)]
theorem Byv(ch:Nat)(v:List UInt32)(c i:Nat)(hi:i %ch=c)(hc:c<ch):chP ch v c (i+ch)=nxt (chP ch v c i) (v.getD i 0):=by
 have h:=Bpj ch v c i hi hc (ch-1) (by omega)
 rw[show i+1+(ch-1)=i+ch by omega]at h
 rw[h,chP,if_pos hi]
theorem Bgf{l:List UInt32}{k:Nat}(h:k<l.length):Ak l (k:Int)=some (l.getD k 0):=by
 rw[Cq h];simp[List.getD_eq_getElem?_getD,h]
theorem Big(a b:Nat):Fz (a:Int) (b:Int)=((a %b:Nat):Int):=by rw[Fz,Int.tmod_eq_emod_of_nonneg (by omega)];omega
theorem Bdt(ch:Nat)(v:List UInt32)(hch:1≤ch)(hch6:ch≤6)(hv:v.length≤4000):∀(j i q:Nat),i %ch=v.length %ch→i≤v.length→v.length-i≤j→j<q→
  Ky (ch:Int) v q (i:Int) ((chP ch v (v.length %ch) i).1:Int) ((chP ch v (v.length %ch) i).2.1:Int) (chP ch v (v.length %ch) i).2.2.1 (chP ch v (v.length %ch) i).2.2.2=
   some (((chP ch v (v.length %ch) v.length).1:Int),((chP ch v (v.length %ch) v.length).2.1:Int),(chP ch v (v.length %ch) v.length).2.2.1,(chP ch v (v.length %ch) v.length).2.2.2)
 |j,i,q+1,hi,hl,hj,hq=>by
  have hc:v.length %ch<ch:=Nat.mod_lt _ (by omega)
  rw[Ky,Aaw]
  by_cases h:i<v.length
  ·have h1:=Bv7 (Bbq ch v (v.length %ch) i) (v.getD i 0)
   rw[if_pos (by rw[Af,Ac];simp;omega),Bgf h,Aa,h1,Aa]
   have hle:i+ch≤v.length:=by
    have h2:=Nat.div_add_mod i ch
    have h3:=Nat.div_add_mod v.length ch
    rw[hi]at h2
    have h4:ch*(i/ch)<ch*(v.length/ch):=by omega
    have h5:=Nat.lt_of_mul_lt_mul_left h4
    have h6:ch*(i/ch+1)≤ch*(v.length/ch):=Nat.mul_le_mul_left _ h5
    rw[Nat.mul_add]at h6;omega
   have ih:=Bdt ch v hch hch6 hv (j-ch) (i+ch) q (by rw[Nat.add_mod_right];exact hi) hle (by omega) (by omega)
   rw[Byv ch v _ i hi hc]at ih
   simp only
   rw[Aj (by omega) (by omega)]
   exact ih
  ·rw[if_neg (by rw[Af,Ac];simp;omega),show i=v.length by omega];rfl
theorem Bu7(ch:Nat)(v:List UInt32)(hch:1≤ch)(hch6:ch≤6)(hv:v.length≤4000):Of (ch:Int) v=some (((chP ch v (v.length %ch) v.length).1:Int),((chP ch v (v.length %ch) v.length).2.1:Int),(chP ch v (v.length %ch) v.length).2.2.1,(chP ch v (v.length %ch) v.length).2.2.2):=by
 have hc:v.length %ch<ch:=Nat.mod_lt _ (by omega)
 have hle:v.length %ch≤v.length:=Nat.mod_le _ _
 have h:=Bdt ch v hch hch6 hv v.length (v.length %ch) FUEL (by rw[Nat.mod_mod]) hle (by omega) (by have:=Am;omega)
 rw[Bmd ch v _ _ (Nat.le_refl _) hc]at h
 rw[Of,Aci,Lr,Aa]
 simp only
 rw[Db (by rw[Al];simp;omega),Aa,Ac,Big]
 exact h
def now(ch:Nat)(v:List UInt32):DuN:=chP ch v (v.length %ch) v.length
def win(N a:Nat):Nat:=min 81 (N-a)
def La(ch:Nat)(p:List UInt8)(N a:Nat)(out:List UInt32):UInt32×Int×Int:=dgS (Ad8 p a (win N a)) (win N a) 0 (now ch out).1 (now ch out).2.1
def Vs(ch:Nat)(p:List UInt8)(N:Nat):Nat→Nat→List UInt32→List UInt32×Nat×Int
 |0,a,out=>(out,a,0)
 |j+1,a,out=>if(La ch p N a out).2.2≠0 then(out,a,(La ch p N a out).2.2)else Vs ch p N j (a+(La ch p N a out).2.1.toNat) (out++[(La ch p N a out).1])
theorem Awp{ch:Nat}{p:List UInt8}{N a:Nat}{out:List UInt32}(h:(La ch p N a out).2.2=0):0<(La ch p N a out).2.1∧(La ch p N a out).2.1≤win N a:=by
 have:=Cex h
 exact⟨this.1,this.2⟩
theorem Bjc{ch:Nat}{p:List UInt8}{N a:Nat}{out:List UInt32}(h:(La ch p N a out).2.2=0):((a:Int)+(La ch p N a out).2.1)=((a+(La ch p N a out).2.1.toNat:Nat):Int):=by
 have:=Awp h;omega
def sts(ch:Nat)(v:List UInt32):List DuL:=(List.range 6).map fun c=>toI (chP ch v c v.length)
theorem Btt{ch:Nat}{v:List UInt32}{c:Nat}(h:c<6):Ak (sts ch v) (c:Int)=some (toI (chP ch v c v.length)):=by
 rw[Cq (by simp[sts];exact h)];simp[sts]
theorem Cby{ch:Nat}{v:List UInt32}{c:Nat}(x:UInt32)(h:c<6)(hc:c=v.length %ch):Kw (sts ch v) (c:Int) (toI (nxt (chP ch v c v.length) x))=some (sts ch (v++[x])):=by
 rw[Wc _ (by simp[sts];exact h)]
 congr 1
 apply List.ext_getElem (by simp[sts])
 intro i h1 h2
 rw[List.getElem_set]
 simp only[sts,List.getElem_map,List.getElem_range]
 have e:(v++[x]).getD v.length 0=x:=by simp
 rw[List.length_append,List.length_singleton,chP,e,Bt2 ch v [x] i v.length (Nat.le_refl _)]
 by_cases hi:c=i
 ·subst hi;rw[if_pos rfl,if_pos hc.symm]
 ·rw[if_neg hi,if_neg (by omega)]
section
variable {p:List UInt8} {N ch n:Nat}
theorem Bpx(hp:okB p N)(h1:1≤ch)(h6:ch≤6)(hn:n*ch≤4000):∀(j a q:Nat) (out:List UInt32),out.length+j=n*ch→j<q→a≤N→
  Lk (ch:Int) (n:Int) p (N:Int) q (a:Int) (out.length:Int) (sts ch out) out=
   some (if(Vs ch p N j a out).2.2≠0 then([],0,(Vs ch p N j a out).2.2)else((Vs ch p N j a out).1,((Vs ch p N j a out).2.1:Int),0))
 |j,a,q+1,out,hj,hq,ha=>by
  have hN:=hp.1
  have hnn:n≤n*ch:=Nat.le_mul_of_pos_right n (by omega)
  have em:Bk (n:Int) (ch:Int)=((n*ch:Nat):Int):=by rw[Ih (by rw[←Int.natCast_mul];omega) (by rw[←Int.natCast_mul];omega),Int.natCast_mul]
  rw[Lk,Qu,em]
  cases j with
  |zero=>
   rw[if_neg (by rw[Af];simp;omega)];rfl
  |succ j=>
   have hc:out.length %ch<6:=Nat.lt_of_lt_of_le (Nat.mod_lt _ (by omega)) h6
   have ew:Ec (Ae (a:Int) 81) (N:Int)=((a+win N a:Nat):Int):=by rw[Anv,Aj (by omega) (by omega)];unfold win;omega
   have hw:a+win N a≤N:=by unfold win;omega
   have hw2:win N a≤81:=by unfold win;omega
   have hd:=Cbn (Bty p a (win N a) (by omega)) 0 (Bbq ch out (out.length %ch) out.length)
   have ecode:dgS (Ad8 p a (win N a)) (win N a) 0 (chP ch out (out.length %ch) out.length).1 (chP ch out (out.length %ch) out.length).2.1=La ch p N a out:=rfl
   rw[if_pos (by rw[Af];simp;omega),ew,Cd7 hp a _ hw (by omega),Aa]
   simp only
   rw[if_neg (by rw[Al];simp),Db (by rw[Al];simp;omega),Aa,Big,Btt hc,Aa,Aa]
   refine Eq.trans (congrArg (fun o=>Option.bind o _) hd) ?_
   rw[Aa,ecode,Vs]
   by_cases he:(La ch p N a out).2.2≠0
   ·rw[if_pos he,if_pos he]
    simp only
    rw[Py,Qk,if_pos (by rw[Al];simpa using he),if_pos he]
   ·have he0:(La ch p N a out).2.2=0:=by simpa using he
    have hok:=Awp he0
    have hset:=Cby (ch:=ch) (v:=out) (La ch p N a out).1 hc rfl
    rw[if_neg he,if_neg he]
    simp only
    rw[Py,Qk,if_neg (by rw[Al];simp),Db (by rw[Al];simp;omega),Aa,Big,Btt hc,Aa]
    refine Eq.trans (congrArg (fun o=>Option.bind o _) hset) ?_
    rw[Aa,Yt,Aka,Cm (by simp;omega),Aa,Aj (by omega) (by omega),Aj (by omega) (by omega),Bjc he0]
    have ih:=Bpx hp h1 h6 hn j (a+(La ch p N a out).2.1.toNat) q (out++[(La ch p N a out).1]) (by simp;omega) (by omega) (by omega)
    rw[List.length_append,List.length_singleton]at ih
    exact ih
theorem Bsi{p:List UInt8}(hN:N=8*p.length)(hN2:N≤330000)(h1:1≤ch)(h6:ch≤6)(hn:n*ch≤4000):∀(j a q:Nat) (out:List UInt32),out.length+j=n*ch→j<q→a≤N→
  Em (ch:Int) (n:Int) p q (a:Int) (out.length:Int) out=
   if(Vs ch p N j a out).2.2≠0 then some ((Vs ch p N j a out).1,(Vs ch p N j a out).2.2)else Ro ((Vs ch p N j a out).2.1:Int) p (Vs ch p N j a out).1
 |j,a,q+1,out,hj,hq,ha=>by
  have hnn:n≤n*ch:=Nat.le_mul_of_pos_right n (by omega)
  have em:Bk (n:Int) (ch:Int)=((n*ch:Nat):Int):=by rw[Ih (by rw[←Int.natCast_mul];omega) (by rw[←Int.natCast_mul];omega),Int.natCast_mul]
  have e8:Bk (8:Int) (Ac p)=(N:Int):=by rw[Ac,Ih (by omega) (by omega)];omega
  rw[Em,Adn,em]
  cases j with
  |zero=>
   rw[if_neg (by rw[Af];simp;omega)];rfl
  |succ j=>
   have ew:Ec (Ae (a:Int) 81) (N:Int)=((a+win N a:Nat):Int):=by rw[Anv,Aj (by omega) (by omega)];unfold win;omega
   have hw:a+win N a≤N:=by unfold win;omega
   have hw2:win N a≤81:=by unfold win;omega
   have hpre:(Option.bind Lr fun(r_4,r_5,r_6,r_7)=>
     if(Il (out.length:Int) (ch:Int))=true then(
     Option.bind (Of (ch:Int) out) fun(r_8,r_9,r_10,r_11)=>
     Iw (Em (ch:Int) (n:Int) p q) (ch:Int) (n:Int) p (a:Int) (out.length:Int) out r_8 r_9 r_10 r_11)
     else Iw (Em (ch:Int) (n:Int) p q) (ch:Int) (n:Int) p (a:Int) (out.length:Int) out r_4 r_5 r_6 r_7)=
     Iw (Em (ch:Int) (n:Int) p q) (ch:Int) (n:Int) p (a:Int) (out.length:Int) out ((now ch out).1:Int) ((now ch out).2.1:Int) (now ch out).2.2.1 (now ch out).2.2.2:=by
    rw[Lr,Aa]
    by_cases hc:ch≤out.length
    ·simp only
     rw[if_pos (by rw[Eb];simp;omega),Bu7 ch out h1 h6 (by omega),Aa];rfl
    ·have e:now ch out=Bln:=by rw[now,Nat.mod_eq_of_lt (by omega),Bmd ch out _ _ (Nat.le_refl _) (by omega)]
     simp only
     rw[if_neg (by rw[Eb];simp;omega),e];rfl
   have hd:=Bwp (Bty p a (win N a) (by omega)) 0 (now ch out).1 (now ch out).2.1 (now ch out).2.2.1 (now ch out).2.2.2 (Bbq ch out _ _).1 (Bbq ch out _ _).2.1
   have ecode:dgS (Ad8 p a (win N a)) (win N a) 0 (now ch out).1 (now ch out).2.1=La ch p N a out:=rfl
   rw[if_pos (by rw[Af];simp;omega),hpre,Iw,Adq,e8,ew,Bos p (N:Int) a _ (by omega) (by omega) (by omega),Aa]
   simp only
   refine Eq.trans (congrArg (fun o=>Option.bind o _) hd) ?_
   rw[Aa,ecode,Vs]
   by_cases he:(La ch p N a out).2.2≠0
   ·rw[if_pos he,if_pos (by rw[Al];simpa using he),if_pos he]
   ·have he0:(La ch p N a out).2.2=0:=by simpa using he
    have hok:=Awp he0
    have ih:=Bsi hN hN2 h1 h6 hn j (a+(La ch p N a out).2.1.toNat) q (out++[(La ch p N a out).1]) (by simp;omega) (by omega) (by omega)
    have hx:=Bjc he0
    rw[List.length_append,List.length_singleton]at ih
    rw[if_neg he]
    generalize La ch p N a out=R at*
    obtain⟨v,nx,e⟩:=R
    simp only at*
    rw[if_neg (by rw[Al];simpa using he),Cm (by simp;omega),Aa,Aj (by omega) (by omega),Aj (by omega) (by omega),hx]
    exact ih
end
theorem Bel{ch:Nat}{p:List UInt8}{N:Nat}:∀(j a:Nat) (out:List UInt32),a≤N→(Vs ch p N j a out).2.1≤N∧(Vs ch p N j a out).1.length≤out.length+j∧((Vs ch p N j a out).2.2=0→(Vs ch p N j a out).1.length=out.length+j)
 |0,a,out,h=>⟨h,Nat.le_refl _,fun _=>rfl⟩
 |j+1,a,out,h=>by
  rw[Vs]
  split
  ·rename_i he
   exact⟨h,by simp,fun e=>absurd e he⟩
  ·rename_i he
   have hok:=Awp (ch:=ch) (p:=p) (N:=N) (a:=a) (out:=out) (by simpa using he)
   have hw:a+win N a≤N:=by unfold win;omega
   have ih:=Bel (ch:=ch) (p:=p) (N:=N) j (a+(La ch p N a out).2.1.toNat) (out++[(La ch p N a out).1]) (by omega)
   rw[List.length_append,List.length_singleton]at ih
   exact⟨ih.1,by omega,fun e=>by have:=ih.2.2 e;omega⟩
theorem Bnk(ch n:Int)(b:List UInt8)(N:Int):Qe ch n b N 0 (List.replicate 6 ((0:Int),(0:Int),(0:UInt64),(0:UInt64),()))=Yj ch n b N (List.replicate 6 ((10:Int),(10:Int),(16384:UInt64),(16384:UInt64),())):=by
 have e:FUEL=(FUEL-7)+1+1+1+1+1+1+1:=by have:=Am;omega
 rw[Qe,e]
 rfl
theorem values_eq{p:List UInt8}{N ch n:Nat}(hp:okB p N)(h1:1≤ch)(h6:ch≤6)(hn:n*ch≤4000):Acn (ch:Int) (n:Int) p (N:Int)=
  some (if(Vs ch p N (n*ch) 0 []).2.2≠0 then([],0,(Vs ch p N (n*ch) 0 []).2.2)else((Vs ch p N (n*ch) 0 []).1,((Vs ch p N (n*ch) 0 []).2.1:Int),0)):=by
 have h:=Bpx hp h1 h6 hn (n*ch) 0 FUEL [] (by simp) (by have:=Am;omega) (by omega)
 rw[Acn,Aar,Bnk]
 exact h
theorem Bkc(p:List UInt8)(x:List UInt32)(N:Nat)(hN:N=8*p.length)(hN2:N≤330000):∀(j a q:Nat),a+j=N→j<q→Iv p x q (a:Int)=some (x,if Cg p a j=0 then 0 else 12)
 |0,a,q+1,ha,_=>by
  have e8:Bk (8:Int) (Ac p)=(N:Int):=by rw[Ac,Ih (by omega) (by omega)];omega
  rw[Iv,Rq,e8,if_neg (by rw[Af];simp;omega),Cg,if_pos rfl];rfl
 |j+1,a,q+1,ha,hq=>by
  have e8:Bk (8:Int) (Ac p)=(N:Int):=by rw[Ac,Ih (by omega) (by omega)];omega
  have hb:=Xp p a
  rw[Iv,Rq,e8,if_pos (by rw[Af];simp;omega),Bcc p _ a (by omega) (by omega),Aa,Cg]
  by_cases h:Kc p a=0
  ·rw[if_neg (by rw[Al];simp[h]),Aj (by omega) (by omega),h]
   have ih:=Bkc p x N hN hN2 j (a+1) q (by omega) (by omega)
   rw[show((a:Int)+1)=((a+1:Nat):Int) by omega,ih]
   congr 2
   by_cases hv:Cg p (a+1) j=0
   ·rw[if_pos hv,if_pos (by omega)]
   ·rw[if_neg hv,if_neg (by omega)]
  ·rw[if_pos (by rw[Al];simp;omega),if_neg (by omega)]
theorem Btd{p:List UInt8}{N ch n:Nat}(hN:N=8*p.length)(hN2:N≤330000)(h1:1≤ch)(h6:ch≤6)(hn:n*ch≤4000):Aa9 (ch:Int) (n:Int) p=
  some (if(Vs ch p N (n*ch) 0 []).2.2≠0 then((Vs ch p N (n*ch) 0 []).1,(Vs ch p N (n*ch) 0 []).2.2)else
   ((Vs ch p N (n*ch) 0 []).1,if 7<N-(Vs ch p N (n*ch) 0 []).2.1∨Cg p (Vs ch p N (n*ch) 0 []).2.1 (N-(Vs ch p N (n*ch) 0 []).2.1)≠0 then 12 else 0)):=by
 have h:=Bsi hN hN2 h1 h6 hn (n*ch) 0 FUEL [] (by simp) (by have:=Am;omega) (by omega)
 have hat:=(Bel (ch:=ch) (p:=p) (N:=N) (n*ch) 0 [] (by omega)).1
 have e8:Bk (8:Int) (Ac p)=(N:Int):=by rw[Ac,Ih (by omega) (by omega)];omega
 rw[Aa9,Agx]
 refine Eq.trans h ?_
 generalize Vs ch p N (n*ch) 0 []=V at*
 obtain⟨v,a,e⟩:=V
 simp only at*
 by_cases he:e≠0
 ·rw[if_pos he,if_pos he]
 ·rw[if_neg he,if_neg he,Ro,Ad1,e8,Bp (by omega) (by omega)]
  by_cases h7:7<N-a
  ·rw[if_pos (by rw[Ap];simp;omega),if_pos (.inl h7)]
  ·rw[if_neg (by rw[Ap];simp;omega),Adk,Bkc p v N hN hN2 (N-a) a FUEL (by omega) (by have:=Am;omega)]
   by_cases hv:Cg p a (N-a)=0
   ·rw[if_pos hv,if_neg (by omega)]
   ·rw[if_neg hv,if_pos (.inr hv)]
end Go.Pl
set_option linter.unusedVariables false
set_option linter.unusedSimpArgs false
namespace Go.Pl
open Go Go.Lv
theorem Bk5(n:Int):(GI.ofZ n:Int32)=Int32.ofInt n:=rfl
theorem Am8(a:Int32):GI.toZ a=a.toInt:=rfl
theorem Aps(a b:Int32):Ae a b=a+b:=by
 rw[Ae,Am8,Am8,Bk5,Int32.ofInt_add,Int32.ofInt_toInt,Int32.ofInt_toInt]
theorem Bh8(a b:Int32):Ah a b=a-b:=by
 rw[Ah,Am8,Am8,Bk5,Int32.ofInt_sub,Int32.ofInt_toInt,Int32.ofInt_toInt]
theorem Btr(a b:Int32):geq a b=(a==b):=by
 rw[geq,Am8,Am8,Bool.eq_iff_iff];simp[Int32.toInt_inj]
def sel(p:Nat→Bool)(a b:List Int32):List Int32:=(List.range a.length).map fun k=>if p k=true then a.getD k 0 else b.getD k 0
section
variable {p q:Nat→Bool} {a b:List Int32}
theorem Aqm:(sel p a b).length=a.length:=by simp[sel]
theorem Mh{k:Nat}(h:k<a.length):a.getD k 0=a[k]:=by simp[List.getD_eq_getElem?_getD,h]
theorem Zn{k:Nat}(h:k<(sel p a b).length):(sel p a b)[k]=if p k=true then a.getD k 0 else b.getD k 0:=by simp[sel]
theorem Amu{k:Nat}(h:k<a.length):Ak (sel p a b) (k:Int)=some (if p k=true then a.getD k 0 else b.getD k 0):=by
 rw[Cq (by rw[Aqm];exact h),Zn]
theorem Zf(h:∀k,k<a.length→p k=q k):sel p a b=sel q a b:=by
 apply List.map_congr_left
 intro k hk
 rw[h k (List.mem_range.1 hk)]
theorem Azf{k:Nat}(h:k<a.length):Kw (sel p a b) (k:Int) (a.getD k 0)=some (sel (fun j=>p j||decide (j=k)) a b):=by
 rw[Wc _ (by rw[Aqm];exact h)]
 congr 1
 apply List.ext_getElem (by simp[Aqm])
 intro i h1 h2
 rw[List.getElem_set,Zn,Zn]
 by_cases hi:k=i
 ·subst hi;simp
 ·have:¬i=k:=fun e=>hi e.symm
  simp[hi,this]
theorem Azz(h:∀k,k<a.length→p k=true):sel p a b=a:=by
 apply List.ext_getElem (by simp[Aqm])
 intro i h1 h2
 rw[Zn,if_pos (h i h2),Mh h2]
theorem Ba8(hl:b.length=a.length)(h:∀k,k<a.length→p k=false):sel p a b=b:=by
 apply List.ext_getElem (by simp[Aqm,hl])
 intro i h1 h2
 rw[Zn,h i (by omega)]
 simp[List.getD_eq_getElem?_getD,h2]
end
end Go.Pl
set_option linter.unusedVariables false
set_option linter.unusedSimpArgs false
namespace Go.Pl
open Go Go.Lv
theorem Bfl(a b:Int32):Bk a b=a*b:=by
 rw[Bk,Am8,Am8,Bk5,Int32.ofInt_mul,Int32.ofInt_toInt,Int32.ofInt_toInt]
theorem Aa7(a:Int32): -2147483648≤a.toInt∧a.toInt<2147483648:=⟨a.le_toInt,a.toInt_lt⟩
theorem Ew(a:Int32):(Ad a:Int)=a.toInt:=by
 have:=Aa7 a
 show wrap64 a.toInt=_
 rw[Ch]<;>omega
theorem Ajj(n:Int):(Ad n:Int32)=Int32.ofInt n:=rfl
theorem Bt8(x:Int):Int32.ofInt (x %4294967296)=Int32.ofInt x:=by
 apply Int32.toInt_inj.1
 rw[Int32.toInt_ofInt,Int32.toInt_ofInt]
 exact Int.emod_bmod x 4294967296
theorem Beo(x:Int):Cl x=some (Int32.ofInt x):=by
 have e1:(Ad x:UInt64).toNat=(x %18446744073709551616).toNat:=by
  rw[Boe,UInt64.toNat_ofNat',Nat.mod_eq_of_lt (by omega)]
 have e2:(Ad (Ad x:UInt64):UInt32).toNat=(x %4294967296).toNat:=by
  have e:(Ad (Ad x:UInt64):UInt32)=UInt32.ofNat (Ad x:UInt64).toNat:=by simp only[Ad,Ij,Ei]
  rw[e,UInt32.toNat_ofNat',e1]
  show(x %18446744073709551616).toNat %4294967296=_
  omega
 have e3:(Ad (Ad (Ad x:UInt64):UInt32):Int32)=Int32.ofInt ((Ad (Ad x:UInt64):UInt32).toNat:Int):=rfl
 rw[Cl,e3,e2,←Bt8 x]
 congr 2;omega
theorem Azx(a b:Int32):Cl (Ae (Ad a:Int) (Ad b:Int))=some (a+b):=by
 have:=Aa7 a
 have:=Aa7 b
 rw[Ew,Ew,Aj (by omega) (by omega),Beo,Int32.ofInt_add,Int32.ofInt_toInt,Int32.ofInt_toInt]
theorem Byf(a b:Int32):Cl (Bk (Ad a:Int) (Ad b:Int))=some (a*b):=by
 have ha:=Aa7 a
 have hb:=Aa7 b
 have h1: -9223372036854775808≤a.toInt*b.toInt∧a.toInt*b.toInt≤9223372036854775807:=by
  have h2:(a.toInt*b.toInt).natAbs≤2147483648*2147483648:=by
   rw[Int.natAbs_mul];exact Nat.mul_le_mul (by omega) (by omega)
  omega
 rw[Ew,Ew,Ih h1.1 h1.2,Beo,Int32.ofInt_mul,Int32.ofInt_toInt,Int32.ofInt_toInt]
def OkF(s:Int)(t p:List Int32):Prop:=(s=9∨s=10)∧t.length=16∧p.length=16
theorem Bce{s:Int}{t p:List Int32}(h:OkF s t p):Aeh s t p=some 0:=by
 obtain⟨rfl|rfl,_,_⟩:=h<;>rfl
theorem g32{l:List Int32}{k:Nat}(h:k<l.length):Ak l (k:Int)=some (l.getD k 0):=by
 rw[Cq h];simp[List.getD_eq_getElem?_getD,h]
def Aup(t p:List Int32):Nat→Int32
 |0=>0
 |i+1=>Aup t p i+t.getD i 0*p.getD i 0
def half(s:Int):Int32:=if s=9 then 256 else 512
def gF(s:Int)(t p:List Int32):Int32:=Int32.ofInt ((half s+Aup t p 16).toInt.fdiv (if s=9 then 512 else 1024))
theorem Bi4{s:Int}{t p:List Int32}(h:OkF s t p):∀(j i q:Nat),i+j=16→j<q→Rh t s p q (half s+Aup t p i) (i:Int)=some (gF s t p,0)
 |0,i,q+1,hi,_=>by
  obtain rfl:i=16:=by omega
  have hs:=h.1
  rw[Rh,Aff,if_neg (by rw[Af];simp),Anl,Axa,Db (by rw[Eb];simp;omega),Aa]
  obtain rfl|rfl:=hs<;>rfl
 |j+1,i,q+1,hi,hq=>by
  obtain⟨hs,ht,hp⟩:=h
  rw[Rh,Aff,if_pos (by rw[Af];simp;omega),g32 (by omega),Aa,g32 (by omega),Aa,Aa,Aj (b:=1) (by omega) (by omega),Aps,Bfl,Int32.add_assoc]
  exact Bi4 ⟨hs,ht,hp⟩ j (i+1) q (by omega) (by omega)
theorem Bw4{s:Int}{t p:List Int32}(h:OkF s t p):Alh s t p=some (gF s t p,0):=by
 have hs:=h.1
 have h1:=Bi4 h 16 0 FUEL (by omega) (by have:=Am;omega)
 have e:Df (1:Int32) (GI.toZ (Ah s (1:Int))).toNat=half s+Aup t p 0:=by
  obtain rfl|rfl:=hs<;>rfl
 rw[Alh,An5,Bce h,Aa,if_neg (by rw[Al];simp),Db (by rw[Eb,Bp (by omega) (by omega)];simp;omega),Aa,Anu,e]
 exact h1
theorem Bfh{s:Int}{t p:List Int32}(ht:t.length=16)(hp:p.length=16){g:Int32}(hg:Aup t p 16=g):∀(j i q:Nat),i+j=16→j<q→Km s t p q (Aup t p i).toInt (i:Int)=some g
 |0,i,q+1,hi,_=>by
  obtain rfl:i=16:=by omega
  rw[Km,Vy,if_neg (by rw[Af];simp),Ah8,Ait,Ajj,Int32.ofInt_toInt,hg]
 |j+1,i,q+1,hi,hq=>by
  have ih:=Bfh (s:=s) ht hp hg j (i+1) q (by omega) (by omega)
  rw[Aup]at ih
  rw[Km,Vy,if_pos (by rw[Af];simp;omega),g32 (by omega),g32 (by omega),Aa,Aa,Aa,Aa,Byf,Aa,←Ew (Aup t p i),Azx,Aa,Ew,Aj (by omega) (by omega)]
  exact ih
theorem Bzn{s:Int}{t p:List Int32}(h:OkF s t p):Apa s t p=some (Aup t p 16):=
 Bfh h.2.1 h.2.2 rfl 16 0 FUEL (by omega) (by have:=Am;omega)
theorem Bvp(x n:Int)(hn:n=512∨n=1024∨n=16∨n=32):(if x.tmod n<0 then x.tdiv n-1 else x.tdiv n)=x.fdiv n:=by
 have hs:n.sign=1:=by obtain rfl|rfl|rfl|rfl:=hn<;>rfl
 rw[Int.tdiv_eq_ediv,Int.tmod_eq_emod,hs,Int.fdiv_eq_ediv_of_nonneg _ (by omega)]
 by_cases h:0≤x∨n∣x
 ·rw[if_pos h,if_pos h]
  obtain rfl|rfl|rfl|rfl:=hn<;>(rw[if_neg (by omega)];omega)
 ·rw[if_neg h,if_neg h]
  obtain rfl|rfl|rfl|rfl:=hn<;>(rw[if_pos (by omega)];omega)
theorem Bhj(x n:Int)(hn:n=512∨n=1024∨n=16∨n=32)(h: -1000000000000≤x)(h':x≤1000000000000): -1000000000000≤x.tdiv n∧x.tdiv n≤1000000000000:=by
 have hs:n.sign=1:=by obtain rfl|rfl|rfl|rfl:=hn<;>rfl
 rw[Int.tdiv_eq_ediv,hs]
 by_cases h:0≤x∨n∣x
 ·rw[if_pos h];obtain rfl|rfl|rfl|rfl:=hn<;>omega
 ·rw[if_neg h];obtain rfl|rfl|rfl|rfl:=hn<;>omega
theorem Cgh(x n:Int)(hn:n=512∨n=1024∨n=16∨n=32)(h: -1000000000000≤x)(h':x≤1000000000000):Bw x n=x.tdiv n:=by
 have:=Bhj x n hn h h'
 rw[Ag8,Ch (by omega) (by omega)]
theorem Bpv(x n:Int)(hn:n=512∨n=1024∨n=16∨n=32)(h: -1000000000000≤x)(h':x≤1000000000000):
  (if(Bs (Fz x n) (0:Int))=true then some (Ad (Ah (Bw x n) (1:Int)):Int32)else some (Ad (Bw x n):Int32))=some (Int32.ofInt (x.fdiv n)):=by
 have hb:=Bhj x n hn h h'
 rw[Af,Fz,Cgh x n hn h h',Bp (by omega) (by omega),Ajj,Ajj,←Bvp x n hn]
 by_cases hx:x.tmod n<0
 ·rw[if_pos (by simpa using hx),if_pos hx]
 ·rw[if_neg (by simpa using hx),if_neg hx]
theorem Cau{s:Int}{t p:List Int32}(h:OkF s t p):Ab2 s t p=some (gF s t p):=by
 obtain⟨hs,ht,hp⟩:=h
 have h:OkF s t p:=⟨hs,ht,hp⟩
 have hx:=Aa7 (Aup t p 16+half s)
 have key:∀n:Int,(n=512∨n=1024)→(half s).toInt=n/2→gF s t p=Int32.ofInt ((half s+Aup t p 16).toInt.fdiv n)→Uj s t p n=some (gF s t p):=by
  intro n hn hh hg
  have e2:Bw n (2:Int)=(half s).toInt:=by rw[hh];obtain rfl|rfl:=hn<;>rfl
  rw[Uj,Age,Bzn h,Aa,e2,←Ew (half s),Azx,Aa,Db (by rw[Al];simp;omega),Aa,Aa,Ew,Bpv _ n (by omega) (by omega) (by omega),hg,Int32.add_comm]
 rw[Ab2,Af0]
 obtain rfl|rfl:=hs
 ·rw[if_pos (by rw[As];rfl)];exact key 512 (.inl rfl) rfl rfl
 ·rw[if_neg (by rw[As];decide)];exact key 1024 (.inr rfl) rfl rfl
def stp(i:Nat):Int32:=if i=0 then 4 else if i<4 then 2 else 1
def sg(x:Int32):Int32:=if x.toInt<0 then -1 else if 0<x.toInt then 1 else 0
def lrn(t p:List Int32)(w:Int32):List Int32:=(List.range 16).map fun i=>t.getD i 0+stp i*sg (p.getD i 0)*sg w
theorem Afc(t p:List Int32)(w:Int32):(lrn t p w).length=16:=by simp[lrn]
theorem Bk4(t p:List Int32)(w:Int32){i:Nat}(h:i<16):(lrn t p w).getD i 0=t.getD i 0+stp i*sg (p.getD i 0)*sg w:=by
 rw[Mh (by rw[Afc];exact h)];simp[lrn]
theorem step_eq(i:Nat):Aoc (i:Int)=some (stp i):=by
 rw[Aoc,stp]
 by_cases h:i=0
 ·rw[if_pos (by rw[As];simp[h]),if_pos h]
 ·rw[if_neg (by rw[As];simp;omega),if_neg h]
  by_cases h2:i<4
  ·rw[if_pos (by rw[Af];simp;omega),if_pos h2]
  ·rw[if_neg (by rw[Af];simp;omega),if_neg h2]
theorem Buf(i:Nat):Aao (i:Int)=some (stp i):=by
 rw[Aao,stp]
 by_cases h:i=0
 ·rw[if_pos (by rw[As];simp[h]),if_pos h]
 ·rw[if_neg (by rw[As];simp;omega),if_neg h]
  by_cases h2:i<4
  ·rw[if_pos (by rw[As3];simp;omega),if_pos h2]
  ·rw[if_neg (by rw[As3];simp;omega),if_neg h2]
theorem Bk8(a b:Int32):Bs a b=decide (a.toInt<b.toInt):=rfl
theorem Bqr(a b:Int32):Di a b=decide (b.toInt<a.toInt):=rfl
theorem sign_eq(x:Int32):So x=some (sg x):=by
 rw[So,sg,Bk8,Bqr,show(0:Int32).toInt=0 from rfl]
 by_cases h:x.toInt<0
 ·rw[if_pos (by simpa using h),if_pos h]
 ·rw[if_neg (by simpa using h),if_neg h]
  by_cases h2:0<x.toInt
  ·rw[if_pos (by simpa using h2),if_pos h2]
  ·rw[if_neg (by simpa using h2),if_neg h2]
theorem Bte:sg 0=0:=rfl
theorem toInt_ne{x:Int32}(h:x≠0):x.toInt≠0:=fun e=>h (Int32.toInt_inj.1 (by rw[e];rfl))
theorem Blx{x:Int32}(h:x.toInt<0):sg x= -1:=by rw[sg,if_pos h]
theorem Bk0{x:Int32}(h:x≠0)(h2:¬x.toInt<0):sg x=1:=by
 have:=toInt_ne h
 rw[sg,if_neg h2,if_pos (by omega)]
theorem Awd(i:Nat):stp i=4∨stp i=2∨stp i=1:=by
 unfold stp
 by_cases h:i=0
 ·rw[if_pos h];exact .inl rfl
 ·rw[if_neg h];split;exact .inr (.inl rfl);exact .inr (.inr rfl)
theorem Bvb{x w:Int32}(hx:x≠0)(hw:w≠0)(h:(x.toInt<0)=(w.toInt<0))(i:Nat):stp i*sg x*sg w=stp i:=by
 by_cases h1:x.toInt<0
 ·rw[Blx h1,Blx (by rw[←h];exact h1)]
  obtain e|e|e:=Awd i<;>rw[e]<;>decide
 ·rw[Bk0 hx h1,Bk0 hw (by rw[←h];exact h1)]
  obtain e|e|e:=Awd i<;>rw[e]<;>decide
theorem Brd{x w:Int32}(hx:x≠0)(hw:w≠0)(h:¬(x.toInt<0)=(w.toInt<0))(i:Nat)(a:Int32):a+stp i*sg x*sg w=a-stp i:=by
 have key:stp i*sg x*sg w=-stp i:=by
  by_cases h1:x.toInt<0
  ·have h2:¬w.toInt<0:=fun h2=>h (propext ⟨fun _=>h2,fun _=>h1⟩)
   rw[Blx h1,Bk0 hw h2]
   obtain e|e|e:=Awd i<;>rw[e]<;>decide
  ·have h2:w.toInt<0:=Decidable.by_contra fun h2=>h (propext ⟨fun h3=>absurd h3 h1,fun h3=>absurd h3 h2⟩)
   rw[Bk0 hx h1,Blx h2]
   obtain e|e|e:=Awd i<;>rw[e]<;>decide
 rw[key,Int32.sub_eq_add_neg]
def Azh(i:Nat):Nat→Bool:=fun j=>decide (j<i)
theorem Bff{a b:List Int32}{i:Nat}(h:i<a.length):Kw (sel (Azh i) a b) (i:Int) (a.getD i 0)=some (sel (Azh (i+1)) a b):=by
 rw[Azf h]
 congr 1
 apply Zf
 intro k _
 rw[Bool.eq_iff_iff]
 simp only[Azh,Bool.or_eq_true,decide_eq_true_eq];omega
theorem Bva{a b:List Int32}{i:Nat}(e:a.getD i 0=b.getD i 0):sel (Azh i) a b=sel (Azh (i+1)) a b:=by
 apply List.map_congr_left
 intro k _
 simp only[Azh,decide_eq_true_eq]
 by_cases h1:k<i
 ·rw[if_pos h1,if_pos (by omega)]
 ·by_cases h2:k=i
  ·subst h2;rw[if_neg h1,if_pos (by omega),e]
  ·rw[if_neg h1,if_neg (by omega)]
theorem Bnn{a b:List Int32}{i:Nat}(h:i<a.length):Ak (sel (Azh i) a b) (i:Int)=some (b.getD i 0):=by
 rw[Amu h,if_neg (by simp[Azh])]
theorem Bj4{s:Int}{t p:List Int32}{w:Int32}(hw:w≠0)(ht:t.length=16)(hp:p.length=16):∀(j i q:Nat),i+j=16→j<q→Rj w p s q (i:Int) (sel (Azh i) (lrn t p w) t)=some (s,lrn t p w,p,0)
 |0,i,q+1,hi,_=>by
  obtain rfl:i=16:=by omega
  rw[Rj,Afb,if_neg (by rw[Af];simp),Azz (fun k hk=>by rw[Afc]at hk;simpa [Azh]using hk)];rfl
 |j+1,i,q+1,hi,hq=>by
  have hl:=Afc t p w
  have hg:=Bk4 t p w (i:=i) (by omega)
  rw[Rj,Afb,if_pos (by rw[Af];simp;omega),g32 (by omega),Aa,Aj (b:=1) (by omega) (by omega),Bnn (by omega),step_eq]
  simp only[Aa]
  rw[Aps,Bh8,Btr,Bk8,Bk8,show(0:Int32).toInt=0 from rfl]
  have ih:=Bj4 (s:=s) hw ht hp j (i+1) q (by omega) (by omega)
  by_cases hx:p.getD i 0=0
  ·rw[if_pos (by rw[hx];rfl),Bva (by rw[hg,hx,Bte,Int32.mul_zero,Int32.zero_mul,Int32.add_zero])]
   exact ih
  ·rw[if_neg (by simpa using hx)]
   by_cases hs:((p.getD i 0).toInt<0)=(w.toInt<0)
   ·rw[if_pos (by rw[beq_iff_eq];simp only[hs]),show t.getD i 0+stp i=(lrn t p w).getD i 0 by rw[hg,Bvb hx hw hs],Bff (by omega),Aa]
    exact ih
   ·rw[if_neg (by rw[beq_iff_eq,decide_eq_decide];exact fun h=>hs (propext h)),show t.getD i 0-stp i=(lrn t p w).getD i 0 by rw[hg,Brd hx hw hs],Bff (by omega),Aa]
    exact ih
theorem By8{t:List Int32}(p:List Int32)(ht:t.length=16):lrn t p 0=t:=by
 apply List.ext_getElem (by rw[Afc,ht])
 intro i h1 h2
 have:=Bk4 t p 0 (i:=i) (by omega)
 rw[Mh h1,Mh h2]at this
 rw[this,Bte,Int32.mul_zero,Int32.add_zero]
theorem Bxw{s:Int}{t p:List Int32}(h:OkF s t p)(w:Int32):Arl s t p w=some (s,lrn t p w,p,0):=by
 rw[Arl,Ans,Bce h,Aa,if_neg (by rw[Al];simp),Btr]
 by_cases hw:w=0
 ·rw[if_pos (by simpa using hw),hw,By8 p h.2.1]
 ·have h1:=Bj4 (s:=s) hw h.2.1 h.2.2 16 0 FUEL (by omega) (by have:=Am;omega)
  rw[Ba8 (by rw[Afc,h.2.1]) (fun k _=>by simp[Azh])]at h1
  rw[if_neg (by simpa using hw)]
  exact h1
theorem Bak{s:Int}{t p:List Int32}{w:Int32}(ht:t.length=16)(hp:p.length=16):∀(j i q:Nat),i+j=16→j<q→Gu w s p q (i:Int) (sel (Azh i) (lrn t p w) t)=some (s,lrn t p w,p)
 |0,i,q+1,hi,_=>by
  obtain rfl:i=16:=by omega
  rw[Gu,Pb,if_neg (by rw[Af];simp),Azz (fun k hk=>by rw[Afc]at hk;simpa [Azh]using hk)];rfl
 |j+1,i,q+1,hi,hq=>by
  have hl:=Afc t p w
  have hg:=Bk4 t p w (i:=i) (by omega)
  rw[Gu,Pb,if_pos (by rw[Af];simp;omega),g32 (l:=p) (by omega),Aj (b:=1) (by omega) (by omega),Bnn (by omega),Buf,sign_eq w,Aa,Aa,Aa,Aa,Aa,sign_eq,Aa,Aa,Aa,Aps,Bfl,Bfl,←hg,Bff (by omega),Aa]
  exact Bak ht hp j (i+1) q (by omega) (by omega)
theorem Bq3{s:Int}{t p:List Int32}(h:OkF s t p)(w:Int32):Afw s t p w=some (s,lrn t p w,p):=by
 have h1:=Bak (s:=s) (w:=w) h.2.1 h.2.2 16 0 FUEL (by omega) (by have:=Am;omega)
 rw[Ba8 (by rw[Afc,h.2.1]) (fun k _=>by simp[Azh])]at h1
 exact h1
theorem Ccw{p:List Int32}(h:p.length=16):∃a0 a1 a2 a3 a4 a5 a6 a7 a8 a9 b0 b1 b2 b3 b4 b5,p=[a0,a1,a2,a3,a4,a5,a6,a7,a8,a9,b0,b1,b2,b3,b4,b5]:=by
 match p,h with
 |[a0,a1,a2,a3,a4,a5,a6,a7,a8,a9,b0,b1,b2,b3,b4,b5],_=>exact⟨a0,a1,a2,a3,a4,a5,a6,a7,a8,a9,b0,b1,b2,b3,b4,b5,rfl⟩
theorem Cbx{s:Int}{t p:List Int32}(h:OkF s t p)(x:Int32):Awf s t p x=some (s,t,x::p.take 15,0):=by
 obtain⟨hs,ht,hp⟩:=h
 rw[Awf,Ai5,Bce ⟨hs,ht,hp⟩,Aa,if_neg (by rw[Al];simp),show vwI (16:Int) 1 16=some ()from rfl,Aa,show vwI (16:Int) 0 16=some ()from rfl,Aa,Art,Ba5]
 obtain⟨a0,a1,a2,a3,a4,a5,a6,a7,a8,a9,b0,b1,b2,b3,b4,b5,rfl⟩:=Ccw hp
 rfl
def shf(p:List Int32)(i:Nat):List Int32:=(List.range 16).map fun k=>if k≤i then p.getD k 0 else p.getD (k-1) 0
theorem Xs(p:List Int32)(i:Nat):(shf p i).length=16:=by simp[shf]
theorem Ccu(p:List Int32)(i k:Nat)(h:k<16):(shf p i).getD k 0=if k≤i then p.getD k 0 else p.getD (k-1) 0:=by
 rw[Mh (by rw[Xs];exact h)];simp[shf]
theorem Cbm(p:List Int32)(i:Nat)(h:i+1<16):Kw (shf p (i+1)) ((i+1:Nat):Int) (p.getD i 0)=some (shf p i):=by
 rw[Wc _ (by rw[Xs];exact h)]
 congr 1
 apply List.ext_getElem (by simp[Xs])
 intro k h1 h2
 rw[Xs]at h2
 rw[List.getElem_set]
 simp only[shf,List.getElem_map,List.getElem_range]
 by_cases hk:i+1=k
 ·subst hk;rw[if_pos rfl,if_neg (by omega)];rfl
 ·rw[if_neg hk]
  by_cases h3:k≤i
  ·rw[if_pos (by omega),if_pos h3]
  ·rw[if_neg (by omega),if_neg h3]
theorem Bdx(s:Int)(t p:List Int32)(x:Int32)(hp:p.length=16):∀(i q:Nat),i<16→i<q→Hh x s t q (i:Int) (shf p i)=some (s,t,x::p.take 15)
 |0,q+1,_,_=>by
  have hg:Ak (shf p 0) (0:Int)=some ((shf p 0).getD 0 0):=g32 (l:=shf p 0) (k:=0) (by rw[Xs];omega)
  have hset:Kw (shf p 0) (0:Int) x=some ((shf p 0).set 0 x):=Wc (l:=shf p 0) (n:=0) x (by rw[Xs];omega)
  rw[Hh,Qg,if_neg (by rw[Ap];simp),Aal,Ab6,hg,Aa,hset,Aa]
  congr 3
  apply List.ext_getElem (by simp[Xs,hp])
  intro k h1 h2
  rw[List.length_set,Xs]at h1
  rw[List.getElem_set]
  cases k with
  |zero=>rw[if_pos rfl];rfl
  |succ k=>
   rw[if_neg (by omega)]
   simp only[shf,List.getElem_map,List.getElem_range,List.getElem_cons_succ,List.getElem_take]
   rw[if_neg (by omega),Nat.add_sub_cancel,Mh (by omega)]
 |i+1,q+1,hi,hq=>by
  have hg:=g32 (l:=shf p (i+1)) (k:=i) (by rw[Xs];omega)
  rw[Ccu p (i+1) i (by omega),if_pos (by omega)]at hg
  have e1:Ah ((i+1:Nat):Int) (1:Int)=(i:Int):=by rw[Bp (by omega) (by omega)];omega
  have hg2:=g32 (l:=shf p (i+1)) (k:=i+1) (by rw[Xs];omega)
  rw[Hh,Qg,if_pos (by rw[Ap];simp),e1,hg,Aa,Aa,hg2,Aa,Cbm p i hi,Aa]
  exact Bdx s t p x hp i q (by omega) (by omega)
theorem Bve{s:Int}{t p:List Int32}(hp:p.length=16)(x:Int32):Aij s t p x=some (s,t,x::p.take 15):=by
 have h:=Bdx s t p x hp 15 FUEL (by omega) (by have:=Am;omega)
 have e:shf p 15=p:=by
  apply List.ext_getElem (by rw[Xs,hp])
  intro k h1 h2
  rw[Xs]at h1
  simp only[shf,List.getElem_map,List.getElem_range]
  rw[if_pos (by omega),Mh h2]
 rw[e]at h
 exact h
theorem Bx9{s:Int}{t p:List Int32}(h:OkF s t p)(w x:Int32):OkF s (lrn t p w) (x::p.take 15):=⟨h.1,Afc _ _ _,by simp[h.2.2]⟩
theorem Ccf{s:Int}{t p:List Int32}(h:OkF s t p)(y:Int32):Au1 s t p y=some (y+gF s t p,s,lrn t p y,(y+gF s t p)::p.take 15,0):=by
 rw[Au1,Bw4 h,Aa]
 simp only
 rw[if_neg (by rw[Al];simp),Aps,Aq2,Bxw h,Aa]
 simp only
 rw[Cbx (s:=s) (t:=lrn t p y) (p:=p) ⟨h.1,Afc _ _ _,h.2.2⟩,Aa];rfl
theorem Bvz{s:Int}{t p:List Int32}(h:OkF s t p)(y:Int32):Tw s t p y=some (y+gF s t p,s,lrn t p y,(y+gF s t p)::p.take 15):=by
 rw[Tw,Cau h,Aa,Azx,Aa,Bq3 h,Aa]
 simp only
 rw[Bve h.2.2,Aa]
def sB(bits:Int):Int:=if bits=16 then 9 else 10
def shB(bits:Int):Int:=if bits=8 then 4 else 5
def Ct(bits:Int):Prop:=bits=8∨bits=16∨bits=24
def gs(sh:Int)(last:Int32):Int32:=Ad (Bd6 (Ah (Df (Ad last:Int) sh.toNat) (Ad last)) sh.toNat)
theorem Cf3(bits:Int):sB bits=9∨sB bits=10:=by unfold sB;split<;>simp
theorem Cbt(bits:Int):0≤shB bits:=by unfold shB;split<;>omega
theorem Cgu{bits:Int}(h:Ct bits)(t:List Int32):Azj bits t=some (sB bits,t,List.replicate 16 0,0):=by
 obtain rfl|rfl|rfl:=h<;>rfl
theorem Cee{bits:Int}(h:Ct bits):Auw bits=some (shB bits,0):=by
 obtain rfl|rfl|rfl:=h<;>rfl
theorem Cd6{sh:Int}(h:0≤sh)(last:Int32):Amk sh last=some (gs sh last):=by
 rw[Amk,Db (by rw[Eb];simpa using h),Aa,Aa];rfl
theorem Cej{bits:Int}(h:Ct bits)(last:Int32):Uz bits last=some (gs (shB bits) last,0):=by
 rw[Uz,Cee h,Aa]
 simp only
 rw[if_neg (by rw[Al];simp),Cd6 (Cbt bits),Aa]
theorem Bqn{bits:Int}(h:Ct bits)(last:Int32)(t p:List Int32):Tz bits last (sB bits) t p=some 0:=by
 rw[Tz,Cgu h,Aa]
 simp only
 rw[if_neg (by rw[Al,Al];simp)]
theorem Bua{bits:Int}(h:Ct bits){t p:List Int32}(hF:OkF (sB bits) t p)(last y:Int32):
  Kh bits last (sB bits) t p y=some (y+gF (sB bits) t p+gs (shB bits) last,bits,y+gF (sB bits) t p+gs (shB bits) last,sB bits,lrn t p y,(y+gF (sB bits) t p)::p.take 15,0):=by
 rw[Kh,Bqn h,Aa,if_neg (by rw[Al];simp),Cej h,Aa]
 simp only
 rw[Ccf hF,Aa]
 simp only
 rw[Aps]
theorem Bbu(sh:Int)(hs:sh=4∨sh=5)(last:Int32):Og sh last=some (gs sh last):=by
 have hl:=Aa7 last
 have key:∀n:Int,n=16∨n=32→gs sh last=Int32.ofInt (((n-1)*last.toInt).fdiv n)→Qq last n=some (gs sh last):=by
  intro n hn hg
  have e:Bk (Ah n (1:Int)) (Ad last:Int)=(n-1)*last.toInt:=by
   obtain rfl|rfl:=hn<;>(rw[Ew,Bp (by omega) (by omega),Ih (by omega) (by omega)])
  rw[Qq,Aat,Db (by rw[Al];simp;omega),Aa,Aa,e,Bpv _ n (by omega) (by obtain rfl|rfl:=hn<;>omega) (by obtain rfl|rfl:=hn<;>omega),hg]
 rw[Og,Aco]
 obtain rfl|rfl:=hs
 ·rw[if_neg (by rw[As];decide)]
  refine key 16 (.inl rfl) ?_
  have e:Df (Ad last:Int) (4:Int).toNat=last.toInt*16:=by
   rw[Ew];show wrap64 (last.toInt*2^4)=_;rw[Ch]<;>omega
  rw[gs,e,Ew,Bp (by omega) (by omega),Ajj]
  show Int32.ofInt ((last.toInt*16-last.toInt).fdiv 16)=_
  congr 2;omega
 ·rw[if_pos (by rw[As];rfl)]
  refine key 32 (.inr rfl) ?_
  have e:Df (Ad last:Int) (5:Int).toNat=last.toInt*32:=by
   rw[Ew];show wrap64 (last.toInt*2^5)=_;rw[Ch]<;>omega
  rw[gs,e,Ew,Bp (by omega) (by omega),Ajj]
  show Int32.ofInt ((last.toInt*32-last.toInt).fdiv 32)=_
  congr 2;omega
theorem Bwe{bits:Int}(h:Ct bits){t p:List Int32}(hF:OkF (sB bits) t p)(last y:Int32):
  Up bits last (sB bits) t p y=some (y+gF (sB bits) t p+gs (shB bits) last,bits,y+gF (sB bits) t p+gs (shB bits) last,sB bits,lrn t p y,(y+gF (sB bits) t p)::p.take 15):=by
 have hb:Wa bits last (sB bits) t p=some (Ad (gs (shB bits) last):Int):=by
  rw[Wa]
  obtain rfl|rfl|rfl:=h
  ·rw[if_pos (by rw[As];rfl),Bbu 4 (.inl rfl),Aa];rfl
  ·rw[if_neg (by rw[As];decide),Bbu 5 (.inr rfl),Aa];rfl
  ·rw[if_neg (by rw[As];decide),Bbu 5 (.inr rfl),Aa];rfl
 rw[Up,Bvz hF,Aa]
 simp only
 rw[hb,Aa,Azx,Aa]
theorem Cfg{bits:Int}(h:Ct bits)(t:List Int32):Ape bits t=some (bits,0,sB bits,t,List.replicate 16 0,0):=by
 obtain rfl|rfl|rfl:=h<;>rfl
def As0(n:UInt32):Int32:=if n.toNat %2=0 then Int32.ofInt ((n.toNat/2:Nat):Int)else Int32.ofInt (-((n.toNat/2:Nat):Int)-1)
theorem Bpz(a b:Int32):(Wm a b).toBitVec=a.toBitVec^^^b.toBitVec:=by
 show(Int32.ofInt ((BitVec.ofInt 32 a.toBitVec.toInt^^^BitVec.ofInt 32 b.toBitVec.toInt).toNat:Int)).toBitVec=_
 rw[BitVec.ofInt_toInt,BitVec.ofInt_toInt,Int32.toBitVec_ofInt,BitVec.ofInt_natCast,BitVec.ofNat_toNat,BitVec.setWidth_eq]
theorem Cf0(m:Nat)(h:m<2147483648):Wm (Int32.ofInt (m:Int)) (Int32.ofInt (-1))=Int32.ofInt (-(m:Int)-1):=by
 apply Int32.toBitVec_inj.1
 have e1:(Int32.ofInt (-1)).toBitVec=BitVec.allOnes 32:=by decide
 rw[Bpz,e1,BitVec.xor_allOnes,Int32.toBitVec_ofInt,Int32.toBitVec_ofInt]
 apply BitVec.eq_of_toNat_eq
 rw[BitVec.toNat_not,BitVec.toNat_ofInt,BitVec.toNat_ofInt]
 omega
theorem Bw0(n:UInt32):Vn n=some (As0 n):=by
 have hn:=n.toNat_lt
 have e1:(Ad (Bv n (GI.toZ (1:UInt64)).toNat):Int32)=Int32.ofInt ((n.toNat/2:Nat):Int):=by
  show Int32.ofInt ((Bv n 1).toNat:Int)=_
  rw[Aqa]
 have e2:(Ad (Dq n (1:UInt32)):Int32)=Int32.ofInt ((n.toNat %2:Nat):Int):=by
  show Int32.ofInt ((Dq n (1:UInt32)).toNat:Int)=_
  rw[Bnp,UInt32.toNat_and]
  show Int32.ofInt ((n.toNat&&&1:Nat):Int)=_
  rw[Nat.and_one_is_mod]
 rw[Vn,e1,e2,As0]
 congr 1
 by_cases h:n.toNat %2=0
 ·have e3:Azu (Int32.ofInt ((n.toNat %2:Nat):Int))=Int32.ofInt 0:=by rw[h];decide
  rw[if_pos h,e3]
  apply Int32.toBitVec_inj.1
  rw[Bpz,show(Int32.ofInt 0).toBitVec=0#32 from rfl,BitVec.xor_zero]
 ·have e3:Azu (Int32.ofInt ((n.toNat %2:Nat):Int))=Int32.ofInt (-1):=by rw[show n.toNat %2=1 by omega];decide
  rw[if_neg h,e3,Cf0 _ (by omega)]
theorem Cay(n:UInt32):Acv n=some (As0 n):=by
 have hn:=n.toNat_lt
 have e1:geq (Aaj n (2:UInt32)) (0:UInt32)=decide (n.toNat %2=0):=by
  rw[Bly,Bpi,Bool.eq_iff_iff]
  simp only[beq_iff_eq,←UInt32.toNat_inj,UInt32.toNat_mod,decide_eq_true_eq];rfl
 rw[Acv,e1,As0]
 by_cases h:n.toNat %2=0
 ·rw[if_pos (by simpa using h),if_pos h,Bnu];rfl
 ·have e2:(Ad n:Int)=(n.toNat:Int):=Brt n
  rw[if_neg (by simpa using h),if_neg h,e2,Aj (by omega) (by omega),Bql,Ch (by omega) (by omega),Ag8,Int.tdiv_eq_ediv,Ajj]
  congr 2
  rw[if_pos (.inr (by omega)),Ch (by omega) (by omega)];omega
end Go.Pl
set_option linter.unusedVariables false
set_option linter.unusedSimpArgs false
namespace Go.Pl
open Go Go.Lv
theorem Bo3{c:Prop} [Decidable c](h:c):Hx (decide c)=some ():=by rw[decide_eq_true h];rfl
def unV(f:Nat→Int32)(ch:Nat):Nat→Int32
 |0=>if 1<ch then f (ch-1)+Bw (f (ch-2)) (2:Int32)else f (ch-1)
 |j+1=>unV f ch j-f (ch-2-j)
def unm(ch:Nat)(m:List Int32):List Int32:=(List.range m.length).map fun k=>unV (fun i=>m.getD (k-k %ch+i) 0) ch (ch-1-k %ch)
theorem Av6(ch:Nat)(m:List Int32):(unm ch m).length=m.length:=by simp[unm]
theorem Bei{ch:Nat}{m:List Int32}{a i:Nat}(ha:a %ch=0)(hi:i<ch)(h:a+i<m.length):(unm ch m).getD (a+i) 0=unV (fun i=>m.getD (a+i) 0) ch (ch-1-i):=by
 have hb:(a+i) %ch=i:=by rw[Nat.add_mod,ha,Nat.zero_add,Nat.mod_mod,Nat.mod_eq_of_lt hi]
 rw[Mh (by rw[Av6];exact h)]
 simp only[unm,List.getElem_map,List.getElem_range,hb]
 rw[show a+i-i=a by omega]
section
variable (ch:Nat) (m:List Int32)
theorem Byy(h1:1≤ch)(h6:ch≤6)(hm:m.length %ch=0)(hl2:m.length≤4000):Ap4 (ch:Int) m=some 0:=by
 rw[Ap4,if_neg (by simp[Af,Ap];omega),if_neg (by rw[Ap,Ac];simp;omega),Db (by rw[Al];simp;omega),Aa,if_neg]
 rw[Al,Fz,Ac,←Int.ofNat_tmod,hm];simp
theorem Bik(bk:Int→List Int32→Option (List Int32×Int))(at':Nat)(h1:1≤ch)(h6:ch≤6)(hm:at' %ch=0)(hl:at'+ch≤m.length)(hl2:m.length≤4000):∀(i q:Nat),i≤ch-1→i<q→
  Vj bk (ch:Int) (at':Int) q ((i:Int)-1) (sel (fun k=>decide (k<at'∨(at'+i≤k∧k<at'+ch))) (unm ch m) m)=bk ((at'+ch:Nat):Int) (sel (fun k=>decide (k<at'+ch)) (unm ch m) m)
 |0,q+1,hi,_=>by
  have e4:Ae (at':Int) (ch:Int)=((at'+ch:Nat):Int):=by rw[Aj (by omega) (by omega)];omega
  rw[Vj,Ai7,if_neg (by rw[Eb];simp),Are,Azk,e4]
  congr 1
  apply Zf
  intro k _
  rw[Bool.eq_iff_iff];simp;omega
 |i+1,q+1,hi,hq=>by
  have hlen:=Av6 ch m
  have e2:Ae (at':Int) (ch:Int)-(at':Int)=(ch:Int):=by rw[Aj (by omega) (by omega)];omega
  have e3:Ae (i:Int) 1=((i+1:Nat):Int):=by rw[Aj (by omega) (by omega)];omega
  have hv:((unm ch m).getD (at'+(i+1)) 0-m.getD (at'+i) 0)=(unm ch m).getD (at'+i) 0:=by
   rw[Bei hm (by omega) (by omega),Bei hm (by omega) (by omega),show ch-1-i=(ch-1-(i+1))+1 by omega,unV,show ch-2-(ch-1-(i+1))=i by omega]
  rw[Vj,Ai7,show((i+1:Nat):Int)-1=(i:Int) by omega,if_pos (by rw[Eb];simp),e2,e3,Bo3 (by omega),Aa,Bo3 (by omega),Aa,
   show(at':Int)+((i+1:Nat):Int)=((at'+(i+1):Nat):Int) by omega,show(at':Int)+(i:Int)=((at'+i:Nat):Int) by omega,
   Amu (by omega),Aa,Amu (by omega),Aa,Aa,if_pos (by simp;omega),if_neg (by simp;omega),Bh8,hv,Azf (by omega),Aa,Bp (by omega) (by omega)]
  have ih:=Bik bk at' h1 h6 hm hl hl2 i q (by omega) (by omega)
  rw[←ih]
  congr 1
  apply Zf
  intro k _
  rw[Bool.eq_iff_iff];simp;omega
theorem Bm0{at' ch n:Nat}(ha:at' %ch=0)(hm:n %ch=0)(h:at'<n):at'+ch≤n:=by
 have d1:=Nat.div_add_mod at' ch
 have d2:=Nat.div_add_mod n ch
 rw[ha,Nat.add_zero]at d1
 rw[hm,Nat.add_zero]at d2
 have hlt:at'/ch<n/ch:=by
  rcases Nat.lt_or_ge (at'/ch) (n/ch)with h'|h'
  ·exact h'
  ·have:=Nat.mul_le_mul_left ch h';omega
 have:=Nat.mul_le_mul_left ch (show at'/ch+1≤n/ch from hlt)
 rw[Nat.mul_add]at this;omega
theorem Bi7(h1:1≤ch)(h6:ch≤6)(hm:m.length %ch=0)(hl2:m.length≤4000):∀(j at' q:Nat),at' %ch=0→at'≤m.length→m.length-at'≤j→j<q→
  Qt (ch:Int) q (at':Int) (sel (fun k=>decide (k<at')) (unm ch m) m)=some (unm ch m,0)
 |j,at',q+1,ha,hle,hj,hq=>by
  have hlen:=Av6 ch m
  have hl:Ac (sel (fun k=>decide (k<at')) (unm ch m) m)=(m.length:Int):=by rw[Ac,Aqm,hlen]
  rw[Qt,Arv,hl]
  by_cases h:at'<m.length
  ·have hb:=Bm0 ha hm h
   obtain⟨j,rfl⟩:∃k,j=k+1:=⟨j-1,by omega⟩
   have e1:Ah (Ae (at':Int) (ch:Int)-(at':Int)) 1=((ch-1:Nat):Int):=by rw[Aj (by omega) (by omega),Bp (by omega) (by omega)];omega
   have e2:Ae (at':Int) (ch:Int)-(at':Int)=(ch:Int):=by rw[Aj (by omega) (by omega)];omega
   have e4:Ae (at':Int) (ch:Int)=((at'+ch:Nat):Int):=by rw[Aj (by omega) (by omega)];omega
   have hi:=Bik ch m (Qt (ch:Int) q) at' h1 h6 ha hb hl2 (ch-1) FUEL (by omega) (by have:=Am;omega)
   have hrest:=Bi7 h1 h6 hm hl2 j (at'+ch) q (by rw[Nat.add_mod_right,ha]) hb (by omega) (by omega)
   have hstart:Ai0 (Qt (ch:Int) q) (ch:Int) (at':Int) (sel (fun k=>decide (k<at'∨(at'+(ch-1)≤k∧k<at'+ch))) (unm ch m) m)=some (unm ch m,0):=by
    have e6:Ah ((ch-1:Nat):Int) 1=((ch-1:Nat):Int)-1:=Bp (by omega) (by omega)
    rw[Ai0,Aqd,Ark,e1,e6]
    exact Eq.trans hi hrest
   rw[if_pos (by rw[Af];simp;omega),show vwI (m.length:Int) (at':Int) (Ae (at':Int) (ch:Int))=some () by rw[e4,vwI,Bo3];omega,Aa,e1,e2]
   have hlast:=Bei (m:=m) ha (show ch-1<ch by omega) (by omega)
   rw[show ch-1-(ch-1)=0 by omega,unV]at hlast
   by_cases hc:1<ch
   ·have e5:Ah ((ch-1:Nat):Int) 1=((ch-2:Nat):Int):=by rw[Bp (by omega) (by omega)];omega
    rw[if_pos hc]at hlast
    rw[if_pos (by rw[Ap];simp;omega),Bo3 (by omega),Aa,e5,Bo3 (by omega),Aa,show(at':Int)+((ch-1:Nat):Int)=((at'+(ch-1):Nat):Int) by omega,show(at':Int)+((ch-2:Nat):Int)=((at'+(ch-2):Nat):Int) by omega,
     Amu (by omega),Aa,Amu (by omega),Aa,Aa,if_neg (by simp),if_neg (by simp),Aps,←hlast,Azf (by omega),Aa]
    rw[←hstart]
    congr 1
    apply Zf
    intro k _
    rw[Bool.eq_iff_iff];simp;omega
   ·have hc1:ch=1:=by omega
    rw[if_neg (by rw[Ap];simp;omega),←hstart]
    congr 1
    rw[if_neg hc]at hlast
    apply List.map_congr_left
    intro k hk
    by_cases hk2:k=at'
    ·subst hk2
     rw[if_neg (by simp),if_pos (by simp;omega)]
     rw[show k+(ch-1)=k by omega]at hlast
     exact hlast.symm
    ·by_cases hk3:k<at'
     ·rw[if_pos (by simp;omega),if_pos (by simp;omega)]
     ·rw[if_neg (by simp;omega),if_neg (by simp;omega)]
  ·rw[if_neg (by rw[Af];simp;omega),Azz (fun k hk=>by simp;omega)]
   rfl
theorem Cbj(h1:1≤ch)(h6:ch≤6)(hm:m.length %ch=0)(hl2:m.length≤4000):Aze (ch:Int) m=some (unm ch m,0):=by
 have hlen:=Av6 ch m
 have h:=Bi7 ch m h1 h6 hm hl2 m.length 0 FUEL (by simp) (by omega) (by omega) (by have:=Am;omega)
 rw[Aze,Avn,Byy ch m h1 h6 hm hl2,Aa,if_neg (by rw[Al];simp),Dj,Cm (by simp;omega),Aa,Aa,List.nil_append,Aq7]
 rw[Ba8 hlen.symm (fun k _=>by simp)]at h
 exact h
end
def Bck(f:Nat→Int32)(ch:Nat):List Int32:=(List.range ch).map fun i=>unV f ch (ch-1-i)
theorem Ao3(f:Nat→Int32)(ch:Nat):(Bck f ch).length=ch:=by simp[Bck]
theorem Bao(f:Nat→Int32){ch i:Nat}(h:i<ch):(Bck f ch).getD i 0=unV f ch (ch-1-i):=by
 rw[Mh (by rw[Ao3];exact h)];simp[Bck]
theorem Bzi(a b:Int32):Cl (Ah (Ad a:Int) (Ad b:Int))=some (a-b):=by
 have:=Aa7 a
 have:=Aa7 b
 rw[Ew,Ew,Bp (by omega) (by omega),Beo,Int32.ofInt_sub,Int32.ofInt_toInt,Int32.ofInt_toInt]
theorem Bwd(a b:Int32):Cl (Ae (Ad a:Int) (Bw (Ad b:Int) (2:Int)))=some (a+Bw b (2:Int32)):=by
 have:=Aa7 a
 have hb:=Aa7 b
 have hd: -2147483648≤b.toInt.tdiv 2∧b.toInt.tdiv 2≤2147483648:=by
  rw[Int.tdiv_eq_ediv,show Int.sign 2=1 from rfl]
  by_cases h:0≤b.toInt∨2∣b.toInt
  ·rw[if_pos h];omega
  ·rw[if_neg h];omega
 have e:Bw b (2:Int32)=Int32.ofInt (b.toInt.tdiv 2):=rfl
 rw[Ew,Ew,Ag8,Ch (by omega) (by omega),Aj (by omega) (by omega),Beo,Int32.ofInt_add,Int32.ofInt_toInt,e]
theorem Az6(seg z:List Int32)(ch:Nat)(h6:ch≤6)(hs:seg.length=ch)(hz:z.length=ch):∀(i q:Nat),i+1≤ch→i<q→
  Gx seg q ((i:Int)-1) (sel (fun k=>decide (i≤k)) (Bck (fun i=>seg.getD i 0) ch) z)=some (Bck (fun i=>seg.getD i 0) ch)
 |0,q+1,hi,_=>by
  rw[Gx,Pe,if_neg (by rw[Eb];simp),Azz (fun k hk=>by simp)];rfl
 |i+1,q+1,hi,hq=>by
  have hlen:=Ao3 (fun i=>seg.getD i 0) ch
  have e3:Ae (i:Int) 1=((i+1:Nat):Int):=by rw[Aj (by omega) (by omega)];omega
  have hv:(Bck (fun i=>seg.getD i 0) ch).getD (i+1) 0-seg.getD i 0=(Bck (fun i=>seg.getD i 0) ch).getD i 0:=by
   rw[Bao _ (by omega),Bao _ (by omega),show ch-1-i=(ch-1-(i+1))+1 by omega,unV,show ch-2-(ch-1-(i+1))=i by omega]
  rw[Gx,Pe,show((i+1:Nat):Int)-1=(i:Int) by omega,if_pos (by rw[Eb];simp),e3,Amu (by omega),Aa,g32 (by omega),Aa,Aa,if_pos (by simp),Bzi,Aa,Amu (by omega),Aa,hv,Azf (by omega),Aa,Bp (by omega) (by omega)]
  have ih:=Az6 seg z ch h6 hs hz i q (by omega) (by omega)
  rw[←ih]
  congr 1
  apply Zf
  intro k _
  rw[Bool.eq_iff_iff];simp;omega
theorem Bo5{l:List Int32}{i:Nat}(v:Int32)(h:i<l.length):(l.set i v).getD i 0=v:=by
 rw[Mh (by rw[List.length_set];exact h)];simp
theorem Bsa(seg:List Int32)(ch:Nat)(h1:1≤ch)(h6:ch≤6)(hs:seg.length=ch):Uu seg=some (Bck (fun i=>seg.getD i 0) ch):=by
 have hlen:=Ao3 (fun i=>seg.getD i 0) ch
 have hzl:(List.replicate ch (0:Int32)).length=ch:=by simp
 have e1:Ah (Ac seg) 1=((ch-1:Nat):Int):=by rw[Ac,hs,Bp (by omega) (by omega)];omega
 have e2:Ah (Ac seg) 2=((ch-1:Nat):Int)-1:=by rw[Ac,hs,Bp (by omega) (by omega)];omega
 have hlast:=Bao (fun i=>seg.getD i 0) (show ch-1<ch by omega)
 rw[show ch-1-(ch-1)=0 by omega,unV]at hlast
 have hend:∀z:List Int32,z.length=ch→z.getD (ch-1) 0=(Bck (fun i=>seg.getD i 0) ch).getD (ch-1) 0→Pq seg z=some (Bck (fun i=>seg.getD i 0) ch):=by
  intro z hz hzl
  have h:=Az6 seg z ch h6 hs hz (ch-1) FUEL (by omega) (by have:=Am;omega)
  have e:sel (fun k=>decide (ch-1≤k)) (Bck (fun i=>seg.getD i 0) ch) z=z:=by
   apply List.ext_getElem (by rw[Aqm,hlen,hz])
   intro k k1 k2
   rw[Zn]
   by_cases hk:ch-1≤k
   ·obtain rfl:k=ch-1:=by omega
    rw[if_pos (by simp),←hzl,Mh k2]
   ·rw[if_neg (by simpa using hk),Mh k2]
  rw[e]at h
  rw[Pq,Zk,e2]
  exact h
 rw[Uu,Aac,Ac,hs,Bid (by omega) (by omega),Aa,Db (by rw[As];simp),Aa]
 rw[Ac,hs]at e1
 rw[Ac,hs]at e2
 have hz1:(List.replicate (Int.toNat (ch:Int)) (0:Int32)).length=ch:=by simp
 have hs1:=g32 (l:=seg) (k:=ch-1) (by omega)
 rw[e1,hs1,Aa,g32 (by omega),Aa,Wc _ (by omega),Aa]
 by_cases hc:1<ch
 ·rw[if_pos hc]at hlast
  have e3:((ch-1:Nat):Int)-1=((ch-2:Nat):Int):=by omega
  have hs2:=g32 (l:=seg) (k:=ch-2) (by omega)
  rw[if_pos (by rw[Ap];simp;omega),Aa,e2,e3,hs2,Aa,Bwd,Aa,g32 (by rw[List.length_set];omega),Aa,Wc _ (by rw[List.length_set];omega),Aa]
  refine hend _ (by simp) ?_
  rw[hlast,Bo5 _ (by rw[List.length_set];omega)]
 ·rw[if_neg hc]at hlast
  rw[if_neg (by rw[Ap];simp;omega)]
  refine hend _ (by simp) ?_
  rw[hlast,Bo5 _ (by omega)]
theorem Cbl(ch:Nat)(m:List Int32)(h1:1≤ch)(h6:ch≤6)(hm:m.length %ch=0)(hl2:m.length≤4000):Qm (ch:Int) m=some 0:=by
 rw[Qm,if_neg (by simp[Af,Ap];omega),if_neg (by rw[Ap,Ac];simp;omega),Db (by rw[Al];simp;omega),Aa,if_neg]
 rw[Ap,Fz,Ac,←Int.ofNat_tmod,hm];simp
theorem Bdw(ch:Nat)(m:List Int32)(h1:1≤ch)(h6:ch≤6)(hm:m.length %ch=0)(hl2:m.length≤4000):∀(j at' q:Nat),at' %ch=0→at'≤m.length→m.length-at'≤j→j<q→
  Ni (ch:Int) m q (at':Int) ((unm ch m).take at')=some (unm ch m,0)
 |j,at',q+1,ha,hle,hj,hq=>by
  have hlen:=Av6 ch m
  rw[Ni,Af7]
  by_cases h:at'<m.length
  ·have hb:=Bm0 ha hm h
   have e4:Ae (at':Int) (ch:Int)=((at'+ch:Nat):Int):=by rw[Aj (by omega) (by omega)];omega
   have hrest:=Bdw ch m h1 h6 hm hl2 (j-1) (at'+ch) q (by rw[Nat.add_mod_right,ha]) hb (by omega) (by omega)
   have hseg:((m.take (at'+ch)).drop at').length=ch:=by simp;omega
   have htl:((unm ch m).take at').length=at':=by simp[hlen];omega
   rw[if_pos (by rw[Af,Ac];simp;omega),e4,Aee (by omega) (by omega) (by omega),Aa,show((at'+ch:Nat):Int).toNat=at'+ch from rfl,show(at':Int).toNat=at' from rfl,Bsa _ ch h1 h6 hseg,Aa,Cm (by rw[htl,Ao3];omega),Aa]
   have e:(unm ch m).take at'++Bck (fun i=>((m.take (at'+ch)).drop at').getD i 0) ch=(unm ch m).take (at'+ch):=by
    apply List.ext_getElem (by rw[List.length_append,htl,Ao3,List.length_take,hlen];omega)
    intro k k1 k2
    rw[List.length_take,hlen]at k2
    rw[List.getElem_append,List.getElem_take]
    by_cases hk:k<at'
    ·rw[dif_pos (by rw[htl];exact hk),List.getElem_take]
    ·rw[dif_neg (by rw[htl];exact hk)]
     have hu:=Bei (m:=m) ha (show k-at'<ch by omega) (by omega)
     rw[show at'+(k-at')=k by omega,Mh (by omega)]at hu
     have hx:∀n,n≤ch→unV (fun i=>((m.take (at'+ch)).drop at').getD i 0) ch n=unV (fun i=>m.getD (at'+i) 0) ch n:=by
      have hf:∀i,i<ch→((m.take (at'+ch)).drop at').getD i 0=m.getD (at'+i) 0:=by
       intro i hi
       rw[Mh (by omega),Mh (by omega)];simp
      intro n
      induction n with
      |zero=>
       intro _;rw[unV,unV,hf _ (by omega)];split
       ·rw[hf _ (by omega)]
       ·rfl
      |succ n ih=>intro hn;rw[unV,unV,ih (by omega),hf _ (by omega)]
     have hy:=Bao (fun i=>((m.take (at'+ch)).drop at').getD i 0) (show k-at'<ch by omega)
     rw[Mh (by rw[Ao3];omega)]at hy
     rw[hu,←hx _ (by omega),←hy]
     congr 1
     rw[htl]
   rw[e]
   exact hrest
  ·rw[if_neg (by rw[Af,Ac];simp;omega),List.take_of_length_le (by omega)];rfl
theorem Bvq(ch:Nat)(m:List Int32)(h1:1≤ch)(h6:ch≤6)(hm:m.length %ch=0)(hl2:m.length≤4000):Ab5 (ch:Int) m=some (unm ch m,0):=by
 have h:=Bdw ch m h1 h6 hm hl2 m.length 0 FUEL (by simp) (by omega) (by omega) (by have:=Am;omega)
 rw[Ab5,Afu,Cbl ch m h1 h6 hm hl2,Aa,if_neg (by rw[Al];simp)]
 exact h
end Go.Pl
set_option linter.unusedVariables false
set_option linter.unusedSimpArgs false
namespace Go.Pl
open Go Go.Lv
def pre{α:Type}(ch c:Nat)(f:α→Nat→α)(a0:α):Nat→α
 |0=>a0
 |m+1=>if m %ch=c then f (pre ch c f a0 m) m else pre ch c f a0 m
theorem Btp{α:Type}(ch c:Nat)(f:α→Nat→α)(a0:α):∀m,m≤c→c<ch→pre ch c f a0 m=a0
 |0,_,_=>rfl
 |m+1,h,h2=>by rw[pre,if_neg (by rw[Nat.mod_eq_of_lt (by omega)];omega),Btp ch c f a0 m (by omega) h2]
theorem Bnt{α:Type}(ch c i:Nat)(f:α→Nat→α)(a0:α)(hi:i %ch=c)(hc:c<ch):∀j,j<ch→pre ch c f a0 (i+1+j)=pre ch c f a0 (i+1)
 |0,_=>rfl
 |j+1,h=>by
  have hne:(i+1+j) %ch≠c:=by
   intro e
   have h1:(i+(1+j)) %ch=i %ch:=by rw[hi,←e];congr 1;omega
   have h2:(1+j) %ch=0:=by
    have h3:=Nat.sub_mod_eq_zero_of_mod_eq h1
    rwa [Nat.add_sub_cancel_left]at h3
   rw[Nat.mod_eq_of_lt (by omega)]at h2;omega
  rw[show i+1+(j+1)=(i+1+j)+1 by omega,pre,if_neg hne,Bnt ch c i f a0 hi hc j (by omega)]
theorem Bw8{α:Type}(ch c i:Nat)(f:α→Nat→α)(a0:α)(hi:i %ch=c)(hc:c<ch):pre ch c f a0 (i+ch)=f (pre ch c f a0 i) i:=by
 have h:=Bnt ch c i f a0 hi hc (ch-1) (by omega)
 rw[show i+1+(ch-1)=i+ch by omega]at h
 rw[h,pre,if_pos hi]
abbrev CS:=Int32×List Int32×List Int32
def By7(bits:Int)(s:CS)(y:Int32):Int32:=y+gF (sB bits) s.2.1 s.2.2+gs (shB bits) s.1
def Bs6(bits:Int)(s:CS)(y:Int32):CS:=(By7 bits s y,lrn s.2.1 s.2.2 y,(y+gF (sB bits) s.2.1 s.2.2)::s.2.2.take 15)
def cst(bits:Int)(ch:Nat)(t:List Int32)(v:List UInt32)(c:Nat):Nat→CS:=pre ch c (fun s i=>Bs6 bits s (As0 (v.getD i 0))) (0,t,List.replicate 16 0)
def OkC(bits:Int)(s:CS):Prop:=OkF (sB bits) s.2.1 s.2.2
theorem Brc(bits:Int)(ch:Nat){t:List Int32}(ht:t.length=16)(v:List UInt32)(c:Nat):∀m,OkC bits (cst bits ch t v c m)
 |0=>⟨Cf3 bits,ht,by simp[cst,pre]⟩
 |m+1=>by
  have ih:=Brc bits ch ht v c m
  rw[cst,pre]
  split
  ·exact Bx9 ih _ _
  ·exact ih
def smp(bits:Int)(ch:Nat)(t:List Int32)(v:List UInt32):List Int32:=(List.range v.length).map fun i=>By7 bits (cst bits ch t v (i %ch) i) (As0 (v.getD i 0))
theorem Awr(bits:Int)(ch:Nat)(t:List Int32)(v:List UInt32):(smp bits ch t v).length=v.length:=by simp[smp]
theorem Bsx(bits:Int)(ch:Nat)(t:List Int32)(v:List UInt32){i:Nat}(h:i<v.length):(smp bits ch t v).getD i 0=By7 bits (cst bits ch t v (i %ch) i) (As0 (v.getD i 0)):=by
 rw[Mh (by rw[Awr];exact h)];simp[smp]
abbrev CL:=Int×Int32×(Int×(List Int32)×(List Int32)×Unit)×Unit
def toC(bits:Int)(s:CS):CL:=(bits,s.1,(sB bits,s.2.1,s.2.2,()),())
def cts(bits:Int)(ch:Nat)(t:List Int32)(v:List UInt32)(i:Nat):List CL:=(List.range 6).map fun c=>toC bits (cst bits ch t v c i)
theorem Ca9{bits:Int}{ch:Nat}{t:List Int32}{v:List UInt32}{i c:Nat}(h:c<6):Ak (cts bits ch t v i) (c:Int)=some (toC bits (cst bits ch t v c i)):=by
 rw[Cq (by simp[cts];exact h)];simp[cts]
theorem Bp4(bits:Int)(ch:Nat)(t:List Int32)(v:List UInt32)(c m:Nat):cst bits ch t v c (m+1)=if m %ch=c then Bs6 bits (cst bits ch t v c m) (As0 (v.getD m 0))else cst bits ch t v c m:=rfl
theorem Cam{bits:Int}{ch:Nat}{t:List Int32}{v:List UInt32}{i c:Nat}(h:c<6)(hc:i %ch=c):Kw (cts bits ch t v i) (c:Int) (toC bits (Bs6 bits (cst bits ch t v c i) (As0 (v.getD i 0))))=some (cts bits ch t v (i+1)):=by
 rw[Wc _ (by simp[cts];exact h)]
 congr 1
 apply List.ext_getElem (by simp[cts])
 intro k h1 h2
 rw[List.getElem_set]
 simp only[cts,List.getElem_map,List.getElem_range]
 by_cases hk:c=k
 ·subst hk;rw[if_pos rfl,Bp4,if_pos hc]
 ·rw[if_neg hk,Bp4,if_neg (by omega)]
section
variable {bits:Int} {ch:Nat} {t:List Int32} {v:List UInt32}
theorem Bpn(hb:Ct bits)(ht:t.length=16)(h1:1≤ch)(h6:ch≤6)(hv:v.length≤4000):∀(j i q:Nat),i+j=v.length→j<q→
  Hy v (ch:Int) bits q (i:Int) (cts bits ch t v i) ((smp bits ch t v).take i)=Kr (ch:Int) bits (smp bits ch t v)
 |0,i,q+1,hi,_=>by
  rw[Hy,Kq,if_neg (by rw[Af,Ac];simp;omega),List.take_of_length_le (by rw[Awr];omega)]
 |j+1,i,q+1,hi,hq=>by
  have hlen:=Awr bits ch t v
  have hc:i %ch<6:=Nat.lt_of_lt_of_le (Nat.mod_lt _ (by omega)) h6
  have hok:=Brc bits ch ht v (i %ch) i
  have hs:=Cam (bits:=bits) (ch:=ch) (t:=t) (v:=v) (i:=i) hc rfl
  have hx:=Bsx bits ch t v (i:=i) (by omega)
  have hcb:=Bua hb hok (cst bits ch t v (i %ch) i).1 (As0 (v.getD i 0))
  have ih:=Bpn hb ht h1 h6 hv j (i+1) q (by omega) (by omega)
  rw[Aje (by omega),←Mh (by omega),hx]at ih
  rw[Hy,Kq,if_pos (by rw[Af,Ac];simp;omega),Bgf (by omega),Aa,Db (by rw[Al];simp;omega),Aa,Big,Ca9 hc,Aa,Aa,Bw0,Aa]
  refine Eq.trans (congrArg (fun o=>Option.bind o _) hcb) ?_
  rw[Aa]
  simp only
  rw[Wx,Aie,if_neg (by rw[Al];simp),Big]
  refine Eq.trans (congrArg (fun o=>Option.bind o _) hs) ?_
  rw[Aa,Cm (by simp;omega),Aa,Aj (by omega) (by omega)]
  exact ih
theorem Bus(hb:Ct bits)(ht:t.length=16)(h1:1≤ch)(h6:ch≤6)(hv:v.length≤4000):Ra (ch:Int) bits t v=Kr (ch:Int) bits (smp bits ch t v):=by
 have h:=Bpn hb ht h1 h6 hv v.length 0 FUEL (by omega) (by have:=Am;omega)
 have e:FUEL=(FUEL-7)+1+1+1+1+1+1+1:=by have:=Am;omega
 have hs:Oi v (ch:Int) bits t 0 (List.replicate 6 ((0:Int),(0:Int32),((0:Int),(List.replicate 16 (0:Int32)),(List.replicate 16 (0:Int32)),()),()))=Wy v (ch:Int) bits (cts bits ch t v 0):=by
  rw[Oi,e]
  obtain rfl|rfl|rfl:=hb<;>rfl
 rw[Ra,Yv,hs]
 exact h
theorem Bjv(bk:Int→List Int32→Option (List Int32))(hb:Ct bits)(ht:t.length=16)(h1:1≤ch)(h6:ch≤6)(hv:v.length≤4000)(z:List Int32)(c:Nat)(hc:c<ch):∀(j i q:Nat),i %ch=c→v.length-i≤j→i≤5000→j<q→
  Kb bk v (ch:Int) bits t (c:Int) q (i:Int) (sel (fun k=>decide (k %ch<c∨(k %ch=c∧k<i))) (smp bits ch t v) z) bits (cst bits ch t v c i).1 (sB bits) (cst bits ch t v c i).2.1 (cst bits ch t v c i).2.2=
   bk ((c+1:Nat):Int) (sel (fun k=>decide (k %ch<c+1)) (smp bits ch t v) z)
 |j,i,q+1,hi,hj,hi5,hq=>by
  have hlen:=Awr bits ch t v
  rw[Kb,Zt]
  by_cases h:i<v.length
  ·have hok:=Brc bits ch ht v c i
   have hst:=Bwe hb hok (cst bits ch t v c i).1 (As0 (v.getD i 0))
   have hx:=Bsx bits ch t v (i:=i) h
   rw[hi]at hx
   have ih:=Bjv bk hb ht h1 h6 hv z c hc (j-1) (i+ch) q (by rw[Nat.add_mod_right];exact hi) (by omega) (by omega) (by omega)
   have hstep:cst bits ch t v c (i+ch)=Bs6 bits (cst bits ch t v c i) (As0 (v.getD i 0)):=Bw8 ch c i _ _ hi hc
   rw[hstep]at ih
   have hset:=Azf (p:=fun k=>decide (k %ch<c∨(k %ch=c∧k<i))) (a:=smp bits ch t v) (b:=z) (k:=i) (by omega)
   rw[hx]at hset
   have hcong:sel (fun j=>decide (j %ch<c∨(j %ch=c∧j<i))||decide (j=i)) (smp bits ch t v) z=sel (fun k=>decide (k %ch<c∨(k %ch=c∧k<i+ch))) (smp bits ch t v) z:=by
    apply Zf
    intro k _
    rw[Bool.eq_iff_iff]
    simp only[Bool.or_eq_true,decide_eq_true_eq]
    constructor
    ·rintro((h1|h1)|h1)
     ·exact .inl h1
     ·exact .inr ⟨h1.1,by omega⟩
     ·subst h1;exact .inr ⟨hi,by omega⟩
    ·rintro(h1|⟨h1,h2⟩)
     ·exact .inl (.inl h1)
     ·by_cases h3:k<i
      ·exact .inl (.inr ⟨h1,h3⟩)
      ·refine .inr ?_
       have h4:(i+(k-i)) %ch=i %ch:=by rw[show i+(k-i)=k by omega,h1,hi]
       have h5:=Nat.sub_mod_eq_zero_of_mod_eq h4
       rw[Nat.add_sub_cancel_left,Nat.mod_eq_of_lt (by omega)]at h5
       omega
   rw[hcong]at hset
   rw[if_pos (by rw[Af,Ac];simp;omega),Bgf h,Aa,Cay,Aa]
   refine Eq.trans (congrArg (fun o=>Option.bind o _) hst) ?_
   rw[Aa]
   simp only
   rw[Zo,Zz,Amu (by omega),Aa]
   refine Eq.trans (congrArg (fun o=>Option.bind o _) hset) ?_
   rw[Aa,Aad,Zx,Aj (by omega) (by omega)]
   exact ih
  ·rw[if_neg (by rw[Af,Ac];simp;omega),Zv,Zp,Aj (by omega) (by omega)]
   have hcong:sel (fun k=>decide (k %ch<c∨(k %ch=c∧k<i))) (smp bits ch t v) z=sel (fun k=>decide (k %ch<c+1)) (smp bits ch t v) z:=by
    apply Zf
    intro k hk
    rw[Bool.eq_iff_iff]
    simp only[decide_eq_true_eq]
    omega
   rw[hcong];rfl
theorem Bkb(hb:Ct bits)(ht:t.length=16)(h1:1≤ch)(h6:ch≤6)(hv:v.length≤4000)(z:List Int32):∀(j c q:Nat),c+j=ch→j<q→
  Ey v (ch:Int) bits t q (c:Int) (sel (fun k=>decide (k %ch<c)) (smp bits ch t v) z)=Oz (ch:Int) bits (smp bits ch t v)
 |0,c,q+1,hc,_=>by
  rw[Ey,Pn,if_neg (by rw[Af];simp;omega),Azz (fun k hk=>by have:=Nat.mod_lt k (show 0<ch by omega);simp;omega)]
 |j+1,c,q+1,hc,hq=>by
  have ih:=Bkb hb ht h1 h6 hv z j (c+1) q (by omega) (by omega)
  have hin:=Bjv (Ey v (ch:Int) bits t q) hb ht h1 h6 hv z c (by omega) v.length c FUEL (Nat.mod_eq_of_lt (by omega)) (by omega) (by omega) (by have:=Am;omega)
  have h0:cst bits ch t v c c=(0,t,List.replicate 16 0):=Btp ch c _ _ c (Nat.le_refl _) (by omega)
  rw[h0]at hin
  have hcong:sel (fun k=>decide (k %ch<c∨(k %ch=c∧k<c))) (smp bits ch t v) z=sel (fun k=>decide (k %ch<c)) (smp bits ch t v) z:=by
   apply Zf
   intro k hk
   have:=Nat.mod_le k ch
   rw[Bool.eq_iff_iff]
   simp only[decide_eq_true_eq]
   omega
  rw[hcong]at hin
  rw[Ey,Pn,if_pos (by rw[Af];simp;omega),Cfg hb,Aa]
  simp only
  rw[Zg]
  exact Eq.trans hin ih
theorem Bvd(hb:Ct bits)(ht:t.length=16)(h1:1≤ch)(h6:ch≤6)(hv:v.length≤4000)(hm:v.length %ch=0):Oo (ch:Int) bits t v=some (unm ch (smp bits ch t v)):=by
 have hlen:=Awr bits ch t v
 have h:=Bkb hb ht h1 h6 hv (List.replicate v.length 0) ch 0 FUEL (by omega) (by have:=Am;omega)
 rw[Ba8 (by rw[hlen];simp) (fun k _=>by simp)]at h
 rw[Oo,Acg,Ac,Bid (by omega) (by omega),Aa,Db (by rw[As];simp),Aa,Zd]
 refine Eq.trans h ?_
 rw[Oz,Zw,Bvq ch _ h1 h6 (by rw[hlen];exact hm) (by omega),Aa]
end
def hB(bits:Int):Int:=if bits=8 then 128 else if bits=16 then 32768 else 8388608
theorem Bzr{bits:Int}(h:Ct bits):Zq bits=some (Int32.ofInt (-(hB bits)),Int32.ofInt (hB bits-1),0):=by
 obtain rfl|rfl|rfl:=h<;>decide
theorem Bc2{bits:Int}(h:Ct bits):Tu bits=some (hB bits):=by
 obtain rfl|rfl|rfl:=h<;>rfl
theorem Ayv(bits:Int):0<hB bits∧hB bits≤8388608:=by
 unfold hB;split; · omega
 ·split<;>omega
theorem Bhc{bits:Int}(h:Ct bits)(l:List Int32)(hl:l.length≤4000):∀(j i q:Nat),i+j=l.length→j<q→
  Pj (Int32.ofInt (-(hB bits))) (Int32.ofInt (hB bits-1)) l q (i:Int)=Be l (hB bits) q (i:Int)
 |0,i,q+1,hi,_=>by
  rw[Pj,Ab1,Be,En,if_neg (by rw[Af,Ac];simp;omega),if_neg (by rw[Af,Ac];simp;omega)];rfl
 |j+1,i,q+1,hi,hq=>by
  have hh:=Ayv bits
  have ih:=Bhc h l hl j (i+1) q (by omega) (by omega)
  have e1:(Int32.ofInt (-(hB bits))).toInt= -(hB bits):=by rw[Int32.toInt_ofInt,Int.bmod_eq_of_le (by show -(4294967296/2:Int)≤_;omega) (by show _<(4294967296+1)/2;omega)]
  have e2:(Int32.ofInt (hB bits-1)).toInt=hB bits-1:=by rw[Int32.toInt_ofInt,Int.bmod_eq_of_le (by show -(4294967296/2:Int)≤_;omega) (by show _<(4294967296+1)/2;omega)]
  rw[Pj,Ab1,Be,En,if_pos (by rw[Af,Ac];simp;omega),if_pos (by rw[Af,Ac];simp;omega),g32 (by omega),Aa,Aa,Aa,Ew,Bql,Ch (by omega) (by omega),Aj (by omega) (by omega),Bk8,Bqr,e1,e2,Af,Eb]
  generalize(l.getD i 0).toInt=X
  by_cases h1:X< -(hB bits)
  ·rw[if_pos (by simp;omega),if_pos (by simp;omega)]
  ·rw[if_neg (c:=decide (X<0-hB bits)=true) (by simp;omega)]
   by_cases h2:hB bits≤X
   ·rw[if_pos (by simp;omega),if_pos (by simp;omega)]
   ·rw[if_neg (by simp;omega),if_neg (by simp;omega)];exact ih
theorem Bhk{bits:Int}(h:Ct bits)(l:List Int32)(hl:l.length≤4000):Ub bits l=Bl bits l:=by
 have hh:=Ayv bits
 rw[Ub,Aky,Bzr h,Aa,Bl,Ir,Bc2 h,Aa]
 simp only
 rw[if_neg (by rw[Al];simp),if_neg (by rw[Ap,Ac];simp;omega),if_neg (by rw[As];simp;omega),if_neg (by rw[Ap,Ac];simp;omega)]
 exact Bhc h l hl l.length 0 FUEL (by omega) (by have:=Am;omega)
theorem Br5{bits:Int}(h:Ct bits)(l:List Int32)(hl:l.length≤4000):∃e,Bl bits l=some e:=by
 have hh:=Ayv bits
 have key:∀(j i q:Nat),i+j=l.length→j<q→∃e,Be l (hB bits) q (i:Int)=some e:=by
  intro j
  induction j with
  |zero=>
   intro i q hi hq
   obtain⟨q,rfl⟩:∃k,q=k+1:=⟨q-1,by omega⟩
   rw[Be,En,if_neg (by rw[Af,Ac];simp;omega)]
   exact⟨_,rfl⟩
  |succ j ih=>
   intro i q hi hq
   obtain⟨q,rfl⟩:∃k,q=k+1:=⟨q-1,by omega⟩
   rw[Be,En,if_pos (by rw[Af,Ac];simp;omega),g32 (by omega),Aa,Aa,Aj (by omega) (by omega)]
   split
   ·exact⟨_,rfl⟩
   ·split
    ·exact⟨_,rfl⟩
    ·exact ih (i+1) q (by omega) (by omega)
 obtain⟨e,he⟩:=key l.length 0 FUEL (by omega) (by have:=Am;omega)
 rw[Bl,Ir,Bc2 h,Aa,if_neg (by rw[As];simp;omega),if_neg (by rw[Ap,Ac];simp;omega)]
 exact⟨e,he⟩
theorem Azg{bits:Int}{ch:Nat}{t:List Int32}{v:List UInt32}(hb:Ct bits)(ht:t.length=16)(h1:1≤ch)(h6:ch≤6)(hv:v.length≤4000)(hm:v.length %ch=0):
  ∃l e,Oo (ch:Int) bits t v=some l∧Wf (ch:Int) bits l=some (if e≠0 then([],e)else(l,0))∧Ra (ch:Int) bits t v=some (if e≠0 then([],e)else(l,0))∧Bl bits l=some e∧l.length=v.length:=by
 have hlen:=Awr bits ch t v
 have hul:=Av6 ch (smp bits ch t v)
 obtain⟨e,he⟩:=Br5 hb (unm ch (smp bits ch t v)) (by omega)
 refine⟨unm ch (smp bits ch t v),e,Bvd hb ht h1 h6 hv hm,?_,?_,he,by omega⟩
 ·rw[Wf,he,Aa]
  by_cases h:e=0
  ·rw[if_neg (by rw[Al];simpa using h),if_neg (by simpa using h)]
  ·rw[if_pos (by rw[Al];simpa using h),if_pos h]
 ·rw[Bus hb ht h1 h6 hv,Kr,Aiw,Cbj ch _ h1 h6 (by rw[hlen];exact hm) (by omega),Aa]
  simp only
  rw[if_neg (by rw[Al];simp),Bhk hb _ (by omega),he,Aa]
  by_cases h:e=0
  ·rw[if_neg (by rw[Al];simpa using h),if_neg (by simpa using h)]
  ·rw[if_pos (by rw[Al];simpa using h),if_pos h]
end Go.Pl
set_option linter.unusedVariables false
set_option linter.unusedSimpArgs false
namespace Go.Pl
open Go Go.Lv
def Aub(s:Nat):Nat:=(s/2)^^^ (if s %2=1 then 3988292384 else 0)
theorem Bf5{s:Nat}(h:s<4294967296):Aub s<4294967296:=by
 unfold Aub
 exact Nat.xor_lt_two_pow (n:=32) (by simp;omega) (by split<;>decide)
theorem Bo8(x y:Nat):(x^^^y)/2=(x/2)^^^ (y/2):=by
 have:=Nat.shiftRight_xor_distrib (a:=x) (b:=y) (i:=1)
 simpa [Nat.shiftRight_eq_div_pow]using this
theorem But(x y:Nat):Aub (x^^^y)=Aub x^^^Aub y:=by
 have h:(x^^^y) %2=(x %2+y %2) %2:=by
  have:=Nat.xor_mod_two_eq_one (a:=x) (b:=y)
  have h1:(x^^^y) %2<2:=Nat.mod_lt _ (by omega)
  omega
 simp only[Aub,Bo8,h]
 have hx:x %2=0∨x %2=1:=by omega
 have hy:y %2=0∨y %2=1:=by omega
 rcases hx with hx|hx<;>rcases hy with hy|hy<;>simp only[hx,hy]<;>simp
 ·rw[Nat.xor_assoc]
 ·rw[Nat.xor_assoc,Nat.xor_comm (y/2),Nat.xor_assoc,Nat.xor_comm 3988292384 (y/2)]
 ·rw[Nat.xor_assoc,Nat.xor_comm 3988292384,Nat.xor_assoc,Nat.xor_self];simp
def Vx:Nat→Nat→Nat
 |0,s=>s
 |k+1,s=>Vx k (Aub s)
theorem Bkn:∀(k x y:Nat),Vx k (x^^^y)=Vx k x^^^Vx k y
 |0,_,_=>rfl
 |k+1,x,y=>by rw[Vx,But,Bkn k];rfl
theorem Bi3:∀(k h:Nat),Vx k (2^k*h)=h
 |0,h=>by simp[Vx]
 |k+1,h=>by
  have:Aub (2^(k+1)*h)=2^k*h:=by
   rw[Nat.pow_succ,Nat.mul_comm (2^k) 2,Nat.mul_assoc,Aub,if_neg (by omega),Nat.mul_div_cancel_left _ (by omega)];simp
  rw[Vx,this,Bi3 k]
theorem Bh3:∀(k:Nat) {s:Nat},s<4294967296→Vx k s<4294967296
 |0,_,h=>h
 |k+1,_,h=>Bh3 k (Bf5 h)
def Bdi(s c:Nat):Nat:=Vx 8 (s^^^c)
theorem Bih{s c:Nat}(h:s<4294967296)(hc:c<256):Bdi s c<4294967296:=Bh3 8 (Nat.xor_lt_two_pow (n:=32) (by simpa using h) (by simp;omega))
theorem Bn1{s c:Nat}(hc:c<256):Bdi s c=(s/256)^^^Vx 8 ((s %256)^^^c):=by
 have h:s=(2^8*(s/256))^^^ (s %256):=by
  have h1:s %256<2^8:=by simpa using Nat.mod_lt s (by omega:256>0)
  have:=Nat.two_pow_add_eq_or_of_lt h1 (s/256)
  have h2:2^8*(s/256)|||s %256=(2^8*(s/256))^^^ (s %256):=by
   apply Nat.eq_of_testBit_eq;intro i
   rw[Nat.testBit_or,Nat.testBit_xor]
   by_cases hi:i<8
   ·have:(2^8*(s/256)).testBit i=false:=by rw[Nat.testBit_two_pow_mul];simp;omega
    rw[this];simp
   ·have:(s %256).testBit i=false:=Nat.testBit_lt_two_pow (Nat.lt_of_lt_of_le h1 (Nat.pow_le_pow_right (by omega) (by omega)))
    rw[this];simp
  omega
 rw[Bdi]
 conv=>lhs;rw[h]
 rw[Nat.xor_assoc,Bkn,Bi3]
def Bu8(s:Nat)(l:List UInt8):Nat:=l.foldl (fun s c=>Bdi s c.toNat) s
def Hr(b:List UInt8):UInt32:=4294967295-UInt32.ofNat (Bu8 4294967295 b)
theorem Cbs(s:UInt32)(c:Nat)(hc:c<256):Aa4 s (Ad (Aaj (UInt8.ofNat c) (2:UInt8)):Int)=some (UInt32.ofNat (s.toNat/2^^^ (if(s.toNat^^^c) %2=1 then 3988292384 else 0))):=by
 have h1:(Ad (Aaj (UInt8.ofNat c) (2:UInt8)):Int)=((c %2:Nat):Int):=by
  rw[Ajf,Ca3,UInt8.toNat_mod,UInt8.toNat_ofNat']
  show((c %256 %2:Nat):Int)=_
  omega
 have h2:geq (Aaj s (2:UInt32)) (1:UInt32)=decide (s.toNat %2=1):=by
  rw[Bly,Bpi,Bool.eq_iff_iff]
  simp only[beq_iff_eq,decide_eq_true_eq]
  rw[←UInt32.toNat_inj,UInt32.toNat_mod];rfl
 have h3:Bw s (2:UInt32)=UInt32.ofNat (s.toNat/2):=by
  apply UInt32.toNat_inj.1
  rw[Bnu,UInt32.toNat_div,UInt32.toNat_ofNat']
  show s.toNat/2=_
  have:=s.toNat_lt
  omega
 have h4:Wm (Bw s (2:UInt32)) (3988292384:UInt32)=UInt32.ofNat (s.toNat/2^^^3988292384):=by
  apply UInt32.toNat_inj.1
  rw[h3,Bay,UInt32.toNat_xor,UInt32.toNat_ofNat',UInt32.toNat_ofNat']
  have:=s.toNat_lt
  rw[Nat.mod_eq_of_lt (a:=s.toNat/2) (by omega),Nat.mod_eq_of_lt]
  ·rfl
  ·exact Nat.xor_lt_two_pow (n:=32) (by omega) (by decide)
 have hx:(s.toNat^^^c) %2=(s.toNat %2+c %2) %2:=by
  have:=Nat.xor_mod_two_eq_one (a:=s.toNat) (b:=c)
  have h1:(s.toNat^^^c) %2<2:=Nat.mod_lt _ (by omega)
  omega
 have hs:s.toNat %2=0∨s.toNat %2=1:=by omega
 have hc2:c %2=0∨c %2=1:=by omega
 rw[Aa4,Agz,h1,h2,hx]
 rcases hs with hs|hs<;>rcases hc2 with hc2|hc2<;>simp[hs,hc2,As,Agh,Ag0,Bay,h3]
theorem Bde:∀(j i q:Nat) (s:UInt32) (c:Nat),i+j=8→j<q→c<2^j→Jn q s (UInt8.ofNat c) (i:Int)=some (UInt32.ofNat (Vx j (s.toNat^^^c)))
 |0,i,q+1,s,c,hi,_,hc=>by
  obtain rfl:i=8:=by omega
  obtain rfl:c=0:=by simpa using hc
  rw[Jn,Uw,if_neg (by rw[Af];simp),Afv,Ags,Vx]
  simp
 |j+1,i,q+1,s,c,hi,hq,hc=>by
  have hc8:c<256:=Nat.lt_of_lt_of_le hc (show 2^(j+1)≤2^8 from Nat.pow_le_pow_right (by omega) (by omega))
  rw[Jn,Uw,if_pos (by rw[Af];simp;omega),Cbs s c hc8,Aa,Aj (by omega) (by omega)]
  have e:Bw (UInt8.ofNat c) (2:UInt8)=UInt8.ofNat (c/2):=by
   apply UInt8.toNat_inj.1
   rw[Caj,UInt8.toNat_div,UInt8.toNat_ofNat',UInt8.toNat_ofNat']
   show c %256/2=_
   omega
  rw[e]
  have h:=Bde j (i+1) q (UInt32.ofNat (s.toNat/2^^^ (if(s.toNat^^^c) %2=1 then 3988292384 else 0))) (c/2) (by omega) (by omega) (by rw[Nat.pow_succ]at hc;omega)
  rw[show((i:Int)+1)=((i+1:Nat):Int) by omega,h,UInt32.toNat_ofNat',Vx]
  congr 3
  have:=s.toNat_lt
  rw[Nat.mod_eq_of_lt,Aub,Bo8,Nat.xor_assoc,Nat.xor_assoc,Nat.xor_comm (c/2)]
  exact Nat.xor_lt_two_pow (n:=32) (by omega) (by split<;>decide)
theorem Cbq(s:UInt32)(c:UInt8):Ame s c=some (UInt32.ofNat (Bdi s.toNat c.toNat)):=by
 have h:=Bde 8 0 FUEL s c.toNat (by omega) (by have:=Am;omega) (by simpa using c.toNat_lt)
 rw[UInt8.ofNat_toNat]at h
 exact h
theorem Aw9(b:List UInt8)(hb:b.length<4611686018427387904):∀(j i q:Nat) (s:UInt32),i+j=b.length→j<q→Hg b q s (i:Int)=some (UInt32.ofNat (Bu8 s.toNat (b.drop i)))
 |0,i,q+1,s,hi,_=>by
  rw[Hg,Qs,if_neg (by rw[Af,Ac];simp;omega),show i=b.length by omega,List.drop_length]
  simp[Aaz,Acl,Bu8]
 |j+1,i,q+1,s,hi,hq=>by
  have hlt:i<b.length:=by omega
  rw[Hg,Qs,if_pos (by rw[Af,Ac];simp;omega),Cq hlt,Aa,Cbq,Aa,Aj (by omega) (by omega)]
  have h:=Aw9 b hb j (i+1) q (UInt32.ofNat (Bdi s.toNat b[i].toNat)) (by omega) (by omega)
  rw[show((i:Int)+1)=((i+1:Nat):Int) by omega,h,drop_cons hlt,UInt32.toNat_ofNat',Nat.mod_eq_of_lt (Bih s.toNat_lt b[i].toNat_lt)]
  rfl
theorem Bwy(b:List UInt8)(hb:b.length<4611686018427387904):Qy b=some (Hr b):=by
 have h:=Aw9 b hb b.length 0 FUEL 4294967295 (by omega) (by have:=Am;omega)
 rw[Qy,Aiv,Abr,Aa8,show((0:Int))=((0:Nat):Int)from rfl,h,Aa,Bo2];rfl
theorem Cah(c:UInt32):Wm (Bv c (GI.toZ (1:UInt64)).toNat) (Bk (3988292384:UInt32) (Dq c (1:UInt32)))=UInt32.ofNat (Aub c.toNat):=by
 apply UInt32.toNat_inj.1
 have e:(GI.toZ (1:UInt64)).toNat=1:=rfl
 have h1:(Bv c 1).toNat=c.toNat/2:=by rw[Aqa]
 have h2:(Bk (3988292384:UInt32) (Dq c (1:UInt32))).toNat=if c.toNat %2=1 then 3988292384 else 0:=by
  rw[Byc,Bnp,UInt32.toNat_mul,UInt32.toNat_and]
  show 3988292384*(c.toNat&&&1) %4294967296=_
  rw[Nat.and_one_is_mod]
  have:c.toNat %2=0∨c.toNat %2=1:=by omega
  rcases this with h|h<;>simp[h]
 rw[e,Bay,UInt32.toNat_xor,h1,h2,UInt32.toNat_ofNat',Nat.mod_eq_of_lt (Bf5 c.toNat_lt)];rfl
theorem Bm2(bk16:Int→List UInt32→Option (UInt32×Int))(s:UInt32)(b:List UInt8)(x:Int)(t:List UInt32):∀(j i q:Nat) (c:UInt32),i+j=8→j<q→
  Ou bk16 s b x t q c (i:Int)=Abw bk16 s b x (UInt32.ofNat (Vx j c.toNat)) t
 |0,i,q+1,c,hi,_=>by
  obtain rfl:i=8:=by omega
  rw[Ou,Ada,if_neg (by rw[Af];simp),Vx,UInt32.ofNat_toNat]
 |j+1,i,q+1,c,hi,hq=>by
  rw[Ou,Ada,if_pos (by rw[Af];simp;omega),Cah,Aj (by omega) (by omega),show((i:Int)+1)=((i+1:Nat):Int) by omega,Bm2 bk16 s b x t j (i+1) q _ (by omega) (by omega),UInt32.toNat_ofNat',Nat.mod_eq_of_lt (Bf5 c.toNat_lt)];rfl
def tbl(n:Nat):List UInt32:=(List.range n).map fun i=>UInt32.ofNat (Vx 8 i)
theorem Btj(s:UInt32)(b:List UInt8):∀(j i q:Nat),i+j=256→j<q→Lw s b q (i:Int) (tbl i++List.replicate j 0)=Ab7 s b (tbl 256)
 |0,i,q+1,hi,_=>by
  obtain rfl:i=256:=by omega
  rw[Lw,Aay,if_neg (by rw[Af];simp)];simp
 |j+1,i,q+1,hi,hq=>by
  have hlen:(tbl i++List.replicate (j+1) 0).length=i+(j+1):=by simp[tbl]
  rw[Lw,Aay,if_pos (by rw[Af];simp;omega),Ak3]
  have h:=Bm2 (Lw s b q) s b (i:Int) (tbl i++List.replicate (j+1) 0) 8 0 FUEL (Ad (i:Int)) (by omega) (by have:=Am;omega)
  rw[show((0:Int))=((0:Nat):Int)from rfl,h,Abw,Alm,Cq (by rw[hlen];omega),Aa,Wc _ (by rw[hlen];omega),Aa,Akv,At4,Aj (by omega) (by omega)]
  have e:(Ad (i:Int):UInt32).toNat=i:=by rw[Biz,UInt32.toNat_ofNat',Nat.mod_eq_of_lt (by omega)]
  rw[e,List.replicate_succ,Awo (by simp[tbl])]
  have h2:=Btj s b j (i+1) q (by omega) (by omega)
  have h3:tbl (i+1)=tbl i++[UInt32.ofNat (Vx 8 i)]:=by simp[tbl,List.range_succ]
  rw[h3]at h2
  rw[show((i:Int)+1)=((i+1:Nat):Int) by omega,←h2]
  simp
theorem Bz7{i:Nat}(h:i<256):Ak (tbl 256) (i:Int)=some (UInt32.ofNat (Vx 8 i)):=by
 rw[Cq (by simpa [tbl]using h)];simp[tbl]
theorem Bw7(s:UInt32)(c:UInt8):Ak (tbl 256) (GI.toZ (Wm (Ad s:UInt8) c))=some (UInt32.ofNat (Vx 8 ((s.toNat %256)^^^c.toNat))):=by
 have e:GI.toZ (Wm (Ad s:UInt8) c)=(((s.toNat %256)^^^c.toNat:Nat):Int):=by
  rw[Yi,Bse,UInt8.toNat_xor,Ayg,UInt8.toNat_ofNat']
 rw[e,Bz7]
 exact Nat.xor_lt_two_pow (n:=8) (by simp;omega) (by simpa using c.toNat_lt)
theorem Bur(s:UInt32)(c:UInt8):Wm (Bv s (GI.toZ (8:UInt64)).toNat) (UInt32.ofNat (Vx 8 ((s.toNat %256)^^^c.toNat)))=UInt32.ofNat (Bdi s.toNat c.toNat):=by
 apply UInt32.toNat_inj.1
 have hlt:Vx 8 ((s.toNat %256)^^^c.toNat)<4294967296:=Bh3 8 (Nat.xor_lt_two_pow (n:=32) (by simp;omega) (by have:=c.toNat_lt;simp;omega))
 have e:(GI.toZ (8:UInt64)).toNat=8:=rfl
 rw[e,Bay,UInt32.toNat_xor,Aqa,UInt32.toNat_ofNat',UInt32.toNat_ofNat',Nat.mod_eq_of_lt hlt,Nat.mod_eq_of_lt (Bih s.toNat_lt c.toNat_lt),Bn1 c.toNat_lt]
theorem Bna(b:List UInt8)(hb:b.length<4611686018427387904):∀(j i q:Nat) (s:UInt32),i+j=b.length→j<q→Po b (tbl 256) q s (i:Int)=some (UInt32.ofNat (Bu8 s.toNat (b.drop i)),0)
 |0,i,q+1,s,hi,_=>by
  rw[Po,Ac0,if_neg (by rw[Af,Ac];simp;omega),show i=b.length by omega,List.drop_length]
  simp[Ald,Avx,Bu8]
 |j+1,i,q+1,s,hi,hq=>by
  have hlt:i<b.length:=by omega
  rw[Po,Ac0,if_pos (by rw[Af,Ac];simp;omega),Cq hlt,Aa,Bw7,Aa,Aa,Bur,Aj (by omega) (by omega)]
  have h:=Bna b hb j (i+1) q (UInt32.ofNat (Bdi s.toNat b[i].toNat)) (by omega) (by omega)
  rw[show((i:Int)+1)=((i+1:Nat):Int) by omega,h,drop_cons hlt,UInt32.toNat_ofNat',Nat.mod_eq_of_lt (Bih s.toNat_lt b[i].toNat_lt)]
  rfl
theorem Cb3(s:UInt32)(b:List UInt8)(hb:b.length≤100000):Aqq s b=some (UInt32.ofNat (Bu8 s.toNat b),0):=by
 have h:=Btj s b 256 0 FUEL (by omega) (by have:=Am;omega)
 have h2:=Bna b (by omega) b.length 0 FUEL s (by omega) (by have:=Am;omega)
 rw[Aqq,Anj,if_neg (by rw[Ap,Ac];simp;omega),Alr]
 refine Eq.trans h ?_
 rw[Ab7,Akh,Aj6,Ajw,Alc]
 exact h2
theorem By9(a:UInt32):Be3 a=4294967295-a:=by
 have h:=a.toNat_lt
 have e:Be3 a=UInt32.ofNat (BitVec.ofInt 32 4294967295^^^BitVec.ofInt 32 (a.toNat:Int)).toNat:=Ei _
 apply UInt32.toNat_inj.1
 rw[e,UInt32.toNat_ofNat',UInt32.toNat_sub_of_le _ _ (by rw[UInt32.le_iff_toNat_le];show a.toNat≤4294967295;omega)]
 have h1:BitVec.ofInt 32 (a.toNat:Int)=a.toBitVec:=Bl3 a
 have h2:(BitVec.ofInt 32 4294967295:BitVec 32)=BitVec.allOnes 32:=by decide
 rw[h1,h2,BitVec.allOnes_xor,BitVec.toNat_not]
 show(4294967296-1-a.toNat) %4294967296=4294967295-a.toNat
 omega
theorem Brm(b:List UInt8)(hb:b.length≤100000):Vk b=some (Hr b,0):=by
 rw[Vk,Cb3 _ _ hb,Aa]
 simp only[Al,By9]
 rfl
end Go.Pl
set_option linter.unusedVariables false
set_option linter.unusedSimpArgs false
namespace Go.Pl
open Go Go.Lv
theorem Bt1:∀{l m:List UInt8},l.length=m.length→Ee l=Ee m→l=m
 |[],[],_,_=>rfl
 |x::l,y::m,h,e=>by
  simp only[Ee]at e
  have hx:=x.toNat_lt
  have hy:=y.toNat_lt
  have h1:x=y:=UInt8.toNat_inj.1 (by omega)
  rw[h1,Bt1 (l:=l) (m:=m) (by simpa using h) (by omega)]
theorem Bmb:∀(w n:Nat),Ee (leB n w)=n %256^w
 |0,n=>by simp[leB,Ee,Nat.mod_one]
 |w+1,n=>by
  rw[leB,Ee,Bmb w (n/256),UInt8.toNat_ofNat',show(256:Nat)^(w+1)=256*256^w by rw[Nat.pow_succ,Nat.mul_comm],Nat.mod_mul]
def Sm(b:List UInt8):Int:=
 if b.length<5 then 24 else if 41254<b.length then 4 else if(Hr (b.take (b.length-4))).toNat≠Ee (b.drop (b.length-4))then 22 else 0
theorem Bms(b:List UInt8):Abz b=some (if Sm b≠0 then([],Sm b)else(b.take (b.length-4),0)):=by
 rw[Abz]
 by_cases h1:b.length<5
 ·have hS:Sm b=24:=by rw[Sm,if_pos h1]
  rw[if_pos (by rw[Af,Ac];simp;omega),hS];rfl
 rw[if_neg (by rw[Af,Ac];simp;omega)]
 by_cases h2:41254<b.length
 ·have hS:Sm b=4:=by rw[Sm,if_neg h1,if_pos h2]
  rw[if_pos (by rw[Ap,Ac];simp;omega),hS];rfl
 have e4:Ah (Ac b) 4=((b.length-4:Nat):Int):=by rw[Ac,Bp (by omega) (by omega)];omega
 have hd:(b.drop (b.length-4)).length=4:=by simp;omega
 rw[if_neg (by rw[Ap,Ac];simp;omega),e4,Cp (by omega) (by omega),Aa,show((b.length-4:Nat):Int).toNat=b.length-4 from rfl,Brm _ (by simp;omega),Aa]
 simp only
 rw[if_neg (by rw[Al];simp),Cy (by omega) (by omega),Aa,show((b.length-4:Nat):Int).toNat=b.length-4 from rfl,Bp3 _ (by omega) (by omega),Aa]
 have hne:Ay (leU (b.drop (b.length-4))) (Ad (Hr (b.take (b.length-4))):UInt64)=decide ((Hr (b.take (b.length-4))).toNat≠Ee (b.drop (b.length-4))):=by
  have hlt:=(Hr (b.take (b.length-4))).toNat_lt
  rw[Ai3,Bool.eq_iff_iff]
  simp only[bne_iff_ne,ne_eq,←UInt64.toNat_inj,decide_eq_true_eq]
  rw[Ami (by omega),Ib,UInt64.toNat_ofNat',Nat.mod_eq_of_lt (by omega)]
  exact⟨fun h e=>h e.symm,fun h e=>h e.symm⟩
 simp only
 rw[hne,Aa]
 by_cases h3:(Hr (b.take (b.length-4))).toNat≠Ee (b.drop (b.length-4))
 ·have hS:Sm b=22:=by rw[Sm,if_neg h1,if_neg h2,if_pos h3]
  rw[if_pos (by simp[h3]),hS];rfl
 ·have hS:Sm b=0:=by rw[Sm,if_neg h1,if_neg h2,if_neg h3]
  rw[if_neg (by rw[decide_eq_false h3];decide),hS];rfl
theorem Bvw(b:List UInt8)(hb:b.length≤1000000):Wh b=some (b++leB (Hr b).toNat 4):=by
 have h:∀k:Nat,(Ad (Bv (Hr b) k):UInt8)=UInt8.ofNat ((Hr b).toNat/2^k):=by
  intro k;rw[Ayg,Aqa]
 have h0:(Ad (Hr b):UInt8)=UInt8.ofNat (Hr b).toNat:=Ayg _
 have h1:=h 8
 have h2:=h 16
 have h3:=h 24
 rw[Wh,Bwy b (by omega),Aa,Cm (by simp;omega),Aa,Cm (by simp;omega),Aa,h0,show(GI.toZ (8:UInt64)).toNat=8 from rfl,show(GI.toZ (16:UInt64)).toNat=16 from rfl,show(GI.toZ (24:UInt64)).toNat=24 from rfl,h1,h2,h3]
 simp only[leB,Nat.div_div_eq_div_mul,List.nil_append]
theorem Be5(b:List UInt8):Oh b=some (Sm b):=by
 rw[Oh]
 by_cases h1:b.length<5
 ·rw[if_pos (by rw[Af,Ac];simp;omega),Sm,if_pos h1]
 rw[if_neg (by rw[Af,Ac];simp;omega)]
 by_cases h2:41254<b.length
 ·rw[if_pos (by rw[Ap,Ac];simp;omega),Sm,if_neg h1,if_pos h2]
 have e4:Ah (Ac b) 4=((b.length-4:Nat):Int):=by rw[Ac,Bp (by omega) (by omega)];omega
 have hd:(b.drop (b.length-4)).length=4:=by simp;omega
 rw[if_neg (by rw[Ap,Ac];simp;omega),e4,Cp (by omega) (by omega),Aa,show((b.length-4:Nat):Int).toNat=b.length-4 from rfl,Bvw _ (by simp;omega),Aa]
 have hlt:=(Hr (b.take (b.length-4))).toNat_lt
 have hiff:(b.take (b.length-4)++leB (Hr (b.take (b.length-4))).toNat 4 !=b)=decide ((Hr (b.take (b.length-4))).toNat≠Ee (b.drop (b.length-4))):=by
  rw[Bool.eq_iff_iff]
  simp only[bne_iff_ne,ne_eq,decide_eq_true_eq]
  constructor
  ·intro h e
   apply h
   have:leB (Hr (b.take (b.length-4))).toNat 4=b.drop (b.length-4):=Bt1 (by rw[Oj,hd]) (by rw[Bmb,Nat.mod_eq_of_lt (by omega),e])
   rw[this,List.take_append_drop]
  ·intro h e
   apply h
   have hx:leB (Hr (b.take (b.length-4))).toNat 4=b.drop (b.length-4):=by
    have e2:b.take (b.length-4)++leB (Hr (b.take (b.length-4))).toNat 4=b.take (b.length-4)++b.drop (b.length-4):=by rw[e,List.take_append_drop]
    exact List.append_cancel_left e2
   rw[←hx,Bmb,Nat.mod_eq_of_lt (by omega)]
 rw[hiff]
 by_cases h3:(Hr (b.take (b.length-4))).toNat≠Ee (b.drop (b.length-4))
 ·rw[if_pos (by simp[h3]),Sm,if_neg h1,if_neg h2,if_pos h3]
 ·rw[if_neg (by rw[decide_eq_false h3];decide),Sm,if_neg h1,if_neg h2,if_neg h3]
theorem Bmy{b:List UInt8}(h:Sm b=0):5≤b.length∧b.length≤41254:=by
 unfold Sm at h
 split at h
 ·simp at h
 ·split at h
  ·simp at h
  ·omega
theorem Btl{c:Nat}(h1:1≤c)(h6:c≤6):Bw (4000:Int) (c:Int)=((4000/c:Nat):Int):=by
 have:c=1∨c=2∨c=3∨c=4∨c=5∨c=6:=by omega
 rcases this with rfl|rfl|rfl|rfl|rfl|rfl<;>rfl
theorem Ccl(p:List UInt8)(h:p.length≤41250):okB p (8*p.length):=⟨by omega,by omega,fun k h1 h2=>by omega⟩
theorem Al1{bits:Int}{ch n:Nat}{t:List Int32}(b:List UInt8)(hb:Ct bits)(ht:t.length=16)(h1:1≤ch)(h6:ch≤6)(n1:1≤n)(n2:n≤4000/ch):
  ∃l e,Uh (ch:Int) bits t (n:Int) b=some (l,e)∧Hz (ch:Int) bits t (n:Int) b=some (l,e)∧(e=0→Bl bits l=some 0∧l.length≤4000∧l.length=n*ch)∧(e≠0→l=[]):=by
 have hn:n*ch≤4000:=by
  have:=Nat.mul_le_mul_right ch n2
  have h2:=Nat.div_mul_le_self 4000 ch
  omega
 have hq4:=Btl h1 h6
 generalize 4000/ch=mm at*
 have hck:Rc (ch:Int) bits=some 0:=by
  have hr:∃x y,Zq bits=some (x,y,0):=⟨_,_,Bzr hb⟩
  obtain⟨x,y,hr⟩:=hr
  rw[Rc,hr,Aa]
  simp only
  rw[if_neg (by simp[Al,Af,Ap];omega)]
 have hh:=Ayv bits
 have hasked:Lz (ch:Int) bits (n:Int)=some 0:=by
  rw[Lz,Yc,if_neg (by simp[Af,Ap];omega),Bc2 hb,Aa,if_neg (by rw[As];simp;omega),Aa,if_neg (by simp[Al,Af];omega),Db (by rw[Al];simp;omega),Aa,hq4,if_neg (by rw[Ap];simp;omega)]
 rw[Uh,Hz,Qo,hck,hasked,Aa,Aa,if_neg (by rw[Al];simp),if_neg (by rw[Af];simp;omega),Db (by rw[Al];simp;omega),Aa,hq4,if_neg (by rw[Ap];simp;omega),if_neg (by rw[Al];simp),Bms,Be5]
 by_cases hs:Sm b≠0
 ·rw[if_pos hs]
  simp only[Aa]
  rw[if_pos (by rw[Al];simpa using hs),if_pos (by rw[Al];simpa using hs)]
  exact⟨[],Sm b,rfl,rfl,fun e=>absurd e hs,fun _=>rfl⟩
 have hs0:Sm b=0:=by simpa using hs
 have hlen:=Bmy hs0
 have e4:Ah (Ac b) 4=((b.length-4:Nat):Int):=by rw[Ac,Bp (by omega) (by omega)];omega
 rw[if_neg hs,hs0]
 simp only[Aa]
 rw[if_neg (by rw[Al];simp),if_neg (by rw[Al];simp),e4,Cp (by omega) (by omega),Aa,show((b.length-4:Nat):Int).toNat=b.length-4 from rfl]
 have hpl:(b.take (b.length-4)).length=b.length-4:=by simp
 generalize b.take (b.length-4)=p at*
 have e8:Bk (8:Int) (Ac p)=((8*p.length:Nat):Int):=by rw[Ac,Ih (by omega) (by omega)];omega
 have hp:=Ccl p (by omega)
 have hv:=values_eq hp h1 h6 hn
 have hr:=Btd (N:=8*p.length) (p:=p) rfl (by omega) h1 h6 hn
 have hat:=Bel (ch:=ch) (p:=p) (N:=8*p.length) (n*ch) 0 [] (by omega)
 rw[Blb,if_neg (by rw[Ap,Ac];simp;omega),Cc,Cm (by simp;omega),Aa,Aa,Aa,List.nil_append,e8]
 simp only
 rw[if_neg (by rw[Al];simp),hv,hr,Aa,Aa]
 generalize Vs ch p (8*p.length) (n*ch) 0 []=V at*
 obtain⟨v,at',e⟩:=V
 simp only at*
 by_cases he:e≠0
 ·rw[if_pos he,if_pos he]
  simp only
  rw[if_pos (by rw[Al];simpa using he),Hf,Hk,if_pos (by rw[Al];simpa using he)]
  exact⟨[],e,rfl,rfl,fun h=>absurd h he,fun _=>rfl⟩
 have he0:e=0:=by simpa using he
 have hvl:=hat.2.2 he0
 simp only[List.length_nil,Nat.zero_add]at hvl
 rw[if_neg he,if_neg he]
 simp only
 rw[if_neg (by rw[Al];simp),Bp (by omega) (by omega),show((8*p.length:Nat):Int)-(at':Int)=((8*p.length-at':Nat):Int) by omega,Hf,Hk]
 by_cases h7:7<8*p.length-at'
 ·have hE:(if 7<8*p.length-at'∨Cg p at' (8*p.length-at')≠0 then(12:Int)else 0)=12:=if_pos (.inl h7)
  rw[if_pos (by rw[Eb];simp;omega),hE,if_pos (by decide)]
  exact⟨[],12,rfl,rfl,fun h=>absurd h (by decide),fun _=>rfl⟩
 rw[if_neg (by rw[Eb];simp;omega),Bbn hp at' _ (by omega),if_neg (by omega),Aa]
 have hz:Ay (Tx p at' (8*p.length-at')) (0:UInt64)=decide (Cg p at' (8*p.length-at')≠0):=by
  rw[Ai3,Bool.eq_iff_iff]
  simp only[bne_iff_ne,ne_eq,←UInt64.toNat_inj,decide_eq_true_eq]
  rw[Aa2 p _ _ (by omega)];rfl
 simp only
 rw[hz]
 by_cases hv0:Cg p at' (8*p.length-at')≠0
 ·have hE:(if 7<8*p.length-at'∨Cg p at' (8*p.length-at')≠0 then(12:Int)else 0)=12:=if_pos (.inr hv0)
  rw[if_pos (by simp[hv0]),hE,if_pos (by decide)]
  exact⟨[],12,rfl,rfl,fun h=>absurd h (by decide),fun _=>rfl⟩
 have hm:v.length %ch=0:=by rw[hvl];exact Nat.mul_mod_left n ch
 obtain⟨l,e,g1,g2,g3,g4,g5⟩:=Azg (v:=v) hb ht h1 h6 (by omega) hm
 have hE:(if 7<8*p.length-at'∨Cg p at' (8*p.length-at')≠0 then(12:Int)else 0)=0:=if_neg (by omega)
 rw[if_neg (by rw[decide_eq_false hv0];decide),hE,if_neg (by decide),g1,g3,Aa,Aa,g2]
 by_cases hl:e≠0
 ·rw[if_pos hl]
  exact⟨[],e,rfl,rfl,fun h=>absurd h hl,fun _=>rfl⟩
 ·rw[if_neg hl]
  have hl0:e=0:=by simpa using hl
  exact⟨l,0,rfl,rfl,fun _=>⟨by rw[g4,hl0],by omega,by omega⟩,fun e=>absurd rfl e⟩
end Go.Pl
set_option linter.unusedVariables false
set_option linter.unusedSimpArgs false
namespace Go.Pl
open Go Go.Lv
def P64:Nat:=4823603603198064275
def Ahd(s:Nat):Nat:=(2*s %18446744073709551616)^^^ (s/9223372036854775808*P64)
theorem Apr{s:Nat}(h:s<18446744073709551616):Ahd s<18446744073709551616:=by
 have h1:s/9223372036854775808=0∨s/9223372036854775808=1:=by omega
 exact Nat.xor_lt_two_pow (n:=64) (Nat.mod_lt _ (by decide)) (by rcases h1 with e|e<;>rw[e]<;>decide)
theorem Bsw(x y:Nat):(x^^^y)/9223372036854775808=(x/9223372036854775808)^^^ (y/9223372036854775808):=by
 have:=Nat.shiftRight_xor_distrib (a:=x) (b:=y) (i:=63)
 simpa [Nat.shiftRight_eq_div_pow]using this
theorem Bs2(x y:Nat):2*(x^^^y) %18446744073709551616=(2*x %18446744073709551616)^^^ (2*y %18446744073709551616):=by
 have h1:=Nat.shiftLeft_xor_distrib (a:=x) (b:=y) (i:=1)
 have h2:=Nat.xor_mod_two_pow (a:=2*x) (b:=2*y) (n:=64)
 have e:2*(x^^^y)=(2*x)^^^ (2*y):=by simpa [Nat.shiftLeft_eq,Nat.mul_comm]using h1
 rw[e];exact h2
theorem Cap{a b:Nat}(ha:a=0∨a=1)(hb:b=0∨b=1)(p:Nat):(a^^^b)*p=(a*p)^^^ (b*p):=by
 rcases ha with rfl|rfl<;>rcases hb with rfl|rfl<;>simp
theorem Cgy(a b c d:Nat):(a^^^b)^^^ (c^^^d)=(a^^^c)^^^ (b^^^d):=by
 rw[Nat.xor_assoc,Nat.xor_assoc,←Nat.xor_assoc b c d,Nat.xor_comm b c,Nat.xor_assoc c b d]
theorem Brp{x y:Nat}(hx:x<18446744073709551616)(hy:y<18446744073709551616):Ahd (x^^^y)=Ahd x^^^Ahd y:=by
 rw[Ahd,Ahd,Ahd,Bs2,Bsw,Cap (by omega) (by omega),Cgy]
def Mx:Nat→Nat→Nat
 |0,s=>s
 |k+1,s=>Mx k (Ahd s)
theorem Bb8:∀(k:Nat) {s:Nat},s<18446744073709551616→Mx k s<18446744073709551616
 |0,_,h=>h
 |k+1,_,h=>Bb8 k (Apr h)
theorem Bfj:∀(k:Nat) {x y:Nat},x<18446744073709551616→y<18446744073709551616→Mx k (x^^^y)=Mx k x^^^Mx k y
 |0,_,_,_,_=>rfl
 |k+1,x,y,hx,hy=>by rw[Mx,Brp hx hy,Bfj k (Apr hx) (Apr hy)];rfl
theorem Bfk:∀(k h:Nat),2^k*h<18446744073709551616→Mx k h=2^k*h
 |0,h,_=>by simp[Mx]
 |k+1,h,hl=>by
  have hpos:0<2^k:=Nat.pow_pos (by omega)
  rw[Nat.pow_succ,Nat.mul_assoc]at hl
  have h2:2*h<18446744073709551616:=Nat.lt_of_le_of_lt (Nat.le_mul_of_pos_left _ hpos) hl
  have:Ahd h=2*h:=by rw[Ahd,Nat.mod_eq_of_lt h2,show h/9223372036854775808=0 by omega];simp
  rw[Mx,this,Bfk k _ hl,Nat.pow_succ,Nat.mul_assoc]
def Avh(s c:Nat):Nat:=Mx 8 (s^^^ (c*72057594037927936))
theorem c56{c:Nat}(hc:c<256):c*72057594037927936<18446744073709551616:=by omega
theorem Bci{s c:Nat}(h:s<18446744073709551616)(hc:c<256):Avh s c<18446744073709551616:=Bb8 8 (Nat.xor_lt_two_pow (n:=64) h (c56 hc))
theorem Cco(s:Nat):s=(s/72057594037927936*72057594037927936)^^^ (s %72057594037927936):=by
 have h1:s %72057594037927936<2^56:=Nat.mod_lt _ (by decide)
 have:=Nat.two_pow_add_eq_or_of_lt h1 (s/72057594037927936)
 have h2:2^56*(s/72057594037927936)|||s %72057594037927936=(2^56*(s/72057594037927936))^^^ (s %72057594037927936):=by
  apply Nat.eq_of_testBit_eq;intro i
  rw[Nat.testBit_or,Nat.testBit_xor]
  by_cases hi:i<56
  ·have:(2^56*(s/72057594037927936)).testBit i=false:=by rw[Nat.testBit_two_pow_mul];simp;omega
   rw[this];simp
  ·have:(s %72057594037927936).testBit i=false:=Nat.testBit_lt_two_pow (Nat.lt_of_lt_of_le h1 (Nat.pow_le_pow_right (by omega) (by omega)))
   rw[this];simp
 rw[Nat.mul_comm (s/72057594037927936)]
 show s=(2^56*(s/72057594037927936))^^^ _
 rw[←h2,←this]
 have:=Nat.div_add_mod s 72057594037927936
 show s=72057594037927936*_+_
 omega
theorem Bvy(a c:Nat):(a^^^c)*72057594037927936=(a*72057594037927936)^^^ (c*72057594037927936):=by
 have h1:=Nat.shiftLeft_xor_distrib (a:=a) (b:=c) (i:=56)
 simpa [Nat.shiftLeft_eq]using h1
theorem Bmi{s c:Nat}(h:s<18446744073709551616)(hc:c<256):Avh s c=(256*s %18446744073709551616)^^^Mx 8 (((s/72057594037927936)^^^c)*72057594037927936):=by
 have hs:s/72057594037927936<2^8:=by show _<256;omega
 have hx:(s/72057594037927936)^^^c<256:=Nat.xor_lt_two_pow (n:=8) hs (by simpa using hc)
 have hl:s %72057594037927936<72057594037927936:=Nat.mod_lt _ (by decide)
 rw[Avh]
 conv=>lhs;rw[Cco s]
 rw[Nat.xor_comm (s/72057594037927936*72057594037927936),Nat.xor_assoc,←Bvy,Bfj 8 (by omega) (c56 hx),Bfk 8 _ (by show 256*_<_;omega)]
 congr 1
 show 256*(s %72057594037927936)=_
 omega
def Bfw(s:Nat)(l:List UInt8):Nat:=l.foldl (fun s c=>Avh s c.toNat) s
theorem Bis{n:Nat}(h:n<18446744073709551616):(UInt64.ofNat n).toNat=n:=by rw[UInt64.toNat_ofNat'];exact Nat.mod_eq_of_lt h
theorem Ceb(s:UInt64)(bit:Nat)(hb:bit=0∨bit=1):Aam s (bit:Int)=some (UInt64.ofNat ((2*s.toNat %18446744073709551616)^^^ (((s.toNat/9223372036854775808)^^^bit)*P64))):=by
 have hs:=s.toNat_lt
 have ht:s.toNat/9223372036854775808=0∨s.toNat/9223372036854775808=1:=by omega
 have e1:(Bk s (2:UInt64)).toNat=2*s.toNat %18446744073709551616:=by
  rw[Agf,UInt64.toNat_mul];show s.toNat*2 %_=_;rw[Nat.mul_comm]
 have hlt:2*s.toNat %18446744073709551616<18446744073709551616:=Nat.mod_lt _ (by decide)
 have ey:Wm (Bk s (2:UInt64)) (4823603603198064275:UInt64)=UInt64.ofNat ((2*s.toNat %18446744073709551616)^^^P64):=by
  apply UInt64.toNat_inj.1
  rw[Bg7,UInt64.toNat_xor,e1,Bis (Nat.xor_lt_two_pow (n:=64) hlt (by decide))];rfl
 have en:Bk s (2:UInt64)=UInt64.ofNat (2*s.toNat %18446744073709551616):=by
  apply UInt64.toNat_inj.1
  rw[e1,Bis hlt]
 have eg:Il s (9223372036854775808:UInt64)=decide (s.toNat/9223372036854775808=1):=by
  rw[Cct,decide_eq_decide]
  show 9223372036854775808≤s.toNat↔_
  omega
 have hp:∀b:Bool,Us s b=some (if b=true then UInt64.ofNat ((2*s.toNat %18446744073709551616)^^^P64)else UInt64.ofNat (2*s.toNat %18446744073709551616)):=by
  intro b
  rw[Us,Agq,ey,en];cases b<;>rfl
 rw[Aam,Afo,hp,hp,eg]
 rcases hb with rfl|rfl<;>rcases ht with h|h<;>rw[h]<;>simp[As]
theorem Bct(c:UInt8):∀(j q:Nat) (s:UInt64),j≤8→j<q→Ju c q s ((2^j/2:Nat):Int)=some (UInt64.ofNat (Mx j (s.toNat^^^ (c.toNat %2^j*2^(64-j)))))
 |0,q+1,s,_,_=>by
  rw[Ju,Va,if_neg (by rw[Ap];simp),Ag1,Afi]
  simp[Mx,Nat.mod_one]
 |j+1,q+1,s,hj,hq=>by
  have hc:=c.toNat_lt
  have hs:=s.toNat_lt
  have hj2:2^j≤2^7:=Nat.pow_le_pow_right (by omega) (by omega)
  have hpos:0<2^j:=Nat.pow_pos (by omega)
  have e1:2^(j+1)/2=2^j:=by rw[Nat.pow_succ];omega
  have e2:Bw ((2^j:Nat):Int) 2=((2^j/2:Nat):Int):=by
   generalize 2^j=K at*
   rw[Ag8,Int.tdiv_eq_ediv_of_nonneg (by omega),Ch (by omega) (by omega)];omega
  have e3:Fz (Bw (Ad c:Int) ((2^j:Nat):Int)) (2:Int)=((c.toNat/2^j %2:Nat):Int):=by
   have hX:=Nat.div_le_self c.toNat (2^j)
   rw[Ajf,Ag8,←Int.ofNat_tdiv]
   generalize c.toNat/2^j=X at*
   rw[Ch (by omega) (by omega),Fz,Int.tmod_eq_emod_of_nonneg (by omega)];omega
  have hbit:c.toNat/2^j %2=0∨c.toNat/2^j %2=1:=by omega
  rw[Ju,Va,e1,if_pos (by rw[Ap,decide_eq_true_eq];omega),Db (by rw[Al,bne_iff_ne];omega),Aa,e3,Ceb s _ hbit,Aa,e2,Bct c j q _ (by omega) (by omega)]
  congr 2
  rw[Mx]
  congr 1
  have hx:c.toNat %2^(j+1)*2^(64-(j+1))=(c.toNat/2^j %2)*9223372036854775808+c.toNat %2^j*2^(63-j):=by
   have h63:(9223372036854775808:Nat)=2^j*2^(63-j):=by rw[←Nat.pow_add,show j+(63-j)=63 by omega]
   rw[Nat.mod_pow_succ,h63,show 64-(j+1)=63-j by omega,Nat.add_mul,Nat.add_comm,Nat.mul_assoc,Nat.mul_left_comm]
  have hr:c.toNat %2^j<2^j:=Nat.mod_lt _ hpos
  have hb63:c.toNat %2^j*2^(63-j)<9223372036854775808:=by
   have h63:(9223372036854775808:Nat)=2^j*2^(63-j):=by rw[←Nat.pow_add,show j+(63-j)=63 by omega]
   rw[h63];exact Nat.mul_lt_mul_of_pos_right hr (Nat.pow_pos (by omega))
  have h64:c.toNat %2^j*2^(64-j)=2*(c.toNat %2^j*2^(63-j)):=by
   rw[show 64-j=(63-j)+1 by omega,Nat.pow_succ,←Nat.mul_assoc,Nat.mul_comm]
  rw[hx,h64]
  generalize c.toNat %2^j*2^(63-j)=R at*
  generalize c.toNat/2^j %2=b at*
  have ht:s.toNat/9223372036854775808=0∨s.toNat/9223372036854775808=1:=by omega
  have hp:((s.toNat/9223372036854775808^^^b)*P64)<18446744073709551616:=by
   rcases ht with h|h<;>rcases hbit with h2|h2<;>rw[h,h2]<;>decide
  rw[Bis (Nat.xor_lt_two_pow (n:=64) (Nat.mod_lt _ (by decide)) hp),Ahd,Bs2,Bsw,show(b*9223372036854775808+R)/9223372036854775808=b by omega,show 2*(b*9223372036854775808+R) %18446744073709551616=2*R by omega,Nat.xor_assoc,Nat.xor_assoc,Nat.xor_comm (2*R)]
theorem Cd8(c:UInt8)(s:UInt64):Ama s c=some (UInt64.ofNat (Avh s.toNat c.toNat)):=by
 have h:=Bct c 8 FUEL s (Nat.le_refl _) (by have:=Am;omega)
 have hc:=c.toNat_lt
 rw[Nat.mod_eq_of_lt (show c.toNat<2^8 by simpa using hc)]at h
 exact h
theorem Axj(b:List UInt8)(hb:b.length<4611686018427387904):∀(j i q:Nat) (s:UInt64),i+j=b.length→j<q→Hm b q s (i:Int)=some (UInt64.ofNat (Bfw s.toNat (b.drop i)))
 |0,i,q+1,s,hi,_=>by
  rw[Hm,Qd,if_neg (by rw[Af,Ac];simp;omega),show i=b.length by omega,List.drop_length]
  simp[Ac7,Ab8,Bfw]
 |j+1,i,q+1,s,hi,hq=>by
  have hlt:i<b.length:=by omega
  have hc:=b[i].toNat_lt
  rw[Hm,Qd,if_pos (by rw[Af,Ac];simp;omega),Cq hlt,Aa,Cd8,Aa,Aj (by omega) (by omega)]
  have h:=Axj b hb j (i+1) q (UInt64.ofNat (Avh s.toNat b[i].toNat)) (by omega) (by omega)
  rw[show((i:Int)+1)=((i+1:Nat):Int) by omega,h,drop_cons hlt,Bis (Bci s.toNat_lt (by simpa using hc))]
  rfl
def Aby(b:List UInt8):UInt64:=UInt64.ofNat (Bfw 0 b)
theorem Bn4(b:List UInt8)(hb:b.length≤100000):Wd 0 b=some (Aby b):=
 Axj b (by omega) b.length 0 FUEL 0 (by omega) (by have:=Am;omega)
theorem Brs(c:UInt64):Wm (Df c (GI.toZ (1:UInt64)).toNat) (Bk (4823603603198064275:UInt64) (Bv c (GI.toZ (63:UInt64)).toNat))=UInt64.ofNat (Ahd c.toNat):=by
 have hc:=c.toNat_lt
 apply UInt64.toNat_inj.1
 have h1:(Df c (GI.toZ (1:UInt64)).toNat).toNat=2*c.toNat %18446744073709551616:=by
  rw[show(GI.toZ (1:UInt64)).toNat=1 from rfl,Apm,Nat.mul_comm]
 have h2:(Bk (4823603603198064275:UInt64) (Bv c (GI.toZ (63:UInt64)).toNat)).toNat=c.toNat/9223372036854775808*P64:=by
  rw[show(GI.toZ (63:UInt64)).toNat=63 from rfl,Agf,UInt64.toNat_mul,Agm]
  show 4823603603198064275*(c.toNat/9223372036854775808) %18446744073709551616=_
  have h1:c.toNat/9223372036854775808=0∨c.toNat/9223372036854775808=1:=by omega
  rcases h1 with e|e<;>rw[e]<;>decide
 rw[Bg7,UInt64.toNat_xor,h1,h2,Bis (Apr hc)];rfl
theorem Bc1(bk16:Int→List UInt64→Option (UInt64×Int))(s:UInt64)(b:List UInt8)(x:Int)(t:List UInt64):∀(j i q:Nat) (c:UInt64),i+j=8→j<q→
  Pf bk16 s b x t q c (i:Int)=Abl bk16 s b x (UInt64.ofNat (Mx j c.toNat)) t
 |0,i,q+1,c,hi,_=>by
  obtain rfl:i=8:=by omega
  rw[Pf,Acz,if_neg (by rw[Af];simp),Mx,UInt64.ofNat_toNat]
 |j+1,i,q+1,c,hi,hq=>by
  rw[Pf,Acz,if_pos (by rw[Af];simp;omega),Brs,Aj (by omega) (by omega),show((i:Int)+1)=((i+1:Nat):Int) by omega,Bc1 bk16 s b x t j (i+1) q _ (by omega) (by omega),Bis (Apr c.toNat_lt)];rfl
def Am9(n:Nat):List UInt64:=(List.range n).map fun i=>UInt64.ofNat (Mx 8 (i*72057594037927936))
theorem Bhx(s:UInt64)(b:List UInt8):∀(j i q:Nat),i+j=256→j<q→Lu s b q (i:Int) (Am9 i++List.replicate j 0)=Acx s b (Am9 256)
 |0,i,q+1,hi,_=>by
  obtain rfl:i=256:=by omega
  rw[Lu,Ac5,if_neg (by rw[Af];simp)];simp
 |j+1,i,q+1,hi,hq=>by
  have hlen:(Am9 i++List.replicate (j+1) 0).length=i+(j+1):=by simp[Am9]
  rw[Lu,Ac5,if_pos (by rw[Af];simp;omega),All]
  have h:=Bc1 (Lu s b q) s b (i:Int) (Am9 i++List.replicate (j+1) 0) 8 0 FUEL (Df (Ad (i:Int):UInt64) (GI.toZ (56:UInt64)).toNat) (by omega) (by have:=Am;omega)
  rw[show((0:Int))=((0:Nat):Int)from rfl,h,Abl,Ajq,Cq (by rw[hlen];omega),Aa,Wc _ (by rw[hlen];omega),Aa,Als,Ave,Aj (by omega) (by omega)]
  have e:(Df (Ad (i:Int):UInt64) (GI.toZ (56:UInt64)).toNat).toNat=i*72057594037927936:=by
   rw[Apm,Aaf,Bis (by omega)]
   show i*72057594037927936 %18446744073709551616=_
   omega
  rw[e,List.replicate_succ,Awo (by simp[Am9])]
  have h2:=Bhx s b j (i+1) q (by omega) (by omega)
  have h3:Am9 (i+1)=Am9 i++[UInt64.ofNat (Mx 8 (i*72057594037927936))]:=by simp[Am9,List.range_succ]
  rw[h3]at h2
  rw[show((i:Int)+1)=((i+1:Nat):Int) by omega,←h2]
  simp
theorem Bvc{i:Nat}(h:i<256):Ak (Am9 256) (i:Int)=some (UInt64.ofNat (Mx 8 (i*72057594037927936))):=by
 rw[Cq (by simpa [Am9]using h)];simp[Am9]
theorem Bog(s:UInt64)(c:UInt8):Ak (Am9 256) (GI.toZ (Wm (Ad (Bv s (GI.toZ (56:UInt64)).toNat):UInt8) c))=some (UInt64.ofNat (Mx 8 (((s.toNat/72057594037927936)^^^c.toNat)*72057594037927936))):=by
 have hs:=s.toNat_lt
 have e:GI.toZ (Wm (Ad (Bv s (GI.toZ (56:UInt64)).toNat):UInt8) c)=(((s.toNat/72057594037927936)^^^c.toNat:Nat):Int):=by
  have e2:((Ad (Bv s (GI.toZ (56:UInt64)).toNat):UInt8)).toNat=s.toNat/72057594037927936:=by
   rw[Aqh,UInt8.toNat_ofNat',Agm]
   show s.toNat/72057594037927936 %256=_
   omega
  rw[Yi,Bse,UInt8.toNat_xor,e2]
 rw[e,Bvc]
 exact Nat.xor_lt_two_pow (n:=8) (by show _<256;omega) (by simpa using c.toNat_lt)
theorem Bl6(s:UInt64)(c:UInt8):Wm (Df s (GI.toZ (8:UInt64)).toNat) (UInt64.ofNat (Mx 8 (((s.toNat/72057594037927936)^^^c.toNat)*72057594037927936)))=UInt64.ofNat (Avh s.toNat c.toNat):=by
 have hs:=s.toNat_lt
 have hc:c.toNat<256:=by simpa using c.toNat_lt
 apply UInt64.toNat_inj.1
 have hlt:Mx 8 (((s.toNat/72057594037927936)^^^c.toNat)*72057594037927936)<18446744073709551616:=Bb8 8 (c56 (Nat.xor_lt_two_pow (n:=8) (by show _<256;omega) (by simpa using c.toNat_lt)))
 have e:(GI.toZ (8:UInt64)).toNat=8:=rfl
 rw[e,Bg7,UInt64.toNat_xor,Apm,Bis hlt,Bis (Bci hs hc),Bmi hs hc,Nat.mul_comm s.toNat]
theorem Bc9(b:List UInt8)(s0:UInt64)(hb:b.length<4611686018427387904):∀(j i q:Nat) (s:UInt64),i+j=b.length→j<q→Ox b s0 (Am9 256) q s (i:Int)=some (UInt64.ofNat (Bfw s.toNat (b.drop i)),0)
 |0,i,q+1,s,hi,_=>by
  rw[Ox,Abb,if_neg (by rw[Af,Ac];simp;omega),show i=b.length by omega,List.drop_length]
  simp[Alo,Ak5,Ak9,Avf,Bfw]
 |j+1,i,q+1,s,hi,hq=>by
  have hlt:i<b.length:=by omega
  have hc:=b[i].toNat_lt
  rw[Ox,Abb,if_pos (by rw[Af,Ac];simp;omega),Cq hlt,Aa,Bog,Aa,Aa,Bl6,Aj (by omega) (by omega)]
  have h:=Bc9 b s0 hb j (i+1) q (UInt64.ofNat (Avh s.toNat b[i].toNat)) (by omega) (by omega)
  rw[show((i:Int)+1)=((i+1:Nat):Int) by omega,h,drop_cons hlt,Bis (Bci s.toNat_lt (by simpa using hc))]
  rfl
theorem Bmt(b:List UInt8)(hb:b.length≤100000):Apk b=some (Aby b,0):=by
 have h:=Bhx 0 b 256 0 FUEL (by omega) (by have:=Am;omega)
 have h2:=Bc9 b 0 (by omega) b.length 0 FUEL 0 (by omega) (by have:=Am;omega)
 have hn:Aqx 0 b=some (Aby b,0):=by
  rw[Aqx,An9,if_neg (by rw[Ap,Ac];simp;omega),Akg]
  refine Eq.trans h ?_
  rw[Acx,Ajx,Ali]
  exact h2
 rw[Apk,hn,Aa]
theorem Bud(p:List UInt8)(hp:p.length≤64):Ac2 p=some (leB (Aby p).toNat 8,0):=by
 rw[Ac2,Bcn,if_neg (by rw[Ap,Ac];simp;omega),Bmt p (by omega),Aa,Aa]
 simp only
 have h:=Bot (Aby p) 8 (by omega) (by omega) (by simpa using(Aby p).toNat_lt)
 rw[if_neg (by rw[Al];simp)]
 exact congrArg (fun o=>Option.bind o fun x:List UInt8×Int=>some (x.1,x.2)) h
theorem Bj8(p:List UInt8)(hp:p.length≤64):Ur p=some (leB (Aby p).toNat 8):=by
 have h:=Bfa (Aby p) 8 (by omega)
 rw[Ur,Ams,Bn4 p (by omega),Aa,Aa]
 exact congrArg (fun o=>Option.bind o fun l=>some l) h
def s8(n:Nat):Int32:=Int32.ofInt (if n<128 then(n:Int)else(n:Int)-256)
def Amf(d:UInt64)(n:Nat):List Int32:=(List.range n).map fun i=>s8 (d.toNat/256^i %256)
theorem Apt(d:UInt64)(n:Nat):(Amf d n).length=n:=by simp[Amf]
theorem Bfm(d:UInt64)(n:Nat):Amf d (n+1)=Amf d n++[s8 (d.toNat/256^n %256)]:=by simp[Amf,List.range_succ]
theorem bm8(z:Nat):(z:Int).bmod Int8.size=if z %256<128 then((z %256:Nat):Int)else((z %256:Nat):Int)-256:=by
 rw[show Int8.size=256 from rfl,Int.bmod_def]
 split<;>split<;>omega
theorem Btc(d:UInt64):∀(j i q:Nat),i+j=8→j<q→Aes d q (i:Int) (Amf d i++List.replicate (16-i) 0)=some (Amf d 8++List.replicate 8 0)
 |0,i,q+1,hi,_=>by
  obtain rfl:i=8:=by omega
  rw[Aes,Arc,if_neg (by rw[Af];simp)];rfl
 |j+1,i,q+1,hi,hq=>by
  have hlen:(Amf d i++List.replicate (16-i) 0).length=16:=by simp[Apt];omega
  have ih:=Btc d j (i+1) q (by omega) (by omega)
  have e8:Bk (8:Int) (i:Int)=((8*i:Nat):Int):=by rw[Ih (by omega) (by omega)];omega
  have ev:(Ad (Ad (Bv d (GI.toZ (((8*i:Nat):Int))).toNat):Int8):Int32)=s8 (d.toNat/256^i %256):=by
   have e1:(Bv d (GI.toZ (((8*i:Nat):Int))).toNat).toNat=d.toNat/256^i:=by
    rw[show(GI.toZ (((8*i:Nat):Int))).toNat=8*i from rfl,Agm,Nat.pow_mul]
   show Int32.ofInt (Int8.ofInt ((Bv d (GI.toZ (((8*i:Nat):Int))).toNat).toNat:Int)).toInt=_
   rw[e1,s8,Int8.toInt_ofInt,bm8]
  rw[Aes,Arc,if_pos (by rw[Af];simp;omega),e8,Db (by rw[Eb];simp;omega),Aa,ev,Cq (by omega),Aa,Wc _ (by omega),Aa,Aj (by omega) (by omega),show 16-i=(15-i)+1 by omega,List.replicate_succ,Awo (Apt d i)]
  rw[Bfm,show 16-(i+1)=15-i by omega,List.append_assoc]at ih
  exact ih
theorem Bzw(d:UInt64):∀(j i q:Nat) (e:UInt64),i+j=8→j<q→e.toNat=d.toNat/256^i→Jc q e (i:Int) (Amf d i++List.replicate (16-i) 0)=some (Amf d 8++List.replicate 8 0)
 |0,i,q+1,e,hi,_,he=>by
  obtain rfl:i=8:=by omega
  rw[Jc,Ye,if_neg (by rw[Af];simp)];rfl
 |j+1,i,q+1,e,hi,hq,he=>by
  have hlen:(Amf d i++List.replicate (16-i) 0).length=16:=by simp[Apt];omega
  have hq2:(Bw e (256:UInt64)).toNat=d.toNat/256^(i+1):=by
   rw[Bah,UInt64.toNat_div,he,Nat.pow_succ,←Nat.div_div_eq_div_mul];rfl
  have ih:=Bzw d j (i+1) q (Bw e (256:UInt64)) (by omega) (by omega) hq2
  have ev:(Ad (Aaj e (256:UInt64)):Int32)=Int32.ofInt ((d.toNat/256^i %256:Nat):Int):=by
   show Int32.ofInt ((Aaj e (256:UInt64)).toNat:Int)=_
   rw[Bo4,UInt64.toNat_mod,he];rfl
  have hz:d.toNat/256^i %256<256:=Nat.mod_lt _ (by omega)
  have et:(Int32.ofInt ((d.toNat/256^i %256:Nat):Int)).toInt=((d.toNat/256^i %256:Nat):Int):=by
   rw[Int32.toInt_ofInt,Int.bmod_eq_of_le (by show -(4294967296/2:Int)≤_;omega) (by show _<(4294967296+1)/2;omega)]
  have hp8:∀x:Int32,x=s8 (d.toNat/256^i %256)→Yk (Jc q) e (i:Int) (Amf d i++List.replicate (16-i) 0) x=some (Amf d 8++List.replicate 8 0):=by
   intro x hx
   rw[Yk,Aj4,hx,Cq (by omega),Aa,Wc _ (by omega),Aa,Aj (by omega) (by omega),show 16-i=(15-i)+1 by omega,List.replicate_succ,Awo (Apt d i)]
   rw[Bfm,show 16-(i+1)=15-i by omega,List.append_assoc]at ih
   exact ih
  rw[Jc,Ye,if_pos (by rw[Af];simp;omega),ev,Bqr,et,show(127:Int32).toInt=127 from rfl]
  by_cases h:d.toNat/256^i %256<128
  ·rw[if_neg (by simp only[decide_eq_true_eq];omega)]
   exact hp8 _ (by rw[s8,if_pos h])
  ·rw[if_pos (by simp only[decide_eq_true_eq];omega)]
   refine hp8 _ ?_
   rw[s8,if_neg h,Bh8,Int32.ofInt_sub];rfl
def Ang(p:List UInt8):List Int32:=Amf (Aby p) 8++List.replicate 8 0
theorem Yf(p:List UInt8):(Ang p).length=16:=by simp[Ang,Apt]
theorem Bju(p:List UInt8)(hp:p.length≤64):Rg p=some (Ang p,0):=by
 have h:=Btc (Aby p) 8 0 FUEL (by omega) (by have:=Am;omega)
 have h2:Bk6 (Aby p)=some (Ang p):=h
 rw[Rg,if_neg (by rw[Ap,Ac];simp;omega),Bmt p (by omega),Aa]
 simp only
 rw[if_neg (by rw[Al];simp),h2,Aa]
theorem Ba3(p:List UInt8)(hp:p.length≤64):Abh p=some (Ang p,0):=by
 have h:=Bzw (Aby p) 8 0 FUEL (Aby p) (by omega) (by have:=Am;omega) (by simp)
 have h2:Asx (Aby p)=some (Ang p):=h
 rw[Abh,if_neg (by rw[Ap,Ac];simp;omega),Apb,Aly,if_neg (by rw[Ap,Ac];simp;omega),Bn4 p (by omega),Aa,Aa,Aa]
 simp only
 rw[h2,Aa]
end Go.Pl
set_option linter.unusedVariables false
set_option linter.unusedSimpArgs false
namespace Go.Pl
open Go Go.Lv
def u8(z:Int):UInt8:=UInt8.ofNat (z %256).toNat
theorem Blu(z:Int):u8 (z %256)=u8 z:=by rw[u8,u8];congr 2;omega
def wB(bits:Int):Nat:=if bits=8 then 1 else if bits=16 then 2 else 3
theorem Bzv{bits:Int}(h:Ct bits):Bw bits 8=(wB bits:Int):=by obtain rfl|rfl|rfl:=h<;>rfl
theorem Bpq(bits:Int):1≤wB bits∧wB bits≤3:=by
 unfold wB;split; · omega
 ·split<;>omega
def Awx(bits:Int)(x:Int):List UInt8:=if bits=8 then [u8 (x+128)]else if bits=16 then [u8 x,u8 (x/256)]else [u8 x,u8 (x/256),u8 (x/65536)]
theorem Bm5(bits x:Int):(Awx bits x).length≤3:=by
 unfold Awx;split; · simp
 ·split<;>simp
theorem Bzp(x:Int32)(k:Nat)(hk:k≤32):(Ad (Bv x k):UInt8)=u8 (x.toInt.fdiv (2^k)):=by
 have h:=Aa7 x
 have e:Bv x k=Int32.ofInt (x.toInt.fdiv (2^k)):=by
  show Int32.ofInt (x.toInt.fdiv (2^min k 32))=_
  rw[Nat.min_eq_left hk]
 have hb: -2147483648≤x.toInt.fdiv (2^k)∧x.toInt.fdiv (2^k)<2147483648:=by
  have hpos:(0:Int)<2^k:=Int.pow_pos (by omega)
  rw[Int.fdiv_eq_ediv_of_nonneg _ (by omega)]
  constructor
  ·refine(Int.le_ediv_iff_mul_le hpos).2 ?_
   have:(1:Int)≤2^k:=by omega
   have h2: -2147483648*(2^k:Int)≤ -2147483648*1:=Int.mul_le_mul_of_nonpos_left (by omega) this
   omega
  ·refine Int.ediv_lt_of_lt_mul hpos ?_
   have:(1:Int)≤2^k:=by omega
   have h2:(2147483648:Int)*1≤2147483648*2^k:=Int.mul_le_mul_of_nonneg_left this (by omega)
   omega
 show UInt8.ofNat ((Bv x k).toInt %256).toNat=_
 rw[e,Int32.toInt_ofInt,Int.bmod_eq_of_le (by show -(4294967296/2:Int)≤_;omega) (by show _<(4294967296+1)/2;omega)];rfl
section
variable (bk:Int→List UInt8→Option (List UInt8×Int)) (l:List Int32)
theorem Bec{bits:Int}(h:Ct bits)(c:Int32)(x:Int)(i q:Nat)(acc:List UInt8)(hi:i<wB bits)(ha:acc.length≤100000):
  Ic bk bits l c x (q+1) (i:Int) acc=Ic bk bits l c x q ((i+1:Nat):Int) (acc++[u8 (c.toInt.fdiv (2^(8*i)))]):=by
 have hw:=Bpq bits
 have e8:Bk (8:Int) (i:Int)=((8*i:Nat):Int):=by rw[Ih (by omega) (by omega)];omega
 rw[Ic,Xw,Bzv h,if_pos (by rw[Af];simp;omega),e8,Db (by rw[Eb];simp;omega),Aa,show(GI.toZ (((8*i:Nat):Int))).toNat=8*i from rfl,Bzp _ _ (by omega),Cm (by simp;omega),Aa,Aj (by omega) (by omega)];rfl
theorem Brr{bits:Int}(h:Ct bits)(c:Int32)(x:Int)(q:Nat)(acc:List UInt8):Ic bk bits l c x (q+1) ((wB bits:Nat):Int) acc=bk (Ae x 1) acc:=by
 rw[Ic,Xw,Bzv h,if_neg (by rw[Af];simp),Ahg,Asz]
theorem Cdp{bits:Int}(h:Ct bits)(c:Int32)(x:Int)(acc:List UInt8)(ha:acc.length≤90000)(hr: -(hB bits)≤c.toInt∧c.toInt<hB bits):
  Ke bk bits l x acc (if bits=8 then Ae c (128:Int32)else c)=bk (Ae x 1) (acc++Awx bits c.toInt):=by
 have e:FUEL=(FUEL-4)+1+1+1+1:=by have:=Am;omega
 have hc:=Aa7 c
 rw[Ke,Ahn,Aha,e]
 have g0:=fun(c:Int32) q acc ha=>Bec bk l h c x 0 q acc (by have:=Bpq bits;omega) ha
 obtain rfl|rfl|rfl:=h
 ·have hh:hB 8=128:=rfl
  rw[hh]at hr
  have e1:(Ae c (128:Int32)).toInt=c.toInt+128:=by
   show(Int32.ofInt (c.toInt+(128:Int32).toInt)).toInt=_
   rw[show(128:Int32).toInt=128 from rfl,Int32.toInt_ofInt,Int.bmod_eq_of_le (by show -(4294967296/2:Int)≤_;omega) (by show _<(4294967296+1)/2;omega)]
  have g1:=Brr bk l (bits:=8) (.inl rfl) (Ae c (128:Int32)) x (FUEL-4+1+1)
  rw[if_pos rfl,show(0:Int)=((0:Nat):Int)from rfl,g0 _ _ _ (by omega)]
  refine Eq.trans (g1 _) ?_
  rw[e1,Awx,if_pos rfl]
  show bk _ (acc++[u8 ((c.toInt+128).fdiv 1)])=_
  rw[Int.fdiv_one]
 ·have g1:=fun q acc ha=>Bec bk l (bits:=16) (.inr (.inl rfl)) c x 1 q acc (by decide) ha
  have g2:=Brr bk l (bits:=16) (.inr (.inl rfl)) c x (FUEL-4+1)
  rw[if_neg (by decide),show(0:Int)=((0:Nat):Int)from rfl,g0 _ _ _ (by omega),g1 _ _ (by simp;omega)]
  refine Eq.trans (g2 _) ?_
  rw[Awx,if_neg (by decide),if_pos rfl,List.append_assoc]
  show bk _ (acc++[u8 (c.toInt.fdiv 1),u8 (c.toInt.fdiv 256)])=_
  rw[Int.fdiv_one,Int.fdiv_eq_ediv_of_nonneg _ (by omega)]
 ·have g1:=fun q acc ha=>Bec bk l (bits:=24) (.inr (.inr rfl)) c x 1 q acc (by decide) ha
  have g2:=fun q acc ha=>Bec bk l (bits:=24) (.inr (.inr rfl)) c x 2 q acc (by decide) ha
  have g3:=Brr bk l (bits:=24) (.inr (.inr rfl)) c x (FUEL-4)
  rw[if_neg (by decide),show(0:Int)=((0:Nat):Int)from rfl,g0 _ _ _ (by omega),g1 _ _ (by simp;omega),g2 _ _ (by simp;omega)]
  refine Eq.trans (g3 _) ?_
  rw[Awx,if_neg (by decide),if_neg (by decide),List.append_assoc,List.append_assoc]
  show bk _ (acc++[u8 (c.toInt.fdiv 1),u8 (c.toInt.fdiv 256),u8 (c.toInt.fdiv 65536)])=_
  rw[Int.fdiv_one,Int.fdiv_eq_ediv_of_nonneg _ (by omega),Int.fdiv_eq_ediv_of_nonneg _ (by omega)]
end
def Mv(bits:Int)(l:List Int32):List UInt8:=l.flatMap fun x=>Awx bits x.toInt
theorem Aj3(bits:Int):∀l:List Int32,(Mv bits l).length≤3*l.length
 |[]=>by simp[Mv]
 |x::l=>by
  have h1:=Aj3 bits l
  have h2:=Bm5 bits x.toInt
  simp only[Mv,List.flatMap_cons,List.length_append,List.length_cons]at*
  omega
def inR(bits:Int)(l:List Int32):Prop:=∀x∈l, -(hB bits)≤x.toInt∧x.toInt<hB bits
theorem Bs9{bits:Int}(h:Ct bits)(l:List Int32)(hl:l.length≤4000)(hr:inR bits l):∀(j i q:Nat),i+j=l.length→j<q→Fl bits l q (i:Int) (Mv bits (l.take i))=some (Mv bits l,0)
 |0,i,q+1,hi,_=>by
  rw[Fl,Xy,if_neg (by rw[Af,Ac];simp;omega),List.take_of_length_le (by omega)];rfl
 |j+1,i,q+1,hi,hq=>by
  have hlt:i<l.length:=by omega
  have ih:=Bs9 h l hl hr j (i+1) q (by omega) (by omega)
  have hlen:=Aj3 bits (l.take i)
  have hx:=hr l[i] (List.getElem_mem _)
  have h1:=Cdp (Fl bits l q) l h l[i] (i:Int) (Mv bits (l.take i)) (by rw[List.length_take]at hlen;omega) hx
  rw[Fl,Xy,if_pos (by rw[Af,Ac];simp;omega),Cq hlt,Aa]
  have e:(if(geq bits (8:Int))=true then Ke (Fl bits l q) bits l (i:Int) (Mv bits (l.take i)) (Ae l[i] (128:Int32))else Ke (Fl bits l q) bits l (i:Int) (Mv bits (l.take i)) l[i])=Ke (Fl bits l q) bits l (i:Int) (Mv bits (l.take i)) (if bits=8 then Ae l[i] (128:Int32)else l[i]):=by
   by_cases h8:bits=8
   ·rw[if_pos (by rw[As];simpa using h8),if_pos h8]
   ·rw[if_neg (by rw[As];simpa using h8),if_neg h8]
  rw[e,h1,Aj (by omega) (by omega)]
  rw[Aje hlt]at ih
  have e2:Mv bits (l.take i++[l[i]])=Mv bits (l.take i)++Awx bits l[i].toInt:=by unfold Mv;rw[List.flatMap_append,List.flatMap_singleton]
  rw[e2]at ih
  exact ih
theorem Bjs{bits:Int}(h:Ct bits){l:List Int32}(hl:l.length≤4000)(hc:Bl bits l=some 0):inR bits l:=by
 have hh:=Ayv bits
 have key:∀(j i q:Nat),i+j=l.length→j<q→Be l (hB bits) q (i:Int)=some 0→∀k,i≤k→(hk:k<l.length)→ -(hB bits)≤l[k].toInt∧l[k].toInt<hB bits:=by
  intro j
  induction j with
  |zero=>intro i q hi hq _ k h1 h2;omega
  |succ j ih=>
   intro i q hi hq hs k h1 h2
   obtain⟨q,rfl⟩:∃k,q=k+1:=⟨q-1,by omega⟩
   rw[Be,En,if_pos (by rw[Af,Ac];simp;omega),Cq (by omega),Aa,Aa,Ew,Bql,Ch (by omega) (by omega),Aj (by omega) (by omega),Af,Eb]at hs
   by_cases g1:l[i].toInt<0-hB bits
   ·rw[if_pos (by simpa using g1)]at hs;simp at hs
   ·rw[if_neg (by simpa using g1)]at hs
    by_cases g2:hB bits≤l[i].toInt
    ·rw[if_pos (by simpa using g2)]at hs;simp at hs
    ·rw[if_neg (by simpa using g2)]at hs
     by_cases hk:k=i
     ·subst hk;omega
     ·exact ih (i+1) q (by omega) (by omega) hs k (by omega) h2
 rw[Bl,Ir,Bc2 h,Aa,if_neg (by rw[As];simp;omega),if_neg (by rw[Ap,Ac];simp;omega)]at hc
 have:=key l.length 0 FUEL (by omega) (by have:=Am;omega) hc
 intro x hx
 obtain⟨k,hk,rfl⟩:=List.getElem_of_mem hx
 exact this k (by omega) hk
theorem Bha{bits:Int}(h:Ct bits){l:List Int32}(hl:l.length≤4000)(hc:Bl bits l=some 0):Ut bits l=some (Mv bits l,0):=by
 have h1:=Bs9 h l hl (Bjs h hl hc) l.length 0 FUEL (by omega) (by have:=Am;omega)
 rw[Ut,Aj5,Bhk h l hl,hc,Aa,if_neg (by rw[Al];simp)]
 exact h1
theorem Cb9{bits:Int}(h:Ct bits)(x:Int32)(hr: -(hB bits)≤x.toInt∧x.toInt<hB bits):Aei bits x=some (Awx bits x.toInt):=by
 have hx:=Aa7 x
 have gu:∀z:Int,(Ad z:UInt8)=u8 z:=fun z=>rfl
 have hq:∀n:Int,0≤n→n≤20000000→Bw n (256:Int)=n/256∧Bw n (65536:Int)=n/65536:=by
  intro n h1 h2
  constructor<;>(rw[Ag8,Int.tdiv_eq_ediv_of_nonneg h1,Ch (by omega) (by omega)])
 have hm:∀n:Int,0≤n→Fz n (256:Int)=n %256:=fun n h1=>by rw[Fz,Int.tmod_eq_emod_of_nonneg h1]
 rw[Aei,Ah1,Ew]
 obtain rfl|rfl|rfl:=h
 ·rw[if_pos (by rw[As];rfl),Aj (by omega) (by omega),gu,Awx,if_pos rfl]
 ·have hh:hB 16=32768:=rfl
  rw[hh]at hr
  have hp:∀n:Int,0≤n→n≤70000→u8 n=u8 x.toInt→u8 (n/256)=u8 (x.toInt/256)→Kn 16 n=some (Awx 16 x.toInt):=by
   intro n h1 h2 h3 h4
   rw[Kn,Wj,if_neg (by rw[As];decide),hm n h1,(hq n h1 (by omega)).1,hm _ (by omega),gu,gu,Blu,Blu,h3,h4,Awx,if_neg (by decide),if_pos rfl]
  rw[if_neg (by rw[As];decide)]
  by_cases hn:x.toInt<0
  ·rw[if_pos (by rw[Af];simpa using hn),Bc2 (.inr (.inl rfl)),Aa,hh,Ih (by omega) (by omega),Aj (by omega) (by omega)]
   refine hp _ (by omega) (by omega) ?_ ?_
   ·rw[u8,u8];congr 2;omega
   ·rw[u8,u8];congr 2;omega
  ·rw[if_neg (by rw[Af];simpa using hn)]
   exact hp _ (by omega) (by omega) rfl rfl
 ·have hh:hB 24=8388608:=rfl
  rw[hh]at hr
  have hp:∀n:Int,0≤n→n≤16777215→u8 n=u8 x.toInt→u8 (n/256)=u8 (x.toInt/256)→u8 (n/65536)=u8 (x.toInt/65536)→Kn 24 n=some (Awx 24 x.toInt):=by
   intro n h1 h2 h3 h4 h5
   rw[Kn,Wj,if_pos (by rw[As];rfl),hm n h1,(hq n h1 (by omega)).1,(hq n h1 (by omega)).2,hm _ (by omega),gu,gu,gu,Blu,Blu,h3,h4,h5,Cm (by simp),Aa,Awx,if_neg (by decide),if_neg (by decide)];rfl
  rw[if_neg (by rw[As];decide)]
  by_cases hn:x.toInt<0
  ·rw[if_pos (by rw[Af];simpa using hn),Bc2 (.inr (.inr rfl)),Aa,hh,Ih (by omega) (by omega),Aj (by omega) (by omega)]
   refine hp _ (by omega) (by omega) ?_ ?_ ?_
   ·rw[u8,u8];congr 2;omega
   ·rw[u8,u8];congr 2;omega
   ·rw[u8,u8];congr 2;omega
  ·rw[if_neg (by rw[Af];simpa using hn)]
   exact hp _ (by omega) (by omega) rfl rfl rfl
theorem Bth{bits:Int}(h:Ct bits)(l:List Int32)(hl:l.length≤4000)(hr:inR bits l):∀(j i q:Nat),i+j=l.length→j<q→It bits l q (i:Int) (Mv bits (l.take i))=some (Mv bits l,0)
 |0,i,q+1,hi,_=>by
  rw[It,Sa,if_neg (by rw[Af,Ac];simp;omega),List.take_of_length_le (by omega)];rfl
 |j+1,i,q+1,hi,hq=>by
  have hlt:i<l.length:=by omega
  have ih:=Bth h l hl hr j (i+1) q (by omega) (by omega)
  have hlen:=Aj3 bits (l.take i)
  have hol:=Bm5 bits l[i].toInt
  rw[List.length_take]at hlen
  have e2:Mv bits (l.take i++[l[i]])=Mv bits (l.take i)++Awx bits l[i].toInt:=by unfold Mv;rw[List.flatMap_append,List.flatMap_singleton]
  rw[Aje hlt,e2]at ih
  rw[It,Sa,if_pos (by rw[Af,Ac];simp;omega),Cq hlt,Aa,Cb9 h _ (hr l[i] (List.getElem_mem _)),Aa,Cm (by omega),Aa,Aj (by omega) (by omega)]
  exact ih
theorem Av5{bits:Int}(h:Ct bits){l:List Int32}(hl:l.length≤4000)(hc:Bl bits l=some 0):Ys bits l=some (Mv bits l,0):=by
 have h1:=Bth h l hl (Bjs h hl hc) l.length 0 FUEL (by omega) (by have:=Am;omega)
 rw[Ys,Adw,hc,Aa,if_neg (by rw[Al];simp)]
 exact h1
end Go.Pl
set_option linter.unusedVariables false
set_option linter.unusedSimpArgs false
namespace Go.Pl
open Go Go.Lv
def Anp:List UInt8→Nat→Int×Int
 |[],n=>((n:Int),0)
 |c::r,n=>if 128≤c.toNat then(0,12)else Anp r (128*n+c.toNat)
theorem Bt0:∀(l:List UInt8) (n k:Nat),n<128^k→0≤(Anp l n).1∧(Anp l n).1<((128^(k+l.length):Nat):Int)
 |[],n,k,h=>by simp[Anp];exact_mod_cast h
 |c::r,n,k,h=>by
  rw[Anp]
  split
  ·have:0<128^(k+(c::r).length):=Nat.pow_pos (by omega)
   exact⟨Int.le_refl _,by simp only;exact_mod_cast this⟩
  ·have:=Bt0 r (128*n+c.toNat) (k+1) (by rw[Nat.pow_succ];omega)
   rw[List.length_cons,show k+(r.length+1)=k+1+r.length by omega]
   exact this
theorem or7(n c:Nat)(hn:n<268435456)(hc:c<128):gor (Df (n:Int) (GI.toZ (7:UInt64)).toNat) (c:Int)=((128*n+c:Nat):Int):=by
 have e:(GI.toZ (7:UInt64)).toNat=7:=rfl
 have h1:Df (n:Int) 7=((2^7*n:Nat):Int):=by
  have:Df (n:Int) 7=wrap64 ((n:Int)*2^7):=rfl
  rw[this,Ch (by omega) (by omega)];omega
 rw[e,h1]
 have h2:gor ((2^7*n:Nat):Int) (c:Int)=wrap64 ((BitVec.ofInt 64 ((2^7*n:Nat):Int)|||BitVec.ofInt 64 (c:Int)).toNat:Int):=rfl
 rw[h2,BitVec.toNat_or,BitVec.toNat_ofInt,BitVec.toNat_ofInt]
 have h3:(((2^7*n:Nat):Int) %((2^64:Nat):Int)).toNat=2^7*n:=by omega
 have h4:((c:Int) %((2^64:Nat):Int)).toNat=c:=by omega
 rw[h3,h4,←Nat.two_pow_add_eq_or_of_lt (by simpa using hc),Ch (by omega) (by omega)]
theorem Bsc(b:List UInt8)(hb:b.length=4):∀(j i q n:Nat),i+j=4→j<q→n<128^i→Lg b q (n:Int) (i:Int)=some (Anp (b.drop i) n)
 |0,i,q+1,n,hi,_,_=>by
  rw[Lg,Vm,if_neg (by rw[Af,Ac];simp;omega),show b.drop i=[] by simp;omega];rfl
 |j+1,i,q+1,n,hi,hq,hn=>by
  have hlt:i<b.length:=by omega
  have hn2:n<268435456:=Nat.lt_of_lt_of_le hn (show 128^i≤128^4 from Nat.pow_le_pow_right (by omega) (by omega))
  rw[Lg,Vm,if_pos (by rw[Af,Ac];simp;omega),Cq hlt,Aa,drop_cons hlt,Anp,Bzx]
  by_cases hc:128≤b[i].toNat
  ·rw[if_pos (by simp;omega),if_pos hc]
  ·rw[if_neg (by simp;omega),if_neg hc,Ajf,or7 n _ hn2 (by omega),Aj (by omega) (by omega)]
   exact Bsc b hb j (i+1) q _ (by omega) (by omega) (by rw[Nat.pow_succ];omega)
theorem Byb(b:List UInt8)(hb:b.length=4):∀(j i q n:Nat),i+j=4→j<q→n<128^i→Ip b q (n:Int) (i:Int)=some (Anp (b.drop i) n)
 |0,i,q+1,n,hi,_,_=>by
  rw[Ip,Ru,if_neg (by rw[Af];simp;omega),show b.drop i=[] by simp;omega];rfl
 |j+1,i,q+1,n,hi,hq,hn=>by
  have hlt:i<b.length:=by omega
  have hn2:n<268435456:=Nat.lt_of_lt_of_le hn (show 128^i≤128^4 from Nat.pow_le_pow_right (by omega) (by omega))
  rw[Ip,Ru,if_pos (by rw[Af];simp;omega),Cq hlt,Aa,drop_cons hlt,Anp,By3]
  have h128:(128:UInt8).toNat=128:=rfl
  by_cases hc:128≤b[i].toNat
  ·rw[if_pos (by simpa using hc),if_pos hc]
  ·have h3:=b[i].toNat_lt
   rw[if_neg (by simpa using hc),if_neg hc,Aa,Ajf,Ih (by omega) (by omega),Aj (by omega) (by omega),Aj (by omega) (by omega)]
   have:=Byb b hb j (i+1) q (128*n+b[i].toNat) (by omega) (by omega) (by rw[Nat.pow_succ];omega)
   rw[←this];rfl
theorem Bqv(b:List UInt8)(hb:b.length=4):Afg b=some (Anp b 0):=by
 have h:=Bsc b hb 4 0 FUEL 0 (by omega) (by have:=Am;omega) (by simp)
 rw[Afg,Aex,if_neg (by rw[Al,Ac];simp;omega),Aer];exact h
theorem Buq(b:List UInt8)(hb:b.length=4):Yz b=some (Anp b 0):=by
 have h:=Byb b hb 4 0 FUEL 0 (by omega) (by have:=Am;omega) (by simp)
 rw[Yz,Adt,if_neg (by rw[Al,Ac];simp;omega),Ady];exact h
theorem Bqc{b:List UInt8}(hb:b.length=4):0≤(Anp b 0).1∧(Anp b 0).1<268435456:=by
 have:=Bt0 b 0 0 (by simp)
 rw[hb]at this
 simpa using this
theorem Aq9(s p:List UInt8):Kl s p=some (decide (p.length≤s.length∧s.take p.length=p)):=by
 rw[Kl]
 by_cases h:p.length≤s.length
 ·rw[if_pos (by rw[Eb,Ac,Ac];simp;omega),show Ac p=(p.length:Int)from rfl,Cp (by omega) (by omega),Aa,Ff,Aa,Int.toNat_natCast]
  congr 1
  rw[Bool.eq_iff_iff];simp[h]
 ·rw[if_neg (by rw[Eb,Ac,Ac];simp;omega)]
  simp[h]
def Aoy(b:List UInt8)(n:Int):Int×Int:=
 if 4000<n then(0,4)else if(b.length:Int)<n then(0,24)else
 if b.getD 5 0=16∧(b.take n.toNat).drop (n-10).toNat≠ [51,68,73]++part b 3 7 then(0,12)else(n,0)
def Bc7(b:List UInt8)(r:Int):Int×Int:=Aoy b (r+10+(if b.getD 5 0=16 then 10 else 0))
def Vw(b:List UInt8):Int×Int:=
 if ¬(3≤b.length∧b.take 3=[73,68,51])then(0,6)else if b.length<10 then(0,24)else
 if(Anp (part b 6 4) 0).2≠0∨b.getD 4 0≠0∨¬((b.getD 5 0=0∧2≤(b.getD 3 0).toNat∧(b.getD 3 0).toNat≤4)∨(b.getD 5 0=16∧b.getD 3 0=4))then(0,12)else
 Bc7 b (Anp (part b 6 4) 0).1
theorem Ay3{b:List UInt8}{i:Nat}(h:i<b.length):Ak b (i:Int)=some (b.getD i 0):=by
 rw[Cq h];simp[List.getD_eq_getElem?_getD,h]
theorem Nj{b:List UInt8}(a w:Nat)(h:a+w≤b.length):Bc b (a:Int) ((a+w:Nat):Int)=some (part b a w):=by
 rw[Aee (by omega) (by omega) (by omega)];rfl
theorem Cav(b:List UInt8)(r:Int)(h10:10≤b.length)(h0:0≤r)(h1:r<268435456):Ty b r=some (Bc7 b r):=by
 have g5:Ak b (5:Int)=some (b.getD 5 0):=Ay3 (i:=5) (by omega)
 have key:∀n:Int,10≤n→n<268435500→Uk b n=some (Aoy b n):=by
  intro n hn hn2
  rw[Uk,Af4,Aoy]
  by_cases c1:4000<n
  ·rw[if_pos (by rw[Ap];simpa using c1),if_pos c1]
  ·rw[if_neg (by rw[Ap];simpa using c1),if_neg c1]
   by_cases c2:(b.length:Int)<n
   ·rw[if_pos (by rw[Af,Ac];simpa using c2),if_pos c2]
   ·have e3:Bc b (3:Int) (10:Int)=some (part b 3 7):=Nj 3 7 (by omega)
    rw[if_neg (by rw[Af,Ac];simpa using c2),if_neg c2,g5,Aa]
    by_cases c3:b.getD 5 0=16
    ·rw[if_pos (by rw[Ars];simpa using c3),Bp (by omega) (by omega),Aee (by omega) (by omega) (by omega),Aa,e3,Aa,Cm (by rw[Dn (by omega)];simp),Aa]
     by_cases c4:(b.take n.toNat).drop (n-10).toNat=[51,68,73]++part b 3 7
     ·rw[if_neg (by simpa using c4),if_neg (by intro h;exact h.2 c4)]
     ·rw[if_pos (by simpa using c4),if_pos ⟨c3,c4⟩]
    ·rw[if_neg (by rw[Ars];simpa using c3),if_neg (fun h=>c3 h.1)]
 rw[Ty,Aga,g5,Aa,Bc7]
 by_cases c3:b.getD 5 0=16
 ·rw[if_pos (by rw[Ars];simpa using c3),Aj (by rw[Aj]<;>omega) (by rw[Aj]<;>omega),Aj (by omega) (by omega),key _ (by omega) (by omega),if_pos c3,show 10+r+10=r+10+10 by omega]
 ·rw[if_neg (by rw[Ars];simpa using c3),Aj (by omega) (by omega),key _ (by omega) (by omega),if_neg c3,show 10+r=r+10+0 by omega]
theorem Bwo(b:List UInt8)(hb:b.length<4611686018427387904):Ac1 b=some (Vw b):=by
 rw[Ac1,Agn,Vw]
 by_cases h3:3≤b.length
 ·rw[if_neg (by rw[Af,Ac];simp;omega),Cp (by omega) (by omega),Aa]
  by_cases hp:b.take 3=[73,68,51]
  ·rw[if_neg (by simpa using hp),if_neg (by simp[h3,hp]),Afr,Afl]
   by_cases h10:b.length<10
   ·rw[if_pos (by rw[Af,Ac];simp;omega),if_pos h10]
   ·have e6:Bc b (6:Int) (10:Int)=some (part b 6 4):=Nj 6 4 (by omega)
    have g3:Ak b (3:Int)=some (b.getD 3 0):=Ay3 (i:=3) (by omega)
    have g4:Ak b (4:Int)=some (b.getD 4 0):=Ay3 (i:=4) (by omega)
    have g5:Ak b (5:Int)=some (b.getD 5 0):=Ay3 (i:=5) (by omega)
    obtain⟨v1,v2⟩:=Bqc (b:=part b 6 4) (Dn (by omega))
    rw[if_neg (by rw[Af,Ac];simp;omega),if_neg h10,e6,Aa,Buq _ (Dn (by omega)),Aa]
    have ht:=Cav b (Anp (part b 6 4) 0).1 (by omega) v1 v2
    generalize Anp (part b 6 4) 0=v at*
    obtain⟨v,e⟩:=v
    simp only at ht v1 v2⊢
    simp only[Aa,g3,g4,g5,ht]
    generalize b.getD 3 0=x at*
    generalize b.getD 4 0=y at*
    generalize b.getD 5 0=z at*
    simp only[Bqp,Ceo,Bzx,Al]
    by_cases he:e=0<;>by_cases hy:y=0<;>by_cases hz:z=0<;>by_cases hz2:z=16<;>by_cases hx:x=4<;>by_cases hx2:x.toNat<2<;>by_cases hx4:4<x.toNat<;>simp_all<;>(rw[if_neg (by omega),if_neg (by omega)])
  ·rw[if_pos (by simpa using hp),if_pos (by simp[hp])]
 ·rw[if_pos (by rw[Af,Ac];simp;omega),if_pos (by simp[h3])]
theorem Bj3(b:List UInt8)(n:Int)(h10:10≤b.length)(hn:10≤n)(hn2:n<268435500):Xt b (b.getD 5 0) n=some (Aoy b n):=by
 rw[Xt,Asb]
 by_cases c1:4000<n
 ·rw[if_pos (by rw[Ap];simpa using c1),Aoy,if_pos c1]
 ·rw[if_neg (by rw[Ap];simpa using c1)]
  by_cases c2:(b.length:Int)<n
  ·rw[if_pos (by rw[Af,Ac];simpa using c2),Aoy,if_neg c1,if_pos c2]
  ·have e3:Bc b (3:Int) (10:Int)=some (part b 3 7):=Nj 3 7 (by omega)
   rw[if_neg (by rw[Af,Ac];simpa using c2)]
   by_cases c3:b.getD 5 0=16
   ·have hl:((b.take n.toNat).drop (n-10).toNat).length=10:=by simp;omega
    have ht:Aoy b n=if(b.take n.toNat).drop (n-10).toNat≠ [51,68,73]++part b 3 7 then(0,12)else(n,0):=by rw[Aoy,if_neg c1,if_neg c2];simp only[c3,true_and]
    rw[if_pos (by rw[Ars];simpa using c3),Bp (by omega) (by omega),Aee (by omega) (by omega) (by omega),Aa,ht]
    generalize(b.take n.toNat).drop (n-10).toNat=f at*
    rw[Cp (by omega) (by omega),Aa,Cy (by omega) (by omega),Aa,e3,Aa,Ff,Aa]
    have hf:f=f.take 3++f.drop 3:=(List.take_append_drop 3 f).symm
    by_cases c4:f=[51,68,73]++part b 3 7
    ·subst c4
     simp
    ·by_cases c5:f.take 3=[51,68,73]
     ·have:f.drop 3≠part b 3 7:=fun h=>c4 (by rw[hf,c5,h])
      simp only[List.cons_append,List.nil_append]at c4
      simp[c4,c5,this]
     ·simp only[List.cons_append,List.nil_append]at c4
      simp[c4,c5]
   ·rw[if_neg (by rw[Ars];simpa using c3),Aoy,if_neg c1,if_neg c2,if_neg (fun h=>c3 h.1)]
theorem Bz1(b:List UInt8)(r:Int)(h10:10≤b.length)(h0:0≤r)(h1:r<268435456):Xu b r (b.getD 5 0)=some (Bc7 b r):=by
 rw[Xu,Ahi,Bc7]
 by_cases c3:b.getD 5 0=16
 ·rw[if_pos (by rw[Ars];simpa using c3),Aj (by rw[Aj]<;>omega) (by rw[Aj]<;>omega),Aj (by omega) (by omega),Bj3 b _ h10 (by omega) (by omega),if_pos c3]
 ·rw[if_neg (by rw[Ars];simpa using c3),Aj (by omega) (by omega),Bj3 b _ h10 (by omega) (by omega),if_neg c3];simp
theorem Bu9(b:List UInt8)(hb:b.length<4611686018427387904):Aja b=some (Vw b):=by
 rw[Aja,Xr,Aq9,Aa]
 by_cases hp:3≤b.length∧b.take 3=[73,68,51]
 ·rw[if_neg (by simpa using hp)]
  by_cases h10:b.length<10
  ·rw[if_pos (by rw[Af,Ac];simp;omega),Vw,if_neg (fun h=>h hp),if_pos h10]
  ·have e6:Bc b (6:Int) (10:Int)=some (part b 6 4):=Nj 6 4 (by omega)
   have g3:Ak b (3:Int)=some (b.getD 3 0):=Ay3 (i:=3) (by omega)
   have g4:Ak b (4:Int)=some (b.getD 4 0):=Ay3 (i:=4) (by omega)
   have g5:Ak b (5:Int)=some (b.getD 5 0):=Ay3 (i:=5) (by omega)
   obtain⟨v1,v2⟩:=Bqc (b:=part b 6 4) (Dn (by omega))
   have ht:=Bz1 b (Anp (part b 6 4) 0).1 (by omega) v1 v2
   rw[if_neg (by rw[Af,Ac];simp;omega),g3,Aa,g5,Aa,Ahw,Ahv,e6,Aa,Bqv _ (Dn (by omega)),Aa,Vw,if_neg (fun h=>h hp),if_neg h10]
   generalize Anp (part b 6 4) 0=v at*
   obtain⟨v,e⟩:=v
   simp only at ht v1 v2⊢
   simp only[Aa,g4,Ag7,Ahb]
   generalize b.getD 3 0=x at*
   generalize b.getD 4 0=y at*
   generalize b.getD 5 0=z at*
   simp only[Bqp,Ce1,Ars,By3,Al]
   have e2:(2:UInt8).toNat=2:=rfl
   have e4:(4:UInt8).toNat=4:=rfl
   by_cases he:e=0<;>by_cases hy:y=0<;>by_cases hz:z=0<;>by_cases hz2:z=16<;>by_cases hx:x=4<;>by_cases hx2:2≤x.toNat<;>by_cases hx4:x.toNat≤4<;>simp_all
 ·rw[if_pos (by rw[Bool.not_eq_true',decide_eq_false_iff_not];exact hp),Vw,if_pos hp]
theorem Bxu{b:List UInt8}{n:Int}(h:Vw b=(n,0)):10≤n∧n≤b.length∧n≤4000:=by
 unfold Vw at h
 split at h; · simp at h
 split at h; · simp at h
 split at h; · simp at h
 rename_i h10 _
 obtain⟨v1,v2⟩:=Bqc (b:=part b 6 4) (Dn (by omega))
 unfold Bc7 at h
 generalize hm:(Anp (part b 6 4) 0).1+10+(if b.getD 5 0=16 then 10 else 0)=m at h
 unfold Aoy at h
 split at h; · simp at h
 split at h; · simp at h
 split at h; · simp at h
 simp only[Prod.mk.injEq,and_true]at h
 subst h
 refine⟨?_,by omega,by omega⟩
 rw[←hm]
 split<;>omega
end Go.Pl
set_option linter.unusedVariables false
set_option linter.unusedSimpArgs false
namespace Go.Pl
open Go Go.Lv
def APE:List UInt8:=[65,80,69,84,65,71,69,88]
def Mw(n m fl:Nat):List UInt8:=APE++leB 2000 4++leB (n+32) 4++leB m 4++leB fl 4++List.replicate 8 0
theorem Amg{n:Nat}(h:n<18446744073709551616):(UInt64.ofNat n).toNat=n:=by rw[UInt64.toNat_ofNat',Nat.mod_eq_of_lt h]
theorem Awm(n m:Int)(fl:UInt64)(c:UInt64)(i q:Nat)(acc:List UInt8)(hi:i<6)(hc:Ak ([(2000:UInt64),(Ad (Ae n (32:Int)):UInt64),(Ad m:UInt64),fl,(0:UInt64),(0:UInt64)]:List UInt64) (i:Int)=some c)(h:c.toNat<4294967296)(ha:acc.length≤1000000):
  Yx n m fl (q+1) (i:Int) acc=Yx n m fl q ((i+1:Nat):Int) (acc++leB c.toNat 4):=by
 have hb:=Bot c 4 (by omega) (by omega) (by simpa using h)
 rw[Yx,Arx,if_pos (by rw[Af,Ac];simp;omega),hc,Aa,Aa,show((4:Int))=((4:Nat):Int)from rfl,hb,Aa]
 simp only
 rw[Cm (by rw[Oj];omega),Aa,Aj (by omega) (by omega)];rfl
theorem Bhq(n m:Nat)(fl:UInt64)(hn:n≤3000)(hm:m≤1000)(hf:fl.toNat<4294967296):Awl (n:Int) (m:Int) fl=some (Mw n m fl.toNat):=by
 have e1:(Ad (Ae (n:Int) (32:Int)):UInt64).toNat=n+32:=by rw[Aj (by omega) (by omega),show(n:Int)+32=((n+32:Nat):Int) by omega,Aaf,Amg (by omega)]
 have e2:(Ad (m:Int):UInt64).toNat=m:=by rw[Aaf,Amg (by omega)]
 have hF:FUEL=(FUEL-7)+1+1+1+1+1+1+1:=by have:=Am;omega
 rw[Awl,Aza,Ay0,hF]
 rw[show((0:Int))=((0:Nat):Int)from rfl,Awm n m fl 2000 0 _ _ (by omega) rfl (by decide) (by simp),Awm n m fl _ 1 _ _ (by omega) rfl (by rw[e1];omega) (by simp[Oj]),Awm n m fl _ 2 _ _ (by omega) rfl (by rw[e2];omega) (by simp[Oj]),
  Awm n m fl fl 3 _ _ (by omega) rfl hf (by simp[Oj]),Awm n m fl 0 4 _ _ (by omega) rfl (by decide) (by simp[Oj]),Awm n m fl 0 5 _ _ (by omega) rfl (by decide) (by simp[Oj]),e1,e2]
 rw[Yx,Arx,if_neg (by rw[Af,Ac];simp),Ayq,Bf1,Mw]
 have z:leB (0:UInt64).toNat 4++leB (0:UInt64).toNat 4=List.replicate 8 0:=by decide
 have z2:leB (2000:UInt64).toNat 4=leB 2000 4:=rfl
 rw[List.append_assoc _ (leB (0:UInt64).toNat 4),z,z2];rfl
theorem Bal(n m:Nat)(fl:UInt64)(hn:n≤3000)(hm:m≤1000)(hf:fl.toNat<4294967296):Oq (n:Int) (m:Int) fl=some (Mw n m fl.toNat):=by
 have e1:(Ad (Ae (n:Int) (32:Int)):UInt64).toNat=n+32:=by rw[Aj (by omega) (by omega),show(n:Int)+32=((n+32:Nat):Int) by omega,Aaf,Amg (by omega)]
 have e2:(Ad (m:Int):UInt64).toNat=m:=by rw[Aaf,Amg (by omega)]
 have w:∀c:UInt64,Du c 4=some (leB c.toNat 4):=fun c=>Bfa c 4 (by omega)
 have z2:leB (2000:UInt64).toNat 4=leB 2000 4:=rfl
 rw[Oq]
 simp only[w,e1,e2,Aa]
 rw[Cm (by simp[Oj]),Aa,Cm (by simp[Oj]),Aa,Cm (by simp[Oj]),Aa,Cm (by simp[Oj]),Aa,Bid (by omega) (by omega),Aa,Cm (by simp[Oj]),Aa,z2];rfl
theorem Ajh{b:List UInt8}{a w k:Nat}(h:a+w≤k):part (b.take k) a w=part b a w:=by rw[part,part,List.take_take,Nat.min_eq_left h]
def Aak(b:List UInt8):Bool:=decide (Ee (part b 12 4)<32∨3032<Ee (part b 12 4)∨1000<Ee (part b 16 4))
theorem Byg(b:List UInt8)(h:20≤b.length):(((Bs (leU (part b 12 4)) (32:UInt64))||(Di (leU (part b 12 4)) (3032:UInt64)))||(Di (leU (part b 16 4)) (1000:UInt64)))=Aak b:=by
 rw[Bem,Al0,Al0,Ami (by rw[Dn (by omega)];omega),Ami (by rw[Dn (by omega)];omega),Aak]
 show((decide (Ee (part b 12 4)<32)||decide (3032<Ee (part b 12 4)))||decide (1000<Ee (part b 16 4)))=_
 simp[Bool.or_assoc]
theorem Bbm(b:List UInt8)(h:20≤b.length)(hb:Aak b=false):Ah (Ad (leU (part b 12 4)):Int) (32:Int)=((Ee (part b 12 4)-32:Nat):Int)∧(Ad (leU (part b 16 4)):Int)=((Ee (part b 16 4):Nat):Int)∧Ee (part b 12 4)-32≤3000∧Ee (part b 16 4)≤1000:=by
 simp only[Aak,decide_eq_false_iff_not]at hb
 refine⟨?_,Afa (by rw[Dn (by omega)];omega),by omega,by omega⟩
 rw[Afa (by rw[Dn (by omega)];omega),Bp (by omega) (by omega)];omega
theorem Arq(b:List UInt8)(fl:UInt64)(h:20≤b.length)(hl:b.length<4611686018427387904)(hf:fl.toNat<4294967296):
  Ajg b fl=some (if Aak b=true then(0,0,false)else(((Ee (part b 12 4)-32:Nat):Int),((Ee (part b 16 4):Nat):Int),b==Mw (Ee (part b 12 4)-32) (Ee (part b 16 4)) fl.toNat)):=by
 have a1:Ap5 b 12 4=some (leU (part b 12 4),0):=Bjn b 12 4 (by omega) (by omega) (by omega) hl
 have a2:Ap5 b 16 4=some (leU (part b 16 4),0):=Bjn b 16 4 (by omega) (by omega) (by omega) hl
 rw[Ajg,a1,Aa]
 simp only
 rw[a2,Aa]
 simp only
 rw[Byg b h]
 cases hb:Aak b with
 |true=>rfl
 |false=>
  obtain⟨i1,i2,i3,i4⟩:=Bbm b h hb
  rw[i1,i2,Bhq _ _ _ i3 i4 hf]
  rfl
theorem Boz(b:List UInt8)(h:20≤b.length)(hl:b.length<4611686018427387904):
  Tt b=some (if Aak b=true then(0,0,false)else(((Ee (part b 12 4)-32:Nat):Int),((Ee (part b 16 4):Nat):Int),true)):=by
 have a1:Bc b 12 16=some (part b 12 4):=Nj 12 4 (by omega)
 have a2:Bc b 16 20=some (part b 16 4):=Nj 16 4 (by omega)
 rw[Tt,a1,Aa,Bn8 _ (by rw[Dn (by omega)];omega),Aa,a2,Aa,Bn8 _ (by rw[Dn (by omega)];omega),Aa,Byg b h]
 cases hb:Aak b with
 |true=>rfl
 |false=>
  obtain⟨i1,i2,i3,i4⟩:=Bbm b h hb
  rw[i1,i2];rfl
def Ig(b:List UInt8):Int×Int:=
 if ¬(8≤b.length∧b.take 8=APE)then(0,6)else if b.length<32 then(0,24)else
 if Aak b=true∨b.take 32≠Mw (Ee (part b 12 4)-32) (Ee (part b 16 4)) 2684354560 then(0,12)else
 if b.length<Ee (part b 12 4)+32 then(0,24)else
 if(b.take (Ee (part b 12 4)+32)).drop (Ee (part b 12 4))≠Mw (Ee (part b 12 4)-32) (Ee (part b 16 4)) 2147483648 then(0,12)else(((Ee (part b 12 4)+32:Nat):Int),0)
theorem Bo7(b:List UInt8):Aak (b.take 32)=Aak b:=by rw[Aak,Aak,Ajh (by omega),Ajh (by omega)]
section
variable {b:List UInt8}
theorem fa1(h:¬(8≤b.length∧b.take 8=APE)):Ig b=(0,6):=by rw[Ig,if_pos h]
theorem fa2(h:8≤b.length∧b.take 8=APE)(h2:b.length<32):Ig b=(0,24):=by rw[Ig,if_neg (fun h'=>h' h),if_pos h2]
variable (h:8≤b.length∧b.take 8=APE) (h2:¬b.length<32)
include h h2
theorem fa3(h3:Aak b=true):Ig b=(0,12):=by rw[Ig,if_neg (fun h'=>h' h),if_neg h2,if_pos (.inl h3)]
theorem fa4(h4:b.take 32≠Mw (Ee (part b 12 4)-32) (Ee (part b 16 4)) 2684354560):Ig b=(0,12):=by rw[Ig,if_neg (fun h'=>h' h),if_neg h2,if_pos (.inr h4)]
variable (h3:Aak b=false) (h4:b.take 32=Mw (Ee (part b 12 4)-32) (Ee (part b 16 4)) 2684354560)
include h3 h4
theorem fa5(h5:b.length<Ee (part b 12 4)+32):Ig b=(0,24):=by
 rw[Ig,if_neg (fun h'=>h' h),if_neg h2,if_neg (fun h'=>h'.elim (fun e=>by rw[h3]at e;cases e) fun e=>e h4),if_pos h5]
theorem fa6(h5:¬b.length<Ee (part b 12 4)+32)(h6:(b.take (Ee (part b 12 4)+32)).drop (Ee (part b 12 4))≠Mw (Ee (part b 12 4)-32) (Ee (part b 16 4)) 2147483648):Ig b=(0,12):=by
 rw[Ig,if_neg (fun h'=>h' h),if_neg h2,if_neg (fun h'=>h'.elim (fun e=>by rw[h3]at e;cases e) fun e=>e h4),if_neg h5,if_pos h6]
theorem fa7(h5:¬b.length<Ee (part b 12 4)+32)(h6:(b.take (Ee (part b 12 4)+32)).drop (Ee (part b 12 4))=Mw (Ee (part b 12 4)-32) (Ee (part b 16 4)) 2147483648):Ig b=(((Ee (part b 12 4)+32:Nat):Int),0):=by
 rw[Ig,if_neg (fun h'=>h' h),if_neg h2,if_neg (fun h'=>h'.elim (fun e=>by rw[h3]at e;cases e) fun e=>e h4),if_neg h5,if_neg (fun h'=>h' h6)]
end
theorem Br6(b:List UInt8)(hl:b.length<4611686018427387904):Aws b=some (Ig b):=by
 rw[Aws,Aq9,Aa]
 by_cases hp:8≤b.length∧b.take 8=APE
 ·rw[if_neg (by simpa [APE]using hp)]
  by_cases h32:b.length<32
  ·rw[if_pos (by rw[Af,Ac];simp;omega),fa2 hp h32]
  ·have t:=Arq (b.take 32) 2684354560 (by simp;omega) (by simp;omega) (by decide)
   rw[Bo7,Ajh (by omega),Ajh (by omega)]at t
   rw[if_neg (by rw[Af,Ac];simp;omega),Cp (by omega) (by omega),Aa,show(32:Int).toNat=32 from rfl,t,Aa]
   cases hb:Aak b with
   |true=>rw[fa3 hp h32 hb];simp
   |false=>
    obtain⟨i1,i2,i3,i4⟩:=Bbm b (by omega) hb
    have i5:32≤Ee (part b 12 4):=by simp only[Aak,decide_eq_false_iff_not]at hb;omega
    simp only[Bool.false_eq_true,if_false,false_or]
    by_cases c1:b.take 32=Mw (Ee (part b 12 4)-32) (Ee (part b 16 4)) 2684354560
    ·have c1':b.take 32=Mw (Ee (part b 12 4)-32) (Ee (part b 16 4)) (2684354560:UInt64).toNat:=c1
     rw[if_neg (by simpa using c1'),Aj (by omega) (by omega)]
     have e1:((Ee (part b 12 4)-32:Nat):Int)+64=((Ee (part b 12 4)+32:Nat):Int):=by omega
     rw[e1]
     by_cases c2:b.length<Ee (part b 12 4)+32
     ·rw[if_pos (by rw[Af,Ac];simp;omega),fa5 hp h32 hb c1 c2]
     ·rw[if_neg (by rw[Af,Ac];simp;omega),Bp (by omega) (by omega),Aee (by omega) (by omega) (by omega),Aa,Bhq _ _ _ i3 i4 (by decide),Aa,Ff,Aa]
      rw[show(((Ee (part b 12 4)+32:Nat):Int)).toNat=Ee (part b 12 4)+32 by omega,show(((Ee (part b 12 4)+32:Nat):Int)-32).toNat=Ee (part b 12 4) by omega]
      by_cases c3:(b.take (Ee (part b 12 4)+32)).drop (Ee (part b 12 4))=Mw (Ee (part b 12 4)-32) (Ee (part b 16 4)) 2147483648
      ·have c3':(b.take (Ee (part b 12 4)+32)).drop (Ee (part b 12 4))=Mw (Ee (part b 12 4)-32) (Ee (part b 16 4)) (2147483648:UInt64).toNat:=c3
       rw[if_neg (by simpa using c3'),fa7 hp h32 hb c1 c2 c3]
      ·have c3':¬(b.take (Ee (part b 12 4)+32)).drop (Ee (part b 12 4))=Mw (Ee (part b 12 4)-32) (Ee (part b 16 4)) (2147483648:UInt64).toNat:=c3
       rw[if_pos (by simpa using c3'),fa6 hp h32 hb c1 c2 c3]
    ·have c1':¬b.take 32=Mw (Ee (part b 12 4)-32) (Ee (part b 16 4)) (2684354560:UInt64).toNat:=c1
     rw[if_pos (by simpa using c1'),fa4 hp h32 c1]
 ·rw[if_pos (by rw[Bool.not_eq_true',decide_eq_false_iff_not];exact hp),fa1 hp]
theorem Bu3(b:List UInt8)(hl:b.length<4611686018427387904):Yy b=some (Ig b):=by
 rw[Yy,Adg]
 by_cases h8:8≤b.length
 ·rw[if_neg (by rw[Af,Ac];simp;omega),Cp (by omega) (by omega),Aa,show(8:Int).toNat=8 from rfl]
  by_cases ha:b.take 8=APE
  ·have hp:=And.intro h8 ha
   rw[if_neg (by simpa [APE]using ha),Adv,Adh]
   by_cases h32:b.length<32
   ·rw[if_pos (by rw[Af,Ac];simp;omega),fa2 hp h32]
   ·have t:=Boz (b.take 32) (by simp;omega) (by simp;omega)
    rw[Bo7,Ajh (by omega),Ajh (by omega)]at t
    rw[if_neg (by rw[Af,Ac];simp;omega),Cp (by omega) (by omega),Aa,show(32:Int).toNat=32 from rfl,t,Aa]
    cases hb:Aak b with
    |true=>rw[fa3 hp h32 hb];simp
    |false=>
     obtain⟨i1,i2,i3,i4⟩:=Bbm b (by omega) hb
     have i5:32≤Ee (part b 12 4):=by simp only[Aak,decide_eq_false_iff_not]at hb;omega
     simp only[Bool.false_eq_true,if_false,false_or,Aa,Bool.not_true]
     rw[Sp,Bal _ _ _ i3 i4 (by decide),Aa,Aa]
     by_cases c1:b.take 32=Mw (Ee (part b 12 4)-32) (Ee (part b 16 4)) 2684354560
     ·have c1':b.take 32=Mw (Ee (part b 12 4)-32) (Ee (part b 16 4)) (2684354560:UInt64).toNat:=c1
      rw[if_neg (by simpa using c1'),Adr,Adm,Aj (by omega) (by omega)]
      have e1:64+((Ee (part b 12 4)-32:Nat):Int)=((Ee (part b 12 4)+32:Nat):Int):=by omega
      rw[e1]
      by_cases c2:b.length<Ee (part b 12 4)+32
      ·rw[if_pos (by rw[Af,Ac];simp;omega),fa5 hp h32 hb c1 c2]
      ·rw[if_neg (by rw[Af,Ac];simp;omega),Bp (by omega) (by omega),Aee (by omega) (by omega) (by omega),Aa,Jz,if_pos rfl,Bal _ _ _ i3 i4 (by decide),Aa,Aa]
       rw[show(((Ee (part b 12 4)+32:Nat):Int)).toNat=Ee (part b 12 4)+32 by omega,show(((Ee (part b 12 4)+32:Nat):Int)-32).toNat=Ee (part b 12 4) by omega]
       by_cases c3:(b.take (Ee (part b 12 4)+32)).drop (Ee (part b 12 4))=Mw (Ee (part b 12 4)-32) (Ee (part b 16 4)) 2147483648
       ·have c3':(b.take (Ee (part b 12 4)+32)).drop (Ee (part b 12 4))=Mw (Ee (part b 12 4)-32) (Ee (part b 16 4)) (2147483648:UInt64).toNat:=c3
        rw[if_neg (by simpa using c3'),fa7 hp h32 hb c1 c2 c3]
       ·have c3':¬(b.take (Ee (part b 12 4)+32)).drop (Ee (part b 12 4))=Mw (Ee (part b 12 4)-32) (Ee (part b 16 4)) (2147483648:UInt64).toNat:=c3
        rw[if_pos (by simpa using c3'),fa6 hp h32 hb c1 c2 c3]
     ·have c1':¬b.take 32=Mw (Ee (part b 12 4)-32) (Ee (part b 16 4)) (2684354560:UInt64).toNat:=c1
      rw[if_pos (by simpa using c1'),fa4 hp h32 c1]
  ·rw[if_pos (by simpa [APE]using ha),fa1 (fun h=>ha h.2)]
 ·rw[if_pos (by rw[Af,Ac];simp;omega),fa1 (fun h=>h8 h.1)]
theorem Bue{b:List UInt8}{n:Int}(h:Ig b=(n,0)):64≤n∧n≤b.length:=by
 unfold Ig at h
 split at h; · simp at h
 split at h; · simp at h
 split at h; · simp at h
 rename_i hb
 split at h; · simp at h
 split at h; · simp at h
 simp only[Prod.mk.injEq,and_true]at h
 have hb':¬Aak b=true:=fun e=>hb (.inl e)
 simp only[Aak,decide_eq_true_eq]at hb'
 omega
end Go.Pl
set_option linter.unusedVariables false
set_option linter.unusedSimpArgs false
namespace Go.Pl
open Go Go.Lv
def Cb(b:List UInt8):Int×Int:=if(Vw b).2≠6 then Vw b else Ig b
theorem size_eq(b:List UInt8)(hl:b.length<4611686018427387904):Vd b=some (Cb b):=by
 rw[Vd,Bu9 b hl,Aa,Br6 b hl]
 by_cases h:(Vw b).2=6
 ·simp[Cb,h,Al]
 ·simp[Cb,h,Al]
theorem Avr{b:List UInt8}{n:Int}(h:Cb b=(n,0)):10≤n∧n≤b.length:=by
 unfold Cb at h
 split at h
 ·have:=Bxu h;omega
 ·have:=Bue h;omega
def Bq(b:List UInt8):Nat→Nat→List Int×Int
 |0,_=>([],6)
 |j+1,p=>if(Cb (b.drop p)).2=6 then([],0)else if(Cb (b.drop p)).2≠0 then([],(Cb (b.drop p)).2)else
  if 4000<(p:Int)+(Cb (b.drop p)).1 then([],4)else
  if(Bq b j (p+(Cb (b.drop p)).1.toNat)).2=0 then((Cb (b.drop p)).1::(Bq b j (p+(Cb (b.drop p)).1.toNat)).1,0)else([],(Bq b j (p+(Cb (b.drop p)).1.toNat)).2)
theorem Awc(b:List UInt8):∀(j p:Nat),p≤b.length→p≤4000→(Bq b j p).2=0→(∀x∈(Bq b j p).1,10≤x)∧(p:Int)+(Bq b j p).1.sum≤b.length∧(p:Int)+(Bq b j p).1.sum≤4000
 |0,p,_,_,h=>by simp[Bq]at h
 |j+1,p,hp,hq,h=>by
  rw[Bq]at h⊢
  split at h
  ·rename_i h6;rw[if_pos h6];simp;omega
  ·rename_i h6
   split at h
   ·rename_i h0;exact absurd h h0
   ·rename_i h0
    rw[if_neg h6,if_neg h0]
    have hz:Cb (b.drop p)=((Cb (b.drop p)).1,0):=by rw[Prod.ext_iff];exact⟨rfl,Classical.not_not.1 h0⟩
    have hs:=Avr hz
    rw[List.length_drop]at hs
    split at h
    ·simp at h
    ·rename_i h4
     rw[if_neg h4]
     split at h
     ·rename_i h00
      rw[if_pos h00]
      obtain⟨i1,i2,i3⟩:=Awc b j _ (by omega) (by omega) h00
      refine⟨fun x hx=>?_,?_,?_⟩
      ·rcases List.mem_cons.1 hx with rfl|hx
       ·exact hs.1
       ·exact i1 x hx
      ·simp only[List.sum_cons];omega
      ·simp only[List.sum_cons];omega
     ·rename_i h00;exact absurd h h00
def Biu(b:List UInt8)(j p:Nat):Int×Int:=if(Bq b j p).2=0 then((p:Int)+(Bq b j p).1.sum,0)else(0,(Bq b j p).2)
theorem Bgl(b:List UInt8)(hl:b.length<4611686018427387904):∀(j p q:Nat),p≤b.length→p≤4000→b.length-p<j→j≤q→Rb b q (p:Int)=some (Biu b j p)
 |0,p,q,_,_,h,_=>by omega
 |j+1,p,q,hp,hp4,hj,hq=>by
  obtain⟨q,rfl⟩:∃k,q=k+1:=⟨q-1,by omega⟩
  rw[Rb,Cy (by omega) (by omega),Aa,Int.toNat_natCast,size_eq _ (by simp;omega),Aa,As,As,Al,Biu]
  by_cases h6:(Cb (b.drop p)).2=6
  ·rw[if_pos (by simpa using h6)]
   have:Bq b (j+1) p=([],0):=by rw[Bq,if_pos h6]
   rw[this];simp
  ·rw[if_neg (by simpa using h6)]
   by_cases h0:(Cb (b.drop p)).2=0
   ·have hz:Cb (b.drop p)=((Cb (b.drop p)).1,0):=by rw[Prod.ext_iff];exact⟨rfl,h0⟩
    have hs:=Avr hz
    rw[List.length_drop]at hs
    rw[Aj (by omega) (by omega),Ap]
    by_cases h4:4000<(p:Int)+(Cb (b.drop p)).1
    ·rw[if_pos (by simp[h0];omega)]
     have:Bq b (j+1) p=([],4):=by rw[Bq,if_neg h6,if_neg (fun h=>h h0),if_pos h4]
     rw[this];simp
    ·rw[if_neg (by simp[h0];omega),if_neg (by simpa using h0)]
     have ih:=Bgl b hl j (p+(Cb (b.drop p)).1.toNat) q (by omega) (by omega) (by omega) (by omega)
     rw[show(p:Int)+(Cb (b.drop p)).1=((p+(Cb (b.drop p)).1.toNat:Nat):Int) by omega,ih,Biu]
     have:Bq b (j+1) p=if(Bq b j (p+(Cb (b.drop p)).1.toNat)).2=0 then((Cb (b.drop p)).1::(Bq b j (p+(Cb (b.drop p)).1.toNat)).1,0)else([],(Bq b j (p+(Cb (b.drop p)).1.toNat)).2):=by
      rw[Bq,if_neg h6,if_neg (fun h=>h h0),if_neg h4]
     rw[this]
     by_cases hr:(Bq b j (p+(Cb (b.drop p)).1.toNat)).2=0
     ·simp only[hr,if_true,List.sum_cons];congr 2;omega
     ·simp only[hr,if_false]
   ·rw[if_neg (by simp[h0]),if_pos (by simpa using h0)]
    have:Bq b (j+1) p=([],(Cb (b.drop p)).2):=by rw[Bq,if_neg h6,if_pos h0]
    rw[this];simp[h0]
def Bxg(b:List UInt8)(j p:Nat)(xs:List Int):List Int×Int:=if(Bq b j p).2=0 then(xs++(Bq b j p).1,0)else([],(Bq b j p).2)
theorem Bwx(bk:Int→List Int→Option (List Int×Int))(b:List UInt8)(p:Nat)(hp:p≤b.length)(xs:List Int)(hx:xs.length≤4000)(hl:b.length<4611686018427387904):Rl (Mc bk b) b (p:Int) xs=Mc bk b (p:Int) xs (Cb (b.drop p)).1 (Cb (b.drop p)).2:=by
 have hf:=Bu3 (b.drop p) (by simp;omega)
 rw[Rl,Cy (by omega) (by omega),Aa,Int.toNat_natCast,Bwo _ (by simp;omega),Aa]
 by_cases h:(Vw (b.drop p)).2=6
 ·simp[Cb,h,As,hf]
 ·simp[Cb,h,As]
theorem Bjw(b:List UInt8)(hl:b.length<4611686018427387904):∀(j p q:Nat) (xs:List Int),p≤b.length→p≤4000→b.length-p<j→j≤q→xs.length≤p→Mf b q (p:Int) xs=some (Bxg b j p xs)
 |0,p,q,_,_,_,h,_,_=>by omega
 |j+1,p,q,xs,hp,hp4,hj,hq,hx=>by
  obtain⟨q,rfl⟩:∃k,q=k+1:=⟨q-1,by omega⟩
  rw[Mf,Bwx _ b p hp xs (by omega) hl,Mc,Ad0,As,Al,Bxg]
  by_cases h6:(Cb (b.drop p)).2=6
  ·rw[if_pos (by simpa using h6)]
   have:Bq b (j+1) p=([],0):=by rw[Bq,if_pos h6]
   rw[this];simp
  ·rw[if_neg (by simpa using h6)]
   by_cases h0:(Cb (b.drop p)).2=0
   ·have hz:Cb (b.drop p)=((Cb (b.drop p)).1,0):=by rw[Prod.ext_iff];exact⟨rfl,h0⟩
    have hs:=Avr hz
    rw[List.length_drop]at hs
    rw[if_neg (by simpa using h0),Aj (by omega) (by omega),Ap]
    by_cases h4:4000<(p:Int)+(Cb (b.drop p)).1
    ·rw[if_pos (by simp;omega)]
     have:Bq b (j+1) p=([],4):=by rw[Bq,if_neg h6,if_neg (fun h=>h h0),if_pos h4]
     rw[this];simp
    ·rw[if_neg (by simp;omega),Cm (by simp;omega),Aa]
     have ih:=Bjw b hl j (p+(Cb (b.drop p)).1.toNat) q (xs++[(Cb (b.drop p)).1]) (by omega) (by omega) (by omega) (by omega) (by simp;omega)
     rw[show(p:Int)+(Cb (b.drop p)).1=((p+(Cb (b.drop p)).1.toNat:Nat):Int) by omega,ih,Bxg]
     have:Bq b (j+1) p=if(Bq b j (p+(Cb (b.drop p)).1.toNat)).2=0 then((Cb (b.drop p)).1::(Bq b j (p+(Cb (b.drop p)).1.toNat)).1,0)else([],(Bq b j (p+(Cb (b.drop p)).1.toNat)).2):=by
      rw[Bq,if_neg h6,if_neg (fun h=>h h0),if_neg h4]
     rw[this]
     by_cases hr:(Bq b j (p+(Cb (b.drop p)).1.toNat)).2=0
     ·simp only[hr,if_true];simp
     ·simp only[hr,if_false]
   ·rw[if_pos (by simpa using h0)]
    have:Bq b (j+1) p=([],(Cb (b.drop p)).2):=by rw[Bq,if_neg h6,if_pos h0]
    rw[this];simp[h0]
theorem Bee:∀{l:List Int},(∀x∈l,10≤x)→0≤l.sum∧(l.length:Int)≤l.sum
 |[],_=>by simp
 |x::l,h=>by
  have h1:=h x List.mem_cons_self
  have h2:=Bee (l:=l) fun y hy=>h y (List.mem_cons_of_mem _ hy)
  simp only[List.sum_cons,List.length_cons];omega
theorem Bgc(r:Int)(l:List Int)(hl:l.length≤4000)(hx:∀x∈l,10≤x):∀(j i q:Nat) (n:Int),i+j=l.length→j<q→0≤n→n+(l.drop i).sum≤4000→Im r l q n (i:Int)=some (n+(l.drop i).sum,r)
 |0,i,q+1,n,hi,_,_,_=>by
  rw[Im,Rp,if_neg (by rw[Af,Ac];simp;omega),show i=l.length by omega,List.drop_length]
  simp[Adz,Adp]
 |j+1,i,q+1,n,hi,hq,hn,hs=>by
  have hlt:i<l.length:=by omega
  rw[drop_cons hlt,List.sum_cons]at hs⊢
  have h1:=hx l[i] (List.getElem_mem hlt)
  have h2:=Bee (l:=l.drop (i+1)) fun y hy=>hx y (List.mem_of_mem_drop hy)
  rw[Im,Rp,if_pos (by rw[Af,Ac];simp;omega),Cq hlt,Aa,Aa,Aj (by omega) (by omega),Aj (by omega) (by omega)]
  have ih:=Bgc r l hl hx j (i+1) q (n+l[i]) (by omega) (by omega) (by omega) (by omega)
  rw[show((i:Int)+1)=((i+1:Nat):Int) by omega,ih]
  congr 2;omega
def Dh(b:List UInt8):Int×Int:=Biu b (b.length+1) 0
theorem Ak8(b:List UInt8)(hl:b.length<4611686018427387904):Js b=some (Dh b):=by
 have:=Bgl b hl (b.length+1) 0 FUEL (by omega) (by omega) (by omega) (by have:=Am;omega)
 exact this
theorem Azi(b:List UInt8)(hl:b.length<4611686018427387904):Qn b=some (Dh b):=by
 have h:=Bjw b hl (b.length+1) 0 FUEL [] (by omega) (by omega) (by omega) (by have:=Am;omega) (by simp)
 have h':Akr b=some (Bxg b (b.length+1) 0 []):=h
 rw[Qn,Ado,h',Aa,Dh,Biu,Bxg]
 have ho:=Awc b (b.length+1) 0 (by omega) (by omega)
 by_cases h0:(Bq b (b.length+1) 0).2=0
 ·obtain⟨i1,i2,i3⟩:=ho h0
  have hp:=Bee i1
  simp only[h0,if_true,List.nil_append]
  have:=Bgc 0 (Bq b (b.length+1) 0).1 (by omega) i1 (Bq b (b.length+1) 0).1.length 0 FUEL 0 (by omega) (by have:=Am;omega) (by omega) (by simpa using i3)
  simpa [Rt]using this
 ·simp only[h0,if_false]
  have:=Bgc (Bq b (b.length+1) 0).2 [] (by simp) (by simp) 0 0 FUEL 0 (by simp) (by have:=Am;omega) (by omega) (by simp)
  simpa [Rt]using this
theorem Aod{b:List UInt8}(h:(Dh b).2=0):0≤(Dh b).1∧(Dh b).1≤b.length∧(Dh b).1≤4000:=by
 unfold Dh Biu at h⊢
 split at h
 ·rename_i h0
  rw[if_pos h0]
  obtain⟨i1,i2,i3⟩:=Awc b (b.length+1) 0 (by omega) (by omega) h0
  have hp:=Bee i1
  exact⟨by simp;omega,i2,i3⟩
 ·rename_i h0;exact absurd h h0
end Go.Pl
set_option linter.unusedVariables false
set_option linter.unusedSimpArgs false
namespace Go.Pl
open Go Go.Lv
def longN(r:Nat):Nat:=max 1 (256*r/245)
theorem Vp(r:Nat):1≤longN r:=Nat.le_max_left _ _
theorem Bfd{r:Nat}(h:r≤1048576):longN r≤1100000:=by unfold longN;omega
theorem Bp5{r:Nat}(h:r≤1048576):Aw5 (1:Int) (Bw (Bk (256:Int) (r:Int)) (245:Int))=(longN r:Int):=by
 rw[Ih (by omega) (by omega),Ag8,Int.tdiv_eq_ediv_of_nonneg (by omega),Ch (by omega) (by omega),Bqu,longN];omega
def framesL(g n:Nat):List Int:=List.replicate ((n-1)/g) (g:Int)++[((n-(n-1)/g*g:Nat):Int)]
theorem Bdg(g n:Nat):(framesL g n).length=(n-1)/g+1:=by simp[framesL]
theorem Biq{g n:Nat}(h:n≤g)(h1:1≤n):framesL g n=[(n:Int)]:=by
 rw[framesL,Nat.div_eq_of_lt (by omega)];simp
theorem Bpg{g n:Nat}(hg:1≤g)(h:g<n):framesL g n=(g:Int)::framesL g (n-g):=by
 have e:(n-1)/g=(n-g-1)/g+1:=by rw[←Nat.add_div_right _ (by omega)];congr 1;omega
 rw[framesL,framesL,e,List.replicate_succ,List.cons_append]
 congr 4
 have:=Nat.div_mul_le_self (n-g-1) g
 rw[Nat.add_mul,Nat.one_mul];omega
theorem Azq{g n:Nat}(hg:1≤g)(h1:1≤n):(n+g-1)/g=(n-1)/g+1:=by
 rw[←Nat.add_div_right _ (by omega)];congr 1;omega
theorem Bkf{r:Nat}(h1:1≤r)(h:r≤1048576):Qp (r:Int)=some ((longN r:Int),0):=by
 rw[Qp,if_neg (by simp[Af,Ap];omega),Bp5 h]
theorem Bza{r:Nat}(h:r≤1048576):Tp (r:Int)=some (longN r:Int):=by rw[Tp,Bp5 h]
theorem Bf9{r n:Nat}(h1:1≤r)(h:r≤1048576)(n1:1≤n)(n2:n≤4000):Xh (r:Int) (n:Int)=some (if 1000<(n-1)/longN r+1 then(0,4)else((((n-1)/longN r+1:Nat):Int),0)):=by
 have hp:=Vp r
 have hl:=Bfd h
 have e:Bw (Ah (Ae (n:Int) (longN r:Int)) (1:Int)) (longN r:Int)=(((n-1)/longN r+1:Nat):Int):=by
  have:(n+longN r-1)/longN r≤n+longN r-1:=Nat.div_le_self _ _
  rw[Aj (by omega) (by omega),Bp (by omega) (by omega),Ag8,Int.tdiv_eq_ediv_of_nonneg (by omega),show(n:Int)+(longN r:Int)-1=((n+longN r-1:Nat):Int) by omega,←Int.natCast_ediv,Azq hp n1]
  rw[Azq hp n1]at this
  generalize(n-1)/longN r=k at*
  exact Ch (by omega) (by omega)
 rw[Xh,Bkf h1 h,Aa]
 simp only
 rw[if_neg (by rw[Al];simp),if_neg (by simp[Af,Ap];omega),Db (by rw[Al];simp;omega),Aa,e]
 by_cases hk:1000<(n-1)/longN r+1
 ·rw[if_pos (by rw[Ap];simp;omega),if_pos hk]
 ·rw[if_neg (by rw[Ap];simp;omega),if_neg hk]
theorem Bfq{r:Nat}(h:r≤1048576):∀(j n q:Nat) (acc:List Int),n≤4000→n≤j→j<q→acc.length+n≤10000→Eo (r:Int) q (n:Int) acc=some (acc++(if n=0 then []else framesL (longN r) n))
 |0,n,q+1,acc,hn,hj,hq,ha=>by
  obtain rfl:n=0:=by omega
  rw[Eo,Ix,if_neg (by rw[Ap];simp)]
  simp[Mi,Mk]
 |j+1,n,q+1,acc,hn,hj,hq,ha=>by
  have hp:=Vp r
  have hl:=Bfd h
  by_cases h0:n=0
  ·subst h0
   rw[Eo,Ix,if_neg (by rw[Ap];simp)]
   simp[Mi,Mk]
  ·rw[Eo,Ix,if_pos (by rw[Ap];simp;omega),Bza h,Aa,Cm (by simp;omega),Aa,Aa,Bp (by omega) (by omega),Anv]
   by_cases hs:n≤longN r
   ·rw[show min (n:Int) (longN r:Int)=(n:Int) by omega,if_neg h0,Biq hs (by omega)]
    have hz:∃k,q=k+1:=⟨q-1,by omega⟩
    obtain⟨q,rfl⟩:=hz
    rw[Eo,Ix,if_neg (by rw[Ap];simp;omega)]
    simp[Mi,Mk]
   ·rw[show min (n:Int) (longN r:Int)=(longN r:Int) by omega,show(n:Int)-(longN r:Int)=((n-longN r:Nat):Int) by omega,Bfq h j (n-longN r) q _ (by omega) (by omega) (by omega) (by simp;omega),if_neg (by omega),if_neg h0,Bpg hp (show longN r<n by omega)]
    simp
theorem Bex{r n:Nat}(h:r≤1048576)(n1:1≤n)(n2:n≤4000):Pw (r:Int) (n:Int)=some (framesL (longN r) n):=by
 have:=Bfq h n n FUEL [] n2 (Nat.le_refl _) (by have:=Am;omega) (by simp;omega)
 rw[Pw,Adu,Ad2,this,if_neg (by omega)];rfl
theorem mul_one(m:Nat)(h:m≤100000):Ae3 (1:UInt64) (UInt64.ofNat m)=some (0,UInt64.ofNat m):=by
 have y1:(UInt64.ofNat m).toNat=m:=Amg (by omega)
 have s1:Bv (1:UInt64) (GI.toZ (32:UInt64)).toNat=0:=by decide
 have s2:Bv (UInt64.ofNat m) (GI.toZ (32:UInt64)).toNat=0:=by
  apply UInt64.toNat_inj.1
  rw[Agm,y1]
  exact Nat.div_eq_of_lt (Nat.lt_of_le_of_lt h (by decide))
 have s0:Bv (0:UInt64) (GI.toZ (32:UInt64)).toNat=0:=by decide
 have a1:Dq (1:UInt64) (4294967295:UInt64)=1:=by decide
 have a0:Dq (0:UInt64) (4294967295:UInt64)=0:=by decide
 have a2:Dq (UInt64.ofNat m) (4294967295:UInt64)=UInt64.ofNat m:=by
  apply UInt64.toNat_inj.1
  rw[Bfu,UInt64.toNat_and,y1]
  show m&&& (2^32-1)=m
  rw[Nat.and_two_pow_sub_one_eq_mod,Nat.mod_eq_of_lt (by omega)]
 have m1:∀x:UInt64,Bk 1 x=x:=fun x=>by rw[Agf,UInt64.one_mul]
 have m0:∀x:UInt64,Bk 0 x=0:=fun x=>by rw[Agf,UInt64.zero_mul]
 have p0:∀x:UInt64,Ae 0 x=x:=fun x=>by rw[Agw,UInt64.zero_add]
 have p1:∀x:UInt64,Ae x 0=x:=fun x=>by rw[Agw,UInt64.add_zero]
 rw[Ae3,Ahl]
 simp only[s1,s2,a1,a2,m1,m0,p0,p1,s0,a0,Aa]
theorem Bda(v:Int)(m:Nat)(hm:m≤100000):∀(j n q:Nat),1≤n→n≤m→m-n≤j→j<q→Eg q (n:Int) (List.replicate n v++List.replicate (m-n) 0)=some (List.replicate m v)
 |j,n,q+1,hn,hnm,hj,hq=>by
  have hlen:Ac (List.replicate n v++List.replicate (m-n) 0)=(m:Int):=by simp[Ac];omega
  rw[Eg,Ge,hlen]
  by_cases h:n<m
  ·obtain⟨j,rfl⟩:∃k,j=k+1:=⟨j-1,by omega⟩
   rw[if_pos (by rw[Af];simp;omega)]
   have v1:vwI (m:Int) (n:Int) (m:Int)=some ():=by rw[vwI,Db];simp;omega
   have v2:vwI (m:Int) (0:Int) (n:Int)=some ():=by rw[vwI,Db];simp;omega
   have e1:Anh (List.replicate n v++List.replicate (m-n) 0) (0:Int) ((n:Int)-0)=List.replicate n v:=by
    simp[Anh]
   rw[v1,Aa,v2,Aa,e1]
   have e2:Aki ((m:Int)-(n:Int)) (List.replicate n v).length=((min n (m-n):Nat):Int):=by
    rw[Aki,List.length_replicate];split<;>omega
   have e3:Rn (List.replicate n v++List.replicate (m-n) 0) (n:Int) ((m:Int)-(n:Int)) (List.replicate n v)=List.replicate (n+min n (m-n)) v++List.replicate (m-(n+min n (m-n))) 0:=by
    have t1:((m:Int)-(n:Int)).toNat=m-n:=by omega
    have t2:(List.replicate n v++List.replicate (m-n) (0:Int)).take n=List.replicate n v:=by simp
    rw[Rn,t1,Int.toNat_natCast,t2,List.take_replicate,List.length_replicate,←List.append_assoc,List.replicate_append_replicate,List.drop_append,List.length_replicate,Nat.min_comm (m-n) n]
    simp only[List.drop_replicate]
    rw[show n-(n+min n (m-n))=0 by omega,List.replicate_zero,List.nil_append,show m-n-(n+min n (m-n)-n)=m-(n+min n (m-n)) by omega]
   rw[e2,e3,Aj (by omega) (by omega),show(n:Int)+((min n (m-n):Nat):Int)=((n+min n (m-n):Nat):Int) by omega]
   exact Bda v m hm j (n+min n (m-n)) q (by omega) (by omega) (by omega) (by omega)
  ·rw[if_neg (by rw[Af];simp;omega)]
   obtain rfl:n=m:=by omega
   simp[Ik,Mm]
theorem Bvt(v:Int)(m:Nat)(hm:m≤100000):Me [v] (m:Int)=some (List.replicate m v):=by
 have y1:(UInt64.ofNat m).toNat=m:=Amg (by omega)
 have c1:(Ad (Ac [v]):UInt64)=1:=by rfl
 have c2:(Ad (m:Int):UInt64)=UInt64.ofNat m:=Aaf m
 have c3:(Ad (UInt64.ofNat m):Int)=(m:Int):=by rw[Bbi (by omega),y1]
 rw[Me,Oa,if_neg (by rw[Af];simp),Ns,Nr,c1,c2,mul_one m hm,Aa]
 simp only
 rw[if_neg (by rw[Al0,Al0,y1];simp;show m≤9223372036854775807;omega),Nq,Oc,c3,Bid (by omega) (by omega),Aa,Db (by rw[As];simp),Aa,Ny,Int.toNat_natCast]
 by_cases h0:m=0
 ·subst h0
  have hF:FUEL=(FUEL-1)+1:=by have:=Am;omega
  rw[hF,Eg,Ge]
  simp[Ac,Axf,Aki,Af,Ik,Mm]
 ·have:=Bda v m hm m 1 FUEL (by omega) (by omega) (by omega) (by have:=Am;omega)
  have e1:Aki (Ac (List.replicate m (0:Int))) [v].length=((1:Nat):Int):=by simp[Aki,Ac];omega
  have e2:Axf (List.replicate m (0:Int)) [v]=List.replicate 1 v++List.replicate (m-1) 0:=by
   obtain⟨k,rfl⟩:∃k,m=k+1:=⟨m-1,by omega⟩
   simp[Axf]
  rw[e1,e2,this]
theorem Bub(l m:List Int)(h:l.length+m.length≤1000000):Md [l,m]=some (l++m):=by
 have hF:FUEL=(FUEL-3)+1+1+1:=by have:=Am;omega
 rw[Md,Nt,Oe]
 have g0:Ak [l,m] (0:Int)=some l:=rfl
 have g1:Ak [l,m] (1:Int)=some m:=rfl
 have l2:Ac [l,m]=2:=rfl
 have h3:Ii [l,m] []=some (l++m):=by
  rw[Ii,Mn,Ms,hF,Dv,Fu,l2,if_pos (by decide),g0,Aa,Cm (by simp;omega),Aa,List.nil_append,show Ae (0:Int) 1=1 by decide,
   Dv,Fu,l2,if_pos (by decide),g1,Aa,Cm (by omega),Aa,show Ae (1:Int) 1=2 by decide,Dv,Fu,l2,if_neg (by decide)]
  rfl
 rw[hF,Ef,Gg,l2,if_pos (by decide),g0,Aa,Aj (by unfold Ac;omega) (by unfold Ac;omega),if_neg (by rw[Af,Ac];simp),show Ae (0:Int) 1=1 by decide,
  Ef,Gg,l2,if_pos (by decide),g1,Aa,Aj (by unfold Ac;omega) (by unfold Ac;omega),if_neg (by rw[Af,Ac,Ac];simp;omega),show Ae (1:Int) 1=2 by decide,
  Ef,Gg,l2,if_neg (by decide),Mu,Mo,if_neg (by rw[Af,Ac,Ac];simp;omega),Mp,Mt]
 have z:Ah (0:Int) 0=0:=by decide
 have n0:(0:Int)+Ac l+Ac m=((l.length+m.length:Nat):Int):=by simp[Ac]
 rw[z,n0,Bp (by omega) (by omega),Int.sub_zero]
 by_cases hp:0<l.length+m.length
 ·rw[if_pos (by rw[Ap];simp;omega),show vwI (0:Int) 0 0=some ()from rfl,Aa,Bid (by omega) (by omega),Aa,Cm (by simp;omega),Aa]
  rw[show vwI (Ac ([]++List.replicate ((l.length+m.length:Nat):Int).toNat (0:Int))) 0 0=some () by rw[vwI,Db];simp[Ac];omega,Aa]
  simp only[Anh,Int.sub_self,Int.toNat_zero,List.take_zero]
  exact h3
 ·rw[if_neg (by rw[Ap];simp;omega)];exact h3
theorem Bx7{r n:Nat}(h1:1≤r)(h:r≤1048576)(n1:1≤n)(n2:n≤4000)(hk:(n-1)/longN r+1≤1000):Amp (r:Int) (n:Int)=some (framesL (longN r) n,0):=by
 have hp:=Vp r
 have hl:=Bfd h
 have hd:=Nat.div_mul_le_self (n-1) (longN r)
 rw[Amp,Bf9 h1 h n1 n2,if_neg (by omega),Aa]
 simp only
 rw[if_neg (by rw[Al];simp),Bkf h1 h,Aa]
 simp only
 rw[framesL]
 generalize(n-1)/longN r=k at*
 have e1:Ah ((k+1:Nat):Int) 1=(k:Int):=by rw[Bp (by omega) (by omega)];omega
 have e2:(k:Int)*(longN r:Int)=((k*longN r:Nat):Int):=by simp
 rw[e1,Bvt _ _ (by omega),Aa,Ih (by rw[e2];omega) (by rw[e2];omega),e2,Bp (by omega) (by omega),Ajn,Bub _ _ (by simp;omega),Aa,Aa,show(n:Int)-((k*longN r:Nat):Int)=((n-k*longN r:Nat):Int) by omega]
end Go.Pl
set_option linter.unusedVariables false
set_option linter.unusedSimpArgs false
namespace Go.Pl
open Go Go.Lv
def shapeB(f c w r n:Nat):Bool:=decide ((f=1∨f=2)∧(1≤c∧c≤6)∧(w=8∨w=16∨w=24)∧(1≤r∧r≤1048576)∧1≤n)
def fitB(c r n:Nat):Bool:=decide (n≤4000/c∧(n-1)/longN r+1≤1000)
theorem Aus(f c w r n:Nat):Nv (f:Int) (c:Int) (w:Int) (r:Int) (n:Int)=some (shapeB f c w r n):=by
 have e2:Li (f:Int) (c:Int) (w:Int) (r:Int) (n:Int)=some (decide ((f=1∨f=2)∧(1≤c∧c≤6)∧(1≤r∧r≤1048576)∧1≤n)):=by
  rw[Li,Aet]
  congr 1
  rw[Bool.eq_iff_iff]
  simp only[As,Ap,As3,Bool.and_eq_true,Bool.or_eq_true,beq_iff_eq,decide_eq_true_eq]
  omega
 have g:∀k:Nat,geq (w:Int) (k:Int)=decide (w=k):=fun k=>by rw[As,Bool.eq_iff_iff];simp;omega
 have g8:geq (w:Int) (8:Int)=decide (w=8):=g 8
 have g16:geq (w:Int) (16:Int)=decide (w=16):=g 16
 have g24:geq (w:Int) (24:Int)=decide (w=24):=g 24
 rw[Nv,Vl,e2,g8,g16,g24,shapeB]
 by_cases h8:w=8
 ·subst h8;simp
 ·by_cases h16:w=16
  ·subst h16;simp
  ·by_cases h24:w=24
   ·subst h24;simp
   ·simp[h8,h16,h24]
theorem Ayi(f c w r n:Nat):Hv (f:Int) (c:Int) (w:Int) (r:Int) (n:Int)=some (shapeB f c w r n):=by
 rw[Hv,shapeB]
 simp only[As,Eb,As3,Bool.and_eq_true,Bool.or_eq_true,beq_iff_eq,decide_eq_true_eq,Bool.false_and]
 split
 ·rename_i h
  congr 1
  rw[Bool.eq_iff_iff]
  simp only[Bool.and_eq_true,Bool.or_eq_true,beq_iff_eq,decide_eq_true_eq]
  omega
 ·rename_i h
  congr 1
  symm
  rw[decide_eq_false_iff_not]
  omega
theorem Cc4{c:Nat}(h:1≤c):Bw (4000:Int) (c:Int)=((4000/c:Nat):Int):=by
 have:4000/c≤4000:=Nat.div_le_self _ _
 rw[Ag8,Int.tdiv_eq_ediv_of_nonneg (by omega),show(4000:Int)=((4000:Nat):Int)from rfl,←Int.natCast_ediv]
 generalize 4000/c=k at*
 exact Ch (by omega) (by omega)
theorem Bcg{f c w r n:Nat}(h:shapeB f c w r n=true):Afy (f:Int) (c:Int) (w:Int) (r:Int) (n:Int)=some (fitB c r n):=by
 simp only[shapeB,decide_eq_true_eq]at h
 have hd:4000/c≤4000:=Nat.div_le_self _ _
 rw[Afy,Db (by rw[Al];simp;omega),Aa,Cc4 (by omega),fitB]
 generalize 4000/c=m at*
 by_cases h1:n≤m
 ·rw[if_neg (by rw[Ap];simp;omega),Bf9 (by omega) (by omega) (by omega) (by omega),Aa]
  generalize(n-1)/longN r+1=k
  by_cases h2:1000<k
  ·rw[if_pos h2]
   simp[As,As3]
   omega
  ·rw[if_neg h2]
   simp[As,As3,h1]
   omega
 ·rw[if_pos (by rw[Ap];simp;omega)]
  simp[h1]
theorem Bgo{f c w r n:Nat}(h:shapeB f c w r n=true):Tl (f:Int) (c:Int) (w:Int) (r:Int) (n:Int)=some (!fitB c r n):=by
 simp only[shapeB,decide_eq_true_eq]at h
 have hd:4000/c≤4000:=Nat.div_le_self _ _
 rw[Tl,Db (by rw[Al];simp;omega),Aa,Cc4 (by omega),fitB]
 generalize 4000/c=m at*
 by_cases h1:n≤m
 ·rw[if_neg (by rw[Ap];simp;omega),Bex (by omega) (by omega) (by omega),Aa,Ac,Bdg]
  generalize(n-1)/longN r+1=k
  congr 1
  rw[Ap,Bool.eq_iff_iff]
  simp only[decide_eq_true_eq,Bool.not_eq_true',decide_eq_false_iff_not]
  omega
 ·rw[if_pos (by rw[Ap];simp;omega)]
  simp[h1]
def Au3:List UInt8:=[84,84,65,49]
def f0(b:List UInt8):Nat:=Ee (part b 4 2)
def f1(b:List UInt8):Nat:=Ee (part b 6 2)
def f2(b:List UInt8):Nat:=Ee (part b 8 2)
def f3(b:List UInt8):Nat:=Ee (part b 10 4)
def f4(b:List UInt8):Nat:=Ee (part b 14 4)
abbrev H6:=Int×Int×Int×Int×Int×Int
def Eh(b:List UInt8):H6:=
 if b.take (min 4 b.length)≠Au3.take (min 4 b.length)then(0,0,0,0,0,12)else if b.length<22 then(0,0,0,0,0,24)else
 if(Hr (b.take 18)).toNat≠Ee (part b 18 4)then(0,0,0,0,0,22)else
 if shapeB (f0 b) (f1 b) (f2 b) (f3 b) (f4 b)=false then(0,0,0,0,0,12)else
 if fitB (f1 b) (f3 b) (f4 b)=false then(0,0,0,0,0,4)else((f0 b:Int),(f1 b:Int),(f2 b:Int),(f3 b:Int),(f4 b:Int),0)
section
variable {b:List UInt8}
theorem rs1(h:b.take (min 4 b.length)≠Au3.take (min 4 b.length)):Eh b=(0,0,0,0,0,12):=by rw[Eh,if_pos h]
variable (h:b.take (min 4 b.length)=Au3.take (min 4 b.length))
include h
theorem rs2(h2:b.length<22):Eh b=(0,0,0,0,0,24):=by rw[Eh,if_neg (fun e=>e h),if_pos h2]
variable (h2:¬b.length<22)
include h2
theorem rs3(h3:(Hr (b.take 18)).toNat≠Ee (part b 18 4)):Eh b=(0,0,0,0,0,22):=by rw[Eh,if_neg (fun e=>e h),if_neg h2,if_pos h3]
variable (h3:(Hr (b.take 18)).toNat=Ee (part b 18 4))
include h3
theorem rs4(h4:shapeB (f0 b) (f1 b) (f2 b) (f3 b) (f4 b)=false):Eh b=(0,0,0,0,0,12):=by rw[Eh,if_neg (fun e=>e h),if_neg h2,if_neg (fun e=>e h3),if_pos h4]
variable (h4:shapeB (f0 b) (f1 b) (f2 b) (f3 b) (f4 b)=true)
include h4
theorem rs5(h5:fitB (f1 b) (f3 b) (f4 b)=false):Eh b=(0,0,0,0,0,4):=by rw[Eh,if_neg (fun e=>e h),if_neg h2,if_neg (fun e=>e h3),if_neg (by rw[h4];simp),if_pos h5]
theorem rs6(h5:fitB (f1 b) (f3 b) (f4 b)=true):Eh b=((f0 b:Int),(f1 b:Int),(f2 b:Int),(f3 b:Int),(f4 b:Int),0):=by rw[Eh,if_neg (fun e=>e h),if_neg h2,if_neg (fun e=>e h3),if_neg (by rw[h4];simp),if_neg (by rw[h5];simp)]
end
theorem Bwq(b:List UInt8)(h2:¬b.length<22):Ay (Ad (Hr (b.take 18)):UInt64) (leU (part b 18 4))=decide ((Hr (b.take 18)).toNat≠Ee (part b 18 4)):=by
 rw[Ai3,Ib,Bool.eq_iff_iff]
 simp only[bne_iff_ne,ne_eq,decide_eq_true_eq]
 rw[←UInt64.toNat_inj,Amg (by have:=(Hr (b.take 18)).toNat_lt;omega),Ami (by rw[Dn (by omega)];omega)]
theorem Avy(b:List UInt8)(a w:Nat)(i q:Nat)(l:List Int)(hi:i<5)(hl:l.length=5)(hw:Ak ([2,2,2,4,4]:List Int) (i:Int)=some (w:Int))(h1:1≤w)(h4:w≤4)(ha:a+w≤b.length)(hb:b.length<4611686018427387904):
  Ma b (q+1) (a:Int) (i:Int) l=Ma b q ((a+w:Nat):Int) ((i+1:Nat):Int) (l.set i (Ee (part b a w):Int)):=by
 rw[Ma,Aa0,if_pos (by rw[Af];simp;omega),hw,Aa,Bjn b a w h1 (by omega) ha hb,Aa]
 simp only
 rw[Cq (by omega),Aa,Wc _ (by omega),Aa,Afa (by rw[Dn ha];omega),Aj (by omega) (by omega),Aj (by omega) (by omega)]
 rfl
theorem Byw(b:List UInt8)(h22:¬b.length<22)(hb:b.length<4611686018427387904):Ab3 b 4 0 (List.replicate 5 0)=Ac6 [(f0 b:Int),(f1 b:Int),(f2 b:Int),(f3 b:Int),(f4 b:Int)]:=by
 have hF:FUEL=(FUEL-6)+1+1+1+1+1+1:=by have:=Am;omega
 rw[Ab3,hF,show(4:Int)=((4:Nat):Int)from rfl,show(0:Int)=((0:Nat):Int)from rfl]
 rw[Avy b 4 2 0 _ _ (by omega) (by simp) rfl (by omega) (by omega) (by omega) hb,Avy b 6 2 1 _ _ (by omega) (by simp) rfl (by omega) (by omega) (by omega) hb,Avy b 8 2 2 _ _ (by omega) (by simp) rfl (by omega) (by omega) (by omega) hb,
  Avy b 10 4 3 _ _ (by omega) (by simp) rfl (by omega) (by omega) (by omega) hb,Avy b 14 4 4 _ _ (by omega) (by simp) rfl (by omega) (by omega) (by omega) hb,Ma,Aa0,if_neg (by rw[Af];simp)]
 rfl
theorem Cg4(b:List UInt8):Hs [84,84,65,49] (b.take (min 4 b.length))=some (decide (b.take (min 4 b.length)=Au3.take (min 4 b.length))):=by
 have hl:(b.take (min 4 b.length)).length=min 4 b.length:=by rw[List.length_take];omega
 rw[Hs,Fo,if_pos (by rw[Eb,Ac,Ac,hl];simp;omega),Ac,hl,Cp (by omega) (by simp;omega),Aa,Aa,Int.toNat_natCast]
 congr 1
 rw[Bool.eq_iff_iff]
 rw[decide_eq_true_eq,beq_iff_eq]
 exact eq_comm
theorem Cf5(b:List UInt8):Ec (4:Int) (Ac b)=((min 4 b.length:Nat):Int):=by rw[Anv,Ac];omega
theorem Bb9(b:List UInt8)(hb:b.length<4611686018427387904):Nh b=some (Eh b):=by
 rw[Nh,Alg,Cf5,Cp (by omega) (by omega),Aa,Int.toNat_natCast,Cg4,Aa]
 by_cases h:b.take (min 4 b.length)=Au3.take (min 4 b.length)
 ·rw[if_neg (by simpa using h)]
  by_cases h2:b.length<22
  ·rw[if_pos (by rw[Af,Ac];simp;omega),rs2 h h2]
  ·have a1:Ap5 b 18 4=some (leU (part b 18 4),0):=Bjn b 18 4 (by omega) (by omega) (by omega) hb
   rw[if_neg (by rw[Af,Ac];simp;omega),a1,Aa]
   simp only
   rw[Cp (by omega) (by omega),Aa,show(18:Int).toNat=18 from rfl,Brm _ (by simp;omega),Aa]
   simp only
   rw[Bwq b h2]
   by_cases h3:(Hr (b.take 18)).toNat=Ee (part b 18 4)
   ·rw[if_neg (by simpa using h3),Byw b h2 hb,Ac6,Avd]
    rw[show Ak [(f0 b:Int),(f1 b:Int),(f2 b:Int),(f3 b:Int),(f4 b:Int)] 0=some (f0 b:Int)from rfl,show Ak [(f0 b:Int),(f1 b:Int),(f2 b:Int),(f3 b:Int),(f4 b:Int)] 1=some (f1 b:Int)from rfl,show Ak [(f0 b:Int),(f1 b:Int),(f2 b:Int),(f3 b:Int),(f4 b:Int)] 2=some (f2 b:Int)from rfl,
     show Ak [(f0 b:Int),(f1 b:Int),(f2 b:Int),(f3 b:Int),(f4 b:Int)] 3=some (f3 b:Int)from rfl,show Ak [(f0 b:Int),(f1 b:Int),(f2 b:Int),(f3 b:Int),(f4 b:Int)] 4=some (f4 b:Int)from rfl]
    simp only[Aa,Aus]
    cases h4:shapeB (f0 b) (f1 b) (f2 b) (f3 b) (f4 b)with
    |false=>rw[rs4 h h2 h3 h4];rfl
    |true=>
     rw[Bcg h4,if_neg (by simp),Aa]
     cases h5:fitB (f1 b) (f3 b) (f4 b)with
     |false=>rw[rs5 h h2 h3 h4 h5];rfl
     |true=>rw[rs6 h h2 h3 h4 h5];rfl
   ·rw[if_pos (by simpa using h3),rs3 h h2 h3]
 ·rw[if_pos (by simpa using h),rs1 h]
theorem Boh(b:List UInt8)(hb:b.length<4611686018427387904):Tg b=some (Eh b):=by
 rw[Tg,Agj,Cf5,Cp (by omega) (by omega),Aa,Int.toNat_natCast,Cp (by omega) (by simp;omega),Aa,Int.toNat_natCast]
 by_cases h:b.take (min 4 b.length)=Au3.take (min 4 b.length)
 ·rw[if_neg (by rw[h];simp[Au3]),Agy,Af2]
  by_cases h2:b.length<22
  ·rw[if_pos (by rw[Af,Ac];simp;omega),rs2 h h2]
  ·have a1:Bc b 18 22=some (part b 18 4):=Nj 18 4 (by omega)
   have c1:Bc b 4 6=some (part b 4 2):=Nj 4 2 (by omega)
   have c2:Bc b 6 8=some (part b 6 2):=Nj 6 2 (by omega)
   have c3:Bc b 8 10=some (part b 8 2):=Nj 8 2 (by omega)
   have c4:Bc b 10 14=some (part b 10 4):=Nj 10 4 (by omega)
   have c5:Bc b 14 18=some (part b 14 4):=Nj 14 4 (by omega)
   have hs:Ay (leU (part b 18 4)) (Ad (Hr (b.take 18)):UInt64)=decide ((Hr (b.take 18)).toNat≠Ee (part b 18 4)):=by
    rw[←Bwq b h2,Ai3,Ai3,Bool.eq_iff_iff];simp only[bne_iff_ne,ne_eq];exact not_congr eq_comm
   have lp:∀a w,a+w≤b.length→Dd (part b a w)=some (leU (part b a w)):=fun a w h=>Bn8 _ (by rw[Dn h];omega)
   rw[if_neg (by rw[Af,Ac];simp;omega),a1,Aa,Cp (by omega) (by omega),Aa,show(18:Int).toNat=18 from rfl,lp _ _ (by omega),Aa,Bwy _ (by simp;omega),Aa,hs]
   by_cases h3:(Hr (b.take 18)).toNat=Ee (part b 18 4)
   ·rw[if_neg (by simpa using h3),Agp,Af9,c1,Aa,c2,Aa,c3,Aa,c4,Aa,c5,Aa,lp _ _ (by omega),Aa,lp _ _ (by omega),Aa,lp _ _ (by omega),Aa,lp _ _ (by omega),Aa,lp _ _ (by omega),Aa,
     Af8,Afj,Afa (by rw[Dn (by omega)];omega),Afa (by rw[Dn (by omega)];omega),Afa (by rw[Dn (by omega)];omega),Afa (by rw[Dn (by omega)];omega),Afa (by rw[Dn (by omega)];omega)]
    rw[show Ee (part b 4 2)=f0 b from rfl,show Ee (part b 6 2)=f1 b from rfl,show Ee (part b 8 2)=f2 b from rfl,show Ee (part b 10 4)=f3 b from rfl,show Ee (part b 14 4)=f4 b from rfl,Ayi,Aa]
    cases h4:shapeB (f0 b) (f1 b) (f2 b) (f3 b) (f4 b)with
    |false=>rw[rs4 h h2 h3 h4];rfl
    |true=>
     rw[Bgo h4,if_neg (by simp),Aa]
     cases h5:fitB (f1 b) (f3 b) (f4 b)with
     |false=>rw[rs5 h h2 h3 h4 h5];rfl
     |true=>rw[rs6 h h2 h3 h4 h5];rfl
   ·rw[if_pos (by simpa using h3),rs3 h h2 h3]
 ·rw[if_pos (by simpa [Au3]using h),rs1 h]
theorem Box{b:List UInt8}(h:(Eh b).2.2.2.2.2=0):Eh b=((f0 b:Int),(f1 b:Int),(f2 b:Int),(f3 b:Int),(f4 b:Int),0)∧22≤b.length∧shapeB (f0 b) (f1 b) (f2 b) (f3 b) (f4 b)=true∧fitB (f1 b) (f3 b) (f4 b)=true:=by
 unfold Eh at h⊢
 split at h; · simp at h
 rename_i c1;rw[if_neg c1]
 split at h; · simp at h
 rename_i c2;rw[if_neg c2]
 split at h; · simp at h
 rename_i c3;rw[if_neg c3]
 split at h; · simp at h
 rename_i c4;rw[if_neg c4]
 split at h; · simp at h
 rename_i c5;rw[if_neg c5]
 exact⟨rfl,by omega,by simpa using c4,by simpa using c5⟩
theorem Bmu{f c w r n:Nat}(h:shapeB f c w r n=true)(h2:fitB c r n=true):Dk (f:Int) (c:Int) (w:Int) (r:Int) (n:Int)=some (framesL (longN r) n,0):=by
 have hc:Qr (f:Int) (c:Int) (w:Int) (r:Int) (n:Int)=some 0:=by
  rw[Qr,Aus,Aa,h,if_neg (by simp),Bcg h,Aa,h2];rfl
 have hd:4000/c≤4000:=Nat.div_le_self _ _
 simp only[shapeB,decide_eq_true_eq]at h
 simp only[fitB,decide_eq_true_eq]at h2
 rw[Dk,hc,Aa,if_neg (by rw[Al];simp),Bx7 (by omega) (by omega) (by omega) (by omega) h2.2]
 rfl
end Go.Pl
set_option linter.unusedVariables false
set_option linter.unusedSimpArgs false
namespace Go.Pl
open Go Go.Lv
def okL:List Int→Int→Bool
 |[],_=>true
 |x::l,left=>decide (5≤x∧x≤left)&&okL l (left-x)
theorem Cet:∀l:List Int,(∀x∈l,5≤x)→0≤l.sum
 |[],_=>by simp
 |x::l,h=>by
  have h1:=h x List.mem_cons_self
  have h2:=Cet l fun y hy=>h y (List.mem_cons_of_mem _ hy)
  rw[List.sum_cons];omega
theorem Ai2:∀(l:List Int) (left:Int),0≤left→(okL l left=true↔(∀x∈l,5≤x)∧l.sum≤left)
 |[],left,h=>by simp[okL];exact h
 |x::l,left,h=>by
  rw[okL,Bool.and_eq_true,decide_eq_true_eq,List.sum_cons]
  by_cases hx:5≤x∧x≤left
  ·rw[Ai2 l (left-x) (by omega)]
   constructor
   ·rintro⟨_,h1,h2⟩
    exact⟨fun y hy=>(List.mem_cons.1 hy).elim (fun e=>e▸hx.1) (h1 y),by omega⟩
   ·rintro⟨h1,h2⟩
    exact⟨hx,fun y hy=>h1 y (List.mem_cons_of_mem _ hy),by omega⟩
  ·constructor
   ·rintro⟨h1,_⟩;exact absurd h1 hx
   ·rintro⟨h1,h2⟩
    have h3:=h1 x List.mem_cons_self
    have:0≤l.sum:=Cet l fun y hy=>h1 y (List.mem_cons_of_mem _ hy)
    omega
theorem Bg0(l:List Int)(hl:l.length≤1000):∀(j i q:Nat) (left:Int),i+j=l.length→j<q→0≤left→left≤100000→Pp l q left (i:Int)=some (if okL (l.drop i) left=true then 0 else 8)
 |0,i,q+1,left,hi,_,_,_=>by
  rw[Pp,Abx,if_neg (by rw[Af,Ac];simp;omega),show i=l.length by omega,List.drop_length];rfl
 |j+1,i,q+1,left,hi,hq,h0,h1=>by
  have hlt:i<l.length:=by omega
  rw[Pp,Abx,if_pos (by rw[Af,Ac];simp;omega),Cq hlt,Aa,drop_cons hlt]
  by_cases h:5≤l[i]∧l[i]≤left
  ·rw[if_neg (by simp[Af,Ap];omega),Bp (by omega) (by omega),Aj (by omega) (by omega)]
   have ih:=Bg0 l hl j (i+1) q (left-l[i]) (by omega) (by omega) (by omega) (by omega)
   rw[show((i:Int)+1)=((i+1:Nat):Int) by omega,ih]
   simp[okL,h]
  ·rw[if_pos (by simp[Af,Ap];omega)]
   have:okL (l[i]::l.drop (i+1)) left=false:=by rw[okL,decide_eq_false h];rfl
   rw[this];rfl
def tabB(l:List Int):Bool:=decide (1≤l.length∧l.length≤1000)&&okL l 100000
theorem Bli(l:List Int)(hl:l.length≤1000):Nk l=some (if tabB l=true then 0 else 8):=by
 rw[Nk,Acm,tabB]
 by_cases h:1≤l.length
 ·rw[if_neg (by rw[As,Ap,Ac];simp;constructor;(intro e;subst e;simp at h);omega),Alk]
  have:=Bg0 l hl l.length 0 FUEL 100000 (by omega) (by have:=Am;omega) (by omega) (by omega)
  rw[List.drop_zero]at this
  rw[decide_eq_true (show 1≤l.length∧l.length≤1000 from⟨h,hl⟩),Bool.true_and]
  exact this
 ·have:l=[]:=by
   cases l with
   |nil=>rfl
   |cons _ _=>simp at h
  subst this;rfl
theorem Bjh(l:List Int)(hl:l.length≤1000):∀(j i q:Nat) (s:Int),i+j=l.length→j<q→0≤s→s≤100000*(i:Int)→Is l q s (i:Int)=some (if(∀x∈l.drop i,5≤x∧x≤100000)∧s+(l.drop i).sum≤100000 then 0 else 8)
 |0,i,q+1,s,hi,_,_,_=>by
  rw[Is,Sd,if_neg (by rw[Af,Ac];simp;omega),show i=l.length by omega,List.drop_length,Abd,Acb]
  by_cases h:s≤100000
  ·rw[if_neg (by rw[Ap];simp;omega),if_pos (by simp;omega)]
  ·rw[if_pos (by rw[Ap];simp;omega),if_neg (by simp;omega)]
 |j+1,i,q+1,s,hi,hq,h0,h1=>by
  have hlt:i<l.length:=by omega
  rw[Is,Sd,if_pos (by rw[Af,Ac];simp;omega),Cq hlt,Aa,drop_cons hlt]
  by_cases h5:l[i]<5
  ·rw[if_pos (by rw[Af];simpa using h5),if_neg (fun h=>by have:=(h.1 l[i] List.mem_cons_self).1;omega)]
  ·rw[if_neg (by rw[Af];simpa using h5),Aa]
   by_cases h6:100000<l[i]
   ·rw[if_pos (by rw[Ap];simpa using h6),if_neg (fun h=>by have:=(h.1 l[i] List.mem_cons_self).2;omega)]
   ·rw[if_neg (by rw[Ap];simpa using h6),Adx,Adi,Cq hlt,Aa,Aj (by omega) (by omega),Aj (by omega) (by omega)]
    have ih:=Bjh l hl j (i+1) q (s+l[i]) (by omega) (by omega) (by omega) (by omega)
    rw[show((i:Int)+1)=((i+1:Nat):Int) by omega,ih]
    have e:((∀x∈l.drop (i+1),5≤x∧x≤100000)∧s+l[i]+(l.drop (i+1)).sum≤100000)↔((∀x∈l[i]::l.drop (i+1),5≤x∧x≤100000)∧s+(l[i]::l.drop (i+1)).sum≤100000):=by
     rw[List.sum_cons,List.forall_mem_cons,Int.add_assoc]
     constructor
     ·rintro⟨a,b⟩;exact⟨⟨by omega,a⟩,b⟩
     ·rintro⟨⟨_,a⟩,b⟩;exact⟨a,b⟩
    simp only[e]
theorem Bl5:∀{l:List Int},(∀x∈l,5≤x)→∀x∈l,x≤l.sum
 |[],_,x,hx=>by simp at hx
 |y::l,h,x,hx=>by
  have h1:=h y List.mem_cons_self
  have h2:=Cet l fun z hz=>h z (List.mem_cons_of_mem _ hz)
  rw[List.sum_cons]
  rcases List.mem_cons.1 hx with rfl|hx
  ·omega
  ·have:=Bl5 (l:=l) (fun z hz=>h z (List.mem_cons_of_mem _ hz)) x hx
   omega
theorem Bpo(l:List Int)(hl:l.length≤1000):Gt l=some (if tabB l=true then 0 else 8):=by
 rw[Gt,Rr,tabB]
 by_cases h:1≤l.length
 ·have:=Bjh l hl l.length 0 FUEL 0 (by omega) (by have:=Am;omega) (by omega) (by omega)
  rw[if_neg (by rw[Af,Ap,Ac];simp;omega),Adj]
  refine Eq.trans this ?_
  rw[List.drop_zero,decide_eq_true (show 1≤l.length∧l.length≤1000 from⟨h,hl⟩),Bool.true_and]
  have e:((∀x∈l,5≤x∧x≤100000)∧0+l.sum≤100000)↔okL l 100000=true:=by
   rw[Ai2 l 100000 (by omega),Int.zero_add]
   constructor
   ·rintro⟨a,b⟩;exact⟨fun x hx=>(a x hx).1,b⟩
   ·rintro⟨a,b⟩;exact⟨fun x hx=>⟨a x hx,Int.le_trans (Bl5 a x hx) b⟩,b⟩
  simp only[e]
 ·have:l=[]:=by
   cases l with
   |nil=>rfl
   |cons _ _=>simp at h
  subst this;rfl
theorem At8(l:List Int):Nk l=some (if tabB l=true then 0 else 8):=by
 by_cases hl:l.length≤1000
 ·exact Bli l hl
 ·rw[Nk,Acm,if_pos (by rw[Ap,Ac];simp;omega),tabB,decide_eq_false (by omega)];rfl
theorem Ank(l:List Int):Gt l=some (if tabB l=true then 0 else 8):=by
 by_cases hl:l.length≤1000
 ·exact Bpo l hl
 ·rw[Gt,Rr,if_pos (by rw[Ap,Ac];simp;omega),tabB,decide_eq_false (by omega)];rfl
theorem Bq4(l:List Int)(hl:l.length≤1000)(hx:∀x∈l,0≤x∧x<4294967296):Nk l=some (if tabB l=true then 0 else 8):=At8 l
theorem Bvu(l:List Int)(hl:l.length≤1000)(hx:∀x∈l,0≤x∧x<4294967296):Gt l=some (if tabB l=true then 0 else 8):=Ank l
def Aiy(b:List UInt8)(n:Nat):List Int:=(List.range n).map fun i=>(Ee (part b (4*i) 4):Int)
theorem Afn(b:List UInt8)(n:Nat):(Aiy b n).length=n:=by simp[Aiy]
theorem Bks(b:List UInt8)(n:Nat):Aiy b (n+1)=Aiy b n++[(Ee (part b (4*n) 4):Int)]:=by simp[Aiy,List.range_succ]
theorem Bt5(b:List UInt8)(n:Nat)(h:4*n≤b.length):∀x∈Aiy b n,0≤x∧x<4294967296:=by
 intro x hx
 simp only[Aiy,List.mem_map,List.mem_range]at hx
 obtain⟨i,hi,rfl⟩:=hx
 have:=Bsb (l:=part b (4*i) 4) (by rw[Dn (by omega)];omega)
 omega
def Ie(b:List UInt8)(n:Nat):List Int×Int:=
 if ¬(1≤n∧n≤1000)then([],2)else if b.length<4*n+4 then([],24)else if(Hr (b.take (4*n))).toNat≠Ee (part b (4*n) 4)then([],22)else
 if tabB (Aiy b n)=true then(Aiy b n,0)else([],12)
theorem Bti{b:List UInt8}{n:Nat}(h:1≤n∧n≤1000)(h2:¬b.length<4*n+4):Ay (Ad (Hr (b.take (4*n))):UInt64) (leU (part b (4*n) 4))=decide ((Hr (b.take (4*n))).toNat≠Ee (part b (4*n) 4)):=by
 rw[Ai3,Ib,Bool.eq_iff_iff]
 simp only[bne_iff_ne,ne_eq,decide_eq_true_eq]
 rw[←UInt64.toNat_inj,Amg (by have:=(Hr (b.take (4*n))).toNat_lt;omega),Ami (by rw[Dn (by omega)];omega)]
section
variable {b:List UInt8} {n:Nat}
theorem ss1(h:¬(1≤n∧n≤1000)):Ie b n=([],2):=by rw[Ie,if_pos h]
variable (h:1≤n∧n≤1000)
include h
theorem ss2(h2:b.length<4*n+4):Ie b n=([],24):=by rw[Ie,if_neg (fun e=>e h),if_pos h2]
variable (h2:¬b.length<4*n+4)
include h2
theorem ss3(h3:(Hr (b.take (4*n))).toNat≠Ee (part b (4*n) 4)):Ie b n=([],22):=by rw[Ie,if_neg (fun e=>e h),if_neg h2,if_pos h3]
theorem ss4(h3:(Hr (b.take (4*n))).toNat=Ee (part b (4*n) 4)):Ie b n=if tabB (Aiy b n)=true then(Aiy b n,0)else([],12):=by rw[Ie,if_neg (fun e=>e h),if_neg h2,if_neg (fun e=>e h3)]
end
theorem Bjr(b:List UInt8)(l8:List Int)(n:Nat)(hn:n≤1000)(h8:l8.length=n)(hb:4*n+4≤b.length)(hb2:b.length<4611686018427387904):∀(j i q:Nat),i+j=n→j<q→Ri b l8 q (i:Int) (Aiy b i++List.replicate j 0)=Ae6 (Aiy b n)
 |0,i,q+1,hi,_=>by
  obtain rfl:i=n:=by omega
  rw[Ri,Afe,if_neg (by rw[Af,Ac];simp;omega)];simp
 |j+1,i,q+1,hi,hq=>by
  have hlen:(Aiy b i++List.replicate (j+1) 0).length=i+(j+1):=by simp[Afn]
  have ha:=Bjn b (4*i) 4 (by omega) (by omega) (by omega) hb2
  rw[Ri,Afe,if_pos (by rw[Af,Ac];simp;omega),Ih (by omega) (by omega),show(4:Int)*(i:Int)=((4*i:Nat):Int) by omega,show(4:Int)=((4:Nat):Int)from rfl,ha,Aa]
  simp only
  rw[Cq (by rw[hlen];omega),Aa,Wc _ (by rw[hlen];omega),Aa,Afa (by rw[Dn (by omega)];omega),Aj (by omega) (by omega),List.replicate_succ,Awo (Afn _ _)]
  have ih:=Bjr b l8 n hn h8 hb hb2 j (i+1) q (by omega) (by omega)
  rw[Bks]at ih
  rw[show((i:Int)+1)=((i+1:Nat):Int) by omega,←ih]
  simp
theorem Bkq(b:List UInt8)(n:Nat)(hb:b.length≤100100):Akk b (n:Int)=some (Ie b n):=by
 rw[Akk,An8]
 by_cases h:1≤n∧n≤1000
 ·rw[if_neg (by simp[Af,Ap];omega),Ih (by omega) (by omega),Aj (by omega) (by omega)]
  by_cases h2:b.length<4*n+4
  ·rw[if_pos (by rw[Af,Ac];simp;omega),ss2 h h2]
  ·have ha:Ap5 b (4*(n:Int)) 4=some (leU (part b (4*n) 4),0):=by
    rw[show(4:Int)*(n:Int)=((4*n:Nat):Int) by omega]
    exact Bjn b (4*n) 4 (by omega) (by omega) (by omega) (by omega)
   rw[if_neg (by rw[Af,Ac];simp;omega),ha,Aa]
   simp only
   rw[Cp (by omega) (by omega),Aa,show(4*(n:Int)).toNat=4*n by omega,Brm _ (by simp;omega),Aa]
   simp only
   rw[Bti h h2]
   by_cases h3:(Hr (b.take (4*n))).toNat=Ee (part b (4*n) 4)
   ·have hlp:=Bjr b (List.replicate n 0) n (by omega) (by simp) (by omega) (by omega) n 0 FUEL (by omega) (by have:=Am;omega)
    rw[if_neg (by simpa using h3),Bid (by omega) (by omega),Aa,Db (by rw[As];simp),Aa,Ani,Int.toNat_natCast]
    refine Eq.trans (hlp) ?_
    rw[Ae6,Axk,Bq4 _ (by rw[Afn];omega) (Bt5 b n (by omega)),Aa,ss4 h h2 h3]
    cases tabB (Aiy b n)<;>rfl
   ·rw[if_pos (by simpa using h3),ss3 h h2 h3]
 ·rw[if_pos (by simp[Af,Ap];omega),ss1 h]
theorem Ax3(b:List UInt8)(n:Nat)(hn:n≤1000)(hb:4*n+4≤b.length)(hb2:b.length<4611686018427387904):∀(j i q:Nat),i+j=n→j<q→Jm b (n:Int) q (i:Int) (Aiy b i)=Ud (Aiy b n)
 |0,i,q+1,hi,_=>by
  obtain rfl:i=n:=by omega
  rw[Jm,Ua,if_neg (by rw[Af];simp)]
 |j+1,i,q+1,hi,hq=>by
  have hc:Bc b ((4:Int)*(i:Int)) ((4:Int)*(i:Int)+4)=some (part b (4*i) 4):=by
   rw[show(4:Int)*(i:Int)=((4*i:Nat):Int) by omega]
   exact Nj (4*i) 4 (by omega)
  rw[Jm,Ua,if_pos (by rw[Af];simp;omega),Ih (by omega) (by omega),Aj (by omega) (by omega),hc,Aa,Bn8 _ (by rw[Dn (by omega)];omega),Aa,Cm (by rw[Afn];simp;omega),Aa,
   Afa (by rw[Dn (by omega)];omega),Aj (by omega) (by omega),←Bks]
  exact Ax3 b n hn hb hb2 j (i+1) q (by omega) (by omega)
theorem Bxt(b:List UInt8)(n:Nat)(hb:b.length≤100100):Abt b (n:Int)=some (Ie b n):=by
 rw[Abt,Afz]
 by_cases h:1≤n∧n≤1000
 ·rw[if_neg (by simp[Af,Ap];omega),Ih (by omega) (by omega),Aj (by omega) (by omega)]
  by_cases h2:b.length<4*n+4
  ·rw[if_pos (by rw[Af,Ac];simp;omega),ss2 h h2]
  ·have hc:Bc b ((4:Int)*(n:Int)) ((4:Int)*(n:Int)+4)=some (part b (4*n) 4):=by
    rw[show(4:Int)*(n:Int)=((4*n:Nat):Int) by omega]
    exact Nj (4*n) 4 (by omega)
   have hs:Ay (leU (part b (4*n) 4)) (Ad (Hr (b.take (4*n))):UInt64)=decide ((Hr (b.take (4*n))).toNat≠Ee (part b (4*n) 4)):=by
    rw[←Bti h h2,Ai3,Ai3,Bool.eq_iff_iff];simp only[bne_iff_ne,ne_eq];exact not_congr eq_comm
   rw[if_neg (by rw[Af,Ac];simp;omega),hc,Aa,Cp (by omega) (by omega),Aa,show(4*(n:Int)).toNat=4*n by omega,Bn8 _ (by rw[Dn (by omega)];omega),Aa,Bwy _ (by simp;omega),Aa,hs]
   by_cases h3:(Hr (b.take (4*n))).toNat=Ee (part b (4*n) 4)
   ·have hlp:=Ax3 b n (by omega) (by omega) (by omega) n 0 FUEL (by omega) (by have:=Am;omega)
    rw[if_neg (by simpa using h3),Aft,Af5,Afk]
    refine Eq.trans hlp ?_
    rw[Ud,Afs,Bvu _ (by rw[Afn];omega) (Bt5 b n (by omega)),Aa,ss4 h h2 h3]
    cases tabB (Aiy b n)<;>rfl
   ·rw[if_pos (by simpa using h3),ss3 h h2 h3]
 ·rw[if_pos (by simp[Af,Ap];omega),ss1 h]
theorem Bou{b:List UInt8}{n:Nat}(h:(Ie b n).2=0):Ie b n=(Aiy b n,0)∧1≤n∧n≤1000∧4*n+4≤b.length∧(∀x∈Aiy b n,5≤x)∧(Aiy b n).sum≤100000:=by
 unfold Ie at h⊢
 split at h; · simp at h
 rename_i c1;rw[if_neg c1]
 split at h; · simp at h
 rename_i c2;rw[if_neg c2]
 split at h; · simp at h
 rename_i c3;rw[if_neg c3]
 split at h
 ·rename_i c4
  rw[if_pos c4]
  have c4':=c4
  rw[tabB,Bool.and_eq_true,Ai2 _ _ (by omega)]at c4'
  exact⟨rfl,by omega,by omega,by omega,c4'.2.1,c4'.2.2⟩
 ·simp at h
end Go.Pl
set_option linter.unusedVariables false
set_option linter.unusedSimpArgs false
namespace Go.Pl
open Go Go.Lv
def Tv(b:List UInt8):List UInt8:=b.drop (Dh b).1.toNat
theorem Br1(A K:Nat)(h:A≤200000)(hk:K≤1000):Ae (Ae (A:Int) (Bk 4 (K:Int))) 4=((A+4*K+4:Nat):Int):=by
 rw[Ih (by omega) (by omega),Aj (a:=(A:Int)) (by omega) (by omega),Aj (by omega) (by omega)];omega
end Go.Pl
set_option linter.unusedVariables false
set_option linter.unusedSimpArgs false
namespace Go.Pl
open Go Go.Lv
theorem Bv3(l:List Int)(i:Nat):(l.take i).sum+(l.drop i).sum=l.sum:=by
 conv=>rhs;rw[←List.take_append_drop i l,List.sum_append]
theorem Ax1{l:List Int}{i:Nat}(h:i<l.length):(l.take (i+1)).sum=(l.take i).sum+l[i]:=by
 rw[Aje h,List.sum_append];simp
theorem Aef{g n:Nat}(hg:1≤g)(hn:1≤n){x:Int}(h:x∈framesL g n):∃m:Nat,x=m∧1≤m∧m≤n:=by
 have hmul:=Nat.div_mul_le_self (n-1) g
 rw[framesL,List.mem_append]at h
 rcases h with h|h
 ·rw[List.mem_replicate]at h
  have h1:1≤(n-1)/g:=Nat.pos_of_ne_zero h.1
  have:=Nat.mul_le_mul_right g h1
  exact⟨g,h.2,hg,by omega⟩
 ·rw[List.mem_singleton]at h
  exact⟨_,h,by omega,by omega⟩
theorem Bai{f c w r n:Nat}(h:shapeB f c w r n=true):(1≤c∧c≤6)∧Ct (w:Int)∧(1≤r∧r≤1048576)∧1≤n∧(f=1∨f=2):=by
 simp only[shapeB,decide_eq_true_eq]at h
 refine⟨h.2.1,?_,h.2.2.2.1,h.2.2.2.2,h.1⟩
 rcases h.2.2.1 with rfl|rfl|rfl
 ·exact .inl rfl
 ·exact .inr (.inl rfl)
 ·exact .inr (.inr rfl)
end Go.Pl
set_option linter.unusedVariables false
set_option linter.unusedSimpArgs false
namespace Go.Pl
open Go Go.Lv
theorem Cdy(n m:Nat):Mw n m 0≠Mw n m 2147483648:=by
 intro h
 simp[Mw,leB,APE]at h
def Ca(b:List UInt8):List UInt8:=b.drop (b.length-32)
theorem Bpf{b:List UInt8}(h:32≤b.length):(Ca b).length=32:=by rw[Ca,List.length_drop];omega
def itA(t:List UInt8):Nat:=Ee (part t 12 4)-32
def mnA(t:List UInt8):Nat:=Ee (part t 16 4)
def Uo(b:List UInt8):Int×Int:=
 if ¬(32≤b.length∧(Ca b).take 8=APE)then(0,6)else if Aak (Ca b)=true then(0,12)else
 if Ca b=Mw (itA (Ca b)) (mnA (Ca b)) 0 then(if b.length<itA (Ca b)+32 then(0,24)else(((itA (Ca b)+32:Nat):Int),0))else
 if Ca b≠Mw (itA (Ca b)) (mnA (Ca b)) 2147483648 then(0,12)else
 if b.length<itA (Ca b)+64 then(0,24)else
 if(b.take (b.length-(itA (Ca b)+64)+32)).drop (b.length-(itA (Ca b)+64))≠Mw (itA (Ca b)) (mnA (Ca b)) 2684354560 then(0,12)else(((itA (Ca b)+64:Nat):Int),0)
section
variable {b:List UInt8}
theorem ba1(h:¬(32≤b.length∧(Ca b).take 8=APE)):Uo b=(0,6):=by rw[Uo,if_pos h]
variable (h:32≤b.length∧(Ca b).take 8=APE)
include h
theorem ba2(h2:Aak (Ca b)=true):Uo b=(0,12):=by rw[Uo,if_neg (fun h'=>h' h),if_pos h2]
variable (h2:Aak (Ca b)=false)
include h2
theorem ba3(h3:Ca b=Mw (itA (Ca b)) (mnA (Ca b)) 0):Uo b=if b.length<itA (Ca b)+32 then(0,24)else(((itA (Ca b)+32:Nat):Int),0):=by
 rw[Uo,if_neg (fun h'=>h' h),if_neg (by rw[h2];simp),if_pos h3]
variable (h3:Ca b≠Mw (itA (Ca b)) (mnA (Ca b)) 0)
include h3
theorem ba4(h4:Ca b≠Mw (itA (Ca b)) (mnA (Ca b)) 2147483648):Uo b=(0,12):=by
 rw[Uo,if_neg (fun h'=>h' h),if_neg (by rw[h2];simp),if_neg h3,if_pos h4]
variable (h4:Ca b=Mw (itA (Ca b)) (mnA (Ca b)) 2147483648)
include h4
theorem ba5(h5:b.length<itA (Ca b)+64):Uo b=(0,24):=by
 rw[Uo,if_neg (fun h'=>h' h),if_neg (by rw[h2];simp),if_neg h3,if_neg (fun e=>e h4),if_pos h5]
theorem ba6(h5:¬b.length<itA (Ca b)+64):Uo b=if(b.take (b.length-(itA (Ca b)+64)+32)).drop (b.length-(itA (Ca b)+64))≠Mw (itA (Ca b)) (mnA (Ca b)) 2684354560 then(0,12)else(((itA (Ca b)+64:Nat):Int),0):=by
 rw[Uo,if_neg (fun h'=>h' h),if_neg (by rw[h2];simp),if_neg h3,if_neg (fun e=>e h4),if_neg h5]
end
theorem Bm4{b:List UInt8}{n:Int}(h:Uo b=(n,0)):32≤n∧n≤b.length:=by
 unfold Uo at h
 split at h; · simp at h
 rename_i h32
 split at h; · simp at h
 split at h
 ·split at h; · simp at h
  simp only[Prod.mk.injEq,and_true]at h;omega
 split at h; · simp at h
 split at h; · simp at h
 split at h; · simp at h
 simp only[Prod.mk.injEq,and_true]at h;omega
theorem Bun{b:List UInt8}(h:(Uo b).2≠0):(Uo b).1=0:=by
 revert h
 unfold Uo
 split; · simp
 split; · simp
 split
 ·split<;>simp
 split; · simp
 split; · simp
 split<;>simp
theorem Bwu{b:List UInt8}(h:32≤b.length)(hl:b.length<4611686018427387904):Ah (Ac b) 32=((b.length-32:Nat):Int)∧Bc b ((b.length-32:Nat):Int) (Ac b)=some (Ca b):=by
 refine⟨by rw[Ac,Bp (by omega) (by omega)];omega,?_⟩
 rw[Cy (by omega) (by omega)];rfl
theorem Bu1(b:List UInt8)(hl:b.length<4611686018427387904):Az1 b=some (Uo b):=by
 rw[Az1,At0]
 by_cases h32:32≤b.length
 ·obtain⟨e1,e2⟩:=Bwu h32 hl
  have hl3:=Bpf h32
  rw[if_neg (by rw[e1,Af];simp),e1,e2,Aa,Aq9,Aa]
  by_cases hp:(Ca b).take 8=APE
  ·have h:=And.intro h32 hp
   rw[if_neg (by simpa [APE,hl3]using hp),At6,Bco,e1,e2,Aa,Arq _ 0 (by omega) (by omega) (by decide),Aa]
   cases hb:Aak (Ca b)with
   |true=>
    rw[ba2 h hb]
    simp only[if_true,Bool.false_eq_true,if_false]
    rw[Aa,Arq _ 2147483648 (by omega) (by omega) (by decide),Aa,hb];rfl
   |false=>
    obtain⟨i1,i2,i3,i4⟩:=Bbm (Ca b) (by omega) hb
    have eI:Ee (part (Ca b) 12 4)-32=itA (Ca b):=rfl
    have eM:Ee (part (Ca b) 16 4)=mnA (Ca b):=rfl
    simp only[Bool.false_eq_true,if_false]
    rw[eI]at i3
    rw[eM]at i4
    rw[eI,eM]
    by_cases c1:Ca b=Mw (itA (Ca b)) (mnA (Ca b)) 0
    ·have c1':Ca b=Mw (itA (Ca b)) (mnA (Ca b)) (0:UInt64).toNat:=c1
     rw[if_pos (by simpa using c1'),ba3 h hb c1]
     by_cases c2:b.length<itA (Ca b)+32
     ·rw[if_pos (by rw[Af];simp;omega),if_pos c2]
     ·rw[if_neg (by rw[Af];simp;omega),if_neg c2,Aj (by omega) (by omega)];rfl
    ·have c1':¬Ca b=Mw (itA (Ca b)) (mnA (Ca b)) (0:UInt64).toNat:=c1
     rw[if_neg (by simpa using c1'),Aa,Arq _ 2147483648 (by omega) (by omega) (by decide),Aa,hb]
     simp only[Bool.false_eq_true,if_false]
     rw[eI,eM]
     by_cases c2:Ca b=Mw (itA (Ca b)) (mnA (Ca b)) 2147483648
     ·have c2':Ca b=Mw (itA (Ca b)) (mnA (Ca b)) (2147483648:UInt64).toNat:=c2
      rw[if_neg (by simpa using c2'),Aj (by omega) (by omega)]
      by_cases c3:b.length<itA (Ca b)+64
      ·rw[if_pos (by rw[Af,Ac];simp;omega),ba5 h hb c1 c2 c3]
      ·rw[if_neg (by rw[Af,Ac];simp;omega),Ac,Bp (by omega) (by omega),Aj (by omega) (by omega),Aee (by omega) (by omega) (by omega),Aa,Bhq _ _ _ i3 i4 (by decide),Aa,Ff,Aa,ba6 h hb c1 c2 c3]
       rw[show((b.length:Int)-(((itA (Ca b):Nat):Int)+64)).toNat=b.length-(itA (Ca b)+64) by omega,show((b.length:Int)-(((itA (Ca b):Nat):Int)+64)+32).toNat=b.length-(itA (Ca b)+64)+32 by omega]
       have e7:(2684354560:UInt64).toNat=2684354560:=rfl
       rw[e7]
       by_cases c4:(b.take (b.length-(itA (Ca b)+64)+32)).drop (b.length-(itA (Ca b)+64))=Mw (itA (Ca b)) (mnA (Ca b)) 2684354560
       ·rw[if_neg (by simpa using c4),if_neg (fun e=>e c4)];rfl
       ·rw[if_pos (by simpa using c4),if_pos c4]
     ·have c2':¬Ca b=Mw (itA (Ca b)) (mnA (Ca b)) (2147483648:UInt64).toNat:=c2
      rw[if_pos (by simpa using c2'),ba4 h hb c1 c2]
  ·rw[if_pos (by rw[Bool.not_eq_true',decide_eq_false_iff_not];intro h;exact hp h.2),ba1 (fun h=>hp h.2)]
 ·rw[if_pos (by rw[Ac,Bp (by omega) (by omega),Af];simp;omega),ba1 (fun h=>h32 h.1)]
theorem Cb2{b:List UInt8}(h:32≤b.length):(b.take (b.length-32+8)).drop (b.length-32)=(Ca b).take 8:=by
 rw[Ca,List.take_drop]
theorem Bys(b:List UInt8)(hl:b.length<4611686018427387904):Aaq b=some (Uo b):=by
 rw[Aaq,Agu]
 by_cases h32:32≤b.length
 ·obtain⟨e1,e2⟩:=Bwu h32 hl
  have hl3:=Bpf h32
  rw[if_neg (by rw[Af,Ac];simp;omega),e1,Aj (by omega) (by omega),Aee (by omega) (by omega) (by omega),Aa,show((b.length-32:Nat):Int).toNat=b.length-32 from rfl,show(((b.length-32:Nat):Int)+8).toNat=b.length-32+8 by omega,Cb2 h32]
  by_cases hp:(Ca b).take 8=APE
  ·have h:=And.intro h32 hp
   rw[if_neg (by simpa [APE]using hp),Af1,Af6,e1,e2,Aa,Boz _ (by omega) (by omega),Aa]
   cases hb:Aak (Ca b)with
   |true=>rw[ba2 h hb];rfl
   |false=>
    obtain⟨i1,i2,i3,i4⟩:=Bbm (Ca b) (by omega) hb
    have eI:Ee (part (Ca b) 12 4)-32=itA (Ca b):=rfl
    have eM:Ee (part (Ca b) 16 4)=mnA (Ca b):=rfl
    simp only[Bool.false_eq_true,if_false,Bool.not_true]
    rw[eI]at i3
    rw[eM]at i4
    rw[eI,eM,Jz,if_pos rfl,Bal _ _ _ i3 i4 (by decide),Aa,Aa]
    have e7:(2147483648:UInt64).toNat=2147483648:=rfl
    have e8:(2684354560:UInt64).toNat=2684354560:=rfl
    rw[e7]
    by_cases c2:Ca b=Mw (itA (Ca b)) (mnA (Ca b)) 2147483648
    ·have c1:Ca b≠Mw (itA (Ca b)) (mnA (Ca b)) 0:=fun e=>Cdy (itA (Ca b)) (mnA (Ca b)) (e.symm.trans c2)
     rw[if_neg (by simpa using c2),Un,Uv,if_pos (by simpa using c2),Vc,Ve,Aj (a:=32) (by omega) (by omega),Aj (by omega) (by omega)]
     by_cases c3:b.length<itA (Ca b)+64
     ·rw[if_pos (by rw[Af,Ac];simp;omega),ba5 h hb c1 c2 c3]
     ·rw[if_neg (by rw[Af,Ac];simp;omega),if_pos (by simpa using c2),Ac,Bp (by omega) (by omega),Aj (by omega) (by omega),Aee (by omega) (by omega) (by omega),Aa,Sp,Bal _ _ _ i3 i4 (by decide),Aa,Aa,ba6 h hb c1 c2 c3,e8]
      rw[show((b.length:Int)-(32+((itA (Ca b):Nat):Int)+32)).toNat=b.length-(itA (Ca b)+64) by omega,show((b.length:Int)-(32+((itA (Ca b):Nat):Int)+32)+32).toNat=b.length-(itA (Ca b)+64)+32 by omega]
      by_cases c4:(b.take (b.length-(itA (Ca b)+64)+32)).drop (b.length-(itA (Ca b)+64))=Mw (itA (Ca b)) (mnA (Ca b)) 2684354560
      ·rw[if_neg (by simpa using c4),if_neg (fun e=>e c4),show(32+((itA (Ca b):Nat):Int)+32)=((itA (Ca b)+64:Nat):Int) by omega]
      ·rw[if_pos (by simpa using c4),if_pos c4]
    ·rw[if_pos (by simpa using c2),Jz,if_neg (by simp),Bal _ _ _ i3 i4 (by decide),Aa,Aa]
     have e9:(0:UInt64).toNat=0:=rfl
     rw[e9]
     by_cases c1:Ca b=Mw (itA (Ca b)) (mnA (Ca b)) 0
     ·rw[if_neg (by simpa using c1),Un,Uv,if_neg (by simpa using c2),Vc,Ve,Aj (by omega) (by omega),ba3 h hb c1,if_neg (c:=(Ca b==Mw (itA (Ca b)) (mnA (Ca b)) 2147483648)=true) (by simpa using c2)]
      by_cases c3:b.length<itA (Ca b)+32
      ·rw[if_pos (by rw[Af,Ac];simp;omega),if_pos c3]
      ·rw[if_neg (by rw[Af,Ac];simp;omega),if_neg c3,show(32+((itA (Ca b):Nat):Int))=((itA (Ca b)+32:Nat):Int) by omega]
     ·rw[if_pos (by simpa using c1),ba4 h hb c1 c2]
  ·rw[if_pos (by simpa [APE]using hp),ba1 (fun h=>hp h.2)]
 ·rw[if_pos (by rw[Af,Ac];simp;omega),ba1 (fun h=>h32 h.1)]
def Blw:Nat→List UInt8→Nat→Int×Int
 |0,_,_=>(0,38)
 |j+1,b,a=>if b=[]then((a:Int),0)else if(Uo b).2≠0 then(0,38)else Blw j (b.take (b.length-(Uo b).1.toNat)) (a+1)
theorem Bp1:∀(j q a:Nat) (b:List UInt8),b.length<j→j≤q→b.length≤4000→a+b.length≤4000→Qz q (a:Int) b=some (Blw j b a)
 |0,_,_,_,h,_,_,_=>by omega
 |j+1,q+1,a,b,h,hq,h4,ha=>by
  rw[Qz,Ahs,Blw]
  by_cases hb:b=[]
  ·subst hb;rw[if_neg (by decide),if_pos rfl];rfl
  ·have hpos:0<b.length:=List.length_pos_iff.2 hb
   rw[if_pos (by rw[Ap,Ac];simp;omega),if_neg hb,Bu1 b (by omega),Aa]
   have hbad:=Bun (b:=b)
   have hok:=fun n=>Bm4 (b:=b) (n:=n)
   generalize Uo b=v at*
   obtain⟨n,e⟩:=v
   simp only at hbad⊢
   rw[Aeb,Aeo]
   by_cases he:e≠0
   ·rw[if_pos he,hbad he,if_pos (by decide)]
   ·obtain⟨k1,k2⟩:=hok n (by rw[show e=0 by simpa using he])
    rw[if_neg he,if_neg (by rw[As];simp;omega),Ac,Bp (by omega) (by omega),Cp (by omega) (by omega),Aa,Aem,Ao8,Aj (by omega) (by omega)]
    rw[show((b.length:Int)-n).toNat=b.length-n.toNat by omega]
    have ih:=Bp1 j q (a+1) (b.take (b.length-n.toNat)) (by rw[List.length_take];omega) (by omega) (by rw[List.length_take];omega) (by rw[List.length_take];omega)
    rw[←ih];rfl
theorem Bt4:∀(j q a:Nat) (b:List UInt8),b.length<j→j≤q→b.length≤4000→a+b.length≤4000→Kx q b (a:Int)=some (Blw j b a)
 |0,_,_,_,h,_,_,_=>by omega
 |j+1,q+1,a,b,h,hq,h4,ha=>by
  rw[Kx,Acd,Blw]
  by_cases hb:b=[]
  ·subst hb;rw[if_neg (by decide),if_pos rfl];rfl
  ·have hpos:0<b.length:=List.length_pos_iff.2 hb
   rw[if_pos (by rw[Ap,Ac];simp;omega),if_neg hb,Bys b (by omega),Aa]
   have hok:=fun n=>Bm4 (b:=b) (n:=n)
   generalize Uo b=v at*
   obtain⟨n,e⟩:=v
   simp only
   by_cases he:e≠0
   ·rw[if_pos he,if_pos (by rw[Al];simpa using he)]
   ·obtain⟨k1,k2⟩:=hok n (by rw[show e=0 by simpa using he])
    rw[if_neg he,if_neg (by rw[Al];simpa using he),Ac,Bp (by omega) (by omega),Cp (by omega) (by omega),Aa,Aj (by omega) (by omega)]
    rw[show((b.length:Int)-n).toNat=b.length-n.toNat by omega]
    have ih:=Bt4 j q (a+1) (b.take (b.length-n.toNat)) (by rw[List.length_take];omega) (by omega) (by rw[List.length_take];omega) (by rw[List.length_take];omega)
    rw[←ih];rfl
def Al4(b:List UInt8):Int×Int:=if 4000<b.length then(0,38)else Blw (b.length+1) b 0
theorem Bnm(b:List UInt8)(hl:b.length<4611686018427387904):Ai1 b=some (Al4 b):=by
 rw[Ai1,Ahu,Al4]
 by_cases h:4000<b.length
 ·rw[if_pos (by rw[Ap,Ac];simp;omega),if_pos h]
 ·rw[if_neg (by rw[Ap,Ac];simp;omega),if_neg h]
  exact Bp1 _ FUEL 0 b (by omega) (by have:=Am;omega) (by omega) (by omega)
theorem Brk(b:List UInt8)(hl:b.length<4611686018427387904):Wn b=some (Al4 b):=by
 rw[Wn,Aax,Al4]
 by_cases h:4000<b.length
 ·rw[if_pos (by rw[Ap,Ac];simp;omega),if_pos h]
 ·rw[if_neg (by rw[Ap,Ac];simp;omega),if_neg h]
  exact Bt4 _ FUEL 0 b (by omega) (by have:=Am;omega) (by omega) (by omega)
end Go.Pl
set_option linter.unusedVariables false
set_option linter.unusedSimpArgs false
namespace Go.Pl
open Go Go.Lv
theorem Ce2{a b:Nat}(h:a<9223372036854775808):Bw (a:Int) (b:Int)=((a/b:Nat):Int):=by
 have:a/b≤a:=Nat.div_le_self _ _
 rw[Ag8,Int.tdiv_eq_ediv_of_nonneg (by omega),←Int.natCast_ediv]
 generalize a/b=k at*
 exact Ch (by omega) (by omega)
theorem Bv4{bits:Int}(h:Ct bits)(x:Int):(Awx bits x).length=wB bits:=by
 obtain rfl|rfl|rfl:=h<;>rfl
theorem Bd0{bits:Int}(h:Ct bits):∀l:List Int32,(Mv bits l).length=l.length*wB bits
 |[]=>by simp[Mv]
 |x::l=>by
  have h1:=Bd0 h l
  have h2:=Bv4 h x.toInt
  simp only[Mv,List.flatMap_cons,List.length_append,List.length_cons,Nat.succ_mul]at*
  omega
end Go.Pl
set_option linter.unusedVariables false
set_option linter.unusedSimpArgs false
namespace Go.Pl
open Go Go.Lv
variable (b:List UInt8)
end Go.Pl
set_option linter.unusedVariables false
set_option linter.unusedSimpArgs false
namespace Go.Pl
open Go Go.Lv
theorem Ce6{c:Nat}{w:Nat}(hc:c≤6)(hw:Ct (w:Int)):Bw (Bk (c:Int) (w:Int)) 8=((c*wB (w:Int):Nat):Int):=by
 have h:w=8∨w=16∨w=24:=by unfold Ct at hw;omega
 have:c=0∨c=1∨c=2∨c=3∨c=4∨c=5∨c=6:=by omega
 rcases h with rfl|rfl|rfl<;>rcases this with rfl|rfl|rfl|rfl|rfl|rfl|rfl<;>rfl
theorem Cea{w:Nat}(hw:Ct (w:Int)):8*wB (w:Int)=w∧w≤24:=by
 have h:w=8∨w=16∨w=24:=by unfold Ct at hw;omega
 rcases h with rfl|rfl|rfl<;>exact⟨rfl,by omega⟩
theorem Ceq{t c w:Nat}(ht:t≤4000)(hc:c≤6)(hw:Ct (w:Int)):Bw (Bk (Bk (t:Int) (c:Int)) (w:Int)) 8=((t*(c*wB (w:Int)):Nat):Int):=by
 obtain⟨h1,h2⟩:=Cea hw
 have e1:(t:Int)*(c:Int)=((t*c:Nat):Int):=by simp
 have b1:t*c≤4000*6:=Nat.mul_le_mul ht hc
 have b2:t*c*w≤24000*24:=Nat.mul_le_mul b1 h2
 rw[Ih (a:=(t:Int)) (by rw[e1];omega) (by rw[e1];omega),e1,Ih (by rw[←Int.natCast_mul];omega) (by rw[←Int.natCast_mul];omega),←Int.natCast_mul,show(8:Int)=((8:Nat):Int)from rfl,Ce2 (by omega)]
 congr 1
 generalize wB (w:Int)=W at*
 subst h1
 rw[Nat.mul_left_comm,Nat.mul_div_cancel_left _ (by omega),Nat.mul_assoc]
end Go.Pl
set_option linter.unusedVariables false
set_option linter.unusedSimpArgs false
namespace Go.Pl
open Go Go.Lv
end Go.Pl
set_option linter.unusedVariables false
set_option linter.unusedSimpArgs false
namespace Go.Pl
open Go Go.Lv
end Go.Pl
set_option linter.unusedVariables false
set_option linter.unusedSimpArgs false
namespace Go.Pl
open Go Go.Lv
theorem Bnw{seg p:List UInt8}(hs:seg.length=8)(hp:p.length≤64):Acu seg p=some (seg==leB (Aby p).toNat 8,0):=by
 rw[Acu,Bud p hp,Aa]
 simp only
 rw[if_neg (by rw[Al,Al,Ac,Ac,Oj,hs];simp),Ff,Aa]
end Go.Pl
set_option linter.unusedVariables false
set_option linter.unusedSimpArgs false
namespace Go.Pl
open Go Go.Lv
def Bbg(b:List UInt8):List Int:=framesL (longN (f3 (Tv b))) (f4 (Tv b))
end Go.Pl
set_option linter.unusedVariables false
set_option linter.unusedSimpArgs false
namespace Go.Pl
open Go Go.Lv
end Go.Pl
set_option linter.unusedVariables false
set_option linter.unusedSimpArgs false
namespace Go.Pl
open Go Go.Lv
end Go.Pl
set_option linter.unusedVariables false
set_option linter.unusedSimpArgs false
namespace Go.Pl
open Go Go.Lv
theorem Bhl{c r n:Nat}(h:fitB c r n=true):1≤(framesL (longN r) n).length∧(framesL (longN r) n).length≤1000:=by
 simp only[fitB,decide_eq_true_eq]at h
 rw[Bdg];exact⟨Nat.le_add_left _ _,h.2⟩
end Go.Pl
set_option linter.unusedVariables false
set_option linter.unusedSimpArgs false
namespace Go.Pl
open Go Go.Lv
theorem Bsq(g:Nat):∀K:Nat,(List.replicate K (g:Int)).sum=((K*g:Nat):Int)
 |0=>by simp
 |K+1=>by
  rw[List.replicate_succ,List.sum_cons,Bsq g K,Nat.succ_mul];omega
theorem Bok{g n:Nat}(hn:1≤n):(framesL g n).sum=(n:Int):=by
 have h:=Nat.div_mul_le_self (n-1) g
 rw[framesL,List.sum_append,Bsq]
 simp only[List.sum_cons,List.sum_nil]
 omega
theorem Brn:∀{l:List Int},(∀x∈l,0≤x)→0≤l.sum
 |[],_=>by simp
 |x::l,h=>by
  have h1:=h x List.mem_cons_self
  have h2:=Brn (l:=l) fun y hy=>h y (List.mem_cons_of_mem _ hy)
  rw[List.sum_cons];omega
theorem Awa{l:List Int}(h:∀x∈l,0≤x)(i:Nat):0≤(l.take i).sum∧(l.take i).sum≤l.sum:=by
 have h1:=Brn (l:=l.take i) fun x hx=>h x (List.mem_of_mem_take hx)
 have h2:=Brn (l:=l.drop i) fun x hx=>h x (List.mem_of_mem_drop hx)
 have:=Bv3 l i
 omega
def Zy(c w:Nat)(fr:List Int)(k:Nat):Int:=(((fr.take k).sum.toNat*(c*wB (w:Int)):Nat):Int)
section
variable {f c w r n:Nat} (h1:shapeB f c w r n=true) (h2:fitB c r n=true)
include h1 h2
theorem Akq:(∀x∈framesL (longN r) n,0≤x)∧(framesL (longN r) n).sum=(n:Int)∧n≤4000:=by
 obtain⟨hc,hw,hr,hn,_⟩:=Bai h1
 have hfit:n≤4000/c:=by simp only[fitB,decide_eq_true_eq]at h2;exact h2.1
 have hn4:n≤4000:=by have:=Nat.div_le_self 4000 c;omega
 refine⟨fun x hx=>?_,Bok hn,hn4⟩
 obtain⟨m,rfl,_⟩:=Aef (Vp r) hn hx
 omega
end
theorem Bq6(C W:Nat)(fr:List Int):Zy C W fr 0=0:=by rw[Zy,List.take_zero,List.sum_nil];simp
theorem Br4(C W:Nat){fr:List Int}(hp:∀z∈fr,0≤z){A m:Nat}(hA:A<fr.length)(hm:fr[A]=(m:Int)):Zy C W fr (A+1)=Zy C W fr A+((m*C*wB (W:Int):Nat):Int):=by
 have hs:0≤(fr.take A).sum:=by
  have:∀l:List Int,(∀z∈l,0≤z)→0≤l.sum:=by
   intro l
   induction l with
   |nil=>intro _;simp
   |cons a l ih=>intro h;rw[List.sum_cons];have:=h a (by simp);have:=ih (fun z hz=>h z (by simp[hz]));omega
  exact this _ fun z hz=>hp z (List.mem_of_mem_take hz)
 have e:(fr.take (A+1)).sum=(fr.take A).sum+m:=by rw[Aje hA,List.sum_append,List.sum_cons,List.sum_nil,hm];omega
 rw[Zy,Zy,e]
 have:((fr.take A).sum+(m:Int)).toNat=(fr.take A).sum.toNat+m:=by omega
 rw[this,Nat.add_mul,Nat.mul_assoc m]
 omega
end Go.Pl
set_option linter.unusedVariables false
set_option linter.unusedSimpArgs false
namespace Go.Pl
open Go Go.Lv
def Cd(e:Int):Prop:=e=0∨e=4∨e=12∨e=16∨e=22∨e=24∨e=26∨e=38
instance(e:Int):Decidable (Cd e):=by unfold Cd;infer_instance
theorem Cd.nn{e:Int}(h:Cd e):0≤e:=by unfold Cd at h;omega
theorem Cd4(p:List UInt8)(N a k:Nat):Cd (rcS p N a k).2.2:=by
 unfold rcS
 repeat' split
 all_goals first|decide|exact .inl rfl
theorem Cdo(p:List UInt8)(N a k l:Nat):Cd (dgS p N a k l).2.2:=by
 have h:=Cd4 p N (a+1) l
 unfold dgS
 repeat' split
 all_goals first|exact h|decide|exact .inl rfl
theorem Bs0(ch:Nat)(p:List UInt8)(N:Nat):∀(j a:Nat) (out:List UInt32),Cd (Vs ch p N j a out).2.2
 |0,a,out=>by rw[Vs];exact .inl rfl
 |j+1,a,out=>by
  rw[Vs]
  split
  ·exact Cdo ..
  ·exact Bs0 ch p N j _ _
theorem By4(b:List UInt8):Cd (Sm b):=by
 unfold Sm
 repeat' split
 all_goals first|decide|exact .inl rfl
theorem Bjo(a:List Int32)(b:Int):∀(q:Nat) (i e:Int),Be a b q i=some e→Cd e
 |0,_,_,h=>by rw[Be]at h;cases h
 |q+1,i,e,h=>by
  rw[Be,En]at h
  split at h
  ·cases hg:Ak a i with
   |none=>rw[hg]at h;cases h
   |some g=>
    rw[hg,Aa]at h
    split at h
    ·cases h;decide
    ·rw[Aa]at h
     split at h
     ·cases h;decide
     ·exact Bjo a b q _ e h
  ·cases h;decide
theorem Brl{bits:Int}{a:List Int32}{e:Int}(hb:Ct bits)(h:Bl bits a=some e):Cd e:=by
 rw[Bl,Ir]at h
 rw[Bc2 hb,Aa,if_neg (by have:=Ayv bits;rw[As];simp;omega)]at h
 split at h
 ·cases h;decide
 ·exact Bjo a _ _ _ e h
theorem Bj0{bits:Int}{ch n:Nat}{t:List Int32}{b:List UInt8}(hb:Ct bits)(ht:t.length=16)(h1:1≤ch)(h6:ch≤6)(n1:1≤n)(n2:n≤4000/ch){l:List Int32}{e:Int}
  (h:Hz (ch:Int) bits t (n:Int) b=some (l,e)):Cd e:=by
 have hn:n*ch≤4000:=by
  have:=Nat.mul_le_mul_right ch n2
  have h2:=Nat.div_mul_le_self 4000 ch
  omega
 have hq4:=Btl h1 h6
 generalize 4000/ch=mm at*
 have hh:=Ayv bits
 have hasked:Lz (ch:Int) bits (n:Int)=some 0:=by
  rw[Lz,Yc,if_neg (by simp[Af,Ap];omega),Bc2 hb,Aa,if_neg (by rw[As];simp;omega),Aa,if_neg (by simp[Al,Af];omega),Db (by rw[Al];simp;omega),Aa,hq4,if_neg (by rw[Ap];simp;omega)]
 rw[Hz,Qo,hasked,Aa,if_neg (by rw[Al];simp),Be5,Aa]at h
 by_cases hs:Sm b≠0
 ·rw[if_pos (by rw[Al];simpa using hs)]at h
  simp only[Aa]at h
  cases h
  exact By4 b
 have hs0:Sm b=0:=by simpa using hs
 have hlen:=Bmy hs0
 have e4:Ah (Ac b) 4=((b.length-4:Nat):Int):=by rw[Ac,Bp (by omega) (by omega)];omega
 rw[if_neg (by rw[Al,hs0];simp),e4,Cp (by omega) (by omega),Aa,show((b.length-4:Nat):Int).toNat=b.length-4 from rfl]at h
 have hpl:(b.take (b.length-4)).length=b.length-4:=by simp
 generalize b.take (b.length-4)=p at*
 have hr:=Btd (N:=8*p.length) (p:=p) rfl (by omega) h1 h6 hn
 have hV:=Bs0 ch p (8*p.length) (n*ch) 0 []
 have hat:=Bel (ch:=ch) (p:=p) (N:=8*p.length) (n*ch) 0 [] (by omega)
 rw[hr,Aa]at h
 generalize Vs ch p (8*p.length) (n*ch) 0 []=V at*
 obtain⟨v,at',er⟩:=V
 simp only at*
 by_cases he:er≠0
 ·rw[if_pos he]at h
  simp only at h
  rw[Hf,Hk,if_pos (by rw[Al];simpa using he)]at h
  cases h
  exact hV
 have he0:er=0:=by simpa using he
 have hvl:=hat.2.2 he0
 simp only[List.length_nil,Nat.zero_add]at hvl
 rw[if_neg he]at h
 simp only at h
 rw[Hf,Hk]at h
 split at h
 ·cases h
  decide
 ·rw[if_neg (by decide)]at h
  have hm:v.length %ch=0:=by rw[hvl];exact Nat.mul_mod_left n ch
  obtain⟨l',e',g1,g2,g3,g4,g5⟩:=Azg (v:=v) hb ht h1 h6 (by omega) hm
  rw[g1,Aa,g2,Aa]at h
  have:=Brl hb g4
  by_cases hl:e'≠0
  ·rw[if_pos hl]at h;cases h;exact this
  ·rw[if_neg hl]at h;cases h;decide
theorem Bjm{bits:Int}{ch n:Nat}{t:List Int32}{b:List UInt8}(hb:Ct bits)(ht:t.length=16)(h1:1≤ch)(h6:ch≤6)(n1:1≤n)(n2:n≤4000/ch){l:List Int32}{e:Int}
  (h:Hz (ch:Int) bits t (n:Int) b=some (l,e)):0≤e:=(Bj0 hb ht h1 h6 n1 n2 h).nn
end Go.Pl
set_option linter.unusedVariables false
set_option linter.unusedSimpArgs false
namespace Go.Pl
open Go Go.Lv
def shI(f c w r n:Int):Bool:=decide ((f=1∨f=2)∧(1≤c∧c≤6)∧(w=8∨w=16∨w=24)∧(1≤r∧r≤1048576)∧1≤n)
theorem Bxr(f c w r n:Int):Nv f c w r n=some (shI f c w r n):=by
 have e2:Li f c w r n=some (decide ((f=1∨f=2)∧(1≤c∧c≤6)∧(1≤r∧r≤1048576)∧1≤n)):=by
  rw[Li,Aet]
  congr 1
  rw[Bool.eq_iff_iff]
  simp only[As,Ap,As3,Bool.and_eq_true,Bool.or_eq_true,beq_iff_eq,decide_eq_true_eq]
  omega
 have g:∀k:Int,geq w k=decide (w=k):=fun k=>by rw[As,Bool.eq_iff_iff];simp
 rw[Nv,Vl,e2,g,g,g,shI]
 by_cases h8:w=8
 ·subst h8;simp
 ·by_cases h16:w=16
  ·subst h16;simp
  ·by_cases h24:w=24
   ·subst h24;simp
   ·simp[h8,h16,h24]
theorem Cac(f c w r n:Int):Hv f c w r n=some (shI f c w r n):=by
 rw[Hv,shI]
 simp only[As,Eb,As3,Bool.and_eq_true,Bool.or_eq_true,beq_iff_eq,decide_eq_true_eq,Bool.false_and]
 split
 ·rename_i h
  congr 1
  rw[Bool.eq_iff_iff]
  simp only[Bool.and_eq_true,Bool.or_eq_true,beq_iff_eq,decide_eq_true_eq]
  omega
 ·rename_i h
  congr 1
  symm
  rw[decide_eq_false_iff_not]
  omega
structure HdI (f c w r n:Int) (F C W R N:Nat):Prop where
 ef:f=F
 ec:c=C
 ew:w=W
 er:r=R
 en:n=N
 shape:shapeB F C W R N=true
 fit:fitB C R N=true
theorem Bvo(f c w r n:Int):(∃F C W R N:Nat,HdI f c w r n F C W R N)∨(Iz f c w r n=some 8∧Dk f c w r n=some ([],8)):=by
 by_cases h:shI f c w r n=true
 ·have h':=h
  simp only[shI,decide_eq_true_eq]at h'
  obtain⟨F,rfl⟩:=Int.eq_ofNat_of_zero_le (show 0≤f by omega)
  obtain⟨C,rfl⟩:=Int.eq_ofNat_of_zero_le (show 0≤c by omega)
  obtain⟨W,rfl⟩:=Int.eq_ofNat_of_zero_le (show 0≤w by omega)
  obtain⟨R,rfl⟩:=Int.eq_ofNat_of_zero_le (show 0≤r by omega)
  obtain⟨N,rfl⟩:=Int.eq_ofNat_of_zero_le (show 0≤n by omega)
  have hs:shapeB F C W R N=true:=by simp only[shapeB,decide_eq_true_eq];omega
  by_cases hf:fitB C R N=true
  ·exact .inl ⟨F,C,W,R,N,rfl,rfl,rfl,rfl,rfl,hs,hf⟩
  ·have hf':fitB C R N=false:=by simpa using hf
   refine .inr ⟨?_,?_⟩
   ·rw[Iz,Ayi,Aa,hs,if_neg (by simp),Bgo hs,Aa,hf'];rfl
   ·rw[Dk,Qr,Aus,Aa,hs,if_neg (by simp),Bcg hs,Aa,hf'];rfl
 ·have h':shI f c w r n=false:=by simpa using h
  refine .inr ⟨?_,?_⟩
  ·rw[Iz,Cac,Aa,h'];rfl
  ·rw[Dk,Qr,Bxr,Aa,h'];rfl
theorem HdI.check{f c w r n:Int}{F C W R N:Nat}(h:HdI f c w r n F C W R N):Iz f c w r n=some 0:=by
 obtain⟨rfl,rfl,rfl,rfl,rfl,hs,hf⟩:=h
 rw[Iz,Ayi,Aa,hs,if_neg (by simp),Bgo hs,Aa,hf];rfl
theorem HdI.Bbg{f c w r n:Int}{F C W R N:Nat}(h:HdI f c w r n F C W R N):Dk f c w r n=some (framesL (longN R) N,0):=by
 obtain⟨rfl,rfl,rfl,rfl,rfl,hs,hf⟩:=h
 exact Bmu hs hf
theorem HdI.num{f c w r n:Int}{F C W R N:Nat}(h:HdI f c w r n F C W R N):(F=1∨F=2)∧(1≤C∧C≤6)∧(W=8∨W=16∨W=24)∧(1≤R∧R≤1048576)∧1≤N∧N≤4000/C∧N≤4000∧(N-1)/longN R+1≤1000:=by
 obtain⟨rfl,rfl,rfl,rfl,rfl,hs,hf⟩:=h
 simp only[shapeB,decide_eq_true_eq]at hs
 simp only[fitB,decide_eq_true_eq]at hf
 have hd:4000/C≤4000:=Nat.div_le_self _ _
 omega
theorem HdI.Br7{f c w r n:Int}{F C W R N:Nat}(h:HdI f c w r n F C W R N):Fe f c w r n=some (framesL (longN R) N):=by
 have hn:=h.num
 obtain⟨rfl,rfl,rfl,rfl,rfl,hs,hf⟩:=h
 rw[Fe,Bex (by omega) (by omega) (by omega)];rfl
end Go.Pl
set_option linter.unusedVariables false
set_option linter.unusedSimpArgs false
namespace Go.Pl
open Go Go.Lv
section
variable {f c w r n:Nat} (h1:shapeB f c w r n=true) (h2:fitB c r n=true)
include h1 h2
theorem Bkg(k:Nat)(hk:k≤(framesL (longN r) n).length):∀(j i q:Nat),i+j=k→j<q→Jo (k:Int) (f:Int) (c:Int) (w:Int) (r:Int) (n:Int) (framesL (longN r) n) q (((framesL (longN r) n).take i).sum) (i:Int)=some (Zy c w (framesL (longN r) n) k)
 |0,i,q+1,hi,_=>by
  obtain⟨hc,hw,hr,hn,_⟩:=Bai h1
  obtain⟨g1,g2,g3⟩:=Akq h1 h2
  have b:=Awa g1 i
  obtain rfl:i=k:=by omega
  have hb:((framesL (longN r) n).take i).sum.toNat*(c*wB (w:Int))≤4000*(6*3):=Nat.mul_le_mul (by omega) (Nat.mul_le_mul hc.2 (Bpq (w:Int)).2)
  rw[Jo,Uq,if_neg (by rw[Af];simp),Agi,Agl,Gq,Aa]
  simp only
  rw[Air,Ce6 hc.2 hw,Aa,Zy]
  have e:((framesL (longN r) n).take i).sum=((((framesL (longN r) n).take i).sum.toNat:Nat):Int):=by omega
  rw[e,Ih (by rw[←Int.natCast_mul];omega) (by rw[←Int.natCast_mul];omega),←Int.natCast_mul];rfl
 |j+1,i,q+1,hi,hq=>by
  obtain⟨g1,g2,g3⟩:=Akq h1 h2
  have hK:=Bhl h2
  have hlt:i<(framesL (longN r) n).length:=by omega
  have b1:=Awa g1 i
  have b2:=Awa g1 (i+1)
  have e:=Ax1 hlt
  have ih:=Bkg k hk j (i+1) q (by omega) (by omega)
  rw[e]at ih
  rw[Jo,Uq,if_pos (by rw[Af];simp;omega),Cq hlt,Aa,Aa,Aj (by omega) (by omega),Aj (by omega) (by omega)]
  exact ih
theorem Bpe(k:Nat)(hk:k≤(framesL (longN r) n).length):Tj (f:Int) (c:Int) (w:Int) (r:Int) (n:Int) (k:Int)=some (Zy c w (framesL (longN r) n) k):=by
 have hK:=Bhl h2
 obtain⟨g1,g2,g3⟩:=Akq h1 h2
 obtain⟨hc,hw,hr,hn,_⟩:=Bai h1
 have h:=Bkg h1 h2 k hk k 0 FUEL (by omega) (by have:=Am;omega)
 rw[List.take_zero,List.sum_nil]at h
 rw[Tj,Agc,Fe,Bex hr.2 hn g3,Aa,Aa]
 exact h
theorem Brh{i:Nat}(hlt:i<(framesL (longN r) n).length):Ae (Zy c w (framesL (longN r) n) i) (Bw (Bk (Bk ((framesL (longN r) n)[i]) (c:Int)) (w:Int)) 8)=Zy c w (framesL (longN r) n) (i+1):=by
 obtain⟨hc,hw,hr,hn,_⟩:=Bai h1
 obtain⟨g1,g2,g3⟩:=Akq h1 h2
 have b1:=Awa g1 i
 have b2:=Awa g1 (i+1)
 have e:=Ax1 hlt
 have h0:=g1 _ (List.getElem_mem hlt)
 have e2:(framesL (longN r) n)[i]=(((framesL (longN r) n)[i].toNat:Nat):Int):=by omega
 have hb:((framesL (longN r) n).take (i+1)).sum.toNat*(c*wB (w:Int))≤4000*(6*3):=Nat.mul_le_mul (by omega) (Nat.mul_le_mul hc.2 (Bpq (w:Int)).2)
 rw[e2,Ceq (by omega) hc.2 hw,Zy,Zy]
 have e3:((framesL (longN r) n).take (i+1)).sum.toNat=((framesL (longN r) n).take i).sum.toNat+(framesL (longN r) n)[i].toNat:=by omega
 rw[e3,Nat.add_mul]at hb⊢
 rw[Aj (by omega) (by omega)]
 omega
theorem Bj9(a:Nat)(ha:a≤(framesL (longN r) n).length)(o p:LB)(m:LI)(a':Int)(N:LB)(u:Bool)(v:Int):∀(j i q:Nat),i+j=a→j<q→
  Nb ((framesL (longN r) n).take a) o p (f:Int) (c:Int) (w:Int) (r:Int) (n:Int) m a' N u v q (Zy c w (framesL (longN r) n) i) (i:Int)=some (gle (Ac N) (Zy c w (framesL (longN r) n) a))
 |0,i,q+1,hi,_=>by
  obtain rfl:i=a:=by omega
  rw[Nb,Ya,if_neg (by rw[Af,Ac,List.length_take];simp;omega),Ahq,Asa]
 |j+1,i,q+1,hi,hq=>by
  have hK:=Bhl h2
  have hlt:i<(framesL (longN r) n).length:=by omega
  have hlt2:i<((framesL (longN r) n).take a).length:=by rw[List.length_take];omega
  have ih:=Bj9 a ha o p m a' N u v j (i+1) q (by omega) (by omega)
  rw[Nb,Ya,if_pos (by rw[Af,Ac];simp;omega),Cq hlt2,Aa,List.getElem_take,Brh h1 h2 hlt,Aj (by omega) (by omega)]
  exact ih
end
end Go.Pl
set_option linter.unusedVariables false
set_option linter.unusedSimpArgs false
namespace Go.Pl
open Go Go.Lv
theorem Bes{α:Type}(l:List α):geq (Ac l) 0=decide (l=[]):=by
 cases l with
 |nil=>rfl
 |cons x l=>rw[As,Ac,List.length_cons,decide_eq_false (by simp),beq_eq_false_iff_ne];omega
theorem Bl9{α:Type}(l:List α):Di (Ac l) 0=decide (l≠ []):=by
 cases l with
 |nil=>rfl
 |cons x l=>rw[Ap,Ac,List.length_cons,decide_eq_true (by simp)];simp
inductive FitD (o:LB) (f c w r n:Int) (g:LI) (a:Int) (x:LB):Prop
 |new:f=0→c=0→w=0→r=0→n=0→g=[]→a=0→x=[]→FitD o f c w r n g a x
 |head (F C W R N:Nat):HdI f c w r n F C W R N→(o==([]:LB))=decide (F=1)→g=[]→a=0→x=[]→FitD o f c w r n g a x
 |tab (F C W R N A:Nat):HdI f c w r n F C W R N→(o==([]:LB))=decide (F=1)→tabB g=true→g.length=(framesL (longN R) N).length→a=A→A≤g.length→FitD o f c w r n g a x
theorem Bqy(f c w r n:Int)(o:LB):Lm f c w r n o=Dz f c w r n o:=rfl
theorem Bqt(o p:LB)(f c w r n:Int)(g:LI)(a:Int)(x:LB)(u:Bool)(v:Int):
  (Vr o p f c w r n g a x u v=some false∧Jb o p f c w r n g a x u v=some false)∨
  (Vr o p f c w r n g a x u v=some true∧Jb o p f c w r n g a x u v=Br o p f c w r n g a x u v∧FitD o f c w r n g a x):=by
 rw[Vr,Ahk,Jb,Se]
 by_cases hz:f=0∧c=0∧w=0∧r=0∧n=0
 ·obtain⟨rfl,rfl,rfl,rfl,rfl⟩:=hz
  rw[if_pos (by decide),if_pos (by decide),Bes,Bes,Bl9,Bl9]
  by_cases h:g=[]∧a=0∧x=[]
  ·obtain⟨rfl,rfl,rfl⟩:=h
   exact .inr ⟨rfl,by rw[if_neg (by decide)], .new rfl rfl rfl rfl rfl rfl rfl rfl⟩
  ·refine .inl ⟨?_,?_⟩
   ·congr 1
    rw[Bool.eq_false_iff]
    intro e
    simp only[Bool.and_eq_true,decide_eq_true_eq,As,beq_iff_eq]at e
    exact h ⟨e.1.1,e.1.2,e.2⟩
   ·rw[if_pos]
    simp only[Bool.or_eq_true,decide_eq_true_eq,Al,bne_iff_ne]
    by_cases e1:g=[]
    ·by_cases e2:a=0
     ·exact .inr fun e3=>h ⟨e1,e2,e3⟩
     ·exact .inl (.inr e2)
    ·exact .inl (.inl e1)
 ·have hz2:¬(((geq f 0)&&((geq c 0)&&((geq w 0)&&((geq r 0)&&((geq n 0)&&true)))))=true):=by
   simp only[Bool.and_eq_true,As,beq_iff_eq,and_true]
   exact hz
  rw[if_neg hz2,if_neg hz2]
  rcases Bvo f c w r n with⟨F,C,W,R,N,h⟩|⟨e1,e2⟩
  ·rw[h.Bbg,h.check,Aa,Aa,Bqy]
   simp only
   rw[if_neg (by decide),if_neg (by decide),Dz]
   have hf:geq f 1=decide (F=1):=by rw[h.ef,As,Bool.eq_iff_iff];simp;omega
   rw[hf]
   by_cases hp:(o==([]:LB))=decide (F=1)
   ·rw[if_neg (by rw[hp];simp),Aa,Aa,if_neg (by decide),if_neg (by decide),Ahr,Ag4,Ml,Mg,Bes,Bes,Bl9]
    by_cases hg:g=[]
    ·subst hg
     rw[if_pos (by simp),if_pos (by simp)]
     by_cases h':a=0∧x=[]
     ·obtain⟨rfl,rfl⟩:=h'
      exact .inr ⟨rfl,by rw[if_neg (by decide)], .head F C W R N h hp rfl rfl rfl⟩
     ·refine .inl ⟨?_,?_⟩
      ·congr 1
       rw[Bool.eq_false_iff]
       intro e
       simp only[Bool.and_eq_true,decide_eq_true_eq,As,beq_iff_eq]at e
       exact h' e
      ·rw[if_pos]
       simp only[Bool.or_eq_true,decide_eq_true_eq,Al,bne_iff_ne]
       by_cases e2:a=0
       ·exact .inr fun e3=>h' ⟨e2,e3⟩
       ·exact .inl e2
    ·rw[if_neg (by simpa using hg),if_neg (by simpa using hg),At8,Ank,Aa,Aa]
     by_cases ht:tabB g=true
     ·rw[if_pos ht,h.Br7]
      simp only[Aa]
      by_cases hl:g.length=(framesL (longN R) N).length∧0≤a∧a≤g.length
      ·obtain⟨hl,ha0,ha1⟩:=hl
       obtain⟨A,rfl⟩:=Int.eq_ofNat_of_zero_le ha0
       have hA:A≤(framesL (longN R) N).length:=by omega
       rw[if_neg (by simp[Al,Af,Ap,Ac];omega),if_neg (by decide),if_neg (by simp[Al,Af,Ap,Ac];omega),Cp (by omega) (by omega),Aa,Ahp]
       have hh:=h
       clear hf
       obtain⟨rfl,rfl,rfl,rfl,rfl,hs,hf⟩:=hh
       have hlp:=Bj9 hs hf A hA o p g (A:Int) x u v A 0 FUEL (by omega) (by have:=Am;have:=Bhl hf;omega)
       have h0:Zy C W (framesL (longN R) N) 0=0:=by rw[Zy,List.take_zero,List.sum_nil];simp
       rw[h0,show((0:Nat):Int)=0 from rfl]at hlp
       rw[show((A:Int)).toNat=A from rfl,hlp,Bpe hs hf A hA,Aa]
       by_cases hx:(x.length:Int)≤Zy C W (framesL (longN R) N) A
       ·refine .inr ⟨?_,?_, .tab F C W R N A h hp ht hl rfl (by omega)⟩
        ·rw[As3,Ac,decide_eq_true hx]
        ·rw[if_neg (by rw[Ap,Ac];simp;omega)]
       ·refine .inl ⟨?_,?_⟩
        ·rw[As3,Ac,decide_eq_false hx]
        ·rw[if_pos (by rw[Ap,Ac];simp;omega)]
      ·refine .inl ⟨?_,?_⟩
       ·rw[if_pos (by simp[Al,Af,Ap,Ac];omega)]
       ·rw[if_neg (by decide),if_pos (by simp[Al,Af,Ap,Ac];omega)]
     ·refine .inl ⟨?_,?_⟩
      ·rw[if_neg ht,if_pos (by simp[Al])]
      ·rw[if_neg ht,if_pos (by decide),if_pos (by simp)]
   ·rw[if_pos (by simpa using hp),Aa,Aa,if_pos (by decide),if_pos (by decide)]
    exact .inl ⟨rfl,rfl⟩
  ·rw[e1,e2,Aa,Aa]
   simp only
   rw[if_pos (by decide),if_pos (by decide)]
   exact .inl ⟨rfl,rfl⟩
end Go.Pl
