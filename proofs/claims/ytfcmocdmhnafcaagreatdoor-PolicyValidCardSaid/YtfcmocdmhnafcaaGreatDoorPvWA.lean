/- A part of the proof of a statement of this seat (see the text that ends in Proof): LwBase, LwBitB, LwLe, LwBits, LwRef02, LwCut, LwUn, LwRice, LwDual, LwVal, LwI32, LwFil, LwUnm, LwSam, LwCrc, LwFrm, LwC64, LwWby, LwId, LwApe, LwStrip, LwLen, LwHead, LwSeek, LwOpen, LwFrame, LwBack, LwGot. No conditions of its own. -/
import Derived.Test.YtfcmocdmhnafcaaGreatDoorPvBA
import Derived.Test.YtfcmocdmhnafcaaGreatDoorPvPA
set_option linter.unusedVariables false
set_option linter.unusedSimpArgs false
namespace Go.Lv
theorem Ag{a b:Int}(h: -9223372036854775808≤a+b)(h':a+b≤9223372036854775807):Ae a b=a+b:=by rw[Ccc,Bq h h']
theorem Be{a b:Int}(h: -9223372036854775808≤a-b)(h':a-b≤9223372036854775807):Ah a b=a-b:=by rw[Cc2,Bq h h']
theorem Gc{a b:Int}(h: -9223372036854775808≤a*b)(h':a*b≤9223372036854775807):Ay a b=a*b:=by rw[Bvk,Bq h h']
theorem Ac8(c:UInt8):(Ad c:Int)=(c.toNat:Int):=by rw[Bvz,Bq]<;>have:=c.toNat_lt<;>omega
theorem Bo6(c:UInt32):(Ad c:Int)=(c.toNat:Int):=by rw[Bs0,Bq]<;>have:=c.toNat_lt<;>omega
theorem Avy(c:UInt8):(Ad c:UInt64)=UInt64.ofNat c.toNat:=by simp only[Ad,Wr,Ft]
theorem Gw(c:UInt32):(Ad c:UInt64)=UInt64.ofNat c.toNat:=by simp only[Ad,Ti,Ft]
theorem Anb(c:UInt64):(Ad c:UInt8)=UInt8.ofNat c.toNat:=by simp only[Ad,Gz,Jz]
theorem Ava(c:UInt32):(Ad c:UInt8)=UInt8.ofNat c.toNat:=by simp only[Ad,Ti,Jz]
theorem Xi(n:Nat):(Ad (n:Int):UInt64)=UInt64.ofNat n:=by simp only[Ad];exact Ft n
theorem Bhg(n:Nat):(Ad (n:Int):UInt32)=UInt32.ofNat n:=by simp only[Ad];exact Dm n
theorem Bxa(n:Nat):(Ad (n:Int):UInt8)=UInt8.ofNat n:=by simp only[Ad];exact Jz n
theorem Ay7{c:UInt64}(h:c.toNat<9223372036854775808):(Ad c:Int)=(c.toNat:Int):=by rw[Bt9,Bq]<;>omega
theorem Bqt:LIM=17179869184:=by decide
theorem Ak:36893488147419103231<Am:=by decide
theorem Cf{α:Type}{l:List α}{n:Nat}(h:n<l.length):getI l (n:Int)=some l[n]:=by simp[getI,h]
theorem Tx{α:Type}{l:List α}{n:Nat}(x:α)(h:n<l.length):Iv l (n:Int) x=some (l.set n x):=by simp[Iv,h]
theorem Py{α:Type}{l:List α}{a b:Int}(h:0≤a)(h1:a≤b)(h2:b≤l.length):Bu l a b=some ((l.take b.toNat).drop a.toNat):=by rw[Bu,if_pos ⟨h,h1,h2⟩]
theorem Lg{α:Type}{l:List α}{a:Int}(h:0≤a)(h1:a≤l.length):Bu l a (Ac l)=some (l.drop a.toNat):=by
 unfold Ac;rw[Py h h1 (Int.le_refl _),Int.toNat_natCast,List.take_length]
theorem Jg{α:Type}{l:List α}{b:Int}(h:0≤b)(h1:b≤l.length):Bu l 0 b=some (l.take b.toNat):=by rw[Py (Int.le_refl _) h h1];rfl
theorem Cr{α:Type}{l m:List α}(h:l.length+m.length≤17179869184):Ed l m=some (l++m):=by rw[Ed,Bqt,if_pos h]
theorem Az4{α:Type}{n:Int}{z:α}(h:0≤n)(h':n≤17179869184):mkI n z=some (List.replicate n.toNat z):=by rw[mkI,Bqt,if_pos ⟨h,h'⟩]
theorem Br{b:Bool}(h:b=true):Gk b=some ():=by rw[h];rfl
theorem Aa{α β:Type}(a:α)(f:α→Option β):Option.bind (some a) f=f a:=rfl
theorem drop_cons{α:Type}{l:List α}{n:Nat}(h:n<l.length):l.drop n=l[n]::l.drop (n+1):=List.drop_eq_getElem_cons h
theorem Amu{α:Type}{l:List α}{n:Nat}(h:n<l.length):l.take (n+1)=l.take n++[l[n]]:=by rw[List.take_add_one,List.getElem?_eq_getElem h];rfl
def Dn:List UInt8→Nat
 |[]=>0
 |x::r=>x.toNat+256*Dn r
theorem Bit:∀l:List UInt8,Dn l<256^l.length
 |[]=>by simp[Dn]
 |x::r=>by
  have h:=Bit r
  have:=x.toNat_lt
  simp only[Dn,List.length_cons,Nat.pow_succ]
  omega
theorem Bcv:∀l m:List UInt8,Dn (l++m)=Dn l+256^l.length*Dn m
 |[],m=>by simp[Dn]
 |x::r,m=>by
  simp only[Dn,List.cons_append,Bcv r m,List.length_cons,Nat.pow_succ,Nat.mul_add]
  rw[Nat.mul_comm (256^r.length) 256,Nat.mul_assoc];omega
def leU(l:List UInt8):UInt64:=UInt64.ofNat (Dn l)
theorem Bye{l:List UInt8}(h:l.length≤8):Dn l<18446744073709551616:=by
 have h1:=Bit l
 have h2:256^l.length≤256^8:=Nat.pow_le_pow_right (by omega) h
 exact Nat.lt_of_lt_of_le h1 (by simpa using h2)
theorem Bq3{l:List UInt8}(h:l.length≤4):Dn l<4294967296:=by
 have h1:=Bit l
 have h2:256^l.length≤256^4:=Nat.pow_le_pow_right (by omega) h
 exact Nat.lt_of_lt_of_le h1 (by simpa using h2)
theorem Aki{l:List UInt8}(h:l.length≤8):(leU l).toNat=Dn l:=by
 rw[leU,UInt64.toNat_ofNat',Nat.mod_eq_of_lt (Bye h)]
theorem Adc{l:List UInt8}(h:l.length≤4):(Ad (leU l):Int)=(Dn l:Int):=by
 have:=Bq3 h
 rw[Ay7]<;>rw[Aki (by omega)];omega
def leB(n:Nat):Nat→List UInt8
 |0=>[]
 |w+1=>UInt8.ofNat n::leB (n/256) w
theorem Li:∀(w n:Nat),(leB n w).length=w
 |0,_=>rfl
 |w+1,n=>by simp[leB,Li w]
theorem Bnc:∀(w n:Nat),leB n (w+1)=leB n w++[UInt8.ofNat (n/256^w)]
 |0,n=>by simp[leB]
 |w+1,n=>by
  rw[leB,Bnc w (n/256),leB]
  simp[Nat.div_div_eq_div_mul,Nat.pow_succ,Nat.mul_comm]
end Go.Lv
set_option linter.unusedVariables false
set_option linter.unusedSimpArgs false
namespace Go.Lv
def Ii(p:List UInt8)(i:Nat):Nat:=(p.getD (i/8) 0).toNat/2^(i %8) %2
theorem Uw(p:List UInt8)(i:Nat):Ii p i<2:=Nat.mod_lt _ (by omega)
def Bt(p:List UInt8):Nat→Nat→Nat
 |_,0=>0
 |a,n+1=>Ii p a+2*Bt p (a+1) n
theorem Nn(p:List UInt8):∀(n a:Nat),Bt p a n<2^n
 |0,_=>by simp[Bt]
 |n+1,a=>by
  have:=Nn p n (a+1)
  have:=Uw p a
  rw[Bt,Nat.pow_succ];omega
theorem Aha(p:List UInt8):∀(m n a:Nat),Bt p a (m+n)=Bt p a m+2^m*Bt p (a+m) n
 |0,n,a=>by simp[Bt]
 |m+1,n,a=>by
  rw[show m+1+n=(m+n)+1 by omega,Bt,Bt,Aha p m n (a+1),show a+1+m=a+(m+1) by omega,Nat.pow_succ,Nat.mul_add,Nat.mul_comm (2^m) 2,Nat.mul_assoc];omega
theorem Blp(p:List UInt8)(a:Nat):Bt p a 1=Ii p a:=by simp[Bt]
theorem Bha(p:List UInt8)(a n:Nat):Bt p a (n+1)=Bt p a n+2^n*Ii p (a+n):=by rw[Aha p n 1 a,Blp]
theorem Azh(p:List UInt8)(a:Nat):∀t:Nat,a %8+t≤8→Bt p a t=(p.getD (a/8) 0).toNat/2^(a %8) %2^t
 |0,_=>by simp[Bt,Nat.mod_one]
 |t+1,h=>by
  have h1:(a+t)/8=a/8:=by omega
  have h2:(a+t) %8=a %8+t:=by omega
  rw[Bha,Azh p a t (by omega),Ii,h1,h2,Nat.mod_pow_succ,Nat.pow_add,Nat.div_div_eq_div_mul]
theorem Bgj{p:List UInt8}:∀(n a:Nat),(∀k,k<n→Ii p (a+k)=0)→Bt p a n=0
 |0,_,_=>rfl
 |n+1,a,h=>by
  have h0:=h 0 (by omega)
  rw[Bt,Bgj n (a+1) fun k hk=>by have:=h (k+1) (by omega);rwa [show a+1+k=a+(k+1) by omega]]
  rw[Nat.add_zero]at h0;omega
def okB(p:List UInt8)(n:Nat):Prop:=n≤330000∧p.length=(n+7)/8∧∀k,n≤k→k<8*p.length→Ii p k=0
def Ac6(p:List UInt8)(a n:Nat):List UInt8:=(List.range ((n+7)/8)).map fun j=>UInt8.ofNat (Bt p (a+8*j) (min 8 (n-8*j)))
theorem Lh(p:List UInt8)(a n:Nat):(Ac6 p a n).length=(n+7)/8:=by simp[Ac6]
theorem Bm2(p:List UInt8):∀(n a k:Nat),k<n→Bt p a n/2^k %2=Ii p (a+k)
 |n+1,a,0,_=>by have:=Uw p a;rw[Bt];simp;omega
 |n+1,a,k+1,h=>by
  have hb:=Uw p a
  have e:(Ii p a+2*Bt p (a+1) n)/2=Bt p (a+1) n:=by omega
  rw[Bt,Nat.pow_succ,Nat.mul_comm (2^k) 2,←Nat.div_div_eq_div_mul,e,Bm2 p n (a+1) k (by omega),show a+1+k=a+(k+1) by omega]
theorem Btz(p:List UInt8)(n a k:Nat)(h:n≤k):Bt p a n/2^k %2=0:=by
 have:=Nn p n a
 rw[Nat.div_eq_of_lt (Nat.lt_of_lt_of_le this (Nat.pow_le_pow_right (by omega) h))]
theorem Bwp(p:List UInt8)(a n k:Nat):Ii (Ac6 p a n) k=if k<n then Ii p (a+k)else 0:=by
 rw[Ii]
 by_cases hj:k/8<(n+7)/8
 ·have e:(Ac6 p a n).getD (k/8) 0=UInt8.ofNat (Bt p (a+8*(k/8)) (min 8 (n-8*(k/8)))):=by
   rw[List.getD_eq_getElem?_getD,List.getElem?_eq_getElem (by rw[Lh];exact hj)];simp[Ac6]
  have hlt:Bt p (a+8*(k/8)) (min 8 (n-8*(k/8)))<256:=by
   have:=Nn p (min 8 (n-8*(k/8))) (a+8*(k/8))
   have h2:2^(min 8 (n-8*(k/8)))≤2^8:=Nat.pow_le_pow_right (by omega) (by omega)
   omega
  have hu:(UInt8.ofNat (Bt p (a+8*(k/8)) (min 8 (n-8*(k/8))))).toNat=Bt p (a+8*(k/8)) (min 8 (n-8*(k/8))):=by
   rw[UInt8.toNat_ofNat'];exact Nat.mod_eq_of_lt hlt
  rw[e,hu]
  by_cases hk:k<n
  ·rw[if_pos hk,Bm2 p _ _ _ (by omega),show a+8*(k/8)+k %8=a+k by omega]
  ·rw[if_neg hk,Btz p _ _ _ (by omega)]
 ·have e:(Ac6 p a n).getD (k/8) 0=0:=by
   rw[List.getD_eq_getElem?_getD,List.getElem?_eq_none (by rw[Lh];omega)];rfl
  rw[e,if_neg (by omega)];simp
theorem Bqi(p:List UInt8)(a n:Nat)(h:n≤330000):okB (Ac6 p a n) n:=⟨h,Lh p a n,fun k hk _=>by rw[Bwp,if_neg (by omega)]⟩
end Go.Lv
set_option linter.unusedVariables false
set_option linter.unusedSimpArgs false
namespace Go.Pl
open Go Go.Lv
theorem Bxe(b:List UInt8)(hb:b.length<4611686018427387904):∀(j q:Nat),j≤b.length→j<q→Kk b q (leU (b.drop j)) ((j:Int)-1)=some (leU b)
 |0,q+1,_,_=>by
  rw[Kk,Wv,if_neg (by rw[Cx];simp)]
  simp[Aif,Ag4]
 |j+1,q+1,hj,hq=>by
  rw[Kk,Wv,if_pos (by rw[Cx];simp),show((j+1:Nat):Int)-1=(j:Int) by omega,Cf (by omega),Aa,Be (by omega) (by omega)]
  have h:Ae (Ay (256:UInt64) (leU (b.drop (j+1)))) (Ad b[j]:UInt64)=leU (b.drop j):=by
   rw[Aes,Ad7,Avy,drop_cons (n:=j) (by omega),leU,leU,Dn,UInt64.ofNat_add,UInt64.ofNat_mul]
   exact UInt64.add_comm _ _
  rw[h]
  exact Bxe b hb j q (by omega) (by omega)
theorem Bms(b:List UInt8)(hb:b.length<4611686018427387904):Cj b=some (leU b):=by
 have h:=Bxe b hb b.length Am (Nat.le_refl _) (by have:=Ak;omega)
 rw[Cj,Ajb,Aie]
 have e:Ah (Ac b) 1=(b.length:Int)-1:=Be (by unfold Ac;omega) (by unfold Ac;omega)
 rw[e,←h,List.drop_length];rfl
theorem Bwf{n c:UInt64}{i:Nat}(hn:n.toNat<2^i)(hc:c.toNat*2^i<18446744073709551616):gor n (Ck c i)=UInt64.ofNat (n.toNat+c.toNat*2^i):=by
 rw[Caz];apply UInt64.toNat_inj.1
 rw[UInt64.toNat_or,Amo,Nat.mod_eq_of_lt hc,Nat.mul_comm,Nat.or_comm,←Nat.two_pow_add_eq_or_of_lt hn,UInt64.toNat_ofNat',Nat.mod_eq_of_lt,Nat.add_comm,Nat.mul_comm]
 have h:=Nat.two_pow_add_eq_or_of_lt hn c.toNat
 have h2:2^i*c.toNat+n.toNat<2^64:=by
  rw[h]
  exact Nat.or_lt_two_pow (by rw[Nat.mul_comm];simpa using hc) n.toNat_lt
 rw[Nat.add_comm];first|exact h2|(rw[Nat.mul_comm];exact h2)
theorem Bht(b:List UInt8)(hb:b.length≤8):∀(j i q:Nat),i+j=b.length→j<q→Xe b q (leU (b.take i)) (i:Int)=some (leU b,0)
 |0,i,q+1,hi,_=>by
  rw[Xe,Ajw,if_neg (by rw[Af,Ac];simp;omega),show i=b.length by omega,List.take_length];rfl
 |j+1,i,q+1,hi,hq=>by
  have hlt:i<b.length:=by omega
  rw[Xe,Ajw,if_pos (by rw[Af,Ac];simp;omega),Cf hlt,Aa,Gc (by omega) (by omega),Br (by rw[Cx];simp;omega),Aa,Ag (by omega) (by omega)]
  have h:gor (leU (b.take i)) (Ck (Ad b[i]:UInt64) (GI.toZ ((8:Int)*(i:Int))).toNat)=leU (b.take (i+1)):=by
   have e:(GI.toZ ((8:Int)*(i:Int))).toNat=8*i:=by show((8:Int)*(i:Int)).toNat=_;omega
   have e2:(2:Nat)^(8*i)=256^i:=by rw[Nat.pow_mul]
   have h1:=Bit (b.take i)
   rw[List.length_take,Nat.min_eq_left (by omega)]at h1
   have h3:=b[i].toNat_lt
   have hle:(256:Nat)^(i+1)≤256^8:=Nat.pow_le_pow_right (by omega) (by omega)
   rw[Nat.pow_succ]at hle
   have h4:(Ad b[i]:UInt64).toNat=b[i].toNat:=by rw[Avy,UInt64.toNat_ofNat'];omega
   have h5:b[i].toNat*256^i<18446744073709551616:=by
    have:b[i].toNat*256^i<256*256^i:=Nat.mul_lt_mul_of_pos_right (by simpa using h3) (Nat.pow_pos (by omega))
    simp at hle;omega
   rw[e,Bwf (by rw[Aki (by simp;omega),e2];exact h1) (by rw[h4,e2];exact h5),Aki (by simp;omega),h4,e2,Amu hlt]
   rw[leU,Bcv]
   simp only[Dn,List.length_take,Nat.min_eq_left (Nat.le_of_lt hlt),Nat.mul_zero,Nat.add_zero]
   rw[Nat.mul_comm]
  rw[h]
  exact Bht b hb j (i+1) q (by omega) (by omega)
theorem Bnd(b:List UInt8)(h1:1≤b.length)(h2:b.length≤8):Ar2 b=some (leU b,0):=by
 have h:=Bht b h2 b.length 0 Am (by omega) (by have:=Ak;omega)
 rw[Ar2,Aqv,if_neg (by simp[Af,Aq,Ac];omega),Asf]
 exact h
def part(b:List UInt8)(at' w:Nat):List UInt8:=(b.take (at'+w)).drop at'
theorem Ct{b:List UInt8}{a w:Nat}(h:a+w≤b.length):(part b a w).length=w:=by simp[part];omega
theorem Bg6(b:List UInt8)(a w:Nat)(h1:1≤w)(h2:w≤8)(h3:a+w≤b.length)(hb:b.length<4611686018427387904):Al0 b (a:Int) (w:Int)=some (leU (part b a w),0):=by
 rw[Al0,if_neg (by simp[Af,Aq];omega),if_neg (by rw[Aq,Be (by unfold Ac;omega) (by unfold Ac;omega),Ac];simp;omega),Ag (by omega) (by omega),Py (by omega) (by omega) (by omega),Aa]
 rw[show((a:Int)+(w:Int)).toNat=a+w by omega,show(a:Int).toNat=a by omega]
 rw[Bnd _ (by rw[show((b.take (a+w)).drop a).length=_ from Ct h3];exact h1) (by rw[show((b.take (a+w)).drop a).length=_ from Ct h3];exact h2),Aa];rfl
theorem Bbd(w:Nat)(hw:w≤1000):∀(j i q:Nat) (n:UInt64) (acc:List UInt8),i+j=w→j<q→acc.length+j≤1000000→Fz (w:Int) q n (i:Int) acc=some (acc++leB n.toNat j)
 |0,i,q+1,n,acc,hi,_,_=>by
  rw[Fz,Nk,if_neg (by rw[Af];simp;omega)]
  simp[Xg,Xd,leB]
 |j+1,i,q+1,n,acc,hi,hq,ha=>by
  rw[Fz,Nk,if_pos (by rw[Af];simp;omega)]
  have e:(Ad (Yd n (256:UInt64)):UInt8)=UInt8.ofNat n.toNat:=by
   rw[Anb,Bkx];apply UInt8.toNat_inj.1
   rw[UInt8.toNat_ofNat',UInt8.toNat_ofNat',UInt64.toNat_mod]
   show n.toNat %256 %256=_
   omega
  have e2:(Bj n (256:UInt64)).toNat=n.toNat/256:=by rw[Ax5,UInt64.toNat_div];rfl
  rw[Cr (by simp;omega),Aa,Ag (by omega) (by omega),e]
  have h:=Bbd w hw j (i+1) q (Bj n 256) (acc++[UInt8.ofNat n.toNat]) (by omega) (by omega) (by simp;omega)
  rw[e2]at h
  rw[show((i:Int)+1)=((i+1:Nat):Int) by omega,h,leB];simp
theorem Bde(n:UInt64)(w:Nat)(hw:w≤1000):Cz n (w:Int)=some (leB n.toNat w):=by
 rw[Cz,Xk,Wy]
 have h:=Bbd w hw w 0 Am n [] (by omega) (by have:=Ak;omega) (by simp;omega)
 simpa using h
theorem Ath{α:Type}{l m:List α}{x y:α}{i:Nat}(h:l.length=i):(l++x::m).set i y=l++y::m:=by subst h;simp
theorem Bhp(n:UInt64)(l4:List UInt8)(w:Nat)(hl:l4.length=w)(hw:w≤8):∀(j i q:Nat),i+j=w→j<q→Xw n l4 q (i:Int) (leB n.toNat i++List.replicate j 0)=some (leB n.toNat w,0)
 |0,i,q+1,hi,_=>by
  rw[Xw,Akq,if_neg (by rw[Af,Ac];simp;omega)]
  obtain rfl:i=w:=by omega
  simp[Ase,Az0]
 |j+1,i,q+1,hi,hq=>by
  have hlen:(leB n.toNat i++List.replicate (j+1) 0).length=i+(j+1):=by simp[Li]
  rw[Xw,Akq,if_pos (by rw[Af,Ac];simp;omega),Gc (by omega) (by omega),Br (by rw[Cx];simp;omega),Aa,Cf (by rw[hlen];omega),Aa,Tx _ (by rw[hlen];omega),Aa,Ag (by omega) (by omega)]
  have e:(Ad (Bk n (GI.toZ ((8:Int)*(i:Int))).toNat):UInt8)=UInt8.ofNat (n.toNat/256^i):=by
   have e:(GI.toZ ((8:Int)*(i:Int))).toNat=8*i:=by show((8:Int)*(i:Int)).toNat=_;omega
   rw[e,Anb,Ae2,Nat.pow_mul]
  rw[e,List.replicate_succ,Ath (Li _ _)]
  have h:=Bhp n l4 w hl hw j (i+1) q (by omega) (by omega)
  rw[Bnc]at h
  simpa using h
theorem Bza(n:UInt64)(w:Nat)(h1:1≤w)(h2:w≤8)(h:n.toNat<256^w):Bbz n (w:Int)=some true:=by
 rw[Bbz]
 by_cases h8:w=8
 ·subst h8;rw[if_pos (by rw[Az];rfl)]
 ·rw[if_neg (by rw[Az];simp;omega),Gc (by omega) (by omega),Br (by rw[Cx];simp;omega),Aa]
  have e:(GI.toZ ((8:Int)*(w:Int))).toNat=8*w:=by show((8:Int)*(w:Int)).toNat=_;omega
  rw[e,Bbx]
  have:Bk n (8*w)=0:=by
   apply UInt64.toNat_inj.1
   rw[Ae2,Nat.pow_mul]
   exact Nat.div_eq_of_lt h
  rw[this];rfl
theorem Bmu(n:UInt64)(w:Nat)(h1:1≤w)(h2:w≤8)(h:n.toNat<256^w):Vp n (w:Int)=some (leB n.toNat w,0):=by
 rw[Vp,As5,if_neg (by simp[Af,Aq];omega),Bza n w h1 h2 h,Aa,if_neg (by simp),Az4 (by omega) (by omega),Aa,Br (by rw[Az];simp),Aa,Ash]
 have h:=Bhp n (List.replicate (w:Int).toNat 0) w (by simp) h2 w 0 Am (by omega) (by have:=Ak;omega)
 simpa [leB]using h
end Go.Pl
set_option linter.unusedVariables false
set_option linter.unusedSimpArgs false
namespace Go.Pl
open Go Go.Lv
theorem Bme(n:Nat)(h:n<4611686018427387904):Dd (n:Int) (7:Int)=((n %8:Nat):Int):=by
 have e:Dd (n:Int) (7:Int)=wrap64 ((BitVec.ofInt 64 (n:Int)&&&BitVec.ofInt 64 7).toNat:Int):=rfl
 rw[e,BitVec.toNat_and,BitVec.toNat_ofInt,BitVec.toNat_ofInt]
 have h1:((n:Int) %((2^64:Nat):Int)).toNat=n:=by omega
 have h2:((7:Int) %((2^64:Nat):Int)).toNat=2^3-1:=by decide
 rw[h1,h2,Nat.and_two_pow_sub_one_eq_mod,Bq (by omega) (by omega)]
theorem Cdw(n:Nat):Bjj (n:Int) (GI.toZ (3:UInt64)).toNat=((n/8:Nat):Int):=by
 have e:Bjj (n:Int) (GI.toZ (3:UInt64)).toNat=(n:Int).fdiv 8:=rfl
 rw[e,Int.fdiv_eq_ediv_of_nonneg _ (by omega)];omega
theorem Ced{t:Nat}(h:t≤8):Ah (Ck (1:UInt8) t) (1:UInt8)=UInt8.ofNat (2^t-1):=by
 have:t=0∨t=1∨t=2∨t=3∨t=4∨t=5∨t=6∨t=7∨t=8:=by omega
 rcases this with rfl|rfl|rfl|rfl|rfl|rfl|rfl|rfl|rfl<;>decide
theorem bitsOf(c:UInt8)(off t:Nat)(h:t≤8):(Dd (Bk c off) (Ah (Ck (1:UInt8) t) (1:UInt8))).toNat=c.toNat/2^off %2^t:=by
 have hp:2^t≤2^8:=Nat.pow_le_pow_right (by omega) h
 rw[Ced h,Caq,UInt8.toNat_and,Brj,UInt8.toNat_ofNat',Nat.mod_eq_of_lt (by have:=Nat.pow_pos (n:=t) (show 0<2 by omega);omega),Nat.and_two_pow_sub_one_eq_mod]
theorem Bfm{p:List UInt8}{k:Nat}(h:k<p.length):getI p (k:Int)=some (p.getD k 0):=by
 rw[Cf h];simp[List.getD_eq_getElem?_getD,h]
def Re(p:List UInt8)(a n:Nat):UInt64:=UInt64.ofNat (Bt p a n)
theorem Yj(p:List UInt8)(a n:Nat)(h:n≤64):(Re p a n).toNat=Bt p a n:=by
 have h1:=Nn p n a
 have h2:2^n≤2^64:=Nat.pow_le_pow_right (by omega) h
 rw[Re,UInt64.toNat_ofNat',Nat.mod_eq_of_lt (by omega)]
theorem Bnk(p:List UInt8)(N:Int)(a n:Nat)(hn:n≤64)(ha:a+n≤8*p.length)(hp:p.length≤1000000):∀(j h q:Nat),h+j=n→j<q→Afd (a:Int) (n:Int) p N q (Re p a h) (h:Int)=some (Re p a n)
 |j,h,q+1,hj,hq=>by
  rw[Afd,Asx]
  by_cases hlt:h<n
  ·have e1:Ae (a:Int) (h:Int)=((a+h:Nat):Int):=by rw[Ag (by omega) (by omega)];omega
   have e2:Dk (Ah (n:Int) (h:Int)) (Ah (8:Int) (((a+h) %8:Nat):Int))=((min (n-h) (8-(a+h) %8):Nat):Int):=by
    rw[Ali,Be (by omega) (by omega),Be (by omega) (by omega)];omega
   have hm:(a+h)/8<p.length:=by omega
   rw[if_pos (by rw[Af];simp;omega),e1,Cdw,Bfm hm,Aa,Bme _ (by omega),Br (by rw[Cx];simp;omega),Aa,e2,Br (by rw[Cx];simp),Aa,Br (by rw[Cx];simp),Aa]
   generalize hT:min (n-h) (8-(a+h) %8)=T
   have hT8:T≤8:=by omega
   have hT1:1≤T:=by omega
   have hb:(a+h) %8+T≤8:=by omega
   have hv:=Azh p (a+h) T hb
   have z1:(GI.toZ (((a+h) %8:Nat):Int)).toNat=(a+h) %8:=rfl
   have z2:(GI.toZ ((T:Nat):Int)).toNat=T:=rfl
   have z3:(GI.toZ ((h:Nat):Int)).toNat=h:=rfl
   rw[z1,z2,z3]
   have hx:(Ad (Dd (Bk (p.getD ((a+h)/8) 0) ((a+h) %8)) (Ah (Ck (1:UInt8) T) (1:UInt8))):UInt64).toNat=Bt p (a+h) T:=by
    rw[Avy,UInt64.toNat_ofNat',bitsOf _ _ _ hT8,←hv]
    have:=Nn p T (a+h)
    have h2:2^T≤2^8:=Nat.pow_le_pow_right (by omega) hT8
    omega
   have hlt2:=Nn p (h+T) a
   rw[Aha]at hlt2
   have h64:2^(h+T)≤2^64:=Nat.pow_le_pow_right (by omega) (by omega)
   have hor:gor (Re p a h) (Ck (Ad (Dd (Bk (p.getD ((a+h)/8) 0) ((a+h) %8)) (Ah (Ck (1:UInt8) T) (1:UInt8))):UInt64) h)=Re p a (h+T):=by
    rw[Bwf (by rw[Yj p a h (by omega)];exact Nn p h a) (by rw[hx,Nat.mul_comm];omega),hx,Yj p a h (by omega),Re,Aha,Nat.mul_comm (2^h)]
   rw[hor,Ag (by omega) (by omega),show(h:Int)+((T:Nat):Int)=((h+T:Nat):Int) by omega]
   exact Bnk p N a n hn ha hp (j-T) (h+T) q (by omega) (by omega)
  ·rw[if_neg (by rw[Af];simp;omega),show h=n by omega];rfl
theorem get_eq(p:List UInt8)(N:Int)(a n:Nat)(hn:n≤64)(ha:a+n≤8*p.length)(hp:p.length≤1000000):Ax7 p N (a:Int) (n:Int)=some (Re p a n):=by
 have:=Bnk p N a n hn ha hp n 0 Am (by omega) (by have:=Ak;omega)
 exact this
theorem Agx{p:List UInt8}{n:Nat}(h:okB p n):Ht p (n:Int)=some 0:=by
 obtain⟨h1,h2,h3⟩:=h
 have e7:Ae (n:Int) 7=((n+7:Nat):Int):=by rw[Ag (by omega) (by omega)];omega
 rw[Ht,e7,Cdw,if_neg (by simp[Af,Aq,Aj,Ac,h2];omega),Bme _ (by omega)]
 by_cases hz:n %8=0
 ·rw[if_neg (by rw[Aq];simp;omega)]
 ·have el:Ah (Ac p) 1=((p.length-1:Nat):Int):=by rw[Ac,Be (by omega) (by omega)];omega
  rw[if_pos (by rw[Aq];simp;omega),el,Bfm (by omega),Aa,Br (by rw[Cx];simp;omega),Aa]
  have z:(GI.toZ ((n %8:Nat):Int)).toNat=n %8:=rfl
  have hs:Bk (p.getD (p.length-1) 0) (n %8)=0:=by
   apply UInt8.toNat_inj.1
   rw[Brj]
   have hv:=Azh p n (8-n %8) (by omega)
   have h0:Bt p n (8-n %8)=0:=Bgj _ _ fun k hk=>h3 _ (by omega) (by omega)
   rw[h0,show n/8=p.length-1 by omega]at hv
   have hlt:(p.getD (p.length-1) 0).toNat/2^(n %8)<2^(8-n %8):=by
    have:=(p.getD (p.length-1) 0).toNat_lt
    rw[Nat.div_lt_iff_lt_mul (Nat.pow_pos (by omega)),←Nat.pow_add,show 8-n %8+n %8=8 by omega];simpa using this
   rw[Nat.mod_eq_of_lt hlt]at hv
   exact hv.symm
  rw[z,hs,if_neg (by rw[Bo2];simp)]
theorem Azi{p:List UInt8}{N:Nat}(h:okB p N)(a n:Nat)(hn:n≤64):Za p (N:Int) (a:Int) (n:Int)=some (if N<a+n then(0,24)else(Re p a n,0)):=by
 obtain⟨h1,h2,h3⟩:=h
 rw[Za,Agx ⟨h1,h2,h3⟩,Aa,if_neg (by rw[Aj];simp),if_neg (by simp[Af,Aq];omega),Be (by omega) (by omega)]
 by_cases hl:N<a+n
 ·rw[if_pos (by rw[Aq];simp;omega),if_pos hl]
 ·rw[if_neg (by rw[Aq];simp;omega),get_eq p N a n hn (by omega) (by omega),Aa,if_neg hl]
end Go.Pl
set_option linter.unusedVariables false
set_option linter.unusedSimpArgs false
namespace Go.Pl
open Go Go.Lv
theorem Cfh(c:Nat)(h:c<4611686018427387904):Bj (c:Int) (2:Int)=((c/2:Nat):Int):=by
 rw[Aft,Int.tdiv_eq_ediv_of_nonneg (by omega),Bq (by omega) (by omega)];omega
theorem Cd0(c:Nat)(h:c<4611686018427387904):Bj (c:Int) (8:Int)=((c/8:Nat):Int):=by
 rw[Aft,Int.tdiv_eq_ediv_of_nonneg (by omega),Bq (by omega) (by omega)];omega
theorem Bw5(c:Nat):Fb (c:Int) (8:Int)=((c %8:Nat):Int):=by rw[Fb,Int.tmod_eq_emod_of_nonneg (by omega)];omega
theorem Cfd(c:Nat):Fb (c:Int) (2:Int)=((c %2:Nat):Int):=by rw[Fb,Int.tmod_eq_emod_of_nonneg (by omega)];omega
theorem Brz(i c:Nat)(hc:c<256):∀(j k q:Nat),k+j=i %8→j<q→Jw (i:Int) q ((c/2^k:Nat):Int) (k:Int)=some (((c/2^(i %8) %2:Nat):Int))
 |0,k,q+1,hk,_=>by
  rw[Jw,Wl,Bw5,if_neg (by rw[Af];simp;omega),Ahe,Ah9,Cfd,show k=i %8 by omega]
 |j+1,k,q+1,hk,hq=>by
  have hle:c/2^k≤c:=Nat.div_le_self _ _
  rw[Jw,Wl,Bw5,if_pos (by rw[Af];simp;omega),Cfh _ (by omega),Ag (by omega) (by omega),Nat.div_div_eq_div_mul,←Nat.pow_succ]
  exact Brz i c hc j (k+1) q (by omega) (by omega)
theorem Ayt(p:List UInt8)(N:Int)(i:Nat)(h:i/8<p.length)(hi:i<4611686018427387904):Iw p N (i:Int)=some ((Ii p i:Nat):Int):=by
 have hc:=(p.getD (i/8) 0).toNat_lt
 have:=Brz i (p.getD (i/8) 0).toNat (by simpa using hc) (i %8) 0 Am (by omega) (by have:=Ak;omega)
 rw[Iw,Aho,Cd0 _ hi,Bfm h,Aa,Ac8,Ahi]
 simpa [Ii]using this
theorem Be2(p:List UInt8)(N:Int)(a n:Nat)(ha:a+n≤8*p.length)(hp:p.length≤1000000):∀(j q:Nat),j≤n→j<q→He (a:Int) p N q (Re p (a+j) (n-j)) ((j:Int)-1)=some (Re p a n)
 |0,q+1,_,_=>by
  rw[He,Px,if_neg (by rw[Cx];simp)];rfl
 |j+1,q+1,hj,hq=>by
  have hb:=Uw p (a+j)
  rw[He,Px,show((j+1:Nat):Int)-1=(j:Int) by omega,if_pos (by rw[Cx];simp),Ag (a:=(a:Int)) (by omega) (by omega),show(a:Int)+(j:Int)=((a+j:Nat):Int) by omega,Ayt p N (a+j) (by omega) (by omega),Aa,Be (by omega) (by omega)]
  have e:Ae (Ay (2:UInt64) (Re p (a+(j+1)) (n-(j+1)))) (Ad ((Ii p (a+j):Nat):Int):UInt64)=Re p (a+j) (n-j):=by
   rw[Aes,Ad7,Xi,Re,Re,show n-j=(n-(j+1))+1 by omega,Bt,show a+j+1=a+(j+1) by omega,UInt64.ofNat_add,UInt64.ofNat_mul]
   exact UInt64.add_comm _ _
  rw[e]
  exact Be2 p N a n ha hp j q (by omega) (by omega)
theorem Av9(p:List UInt8)(N:Int)(a n:Nat)(ha:a+n≤8*p.length)(hp:p.length≤1000000):Ok p N (a:Int) (n:Int)=some (Re p a n):=by
 have:=Be2 p N a n ha hp n Am (Nat.le_refl _) (by have:=Ak;omega)
 have hz:Re p (a+n) (n-n)=0:=by rw[Nat.sub_self];rfl
 rw[hz]at this
 rw[Ok,Ab7,Ab4,Be (by omega) (by omega)]
 exact this
theorem Brt(bit:Int)(N:Nat)(l:List UInt8):∀(j k q:Nat),k+j=N %8→j<q→Jb bit (N:Int) l q ((2^k:Nat):Int) (k:Int)=Ud bit ((2^(N %8):Nat):Int) (N:Int) l
 |0,k,q+1,hk,_=>by
  rw[Jb,Uf,Bw5,if_neg (by rw[Af];simp;omega),show k=N %8 by omega]
 |j+1,k,q+1,hk,hq=>by
  have hp:2^k≤2^8:=Nat.pow_le_pow_right (by omega) (by omega)
  have e:Ay ((2^k:Nat):Int) 2=((2^(k+1):Nat):Int):=by
   rw[Nat.pow_succ]
   generalize 2^k=K at*
   rw[Gc (by omega) (by omega)];omega
  rw[Jb,Uf,Bw5,if_pos (by rw[Af];simp;omega),e,Ag (by omega) (by omega)]
  exact Brt bit N l j (k+1) q (by omega) (by omega)
theorem Bcj(p:List UInt8)(a n j:Nat)(h:j<(n+7)/8):(Ac6 p a n)[j]'(by rw[Lh];exact h)=UInt8.ofNat (Bt p (a+8*j) (min 8 (n-8*j))):=by simp[Ac6]
theorem Bm9(p:List UInt8)(a t:Nat)(h:t≤8):Bt p a t<256:=by
 have h1:=Nn p t a
 have h2:2^t≤2^8:=Nat.pow_le_pow_right (by omega) h
 omega
def room(p:List UInt8)(a n:Nat):List UInt8:=if n %8=0 then Ac6 p a n++[0]else Ac6 p a n
theorem Uy(p:List UInt8)(a n:Nat):(room p a n).length=n/8+1:=by
 rw[room];split<;>simp[Lh]<;>omega
theorem Bkj(p:List UInt8)(a n j:Nat)(h:j<n/8+1):(room p a n)[j]'(by rw[Uy];exact h)=UInt8.ofNat (Bt p (a+8*j) (min 8 (n-8*j))):=by
 have h0:(room p a n)[j]? =some (UInt8.ofNat (Bt p (a+8*j) (min 8 (n-8*j)))):=by
  rw[room]
  split
  ·by_cases hj:j<(n+7)/8
   ·rw[List.getElem?_append_left (by rw[Lh];exact hj),List.getElem?_eq_getElem (by rw[Lh];exact hj),Bcj p a n j hj]
   ·rw[List.getElem?_append_right (by rw[Lh];omega),Lh,show j-(n+7)/8=0 by omega,show n-8*j=0 by omega];rfl
  ·rw[List.getElem?_eq_getElem (by rw[Lh];omega),Bcj p a n j (by omega)]
 rw[List.getElem?_eq_getElem (by rw[Uy];exact h)]at h0
 exact Option.some.inj h0
theorem Blg(p:List UInt8)(a n T:Nat)(h1:1≤T)(h:n %8+T≤8):(room p a n).set (n/8) (UInt8.ofNat (Bt p (a+8*(n/8)) (n %8+T)))=Ac6 p a (n+T):=by
 apply List.ext_getElem (by rw[List.length_set,Uy,Lh];omega)
 intro j g1 g2
 rw[List.length_set,Uy]at g1
 rw[List.getElem_set,Bcj p a (n+T) j (by rw[Lh]at g2;exact g2)]
 split
 ·rename_i e;subst e;rw[show min 8 (n+T-8*(n/8))=n %8+T by omega]
 ·rw[Bkj p a n j g1,show min 8 (n-8*j)=8 by omega,show min 8 (n+T-8*j)=8 by omega]
theorem Bhc(p:List UInt8)(a n:Nat):(room p a n)[n/8]'(by rw[Uy];omega)=UInt8.ofNat (Bt p (a+8*(n/8)) (n %8)):=by
 rw[Bkj p a n _ (by omega),show min 8 (n-8*(n/8))=n %8 by omega]
theorem Bwl(p:List UInt8)(a n:Nat)(hn:n≤400000):Tk (Ac6 p a n) (n:Int) ((Ii p (a+n):Nat):Int)=some (Ac6 p a (n+1),((n+1:Nat):Int)):=by
 have hb:=Uw p (a+n)
 have hp:2^(n %8)≤2^7:=Nat.pow_le_pow_right (by omega) (by omega)
 have hroom:Tk (Ac6 p a n) (n:Int) ((Ii p (a+n):Nat):Int)=Tz ((Ii p (a+n):Nat):Int) (n:Int) (room p a n):=by
  rw[Tk,Age,Bw5,room]
  by_cases h0:n %8=0
  ·rw[if_pos (by rw[Az,h0];rfl),Cr (by rw[Lh];simp;omega),Aa,if_pos h0]
  ·rw[if_neg (by rw[Az];simp;omega),if_neg h0]
 have hl:=Brt ((Ii p (a+n):Nat):Int) n (room p a n) (n %8) 0 Am (by omega) (by have:=Ak;omega)
 rw[hroom,Tz,Af9,Agc]
 refine Eq.trans hl ?_
 have hg:getI (room p a n) ((n/8:Nat):Int)=some (UInt8.ofNat (Bt p (a+8*(n/8)) (n %8))):=by
  rw[Cf (by rw[Uy];omega),Bhc]
 have hlt:=Bm9 p (a+8*(n/8)) (n %8+1) (by omega)
 have hsn:=Bha p (a+8*(n/8)) (n %8)
 rw[show a+8*(n/8)+n %8=a+n by omega]at hsn
 have hm:Ay ((Ii p (a+n):Nat):Int) ((2^(n %8):Nat):Int)=((2^(n %8)*Ii p (a+n):Nat):Int):=by
  have hle:2^(n %8)*Ii p (a+n)≤2^7*1:=Nat.mul_le_mul hp (by omega)
  rw[Bvk,←Int.natCast_mul,Bq (by omega) (by rw[Nat.mul_comm];omega),Nat.mul_comm]
 have hx:Ae (UInt8.ofNat (Bt p (a+8*(n/8)) (n %8))) (Ad (((2^(n %8)*Ii p (a+n):Nat):Int)):UInt8)=UInt8.ofNat (Bt p (a+8*(n/8)) (n %8+1)):=by
  rw[Bx9,Bxa,hsn,UInt8.ofNat_add]
 rw[Ud,Af3,Cd0 _ (by omega),hg,Aa,Aa,Aa,hm,hx,Tx _ (by rw[Uy];omega),Aa,Blg p a n 1 (by omega) (by omega),Ag (by omega) (by omega)];rfl
theorem Axf(p:List UInt8)(N:Int)(a n:Nat)(ha:a+n≤8*p.length)(hp:p.length≤1000000)(hn:n≤300000):∀(j m q:Nat),m+j=n→j<q→Fu ((a+n:Nat):Int) p N q ((a+m:Nat):Int) (m:Int) (Ac6 p a m)=some (Ac6 p a n,(n:Int))
 |0,m,q+1,hm,_=>by
  rw[Fu,Nh,if_neg (by rw[Af];simp;omega),show m=n by omega];rfl
 |j+1,m,q+1,hm,hq=>by
  rw[Fu,Nh,if_pos (by rw[Af];simp;omega),Ayt p N (a+m) (by omega) (by omega),Aa,Bwl p a m (by omega),Aa]
  simp only
  rw[Ag (by omega) (by omega)]
  exact Axf p N a n ha hp hn j (m+1) q (by omega) (by omega)
theorem Blc(p:List UInt8)(N:Int)(a n:Nat)(ha:a+n≤8*p.length)(hp:p.length≤1000000)(hn:n≤300000):Aeq p N (a:Int) ((a+n:Nat):Int)=some (Ac6 p a n,(n:Int)):=by
 have:=Axf p N a n ha hp hn n 0 Am (by omega) (by have:=Ak;omega)
 exact this
end Go.Pl
set_option linter.unusedVariables false
set_option linter.unusedSimpArgs false
namespace Go.Pl
open Go Go.Lv
theorem Cdo{t:Nat}(h:t≤8):Ah (Ck (1:UInt64) t) (1:UInt64)=UInt64.ofNat (2^t-1):=by
 have:t=0∨t=1∨t=2∨t=3∨t=4∨t=5∨t=6∨t=7∨t=8:=by omega
 rcases this with rfl|rfl|rfl|rfl|rfl|rfl|rfl|rfl|rfl<;>decide
theorem Cfk(v:UInt64){t:Nat}(h:t≤8):(Dd v (Ah (Ck (1:UInt64) t) (1:UInt64))).toNat=v.toNat %2^t:=by
 have hp:2^t≤2^8:=Nat.pow_le_pow_right (by omega) h
 rw[Cdo h,Bck,UInt64.toNat_and,UInt64.toNat_ofNat',Nat.mod_eq_of_lt (by have:=Nat.pow_pos (n:=t) (show 0<2 by omega);omega),Nat.and_two_pow_sub_one_eq_mod]
theorem or8{v w i:Nat}(hv:v<2^i)(hw:w*2^i<256)(hi:i<8):gor (UInt8.ofNat v) (Ck (UInt8.ofNat w) i)=UInt8.ofNat (v+w*2^i):=by
 have hp:2^i≤2^8:=Nat.pow_le_pow_right (by omega) (by omega)
 have hpos:0<2^i:=Nat.pow_pos (by omega)
 have hw2:w<256:=Nat.lt_of_le_of_lt (Nat.le_mul_of_pos_right w hpos) hw
 rw[Cdg];apply UInt8.toNat_inj.1
 have e1:(UInt8.ofNat v).toNat=v:=by rw[UInt8.toNat_ofNat',Nat.mod_eq_of_lt (by omega)]
 have e2:(UInt8.ofNat w).toNat=w:=by rw[UInt8.toNat_ofNat',Nat.mod_eq_of_lt (by omega)]
 rw[UInt8.toNat_or,Ca6,e1,e2,Nat.mod_eq_of_lt hw,Nat.mul_comm w,Nat.or_comm,←Nat.two_pow_add_eq_or_of_lt hv,UInt8.toNat_ofNat',Nat.add_comm v]
 rw[Nat.mul_comm]at hw
 have hb:2^i*w+v<256:=by
  rw[Nat.two_pow_add_eq_or_of_lt hv]
  exact Nat.or_lt_two_pow (n:=8) hw (by omega)
 rw[Nat.mod_eq_of_lt hb]
theorem Bw2(p:List UInt8)(a n T:Nat)(h:T≤n)(hn:n≤64):Bk (Re p a n) T=Re p (a+T) (n-T):=by
 apply UInt64.toNat_inj.1
 rw[Ae2,Yj p a n hn,Yj p (a+T) (n-T) (by omega)]
 have:=Nn p T a
 conv=>lhs;rw[show n=T+(n-T) by omega,Aha,Nat.add_mul_div_left _ _ (Nat.pow_pos (by omega)),Nat.div_eq_of_lt this,Nat.zero_add]
theorem Bwx(p:List UInt8)(a n T:Nat)(h:T≤n)(hn:n≤64):(Re p a n).toNat %2^T=Bt p a T:=by
 have:=Nn p T a
 rw[Yj p a n hn]
 conv=>lhs;rw[show n=T+(n-T) by omega,Aha,Nat.add_mul_mod_self_left,Nat.mod_eq_of_lt this]
theorem Bd2(bk:Int→Int→List UInt8→Option (List UInt8×Int×Int))(to':Int)(p:List UInt8)(N fr:Int)(r6:UInt64)(a:Nat):∀(j m q:Nat),m+j≤300000→j≤64→j<q→
  Lo bk to' p N fr r6 q (Re p (a+m) j) (j:Int) (m:Int) (Ac6 p a m)=Agm bk to' p N fr ((m+j:Nat):Int) (Ac6 p a (m+j))
 |0,m,q+1,_,_,_=>by
  rw[Lo,Agp,if_neg (by rw[Aq];simp)];rfl
 |j+1,m,q+1,hm,hj,hq=>by
  have hroom:Lo bk to' p N fr r6 (q+1) (Re p (a+m) (j+1)) ((j+1:Nat):Int) (m:Int) (Ac6 p a m)=Agi (Lo bk to' p N fr r6 q) to' fr p N r6 (Re p (a+m) (j+1)) ((j+1:Nat):Int) (m:Int) (room p a m):=by
   rw[Lo,Agp,if_pos (by rw[Aq];simp),Bme m (by omega),room]
   by_cases h0:m %8=0
   ·rw[if_pos (by rw[Az,h0];rfl),Cr (by rw[Lh];simp;omega),Aa,if_pos h0]
   ·rw[if_neg (by rw[Az];simp;omega),if_neg h0]
  have hl:Ah (Ac (room p a m)) 1=((m/8:Nat):Int):=by
   rw[Ac,Uy,Be (by omega) (by omega)];omega
  have e2:Dk ((j+1:Nat):Int) (Ah (8:Int) ((m %8:Nat):Int))=((min (j+1) (8-m %8):Nat):Int):=by
   rw[Ali,Be (by omega) (by omega)];omega
  rw[hroom,Agi,Aor,Bme m (by omega),e2,hl]
  generalize hT:min (j+1) (8-m %8)=T
  have hT1:1≤T:=by omega
  have hT8:m %8+T≤8:=by omega
  have hg:getI (room p a m) ((m/8:Nat):Int)=some (UInt8.ofNat (Bt p (a+8*(m/8)) (m %8))):=by
   rw[Cf (by rw[Uy];omega),Bhc]
  have z1:(GI.toZ ((m %8:Nat):Int)).toNat=m %8:=rfl
  have z2:(GI.toZ ((T:Nat):Int)).toNat=T:=rfl
  have hlt:=Bm9 p (a+8*(m/8)) (m %8+T) (by omega)
  have hadd:=Aha p (m %8) T (a+8*(m/8))
  rw[show a+8*(m/8)+m %8=a+m by omega]at hadd
  have hbyte:(Ad (Dd (Re p (a+m) (j+1)) (Ah (Ck (1:UInt64) T) (1:UInt64))):UInt8)=UInt8.ofNat (Bt p (a+m) T):=by
   rw[Anb,Cfk _ (by omega),Bwx p (a+m) (j+1) T (by omega) hj]
  have hnew:gor (UInt8.ofNat (Bt p (a+8*(m/8)) (m %8))) (Ck (UInt8.ofNat (Bt p (a+m) T)) (m %8))=UInt8.ofNat (Bt p (a+8*(m/8)) (m %8+T)):=by
   rw[or8 (Nn _ _ _) (by rw[Nat.mul_comm];omega) (by omega),hadd,Nat.mul_comm (2^(m %8))]
  rw[hg,z1,z2,hbyte]
  simp only[Aa]
  rw[Br (by rw[Cx];simp),Aa,Br (by rw[Cx];simp;omega),Aa,hnew,Tx _ (by rw[Uy];omega),Aa,Blg p a m T hT1 hT8,Anh,Awl,Bme m (by omega),e2,hT,Br (by rw[Cx];simp),Aa,z2,Bw2 p (a+m) (j+1) T (by omega) hj,Be (by omega) (by omega),Ag (by omega) (by omega)]
  have ih:=Bd2 bk to' p N fr r6 a (j+1-T) (m+T) q (by omega) (by omega) (by omega)
  rw[show m+T+(j+1-T)=m+(j+1) by omega]at ih
  rw[←ih,show a+m+T=a+(m+T) by omega,show((j+1:Nat):Int)-((T:Nat):Int)=((j+1-T:Nat):Int) by omega,show(m:Int)+((T:Nat):Int)=((m+T:Nat):Int) by omega]
theorem Bk5(p:List UInt8)(N:Int)(a n:Nat)(ha:a+n≤8*p.length)(hp:p.length≤1000000)(hn:n≤300000):∀(j m f q:Nat),(f=m∨n≤f∧m=n)→m+j=n→f≤n+64→j<q→Tm ((a+n:Nat):Int) p N q ((a+f:Nat):Int) (m:Int) (Ac6 p a m)=some (Ac6 p a n,(n:Int),0)
 |j,m,f,q+1,hf,hm,hf2,hq=>by
  rw[Tm,Anf]
  by_cases hlt:f<n
  ·obtain rfl:f=m:=by omega
   have e1:Dk (64:Int) (Ah ((a+n:Nat):Int) ((a+f:Nat):Int))=((min 64 (n-f):Nat):Int):=by
    rw[Ali,Be (by omega) (by omega)];omega
   rw[if_pos (by rw[Af];simp;omega),e1,get_eq p N (a+f) _ (by omega) (by omega) hp,Aa,Ao2]
   have h1:=Bd2 (Tm ((a+n:Nat):Int) p N q) ((a+n:Nat):Int) p N ((a+f:Nat):Int) (Re p (a+f) (min 64 (n-f))) a (min 64 (n-f)) f Am (by omega) (by omega) (by have:=Ak;omega)
   refine Eq.trans h1 ?_
   rw[Agm,Ax0,Ag (by omega) (by omega),show((a+f:Nat):Int)+64=((a+(f+64):Nat):Int) by omega]
   exact Bk5 p N a n ha hp hn (j-min 64 (n-f)) (f+min 64 (n-f)) (f+64) q (by omega) (by omega) (by omega) (by omega)
  ·rw[if_neg (by rw[Af];simp;omega),Aof,Awo,show m=n by omega]
theorem Ccw{p:List UInt8}{N:Nat}(h:okB p N)(a n:Nat)(ha:a+n≤N)(hn:n≤300000):Asb p (N:Int) (a:Int) ((a+n:Nat):Int)=some (Ac6 p a n,(n:Int),0):=by
 obtain⟨h1,h2,h3⟩:=h
 have:=Bk5 p N a n (by omega) (by omega) hn n 0 0 Am (by omega) (by omega) (by omega) (by have:=Ak;omega)
 rw[Asb,Aqp,Agx ⟨h1,h2,h3⟩,Aa,if_neg (by rw[Aj];simp),if_neg (by simp[Af,Aq];omega),Aoj]
 exact this
end Go.Pl
set_option linter.unusedVariables false
set_option linter.unusedSimpArgs false
namespace Go.Pl
open Go Go.Lv
def Fi(p:List UInt8):Nat→Nat→Nat
 |_,0=>0
 |a,m+1=>if Ii p a=1 then 1+Fi p (a+1) m else 0
theorem Aj9(p:List UInt8):∀(m a:Nat),Fi p a m≤m
 |0,_=>Nat.le_refl _
 |m+1,a=>by rw[Fi];split<;>have:=Aj9 p m (a+1)<;>omega
theorem Bmc(p:List UInt8):∀(m a:Nat),∃s,Bt p a m+1=2^(Fi p a m+1)*s+2^Fi p a m∧(Fi p a m=m→s=0)
 |0,a=>⟨0,by simp[Bt,Fi],fun _=>rfl⟩
 |m+1,a=>by
  have hb:=Uw p a
  obtain⟨s,h1,h2⟩:=Bmc p m (a+1)
  by_cases h:Ii p a=1
  ·refine⟨s,?_,fun e=>h2 ?_⟩
   ·rw[Fi,if_pos h,Bt,h,show 1+Fi p (a+1) m+1=(Fi p (a+1) m+1)+1 by omega,show 1+Fi p (a+1) m=Fi p (a+1) m+1 by omega,Nat.pow_succ,Nat.pow_succ (n:=2) (m:=Fi p (a+1) m)]
    rw[Nat.pow_succ]at h1
    generalize Bt p (a+1) m=V at*
    generalize 2^Fi p (a+1) m=W at*
    have e1:W*2*2*s=2*(W*2*s):=by rw[Nat.mul_right_comm (W*2) 2 s,Nat.mul_comm]
    omega
   ·rw[Fi,if_pos h]at e;omega
  ·refine⟨Bt p (a+1) m,?_,fun e=>?_⟩
   ·rw[Fi,if_neg h,Bt];simp;omega
   ·rw[Fi,if_neg h]at e;omega
theorem By7{n t s:Nat}(h:2^(t+1)*s+2^t≤2^n)(ht:t<n)(x:Nat)(hx:x=2^n-(2^(t+1)*s+2^t)):x&&& (2^(t+1)*s+2^t)=2^t:=by
 have hpos:0<2^t:=Nat.pow_pos (by omega)
 have hlt:2^t<2^(t+1):=by rw[Nat.pow_succ];omega
 have e:x=2^n-((2^(t+1)*s+(2^t-1))+1):=by rw[hx];congr 1;omega
 apply Nat.eq_of_testBit_eq
 intro i
 rw[Nat.testBit_and,e,Nat.testBit_two_pow_sub_succ (by omega),Nat.testBit_two_pow_mul_add _ (by omega),Nat.testBit_two_pow_mul_add _ hlt]
 by_cases hi:i<t+1
 ·rw[if_pos hi,if_pos hi,Nat.testBit_two_pow_sub_one,Nat.testBit_two_pow]
  by_cases hit:t=i
  ·subst hit;simp;exact ht
  ·have:¬i=t:=fun e=>hit e.symm
   simp[hit]
 ·rw[if_neg hi,if_neg hi,Nat.testBit_two_pow]
  have:¬t=i:=by omega
  simp[this]
theorem Bu8(a:UInt64):(Bfp a).toNat=18446744073709551615-a.toNat:=by
 have h:=a.toNat_lt
 have e:Bfp a=UInt64.ofNat (BitVec.ofInt 64 18446744073709551615^^^BitVec.ofInt 64 (a.toNat:Int)).toNat:=Ft _
 have h1:BitVec.ofInt 64 (a.toNat:Int)=a.toBitVec:=Bjp a
 have h2:(BitVec.ofInt 64 18446744073709551615:BitVec 64)=BitVec.allOnes 64:=by decide
 rw[e,UInt64.toNat_ofNat',h1,h2,BitVec.allOnes_xor,BitVec.toNat_not]
 show(18446744073709551616-1-a.toNat) %18446744073709551616=18446744073709551615-a.toNat
 omega
theorem Bwu(a:UInt64):(Ax3 a).toNat=(18446744073709551616-a.toNat) %18446744073709551616:=by
 have h:=a.toNat_lt
 have e:Ax3 a=UInt64.ofNat ((0-(a.toNat:Int)) %18446744073709551616).toNat:=Bj9 _
 rw[e,UInt64.toNat_ofNat']
 show((0-(a.toNat:Int)) %18446744073709551616).toNat %18446744073709551616=_
 omega
def Cet:List UInt8:=[0,1,56,2,57,49,28,3,61,58,42,50,38,29,17,4,62,47,59,36,45,43,51,22,53,39,33,30,24,18,12,5,63,55,48,27,60,41,37,16,46,35,44,21,52,32,23,11,54,26,40,15,34,20,31,10,25,14,19,9,13,8,7,6]
theorem Bt2:∀t:Fin 64,getI Cet (GI.toZ (Bk (Ay (UInt64.ofNat (2^t.val)) (285870213051353865:UInt64)) (GI.toZ (58:UInt64)).toNat))=some (UInt8.ofNat t.val):=by decide +kernel
theorem Cek(x:UInt64)(t s:Nat)(ht:t<64)(h:x.toNat+(2^(t+1)*s+2^t)=18446744073709551616):Ew x=some (t:Int):=by
 have hpos:0<2^t:=Nat.pow_pos (by omega)
 have hx:x.toNat=2^64-(2^(t+1)*s+2^t):=by show x.toNat=18446744073709551616-_;omega
 have hle:2^t≤2^63:=Nat.pow_le_pow_right (by omega) (by omega)
 have hne:x≠0:=by
  intro e
  rw[e]at h
  have h':2^t*(2*s+1)=2^64:=by
   rw[Nat.mul_add,Nat.mul_one,←Nat.mul_assoc,←Nat.pow_succ]
   show _=18446744073709551616
   simpa using h
  have h2:2^64=2^t*2^(64-t):=by rw[←Nat.pow_add];congr 1;omega
  rw[h2]at h'
  have h3:=Nat.eq_of_mul_eq_mul_left hpos h'
  rw[show 64-t=(63-t)+1 by omega,Nat.pow_succ]at h3
  omega
 have hx0:x.toNat≠0:=fun e=>hne (UInt64.toNat_inj.1 e)
 have hl:Dd x (Ax3 x)=UInt64.ofNat (2^t):=by
  apply UInt64.toNat_inj.1
  rw[Bck,UInt64.toNat_and,Bwu,show(18446744073709551616-x.toNat) %18446744073709551616=2^(t+1)*s+2^t by omega,By7 (n:=64) (by show _≤18446744073709551616;omega) ht _ hx,UInt64.toNat_ofNat',Nat.mod_eq_of_lt]
  exact Nat.lt_of_le_of_lt hle (by decide)
 have hb:=Bt2 ⟨t,ht⟩
 rw[Ew,if_neg (by rw[Bbx];simpa using hne),hl]
 refine Eq.trans (congrArg (fun o=>Option.bind o fun c=>some (Ad c:Int)) hb) ?_
 rw[Aa,Ac8,UInt8.toNat_ofNat',Nat.mod_eq_of_lt (by show t<256;omega)]
theorem Bzy(p:List UInt8)(a m:Nat)(hm:m≤48):Ew (Bfp (Re p a m))=some ((Fi p a m:Nat):Int):=by
 obtain⟨s,h1,h2⟩:=Bmc p m a
 have hle:=Aj9 p m a
 have hlt:=Nn p m a
 have h48:2^m≤2^48:=Nat.pow_le_pow_right (by omega) hm
 have hn:(Bfp (Re p a m)).toNat=18446744073709551615-Bt p a m:=by rw[Bu8,Yj p a m (by omega)]
 have h3:(281474976710656:Nat)=2^48:=rfl
 refine Cek _ (Fi p a m) s (by omega) ?_
 rw[hn];omega
def unS(p:List UInt8)(N a:Nat):Int×Int×Int:=
 if Fi p a (min 48 (N-a))<min 48 (N-a)then((Fi p a (min 48 (N-a)):Nat),((a+Fi p a (min 48 (N-a))+1:Nat):Int),0)else
 if Fi p a (min 48 (N-a))=48 then(48,((a+48:Nat):Int),0)else(0,0,24)
theorem Bxl{p:List UInt8}{N:Nat}(h:okB p N)(a:Nat)(ha:a<N):Acp p (N:Int) (a:Int)=some (unS p N a):=by
 have hN:=h.1
 have e1:Dk (48:Int) (Ah (N:Int) (a:Int))=((min 48 (N-a):Nat):Int):=by rw[Ali,Be (by omega) (by omega)];omega
 have hle:=Aj9 p (min 48 (N-a)) a
 rw[Acp,Vh,Agx h,Aa,if_neg (by rw[Aj];simp),if_neg (by rw[Af];simp),if_neg (by rw[Cx];simp;omega),e1,Azi h a _ (by omega),if_neg (by omega),Aa]
 simp only
 rw[Ak1,Aky,if_neg (by rw[Aj];simp),Bzy p a _ (by omega),Aa,Als,Ald,e1,unS]
 by_cases h1:Fi p a (min 48 (N-a))<min 48 (N-a)
 ·rw[if_pos (by rw[Af];simp;omega),if_pos h1,Ag (a:=(a:Int)) (by omega) (by omega),show Ae (0:Int) 1=1 by decide,Ag (by omega) (by omega)]
  congr 3;omega
 ·rw[if_neg (by rw[Af];simp;omega),if_neg h1,Akz,Akt]
  by_cases h2:Fi p a (min 48 (N-a))=48
  ·rw[if_pos (by rw[Az,h2];rfl),if_pos h2,h2,Ag (a:=(a:Int)) (by omega) (by omega),Ag (by omega) (by omega)]
   congr 3;omega
  ·rw[if_neg (by rw[Az];simp;omega),if_neg h2];rfl
theorem Bhb(p:List UInt8):∀(m a:Nat),Fi p a m<m→Ii p (a+Fi p a m)≠1
 |0,_,h=>by simp[Fi]at h
 |m+1,a,h=>by
  by_cases hb:Ii p a=1
  ·rw[Fi,if_pos hb]at h⊢
   have:=Bhb p m (a+1) (by omega)
   rwa [show a+(1+Fi p (a+1) m)=a+1+Fi p (a+1) m by omega]
  ·rw[Fi,if_neg hb];exact hb
theorem Bh8(p:List UInt8):∀(m a k:Nat),k<Fi p a m→Ii p (a+k)=1
 |0,a,k,h=>by simp[Fi]at h
 |m+1,a,k,h=>by
  by_cases hb:Ii p a=1
  ·rw[Fi,if_pos hb]at h
   cases k with
   |zero=>exact hb
   |succ k=>
    have:=Bh8 p m (a+1) k (by omega)
    rwa [show a+(k+1)=a+1+k by omega]
  ·rw[Fi,if_neg hb]at h;omega
def unR(p:List UInt8)(N a:Nat):Int×Int:=if(unS p N a).2.2=0 then((unS p N a).1,(unS p N a).2.1)else(-1,0)
theorem Bdr{p:List UInt8}{N:Nat}(h:okB p N)(a:Nat)(ha:a<N):∀(j k q:Nat),k+j=Fi p a (min 48 (N-a))→j<q→Jd (a:Int) p (N:Int) q (k:Int)=some (unR p N a)
 |0,k,q+1,hk,_=>by
  obtain⟨hN,hl,hz⟩:=h
  have hle:=Aj9 p (min 48 (N-a)) a
  have hk':k=Fi p a (min 48 (N-a)):=by omega
  have e1:Ae (a:Int) (k:Int)=((a+k:Nat):Int):=by rw[Ag (by omega) (by omega)];omega
  have hend:Ua (a:Int) (k:Int) p (N:Int)=some (unR p N a):=by
   rw[Ua,Af2,e1]
   by_cases h48:k=48
   ·have hu:unS p N a=(48,((a+48:Nat):Int),0):=by rw[unS,←hk',if_neg (by omega),if_pos h48]
    rw[if_pos (by rw[Az,h48];rfl),unR,hu,h48];rfl
   ·rw[if_neg (by rw[Az];simp;omega)]
    by_cases hN2:N≤a+k
    ·have hu:unS p N a=(0,0,24):=by rw[unS,←hk',if_neg (by omega),if_neg h48]
     rw[if_pos (by rw[Cx];simp;omega),unR,hu];rfl
    ·have hu:unS p N a=(((k:Nat):Int),((a+k+1:Nat):Int),0):=by rw[unS,←hk',if_pos (by omega)]
     rw[if_neg (by rw[Cx];simp;omega),unR,hu,Ag (by omega) (by omega)];rfl
  rw[Jd,Us,e1]
  by_cases hc:a+k<N∧k<48
  ·have hb:=Uw p (a+k)
   have hs:=Bhb p (min 48 (N-a)) a (by omega)
   rw[←hk']at hs
   rw[if_pos (by simp[Af];omega),Ayt p _ (a+k) (by omega) (by omega),Aa,if_neg (by rw[Az];simp;omega),hend]
  ·rw[if_neg (by simp[Af];omega),hend]
 |j+1,k,q+1,hk,hq=>by
  obtain⟨hN,hl,hz⟩:=h
  have hle:=Aj9 p (min 48 (N-a)) a
  have hb:=Bh8 p (min 48 (N-a)) a k (by omega)
  have e1:Ae (a:Int) (k:Int)=((a+k:Nat):Int):=by rw[Ag (by omega) (by omega)];omega
  rw[Jd,Us,e1,if_pos (by simp[Af];omega),Ayt p _ (a+k) (by omega) (by omega),Aa,hb,if_pos (by decide),Ag (by omega) (by omega)]
  exact Bdr ⟨hN,hl,hz⟩ a ha j (k+1) q (by omega) (by omega)
theorem Bvo{p:List UInt8}{N:Nat}(h:okB p N)(a:Nat)(ha:a<N):Al2 p (N:Int) (a:Int)=some (unR p N a):=by
 have hle:=Aj9 p (min 48 (N-a)) a
 have:=Bdr h a ha (Fi p a (min 48 (N-a))) 0 Am (by omega) (by have:=Ak;omega)
 exact this
end Go.Pl
set_option linter.unusedVariables false
set_option linter.unusedSimpArgs false
namespace Go.Pl
open Go Go.Lv
theorem Bu9{p:List UInt8}{N a:Nat}(h:Fi p a (min 48 (N-a))<min 48 (N-a)):unS p N a=(((Fi p a (min 48 (N-a)):Nat):Int),((a+Fi p a (min 48 (N-a))+1:Nat):Int),0):=by rw[unS,if_pos h]
theorem Buw{p:List UInt8}{N a:Nat}(h:¬Fi p a (min 48 (N-a))<min 48 (N-a))(h2:Fi p a (min 48 (N-a))=48):unS p N a=(48,((a+48:Nat):Int),0):=by rw[unS,if_neg h,if_pos h2]
theorem Bu5{p:List UInt8}{N a:Nat}(h:¬Fi p a (min 48 (N-a))<min 48 (N-a))(h2:¬Fi p a (min 48 (N-a))=48):unS p N a=(0,0,24):=by rw[unS,if_neg h,if_neg h2]
theorem Bt0{p:List UInt8}{N:Nat}(h:okB p N)(a:Nat)(ha:N≤a):Acp p (N:Int) (a:Int)=some (0,0,24):=by
 rw[Acp,Vh,Agx h,Aa,if_neg (by rw[Aj];simp),if_neg (by rw[Af];simp),if_pos (by rw[Cx];simp;omega)]
def rcS(p:List UInt8)(N a k:Nat):UInt32×Int×Int:=
 if N≤a then(0,0,24)else
 if Fi p a (min 48 (N-a))<min 48 (N-a)then
  (if N<a+Fi p a (min 48 (N-a))+1+k then(0,0,24)else(UInt32.ofNat (Fi p a (min 48 (N-a))*2^k+Bt p (a+Fi p a (min 48 (N-a))+1) k),((a+Fi p a (min 48 (N-a))+1+k:Nat):Int),0))
 else if Fi p a (min 48 (N-a))=48 then
  (if N<a+48+32 then(0,0,24)else if Bt p (a+48) 32/2^k<48 then(0,0,12)else(UInt32.ofNat (Bt p (a+48) 32),((a+48+32:Nat):Int),0))
 else(0,0,24)
theorem Awj{p:List UInt8}{a n:Nat}(h:n≤32):(Ad (Re p a n):UInt32)=UInt32.ofNat (Bt p a n):=by
 have e:(Ad (Re p a n):UInt32)=UInt32.ofNat (Re p a n).toNat:=by simp only[Ad,Gz,Dm]
 rw[e,Yj p a n (by omega)]
theorem Ane{n:Nat}(h:n<4294967296):(UInt32.ofNat n).toNat=n:=by rw[UInt32.toNat_ofNat'];exact Nat.mod_eq_of_lt h
theorem Bm8(p:List UInt8)(a:Nat){n:Nat}(h:n≤32):Bt p a n<4294967296:=by
 have h1:=Nn p n a
 have h2:2^n≤2^32:=Nat.pow_le_pow_right (by omega) h
 omega
theorem Cc4{q v k:Nat}(hq:q<48)(hv:v<2^k)(hk:k≤24):gor (Ck (Ad (q:Int):UInt32) k) (UInt32.ofNat v)=UInt32.ofNat (q*2^k+v):=by
 have hp:2^k≤2^24:=Nat.pow_le_pow_right (by omega) hk
 have h1:q*2^k≤47*2^24:=Nat.mul_le_mul (by omega) hp
 rw[By4];apply UInt32.toNat_inj.1
 rw[UInt32.toNat_or,Bce,Bhg,Ane (by omega),Ane (n:=v) (by omega),Nat.mod_eq_of_lt (by omega),Nat.mul_comm q,←Nat.two_pow_add_eq_or_of_lt hv,Ane (by rw[Nat.mul_comm];omega)]
theorem Caa{p:List UInt8}{N:Nat}(h:okB p N)(a k:Nat)(hk:k≤24):Atv p (N:Int) (a:Int) (k:Int)=some (rcS p N a k):=by
 have hN:=h.1
 rw[Atv,Aoy,Agx h,Aa,if_neg (by rw[Aj];simp),if_neg (by simp[Af,Aq];omega)]
 by_cases ha:N≤a
 ·rw[Bt0 h a ha,Aa,rcS,if_pos ha];rfl
 have hle:=Aj9 p (min 48 (N-a)) a
 rw[Bxl h a (by omega),Aa]
 by_cases h1:Fi p a (min 48 (N-a))<min 48 (N-a)
 ·have hS:rcS p N a k=if N<a+Fi p a (min 48 (N-a))+1+k then(0,0,24)else(UInt32.ofNat (Fi p a (min 48 (N-a))*2^k+Bt p (a+Fi p a (min 48 (N-a))+1) k),((a+Fi p a (min 48 (N-a))+1+k:Nat):Int),0):=by rw[rcS,if_neg ha,if_pos h1]
  rw[Bu9 h1,hS]
  generalize Fi p a (min 48 (N-a))=q at*
  simp only
  rw[if_neg (by rw[Aj];simp),if_neg (by rw[Az];simp;omega),Agq,Aop,Azi h _ k (by omega),Aa]
  by_cases h2:N<a+q+1+k
  ·rw[if_pos h2,if_pos h2];rfl
  ·rw[if_neg h2,if_neg h2]
   simp only
   have z:(GI.toZ (k:Int)).toNat=k:=rfl
   rw[if_neg (by rw[Aj];simp),if_pos (by rw[Af];simp;omega),Br (by rw[Cx];simp),Aa,z,Awj (by omega),Cc4 (by omega) (Nn _ _ _) hk,Ag (by omega) (by omega)];rfl
 ·by_cases h2:Fi p a (min 48 (N-a))=48
  ·have hS:rcS p N a k=if N<a+48+32 then(0,0,24)else if Bt p (a+48) 32/2^k<48 then(0,0,12)else(UInt32.ofNat (Bt p (a+48) 32),((a+48+32:Nat):Int),0):=by rw[rcS,if_neg ha,if_neg h1,if_pos h2]
   have hg:=Azi h (a+48) 32 (by omega)
   rw[Buw h1 h2,hS]
   simp only
   rw[if_neg (by rw[Aj];simp),if_pos (by rw[Az];rfl),Agq,Aop]
   refine Eq.trans (congrArg (fun o=>Option.bind o _) hg) ?_
   rw[Aa]
   by_cases h3:N<a+48+32
   ·rw[if_pos h3,if_pos h3];rfl
   ·rw[if_neg h3,if_neg h3]
    simp only
    have z:(GI.toZ (k:Int)).toNat=k:=rfl
    have hv:=Bm8 p (a+48) (n:=32) (by omega)
    rw[if_neg (by rw[Aj];simp),if_neg (by rw[Af];simp),Agw,Br (by rw[Cx];simp),Aa,Aa,z,Awj (by omega),Ca2]
    have e:(decide ((48:UInt32).toNat≤(Bk (UInt32.ofNat (Bt p (a+48) 32)) k).toNat))=decide (¬Bt p (a+48) 32/2^k<48):=by
     rw[Amj,Ane hv];simp
    rw[e]
    by_cases h4:Bt p (a+48) 32/2^k<48
    ·rw[if_pos (by simp[h4]),if_pos h4]
    ·rw[if_neg (by simp;omega),if_neg h4,Ag (by omega) (by omega)];rfl
  ·rw[Bu5 h1 h2,rcS,if_neg ha,if_neg h1,if_neg h2];rfl
theorem Bcs(k:Nat)(hk:k≤63):∀(j i q:Nat),i+j=k→j<q→Hh (k:Int) q (UInt64.ofNat (2^i)) (i:Int)=some (UInt64.ofNat (2^k))
 |0,i,q+1,hi,_=>by
  rw[Hh,Pm,if_neg (by rw[Af];simp;omega),show i=k by omega];rfl
 |j+1,i,q+1,hi,hq=>by
  have e:Ay (UInt64.ofNat (2^i)) (2:UInt64)=UInt64.ofNat (2^(i+1)):=by
   rw[Ad7,Nat.pow_succ,UInt64.ofNat_mul];rfl
  rw[Hh,Pm,if_pos (by rw[Af];simp;omega),Ag (by omega) (by omega),e]
  exact Bcs k hk j (i+1) q (by omega) (by omega)
theorem Aeh(k:Nat)(hk:k≤63):En (k:Int)=some (UInt64.ofNat (2^k)):=
 Bcs k hk k 0 Am (by omega) (by have:=Ak;omega)
theorem Ako{k:Nat}(hk:k≤63):(UInt64.ofNat (2^k)).toNat=2^k:=by
 have hp:2^k≤2^63:=Nat.pow_le_pow_right (by omega) hk
 rw[UInt64.toNat_ofNat',Nat.mod_eq_of_lt (by omega)]
theorem Byh(v:UInt32)(k:Nat)(hk:k≤24):Zm v (k:Int)=some ((min 48 (v.toNat/2^k):Nat):Int):=by
 have hpos:0<2^k:=Nat.pow_pos (by omega)
 have hv:=v.toNat_lt
 rw[Zm,Aeh k (by omega),Aa,Br (by rw[Agl];simp only[bne_iff_ne,ne_eq,←UInt64.toNat_inj,Ako (show k≤63 by omega)];simp),Aa]
 have e:(Bj (Ad v:UInt64) (UInt64.ofNat (2^k))).toNat=v.toNat/2^k:=by
  rw[Ax5,UInt64.toNat_div,Gw,Ako (by omega),UInt64.toNat_ofNat',Nat.mod_eq_of_lt (by omega)]
 have hle:v.toNat/2^k≤v.toNat:=Nat.div_le_self _ _
 have e2:Dk (48:UInt64) (Bj (Ad v:UInt64) (UInt64.ofNat (2^k)))=UInt64.ofNat (min 48 (v.toNat/2^k)):=by
  apply UInt64.toNat_inj.1
  rw[UInt64.toNat_ofNat',Nat.mod_eq_of_lt (by omega)]
  show(if _ then _ else _:UInt64).toNat=_
  rw[show(GI.toZ (Bj (Ad v:UInt64) (UInt64.ofNat (2^k))))=((v.toNat/2^k:Nat):Int) by rw[Gz,e],show GI.toZ (48:UInt64)=48 from rfl]
  split
  ·rw[e];omega
  ·show 48=_;omega
 rw[e2,Ay7 (by rw[UInt64.toNat_ofNat',Nat.mod_eq_of_lt]<;>omega),UInt64.toNat_ofNat',Nat.mod_eq_of_lt (by omega)]
theorem Bvs{p:List UInt8}{N:Nat}(h:okB p N)(a k:Nat)(hk:k≤24):Ack p (N:Int) (a:Int) (k:Int)=some (rcS p N a k):=by
 obtain⟨hN,hl,hz⟩:=h
 have h:okB p N:=⟨hN,hl,hz⟩
 rw[Ack,Af5]
 by_cases ha:N≤a
 ·rw[if_pos (by rw[Cx];simp;omega),rcS,if_pos ha]
 have hle:=Aj9 p (min 48 (N-a)) a
 rw[if_neg (by rw[Cx];simp;omega),Bvo h a (by omega),Aa,unR]
 by_cases h1:Fi p a (min 48 (N-a))<min 48 (N-a)
 ·have hS:rcS p N a k=if N<a+Fi p a (min 48 (N-a))+1+k then(0,0,24)else(UInt32.ofNat (Fi p a (min 48 (N-a))*2^k+Bt p (a+Fi p a (min 48 (N-a))+1) k),((a+Fi p a (min 48 (N-a))+1+k:Nat):Int),0):=by rw[rcS,if_neg ha,if_pos h1]
  rw[Bu9 h1,hS]
  generalize Fi p a (min 48 (N-a))=q at*
  rw[if_pos rfl]
  simp only
  rw[if_neg (by rw[Az];simp;omega),Tw,Uu,Be (by omega) (by omega)]
  by_cases h2:N<a+q+1+k
  ·rw[if_pos (by simp[Af];omega),if_pos h2]
  ·have hp:2^k≤2^24:=Nat.pow_le_pow_right (by omega) hk
   have hm:q*2^k≤47*2^24:=Nat.mul_le_mul (by omega) hp
   have hv:=Nn p k (a+q+1)
   have e:(Ad (Ae (Ay (Ad (q:Int):UInt64) (UInt64.ofNat (2^k))) (Re p (a+q+1) k)):UInt32)=UInt32.ofNat (q*2^k+Bt p (a+q+1) k):=by
    have e1:Ae (Ay (Ad (q:Int):UInt64) (UInt64.ofNat (2^k))) (Re p (a+q+1) k)=UInt64.ofNat (q*2^k+Bt p (a+q+1) k):=by
     rw[Aes,Ad7,Xi,Re,UInt64.ofNat_add,UInt64.ofNat_mul]
    rw[e1]
    have e2:∀x:UInt64,(Ad x:UInt32)=UInt32.ofNat x.toNat:=fun x=>by simp only[Ad,Gz,Dm]
    rw[e2,UInt64.toNat_ofNat',Nat.mod_eq_of_lt (by omega)]
   rw[if_neg (by simp[Af];omega),if_neg h2,Av9 p _ _ k (by omega) (by omega),Aa,if_pos (by rw[Af];simp;omega),Aeh k (by omega),Aa,e,Ag (by omega) (by omega)];rfl
 ·by_cases h2:Fi p a (min 48 (N-a))=48
  ·have hS:rcS p N a k=if N<a+48+32 then(0,0,24)else if Bt p (a+48) 32/2^k<48 then(0,0,12)else(UInt32.ofNat (Bt p (a+48) 32),((a+48+32:Nat):Int),0):=by rw[rcS,if_neg ha,if_neg h1,if_pos h2]
   rw[Buw h1 h2,hS,if_pos rfl]
   simp only
   rw[if_pos (by rw[Az];rfl),Tw,Uu,Be (by omega) (by omega)]
   by_cases h3:N<a+48+32
   ·rw[if_pos (by simp[Af];omega),if_pos h3]
   ·have hg:=Av9 p (N:Int) (a+48) 32 (by omega) (by omega)
    have hv:=Bm8 p (a+48) (n:=32) (by omega)
    rw[if_neg (by simp[Af];omega),if_neg h3]
    refine Eq.trans (congrArg (fun o=>Option.bind o _) hg) ?_
    rw[Aa,if_neg (by rw[Af];simp),Awj (by omega),Byh _ k hk,Aa,Ane hv]
    by_cases h4:Bt p (a+48) 32/2^k<48
    ·rw[if_pos (by rw[Af];simp;omega),if_pos h4]
    ·rw[if_neg (by rw[Af];simp;omega),if_neg h4,Ag (by omega) (by omega)];rfl
  ·rw[Bu5 h1 h2,rcS,if_neg ha,if_neg h1,if_neg h2]
   have e:(if((0:Int),(0:Int),(24:Int)).2.2=0 then(((0:Int),(0:Int),(24:Int)).1,((0:Int),(0:Int),(24:Int)).2.1)else((-1:Int),(0:Int)))=(-1,0):=by decide
   rw[e];rfl
theorem Ccy{p:List UInt8}{N a k:Nat}{v:UInt32}{n:Int}(h:rcS p N a k=(v,n,0)):(a:Int)<n∧n≤N:=by
 unfold rcS at h
 split at h
 ·simp at h
 split at h
 ·split at h
  ·simp at h
  ·simp only[Prod.mk.injEq]at h;omega
 ·split at h
  ·split at h
   ·simp at h
   ·split at h
    ·simp at h
    ·simp only[Prod.mk.injEq]at h;omega
  ·simp at h
end Go.Pl
set_option linter.unusedVariables false
set_option linter.unusedSimpArgs false
namespace Go.Pl
open Go Go.Lv
def okD(k l:Nat)(s t:UInt64):Prop:=k≤24∧l≤24∧s.toNat≤68719476735∧t.toNat≤68719476735
theorem Bmh(a b:UInt64)(h:a.toNat≤b.toNat):Dk a b=a:=by
 show(if _ then _ else _)=_
 rw[Gz,Gz,if_neg (by omega)]
theorem Aw6(a:UInt64):geq a a=true:=by rw[Bbx];simp
theorem Ccr{k l:Nat}{s t:UInt64}(h:okD k l s t):Ah0 (k:Int) (l:Int) s t=some 0:=by
 obtain⟨h1,h2,h3,h4⟩:=h
 have e1:Dk (Atz (k:Int) 0) 24=(k:Int):=by rw[Ali,Bo9];omega
 have e2:Dk (Atz (l:Int) 0) 24=(l:Int):=by rw[Ali,Bo9];omega
 have e3:Dk s (68719476735:UInt64)=s:=Bmh _ _ (by simpa using h3)
 have e4:Dk t (68719476735:UInt64)=t:=Bmh _ _ (by simpa using h4)
 have e5:∀a:Int,geq a a=true:=fun a=>by rw[Az];simp
 rw[Ah0,Ade,Ak9,Adp,Alo,Au1,e1,e2,e3,e4,e5,e5,Aw6,Aw6];rfl
def Yw(s n:UInt64):UInt64:=s+n-s/16
def kS(k:Nat)(s:UInt64):Nat:=if 0<k∧s.toNat<2^(k+4)then k-1 else if k<24∧2^(k+5)<s.toNat then k+1 else k
theorem Cbu{k:Nat}(h:k≤24)(s:UInt64):kS k s≤24:=by
 unfold kS
 by_cases h1:0<k∧s.toNat<2^(k+4)
 ·rw[if_pos h1];omega
 ·rw[if_neg h1];split<;>omega
theorem Bq4{k:Nat}{s:UInt64}(h:¬(0<k∧s.toNat<2^(k+4))):(if k<24∧2^(k+5)<s.toNat then((k+1:Nat):Int)else(k:Int))=((kS k s:Nat):Int):=by
 rw[kS,if_neg h];split<;>rfl
theorem Bsc{s n:UInt64}(h:s.toNat≤68719476735)(hn:n.toNat≤4294967295):(Yw s n).toNat≤68719476735:=by
 have h1:=s.toNat_lt
 have e:(s+n).toNat=s.toNat+n.toNat:=by rw[UInt64.toNat_add];omega
 have e2:(s/16).toNat=s.toNat/16:=by rw[UInt64.toNat_div];rfl
 rw[Yw,UInt64.toNat_sub_of_le _ _ (by rw[UInt64.le_iff_toNat_le,e,e2];omega),e,e2];omega
theorem Bft(s n:UInt64):Ae s (Ah n (Bk s (GI.toZ (4:UInt64)).toNat))=Yw s n:=by
 have e:Bk s (GI.toZ (4:UInt64)).toNat=s/16:=by
  apply UInt64.toNat_inj.1
  rw[Ae2,UInt64.toNat_div];rfl
 rw[e,Aes,Bet,Yw,UInt64.sub_eq_add_neg,UInt64.sub_eq_add_neg,UInt64.add_assoc]
theorem Bq0(s n:UInt64):Ah (Ae s n) (Bj s (16:UInt64))=Yw s n:=by rw[Aes,Bet,Ax5,Yw]
theorem Cd2{k:Nat}(h:k≤24):(Ck (16:UInt64) k).toNat=2^(k+4):=by
 have hp:2^k≤2^24:=Nat.pow_le_pow_right (by omega) h
 rw[Amo,Nat.pow_add]
 show 16*2^k %_=2^k*16
 rw[Nat.mod_eq_of_lt (by omega),Nat.mul_comm]
theorem Ccp{k:Nat}(h:k≤24):(Ck (32:UInt64) k).toNat=2^(k+5):=by
 have hp:2^k≤2^24:=Nat.pow_le_pow_right (by omega) h
 rw[Amo,Nat.pow_add]
 show 32*2^k %_=2^k*32
 rw[Nat.mod_eq_of_lt (by omega),Nat.mul_comm]
theorem Cbx{k:Nat}{s:UInt64}(h:0<k)(h2:s.toNat<2^(k+4)):kS k s=k-1:=by rw[kS,if_pos ⟨h,h2⟩]
theorem Cbm{k:Nat}{s:UInt64}(h:¬(0<k∧s.toNat<2^(k+4)))(h2:k<24)(h3:2^(k+5)<s.toNat):kS k s=k+1:=by rw[kS,if_neg h,if_pos ⟨h2,h3⟩]
theorem Bp9{k:Nat}{s:UInt64}(h:¬(0<k∧s.toNat<2^(k+4)))(h2:¬(k<24∧2^(k+5)<s.toNat)):kS k s=k:=by rw[kS,if_neg h,if_neg h2]
theorem Cbq{α:Type}(k:Nat)(hk:k≤24)(s:UInt64)(f:Int→Option α):
  (if(Ey (k:Int) (0:Int))=true then(
   Option.bind (Gk (Jr (k:Int) (0:Int))) fun _=>
   if(Bv s (Ck (16:UInt64) (GI.toZ (k:Int)).toNat))=true then f (Ah (k:Int) (1:Int))
   else(if(Bv (k:Int) (24:Int))=true then(
    Option.bind (Gk (Jr (k:Int) (0:Int))) fun _=>
    if(Ey s (Ck (32:UInt64) (GI.toZ (k:Int)).toNat))=true then f (Ae (k:Int) (1:Int))else f (k:Int))
    else f (k:Int)))
  else(if(Bv (k:Int) (24:Int))=true then(
    Option.bind (Gk (Jr (k:Int) (0:Int))) fun _=>
    if(Ey s (Ck (32:UInt64) (GI.toZ (k:Int)).toNat))=true then f (Ae (k:Int) (1:Int))else f (k:Int))
    else f (k:Int)))=f ((kS k s:Nat):Int):=by
 have z:(GI.toZ (k:Int)).toNat=k:=rfl
 rw[z,Br (by rw[Cx];simp)]
 simp only[Aa]
 rw[Bb1,Aj2,Cd2 hk,Ccp hk]
 by_cases h0:0<k
 ·rw[if_pos (by rw[Aq];simp;omega)]
  by_cases h1:s.toNat<2^(k+4)
  ·rw[if_pos (by simp[h1]),Cbx h0 h1,Be (by omega) (by omega)];congr 1;omega
  ·rw[if_neg (by simp;omega)]
   by_cases h2:k<24
   ·rw[if_pos (by rw[Af];simp;omega)]
    by_cases h3:2^(k+5)<s.toNat
    ·rw[if_pos (by simp[h3]),Cbm (fun h=>h1 h.2) h2 h3,Ag (by omega) (by omega)];rfl
    ·rw[if_neg (by simp;omega),Bp9 (fun h=>h1 h.2) (fun h=>h3 h.2)]
   ·rw[if_neg (by rw[Af];simp;omega),Bp9 (fun h=>h1 h.2) (fun h=>h2 h.1)]
 ·rw[if_neg (by rw[Aq];simp;omega)]
  by_cases h2:k<24
  ·rw[if_pos (by rw[Af];simp;omega)]
   by_cases h3:2^(k+5)<s.toNat
   ·rw[if_pos (by simp[h3]),Cbm (fun h=>h0 h.1) h2 h3,Ag (by omega) (by omega)];rfl
   ·rw[if_neg (by simp;omega),Bp9 (fun h=>h0 h.1) (fun h=>h3 h.2)]
  ·rw[if_neg (by rw[Af];simp;omega),Bp9 (fun h=>h0 h.1) (fun h=>h2 h.1)]
theorem Bsd(k:Nat)(hk:k≤24)(s n:UInt64):Qz (k:Int) s n=some (((kS k (Yw s n):Nat):Int),Yw s n):=by
 have g1:Ae (k:Int) 4=((k+4:Nat):Int):=by rw[Ag (by omega) (by omega)];omega
 have g2:Ae (k:Int) 5=((k+5:Nat):Int):=by rw[Ag (by omega) (by omega)];omega
 have hp:Rg (k:Int) s n=some (if k<24∧2^(k+5)<(Yw s n).toNat then((k+1:Nat):Int)else(k:Int),Yw s n):=by
  rw[Rg,Aef,g2,Aeh _ (by omega),Aa,Bq0,Aj2,Ako (by omega)]
  by_cases h2:k<24
  ·rw[if_pos (by rw[Af];simp;omega)]
   by_cases h3:2^(k+5)<(Yw s n).toNat
   ·rw[if_pos (by simp[h3]),if_pos ⟨h2,h3⟩,Ag (by omega) (by omega)];rfl
   ·rw[if_neg (by simp;omega),if_neg (fun h=>h3 h.2)]
  ·rw[if_neg (by rw[Af];simp;omega),if_neg (fun h=>h2 h.1)]
 rw[Qz,Aek,g1,Aeh _ (by omega),Aa,Bq0,Bb1,Ako (by omega),hp]
 by_cases h0:0<k
 ·rw[if_pos (by rw[Aq];simp;omega)]
  by_cases h1:(Yw s n).toNat<2^(k+4)
  ·rw[if_pos (by simp[h1]),Cbx h0 h1,Be (by omega) (by omega)];congr 2;omega
  ·rw[if_neg (by simp;omega),Bq4 (fun h=>h1 h.2)]
 ·rw[if_neg (by rw[Aq];simp;omega),Bq4 (fun h=>h0 h.1)]
def n64(v:UInt32):UInt64:=UInt64.ofNat v.toNat
theorem Bxx(v:UInt32):(n64 v).toNat≤4294967295:=by have:=v.toNat_lt;rw[n64,UInt64.toNat_ofNat',Nat.mod_eq_of_lt (by omega)];omega
def Bbb(k:Nat)(v:UInt32):UInt32:=UInt32.ofNat (v.toNat-2^k)
def lK(l:Nat)(t:UInt64)(k:Nat)(v:UInt32):Nat:=if v.toNat<2^k then l else kS l (Yw t (n64 (Bbb k v)))
def lT(t:UInt64)(k:Nat)(v:UInt32):UInt64:=if v.toNat<2^k then t else Yw t (n64 (Bbb k v))
theorem Bww{k l:Nat}{s t:UInt64}(h:okD k l s t)(v:UInt32):okD (kS k (Yw s (n64 v))) (lK l t k v) (Yw s (n64 v)) (lT t k v):=by
 obtain⟨h1,h2,h3,h4⟩:=h
 refine⟨Cbu h1 _,?_,Bsc h3 (Bxx v),?_⟩
 ·unfold lK;split; · exact h2
  exact Cbu h2 _
 ·unfold lT;split; · exact h4
  exact Bsc h4 (Bxx _)
theorem Cdl(k l:Nat)(s t:UInt64)(hk:k≤24)(v:UInt32):Ac0 (k:Int) (l:Int) s t v=some (decide (v.toNat<2^k)):=by
 have:=v.toNat_lt
 rw[Ac0,Aeh k (by omega),Aa,Bb1,Ako (by omega),Gw,UInt64.toNat_ofNat',Nat.mod_eq_of_lt (by omega)]
theorem left_eq(k l:Nat)(s t:UInt64)(hk:k≤24)(v:UInt32)(h:¬v.toNat<2^k):Yt (k:Int) (l:Int) s t v=some (Bbb k v):=by
 have:=v.toNat_lt
 have e2:∀x:UInt64,(Ad x:UInt32)=UInt32.ofNat x.toNat:=fun x=>by simp only[Ad,Gz,Dm]
 have e3:(UInt64.ofNat v.toNat).toNat=v.toNat:=by rw[UInt64.toNat_ofNat',Nat.mod_eq_of_lt (by omega)]
 rw[Yt,Aeh k (by omega),Aa,e2,Bet,Gw,UInt64.toNat_sub_of_le _ _ (by rw[UInt64.le_iff_toNat_le,Ako (by omega),e3];omega),Ako (by omega),e3,Bbb]
theorem Bsk{k l:Nat}{s t:UInt64}(h:okD k l s t)(v:UInt32):Ur (k:Int) (l:Int) s t v=some (((kS k (Yw s (n64 v)):Nat):Int),((lK l t k v:Nat):Int),Yw s (n64 v),lT t k v):=by
 obtain⟨h1,h2,h3,h4⟩:=h
 have hp:∀(r1:Int) (r2:UInt64),Oi v (k:Int) (l:Int) s t r1 r2=some (((kS k (Yw s (n64 v)):Nat):Int),r1,Yw s (n64 v),r2):=by
  intro r1 r2
  rw[Oi,Zz,Gw,Bsd k h1,Aa];rfl
 rw[Ur,Abb,Cdl k l s t h1,Aa]
 by_cases hv:v.toNat<2^k
 ·rw[if_neg (by simp[hv]),hp,lK,if_pos hv,lT,if_pos hv]
 ·rw[if_pos (by simp;omega),left_eq k l s t h1 v hv,Aa,Gw,Bsd l h2,Aa]
  simp only
  rw[hp,lK,if_neg hv,lT,if_neg hv];rfl
theorem Bv4(k l:Nat)(s t:UInt64)(hk:k≤24)(v:UInt32):Acx (k:Int) (l:Int) s t v=some (if v.toNat<2^k then(0,v)else(1,Bbb k v)):=by
 have hp:2^k≤2^24:=Nat.pow_le_pow_right (by omega) hk
 have hpos:0<2^k:=Nat.pow_pos (by omega)
 have hl:=v.toNat_lt
 have z:(GI.toZ (k:Int)).toNat=k:=rfl
 have e1:geq (Bk v k) (0:UInt32)=decide (v.toNat<2^k):=by
  rw[Bjs,Bool.eq_iff_iff]
  simp only[beq_iff_eq,←UInt32.toNat_inj,Amj,decide_eq_true_eq]
  show _/_=0↔_
  rw[Nat.div_eq_zero_iff];omega
 have e2:¬v.toNat<2^k→Ah v (Ck (1:UInt32) k)=Bbb k v:=by
  intro h
  have e3:(Ck (1:UInt32) k).toNat=2^k:=by rw[Bce];show 1*2^k %_=_;rw[Nat.mod_eq_of_lt (by omega),Nat.one_mul]
  apply UInt32.toNat_inj.1
  rw[Bmi,UInt32.toNat_sub_of_le _ _ (by rw[UInt32.le_iff_toNat_le,e3];omega),e3,Bbb,Ane (by omega)]
 rw[Acx,Br (by rw[Cx];simp),Aa,Aa,z,e1]
 by_cases h:v.toNat<2^k
 ·rw[if_pos (by simp[h]),if_pos h]
 ·rw[if_neg (by simp;omega),if_neg h,e2 h]
abbrev Rd:=UInt32×Int×Int×Int×UInt64×UInt64×Int
theorem Bf3{k l:Nat}{s t:UInt64}(h:okD k l s t)(v:UInt32)(r:Int):Agr (k:Int) (l:Int) s t v r=some (v,r,((kS k (Yw s (n64 v)):Nat):Int),((lK l t k v:Nat):Int),Yw s (n64 v),lT t k v,0):=by
 obtain⟨h1,h2,h3,h4⟩:=h
 have hp:∀(x:Int) (y:UInt64),Zf v r (k:Int) s x y=some (v,r,((kS k (Yw s (n64 v)):Nat):Int),x,Yw s (n64 v),y,0):=by
  intro x y
  rw[Zf,Aow,Gw,Bft,Cbq k h1]
  rw[Anu,An0,Akx,Au0,Gw,Bft];rfl
 rw[Agr,Ani,Bv4 k l s t h1,Aa]
 by_cases hv:v.toNat<2^k
 ·rw[if_pos hv]
  simp only
  rw[if_neg (by rw[Az];simp),hp,lK,if_pos hv,lT,if_pos hv]
 ·rw[if_neg hv]
  simp only
  rw[if_pos (by rw[Az];rfl),Gw,Bft,Cbq l h2 _ (fun x=>Zf v r (k:Int) s x (Yw t (UInt64.ofNat (Bbb k v).toNat))),hp,lK,if_neg hv,lT,if_neg hv];rfl
def dgS(p:List UInt8)(N a k l:Nat):UInt32×Int×Int:=
 if N≤a then(0,0,24)else
 if Ii p a=0 then(if N<a+1+k then(0,0,24)else(UInt32.ofNat (Bt p (a+1) k),((a+1+k:Nat):Int),0))else
 if(rcS p N (a+1) l).2.2≠0 then(0,0,(rcS p N (a+1) l).2.2)else
 if 4294967295<(rcS p N (a+1) l).1.toNat+2^k then(0,0,12)else(UInt32.ofNat ((rcS p N (a+1) l).1.toNat+2^k),(rcS p N (a+1) l).2.1,0)
theorem Ccn{p:List UInt8}{N a k l:Nat}(h:(dgS p N a k l).2.2=0):(a:Int)<(dgS p N a k l).2.1∧(dgS p N a k l).2.1≤N:=by
 revert h
 unfold dgS
 split
 ·simp
 split
 ·split
  ·simp
  ·simp only;omega
 ·split
  ·intro h;contradiction
  ·rename_i h1
   split
   ·simp
   ·intro _
    have:=Ccy (p:=p) (N:=N) (a:=a+1) (k:=l) (v:=(rcS p N (a+1) l).1) (n:=(rcS p N (a+1) l).2.1) (by
     have e:(rcS p N (a+1) l).2.2=0:=by simpa using h1
     rw[←e])
    simp only;omega
theorem Byl{p:List UInt8}{N:Nat}(h:okB p N)(a:Nat){k l:Nat}{s t:UInt64}(hd:okD k l s t):Acr p (N:Int) (a:Int) (k:Int) (l:Int) s t=
  some (if(dgS p N a k l).2.2≠0 then(0,0,0,0,0,0,(dgS p N a k l).2.2)else((dgS p N a k l).1,(dgS p N a k l).2.1,((kS k (Yw s (n64 (dgS p N a k l).1)):Nat):Int),((lK l t k (dgS p N a k l).1:Nat):Int),Yw s (n64 (dgS p N a k l).1),lT t k (dgS p N a k l).1,0)):=by
 obtain⟨h1,h2,h3,h4⟩:=hd
 have hd:okD k l s t:=⟨h1,h2,h3,h4⟩
 have hN:=h.1
 have hg:=Azi h a 1 (by omega)
 have hb:=Uw p a
 rw[Acr,Ann,Agx h,Aa,if_neg (by rw[Aj];simp),Ccr hd,Aa,if_neg (by rw[Aj];simp),Aom,An7]
 refine Eq.trans (congrArg (fun o=>Option.bind o _) hg) ?_
 rw[Aa]
 by_cases ha:N≤a
 ·have hS:dgS p N a k l=(0,0,24):=by rw[dgS,if_pos ha]
  rw[if_pos (by omega),hS];rfl
 rw[if_neg (by omega)]
 simp only
 have e0:geq (Re p a 1) (0:UInt64)=decide (Ii p a=0):=by
  rw[Bbx,Bool.eq_iff_iff]
  simp only[beq_iff_eq,←UInt64.toNat_inj,decide_eq_true_eq,Yj p a 1 (by omega),Blp];rfl
 have e1:Ae (a:Int) 1=((a+1:Nat):Int):=by rw[Ag (by omega) (by omega)];omega
 rw[if_neg (by rw[Aj];simp),e0,e1]
 by_cases hz:Ii p a=0
 ·rw[if_pos (by simp[hz]),Azi h (a+1) k (by omega),Aa]
  by_cases h5:N<a+1+k
  ·have hS:dgS p N a k l=(0,0,24):=by rw[dgS,if_neg ha,if_pos hz,if_pos h5]
   rw[if_pos h5,hS];rfl
  ·have hS:dgS p N a k l=(UInt32.ofNat (Bt p (a+1) k),((a+1+k:Nat):Int),0):=by rw[dgS,if_neg ha,if_pos hz,if_neg h5]
   rw[if_neg h5,hS]
   simp only
   rw[if_neg (by rw[Aj];simp),Bf3 hd,Awj (by omega),Ag (by omega) (by omega)];rfl
 ·rw[if_neg (by simp[hz]),Caa h (a+1) l h2,Aa]
  have hp:2^k≤2^24:=Nat.pow_le_pow_right (by omega) h1
  by_cases h5:(rcS p N (a+1) l).2.2≠0
  ·have hS:dgS p N a k l=(0,0,(rcS p N (a+1) l).2.2):=by rw[dgS,if_neg ha,if_neg hz,if_pos h5]
   rw[hS]
   generalize rcS p N (a+1) l=R at*
   obtain⟨v,n,e⟩:=R
   simp only at*
   rw[if_pos (by rw[Aj];simpa using h5),if_pos h5]
  ·have hv:=(rcS p N (a+1) l).1.toNat_lt
   have z:(GI.toZ (k:Int)).toNat=k:=rfl
   have e3:(Ck (1:UInt32) k).toNat=2^k:=by rw[Bce];show 1*2^k %_=_;rw[Nat.mod_eq_of_lt (by omega),Nat.one_mul]
   by_cases h6:4294967295<(rcS p N (a+1) l).1.toNat+2^k
   ·have hS:dgS p N a k l=(0,0,12):=by rw[dgS,if_neg ha,if_neg hz,if_neg h5,if_pos h6]
    rw[hS]
    generalize rcS p N (a+1) l=R at*
    obtain⟨v,n,e⟩:=R
    simp only at*
    rw[if_neg (by rw[Aj];simpa using h5),Br (by rw[Cx];simp),Aa,z,if_pos (by rw[Br6,Bc1,UInt32.toNat_add,e3];simp;omega),if_pos (by decide)]
   ·have hS:dgS p N a k l=(UInt32.ofNat ((rcS p N (a+1) l).1.toNat+2^k),(rcS p N (a+1) l).2.1,0):=by rw[dgS,if_neg ha,if_neg hz,if_neg h5,if_neg h6]
    rw[hS]
    generalize rcS p N (a+1) l=R at*
    obtain⟨v,n,e⟩:=R
    simp only at*
    have e4:Ae v (Ck (1:UInt32) k)=UInt32.ofNat (v.toNat+2^k):=by
     apply UInt32.toNat_inj.1
     rw[Bc1,UInt32.toNat_add,e3,Ane (by omega),Nat.mod_eq_of_lt (by omega)]
    rw[if_neg (by rw[Aj];simpa using h5),Br (by rw[Cx];simp),Aa,z,if_neg (by rw[Br6,Bc1,UInt32.toNat_add,e3];simp;omega),e4,Bf3 hd];rfl
theorem Bxu{p:List UInt8}{N:Nat}(h:okB p N)(a:Nat)(k l:Nat)(s t:UInt64)(h1:k≤24)(h2:l≤24):Acl p (N:Int) (a:Int) (k:Int) (l:Int) s t=some (dgS p N a k l):=by
 have hN:=h.1
 have hl:=h.2.1
 have hb:=Uw p a
 rw[Acl]
 by_cases ha:N≤a
 ·rw[if_pos (by rw[Cx];simp;omega),dgS,if_pos ha]
 rw[if_neg (by rw[Cx];simp;omega),Ayt p _ a (by omega) (by omega),Aa,Be (a:=(N:Int)) (b:=(a:Int)) (by omega) (by omega),Be (by omega) (by omega)]
 have e1:Ae (a:Int) 1=((a+1:Nat):Int):=by rw[Ag (by omega) (by omega)];omega
 rw[e1]
 by_cases hz:Ii p a=0
 ·rw[if_pos (by rw[Az];simp[hz])]
  by_cases h5:N<a+1+k
  ·rw[if_pos (by rw[Af];simp;omega),dgS,if_neg ha,if_pos hz,if_pos h5]
  ·rw[if_neg (by rw[Af];simp;omega),Av9 p _ (a+1) k (by omega) (by omega),Aa,dgS,if_neg ha,if_pos hz,if_neg h5,Awj (by omega),Ag (by omega) (by omega)];rfl
 ·rw[if_neg (by rw[Az];simp;omega),Bvs h (a+1) l h2,Aa]
  have hp:2^k≤2^24:=Nat.pow_le_pow_right (by omega) h1
  have hv:=(rcS p N (a+1) l).1.toNat_lt
  have e2:∀x:UInt64,(Ad x:UInt32)=UInt32.ofNat x.toNat:=fun x=>by simp only[Ad,Gz,Dm]
  by_cases h5:(rcS p N (a+1) l).2.2≠0
  ·have hS:dgS p N a k l=(0,0,(rcS p N (a+1) l).2.2):=by rw[dgS,if_neg ha,if_neg hz,if_pos h5]
   rw[hS]
   generalize rcS p N (a+1) l=R at*
   obtain⟨v,n,e⟩:=R
   simp only at*
   rw[if_pos (by rw[Aj];simpa using h5)]
  ·have hsum:∀v:UInt32,(Ae (Ad v:UInt64) (UInt64.ofNat (2^k))).toNat=v.toNat+2^k:=by
    intro v
    have:=v.toNat_lt
    have:=Nat.pow_pos (n:=k) (show 0<2 by omega)
    rw[Aes,UInt64.toNat_add,Gw,Ako (by omega),UInt64.toNat_ofNat'];omega
   by_cases h6:4294967295<(rcS p N (a+1) l).1.toNat+2^k
   ·have hS:dgS p N a k l=(0,0,12):=by rw[dgS,if_neg ha,if_neg hz,if_neg h5,if_pos h6]
    rw[hS]
    generalize rcS p N (a+1) l=R at*
    obtain⟨v,n,e⟩:=R
    simp only at*
    rw[if_neg (by rw[Aj];simpa using h5),Aeh k (by omega),Aa,if_pos (by rw[Aj2,hsum];simpa using h6)]
   ·have hS:dgS p N a k l=(UInt32.ofNat ((rcS p N (a+1) l).1.toNat+2^k),(rcS p N (a+1) l).2.1,0):=by rw[dgS,if_neg ha,if_neg hz,if_neg h5,if_neg h6]
    rw[hS]
    generalize rcS p N (a+1) l=R at*
    obtain⟨v,n,e⟩:=R
    simp only at*
    rw[if_neg (by rw[Aj];simpa using h5),Aeh k (by omega),Aa,if_neg (by rw[Aj2,hsum];simpa using h6),e2,hsum]
end Go.Pl
set_option linter.unusedVariables false
set_option linter.unusedSimpArgs false
namespace Go.Pl
open Go Go.Lv
abbrev DuN:=Nat×Nat×UInt64×UInt64
def okN(d:DuN):Prop:=okD d.1 d.2.1 d.2.2.1 d.2.2.2
def nxt(d:DuN)(v:UInt32):DuN:=(kS d.1 (Yw d.2.2.1 (n64 v)),lK d.2.1 d.2.2.2 d.1 v,Yw d.2.2.1 (n64 v),lT d.2.2.2 d.1 v)
def Bjt:DuN:=(10,10,16384,16384)
theorem Bux:okN Bjt:=⟨by decide,by decide,by decide,by decide⟩
theorem Cb4{d:DuN}(h:okN d)(v:UInt32):okN (nxt d v):=Bww h v
abbrev DuL:=Int×Int×UInt64×UInt64×Unit
def toI(d:DuN):DuL:=((d.1:Int),(d.2.1:Int),d.2.2.1,d.2.2.2,())
def chP(ch:Nat)(v:List UInt32)(c:Nat):Nat→DuN
 |0=>Bjt
 |m+1=>if m %ch=c then nxt (chP ch v c m) (v.getD m 0)else chP ch v c m
theorem Azc(ch:Nat)(v:List UInt32)(c:Nat):∀m,okN (chP ch v c m)
 |0=>Bux
 |m+1=>by rw[chP];split;exact Cb4 (Azc ch v c m) _;exact Azc ch v c m
theorem Bsb(ch:Nat)(v w:List UInt32)(c:Nat):∀m,m≤v.length→chP ch (v++w) c m=chP ch v c m
 |0,_=>rfl
 |m+1,h=>by
  have e:(v++w).getD m 0=v.getD m 0:=by simp[List.getD_eq_getElem?_getD,List.getElem?_append_left (show m<v.length by omega)]
  rw[chP,chP,Bsb ch v w c m (by omega),e]
theorem Bir(ch:Nat)(v:List UInt32)(c:Nat):∀m,m≤c→c<ch→chP ch v c m=Bjt
 |0,_,_=>rfl
 |m+1,h,h2=>by rw[chP,if_neg (by rw[Nat.mod_eq_of_lt (by omega)];omega),Bir ch v c m (by omega) h2]
theorem Bn0(ch:Nat)(v:List UInt32)(c i:Nat)(hi:i %ch=c)(hc:c<ch):∀j,j<ch→chP ch v c (i+1+j)=chP ch v c (i+1)
 |0,_=>rfl
 |j+1,h=>by
  have hne:(i+1+j) %ch≠c:=by
   intro e
   have h1:(i+(1+j)) %ch=i %ch:=by rw[hi,←e];congr 1;omega
   have h2:(1+j) %ch=0:=by
    have h3:=Nat.sub_mod_eq_zero_of_mod_eq h1
    rwa [Nat.add_sub_cancel_left]at h3
   rw[Nat.mod_eq_of_lt (by omega)]at h2;omega
  rw[show i+1+(j+1)=(i+1+j)+1 by omega,chP,if_neg hne,Bn0 ch v c i hi hc j (by omega)]
theorem Bxv(ch:Nat)(v:List UInt32)(c i:Nat)(hi:i %ch=c)(hc:c<ch):chP ch v c (i+ch)=nxt (chP ch v c i) (v.getD i 0):=by
 have h:=Bn0 ch v c i hi hc (ch-1) (by omega)
 rw[show i+1+(ch-1)=i+ch by omega]at h
 rw[h,chP,if_pos hi]
theorem Bep{l:List UInt32}{k:Nat}(h:k<l.length):getI l (k:Int)=some (l.getD k 0):=by
 rw[Cf h];simp[List.getD_eq_getElem?_getD,h]
theorem Av5(a b:Nat):Fb (a:Int) (b:Int)=((a %b:Nat):Int):=by rw[Fb,Int.tmod_eq_emod_of_nonneg (by omega)];omega
theorem Bak(ch:Nat)(v:List UInt32)(hch:1≤ch)(hch6:ch≤6)(hv:v.length≤4000):∀(j i q:Nat),i %ch=v.length %ch→i≤v.length→v.length-i≤j→j<q→
  Jm (ch:Int) v q (i:Int) ((chP ch v (v.length %ch) i).1:Int) ((chP ch v (v.length %ch) i).2.1:Int) (chP ch v (v.length %ch) i).2.2.1 (chP ch v (v.length %ch) i).2.2.2=
   some (((chP ch v (v.length %ch) v.length).1:Int),((chP ch v (v.length %ch) v.length).2.1:Int),(chP ch v (v.length %ch) v.length).2.2.1,(chP ch v (v.length %ch) v.length).2.2.2)
 |j,i,q+1,hi,hl,hj,hq=>by
  have hc:v.length %ch<ch:=Nat.mod_lt _ (by omega)
  rw[Jm,Yr]
  by_cases h:i<v.length
  ·have h1:=Bsk (Azc ch v (v.length %ch) i) (v.getD i 0)
   rw[if_pos (by rw[Af,Ac];simp;omega),Bep h,Aa,h1,Aa]
   have hle:i+ch≤v.length:=by
    have h2:=Nat.div_add_mod i ch
    have h3:=Nat.div_add_mod v.length ch
    rw[hi]at h2
    have h4:ch*(i/ch)<ch*(v.length/ch):=by omega
    have h5:=Nat.lt_of_mul_lt_mul_left h4
    have h6:ch*(i/ch+1)≤ch*(v.length/ch):=Nat.mul_le_mul_left _ h5
    rw[Nat.mul_add]at h6;omega
   have ih:=Bak ch v hch hch6 hv (j-ch) (i+ch) q (by rw[Nat.add_mod_right];exact hi) hle (by omega) (by omega)
   rw[Bxv ch v _ i hi hc]at ih
   simp only
   rw[Ag (by omega) (by omega)]
   exact ih
  ·rw[if_neg (by rw[Af,Ac];simp;omega),show i=v.length by omega];rfl
theorem Btc(ch:Nat)(v:List UInt32)(hch:1≤ch)(hch6:ch≤6)(hv:v.length≤4000):Mn (ch:Int) v=some (((chP ch v (v.length %ch) v.length).1:Int),((chP ch v (v.length %ch) v.length).2.1:Int),(chP ch v (v.length %ch) v.length).2.2.1,(chP ch v (v.length %ch) v.length).2.2.2):=by
 have hc:v.length %ch<ch:=Nat.mod_lt _ (by omega)
 have hle:v.length %ch≤v.length:=Nat.mod_le _ _
 have h:=Bak ch v hch hch6 hv v.length (v.length %ch) Am (by rw[Nat.mod_mod]) hle (by omega) (by have:=Ak;omega)
 rw[Bir ch v _ _ (Nat.le_refl _) hc]at h
 rw[Mn,Zb,Jv,Aa]
 simp only
 rw[Br (by rw[Aj];simp;omega),Aa,Ac,Av5]
 exact h
def now(ch:Nat)(v:List UInt32):DuN:=chP ch v (v.length %ch) v.length
def win(N a:Nat):Nat:=min 81 (N-a)
def Jh(ch:Nat)(p:List UInt8)(N a:Nat)(out:List UInt32):UInt32×Int×Int:=dgS (Ac6 p a (win N a)) (win N a) 0 (now ch out).1 (now ch out).2.1
def Yc(ch:Nat)(p:List UInt8)(N:Nat):Nat→Nat→List UInt32→List UInt32×Nat×Int
 |0,a,out=>(out,a,0)
 |j+1,a,out=>if(Jh ch p N a out).2.2≠0 then(out,a,(Jh ch p N a out).2.2)else Yc ch p N j (a+(Jh ch p N a out).2.1.toNat) (out++[(Jh ch p N a out).1])
theorem Ats{ch:Nat}{p:List UInt8}{N a:Nat}{out:List UInt32}(h:(Jh ch p N a out).2.2=0):0<(Jh ch p N a out).2.1∧(Jh ch p N a out).2.1≤win N a:=by
 have:=Ccn h
 exact⟨this.1,this.2⟩
theorem Bib{ch:Nat}{p:List UInt8}{N a:Nat}{out:List UInt32}(h:(Jh ch p N a out).2.2=0):((a:Int)+(Jh ch p N a out).2.1)=((a+(Jh ch p N a out).2.1.toNat:Nat):Int):=by
 have:=Ats h;omega
def sts(ch:Nat)(v:List UInt32):List DuL:=(List.range 6).map fun c=>toI (chP ch v c v.length)
theorem Br8{ch:Nat}{v:List UInt32}{c:Nat}(h:c<6):getI (sts ch v) (c:Int)=some (toI (chP ch v c v.length)):=by
 rw[Cf (by simp[sts];exact h)];simp[sts]
theorem Bzw{ch:Nat}{v:List UInt32}{c:Nat}(x:UInt32)(h:c<6)(hc:c=v.length %ch):Iv (sts ch v) (c:Int) (toI (nxt (chP ch v c v.length) x))=some (sts ch (v++[x])):=by
 rw[Tx _ (by simp[sts];exact h)]
 congr 1
 apply List.ext_getElem (by simp[sts])
 intro i h1 h2
 rw[List.getElem_set]
 simp only[sts,List.getElem_map,List.getElem_range]
 have e:(v++[x]).getD v.length 0=x:=by simp
 rw[List.length_append,List.length_singleton,chP,e,Bsb ch v [x] i v.length (Nat.le_refl _)]
 by_cases hi:c=i
 ·subst hi;rw[if_pos rfl,if_pos hc.symm]
 ·rw[if_neg hi,if_neg (by omega)]
section
variable {p:List UInt8} {N ch n:Nat}
theorem Bl6(hp:okB p N)(h1:1≤ch)(h6:ch≤6)(hn:n*ch≤4000):∀(j a q:Nat) (out:List UInt32),out.length+j=n*ch→j<q→a≤N→
  Kh (ch:Int) (n:Int) p (N:Int) q (a:Int) (out.length:Int) (sts ch out) out=
   some (if(Yc ch p N j a out).2.2≠0 then([],0,(Yc ch p N j a out).2.2)else((Yc ch p N j a out).1,((Yc ch p N j a out).2.1:Int),0))
 |j,a,q+1,out,hj,hq,ha=>by
  have hN:=hp.1
  have hnn:n≤n*ch:=Nat.le_mul_of_pos_right n (by omega)
  have em:Ay (n:Int) (ch:Int)=((n*ch:Nat):Int):=by rw[Gc (by rw[←Int.natCast_mul];omega) (by rw[←Int.natCast_mul];omega),Int.natCast_mul]
  rw[Kh,Oe,em]
  cases j with
  |zero=>
   rw[if_neg (by rw[Af];simp;omega)];rfl
  |succ j=>
   have hc:out.length %ch<6:=Nat.lt_of_lt_of_le (Nat.mod_lt _ (by omega)) h6
   have ew:Dk (Ae (a:Int) 81) (N:Int)=((a+win N a:Nat):Int):=by rw[Ali,Ag (by omega) (by omega)];unfold win;omega
   have hw:a+win N a≤N:=by unfold win;omega
   have hw2:win N a≤81:=by unfold win;omega
   have hd:=Byl (Bqi p a (win N a) (by omega)) 0 (Azc ch out (out.length %ch) out.length)
   have ecode:dgS (Ac6 p a (win N a)) (win N a) 0 (chP ch out (out.length %ch) out.length).1 (chP ch out (out.length %ch) out.length).2.1=Jh ch p N a out:=rfl
   rw[if_pos (by rw[Af];simp;omega),ew,Ccw hp a _ hw (by omega),Aa]
   simp only
   rw[if_neg (by rw[Aj];simp),Br (by rw[Aj];simp;omega),Aa,Av5,Br8 hc,Aa,Aa]
   refine Eq.trans (congrArg (fun o=>Option.bind o _) hd) ?_
   rw[Aa,ecode,Yc]
   by_cases he:(Jh ch p N a out).2.2≠0
   ·rw[if_pos he,if_pos he]
    simp only
    rw[Ns,Nr,if_pos (by rw[Aj];simpa using he),if_pos he]
   ·have he0:(Jh ch p N a out).2.2=0:=by simpa using he
    have hok:=Ats he0
    have hset:=Bzw (ch:=ch) (v:=out) (Jh ch p N a out).1 hc rfl
    rw[if_neg he,if_neg he]
    simp only
    rw[Ns,Nr,if_neg (by rw[Aj];simp),Br (by rw[Aj];simp;omega),Aa,Av5,Br8 hc,Aa]
    refine Eq.trans (congrArg (fun o=>Option.bind o _) hset) ?_
    rw[Aa,Wo,Aij,Cr (by simp;omega),Aa,Ag (by omega) (by omega),Ag (by omega) (by omega),Bib he0]
    have ih:=Bl6 hp h1 h6 hn j (a+(Jh ch p N a out).2.1.toNat) q (out++[(Jh ch p N a out).1]) (by simp;omega) (by omega) (by omega)
    rw[List.length_append,List.length_singleton]at ih
    exact ih
theorem Bqp{p:List UInt8}(hN:N=8*p.length)(hN2:N≤330000)(h1:1≤ch)(h6:ch≤6)(hn:n*ch≤4000):∀(j a q:Nat) (out:List UInt32),out.length+j=n*ch→j<q→a≤N→
  Dq (ch:Int) (n:Int) p q (a:Int) (out.length:Int) out=
   if(Yc ch p N j a out).2.2≠0 then some ((Yc ch p N j a out).1,(Yc ch p N j a out).2.2)else Pu ((Yc ch p N j a out).2.1:Int) p (Yc ch p N j a out).1
 |j,a,q+1,out,hj,hq,ha=>by
  have hnn:n≤n*ch:=Nat.le_mul_of_pos_right n (by omega)
  have em:Ay (n:Int) (ch:Int)=((n*ch:Nat):Int):=by rw[Gc (by rw[←Int.natCast_mul];omega) (by rw[←Int.natCast_mul];omega),Int.natCast_mul]
  have e8:Ay (8:Int) (Ac p)=(N:Int):=by rw[Ac,Gc (by omega) (by omega)];omega
  rw[Dq,Abk,em]
  cases j with
  |zero=>
   rw[if_neg (by rw[Af];simp;omega)];rfl
  |succ j=>
   have ew:Dk (Ae (a:Int) 81) (N:Int)=((a+win N a:Nat):Int):=by rw[Ali,Ag (by omega) (by omega)];unfold win;omega
   have hw:a+win N a≤N:=by unfold win;omega
   have hw2:win N a≤81:=by unfold win;omega
   have hpre:(Option.bind Jv fun(r_4,r_5,r_6,r_7)=>
     if(Jr (out.length:Int) (ch:Int))=true then(
     Option.bind (Mn (ch:Int) out) fun(r_8,r_9,r_10,r_11)=>
     Hj (Dq (ch:Int) (n:Int) p q) (ch:Int) (n:Int) p (a:Int) (out.length:Int) out r_8 r_9 r_10 r_11)
     else Hj (Dq (ch:Int) (n:Int) p q) (ch:Int) (n:Int) p (a:Int) (out.length:Int) out r_4 r_5 r_6 r_7)=
     Hj (Dq (ch:Int) (n:Int) p q) (ch:Int) (n:Int) p (a:Int) (out.length:Int) out ((now ch out).1:Int) ((now ch out).2.1:Int) (now ch out).2.2.1 (now ch out).2.2.2:=by
    rw[Jv,Aa]
    by_cases hc:ch≤out.length
    ·simp only
     rw[if_pos (by rw[Cx];simp;omega),Btc ch out h1 h6 (by omega),Aa];rfl
    ·have e:now ch out=Bjt:=by rw[now,Nat.mod_eq_of_lt (by omega),Bir ch out _ _ (Nat.le_refl _) (by omega)]
     simp only
     rw[if_neg (by rw[Cx];simp;omega),e];rfl
   have hd:=Bxu (Bqi p a (win N a) (by omega)) 0 (now ch out).1 (now ch out).2.1 (now ch out).2.2.1 (now ch out).2.2.2 (Azc ch out _ _).1 (Azc ch out _ _).2.1
   have ecode:dgS (Ac6 p a (win N a)) (win N a) 0 (now ch out).1 (now ch out).2.1=Jh ch p N a out:=rfl
   rw[if_pos (by rw[Af];simp;omega),hpre,Hj,Ab2,e8,ew,Blc p (N:Int) a _ (by omega) (by omega) (by omega),Aa]
   simp only
   refine Eq.trans (congrArg (fun o=>Option.bind o _) hd) ?_
   rw[Aa,ecode,Yc]
   by_cases he:(Jh ch p N a out).2.2≠0
   ·rw[if_pos he,if_pos (by rw[Aj];simpa using he),if_pos he]
   ·have he0:(Jh ch p N a out).2.2=0:=by simpa using he
    have hok:=Ats he0
    have ih:=Bqp hN hN2 h1 h6 hn j (a+(Jh ch p N a out).2.1.toNat) q (out++[(Jh ch p N a out).1]) (by simp;omega) (by omega) (by omega)
    have hx:=Bib he0
    rw[List.length_append,List.length_singleton]at ih
    rw[if_neg he]
    generalize Jh ch p N a out=R at*
    obtain⟨v,nx,e⟩:=R
    simp only at*
    rw[if_neg (by rw[Aj];simpa using he),Cr (by simp;omega),Aa,Ag (by omega) (by omega),Ag (by omega) (by omega),hx]
    exact ih
end
theorem Bj3{ch:Nat}{p:List UInt8}{N:Nat}:∀(j a:Nat) (out:List UInt32),a≤N→(Yc ch p N j a out).2.1≤N∧(Yc ch p N j a out).1.length≤out.length+j∧((Yc ch p N j a out).2.2=0→(Yc ch p N j a out).1.length=out.length+j)
 |0,a,out,h=>⟨h,Nat.le_refl _,fun _=>rfl⟩
 |j+1,a,out,h=>by
  rw[Yc]
  split
  ·rename_i he
   exact⟨h,by simp,fun e=>absurd e he⟩
  ·rename_i he
   have hok:=Ats (ch:=ch) (p:=p) (N:=N) (a:=a) (out:=out) (by simpa using he)
   have hw:a+win N a≤N:=by unfold win;omega
   have ih:=Bj3 (ch:=ch) (p:=p) (N:=N) j (a+(Jh ch p N a out).2.1.toNat) (out++[(Jh ch p N a out).1]) (by omega)
   rw[List.length_append,List.length_singleton]at ih
   exact⟨ih.1,by omega,fun e=>by have:=ih.2.2 e;omega⟩
theorem Blu(ch n:Int)(b:List UInt8)(N:Int):Oh ch n b N 0 (List.replicate 6 ((0:Int),(0:Int),(0:UInt64),(0:UInt64),()))=Wq ch n b N (List.replicate 6 ((10:Int),(10:Int),(16384:UInt64),(16384:UInt64),())):=by
 have e:Am=(Am-7)+1+1+1+1+1+1+1:=by have:=Ak;omega
 rw[Oh,e]
 rfl
theorem values_eq{p:List UInt8}{N ch n:Nat}(hp:okB p N)(h1:1≤ch)(h6:ch≤6)(hn:n*ch≤4000):Aas (ch:Int) (n:Int) p (N:Int)=
  some (if(Yc ch p N (n*ch) 0 []).2.2≠0 then([],0,(Yc ch p N (n*ch) 0 []).2.2)else((Yc ch p N (n*ch) 0 []).1,((Yc ch p N (n*ch) 0 []).2.1:Int),0)):=by
 have h:=Bl6 hp h1 h6 hn (n*ch) 0 Am [] (by simp) (by have:=Ak;omega) (by omega)
 rw[Aas,Aaa,Blu]
 exact h
theorem Bgw(p:List UInt8)(x:List UInt32)(N:Nat)(hN:N=8*p.length)(hN2:N≤330000):∀(j a q:Nat),a+j=N→j<q→Hg p x q (a:Int)=some (x,if Bt p a j=0 then 0 else 12)
 |0,a,q+1,ha,_=>by
  have e8:Ay (8:Int) (Ac p)=(N:Int):=by rw[Ac,Gc (by omega) (by omega)];omega
  rw[Hg,Ps,e8,if_neg (by rw[Af];simp;omega),Bt,if_pos rfl];rfl
 |j+1,a,q+1,ha,hq=>by
  have e8:Ay (8:Int) (Ac p)=(N:Int):=by rw[Ac,Gc (by omega) (by omega)];omega
  have hb:=Uw p a
  rw[Hg,Ps,e8,if_pos (by rw[Af];simp;omega),Ayt p _ a (by omega) (by omega),Aa,Bt]
  by_cases h:Ii p a=0
  ·rw[if_neg (by rw[Aj];simp[h]),Ag (by omega) (by omega),h]
   have ih:=Bgw p x N hN hN2 j (a+1) q (by omega) (by omega)
   rw[show((a:Int)+1)=((a+1:Nat):Int) by omega,ih]
   congr 2
   by_cases hv:Bt p (a+1) j=0
   ·rw[if_pos hv,if_pos (by omega)]
   ·rw[if_neg hv,if_neg (by omega)]
  ·rw[if_pos (by rw[Aj];simp;omega),if_neg (by omega)]
theorem Cai{p:List UInt8}{N ch n:Nat}(hN:N=8*p.length)(hN2:N≤330000)(h1:1≤ch)(h6:ch≤6)(hn:n*ch≤4000):Zw (ch:Int) (n:Int) p=
  some (if(Yc ch p N (n*ch) 0 []).2.2≠0 then((Yc ch p N (n*ch) 0 []).1,(Yc ch p N (n*ch) 0 []).2.2)else
   ((Yc ch p N (n*ch) 0 []).1,if 7<N-(Yc ch p N (n*ch) 0 []).2.1∨Bt p (Yc ch p N (n*ch) 0 []).2.1 (N-(Yc ch p N (n*ch) 0 []).2.1)≠0 then 12 else 0)):=by
 have h:=Bqp hN hN2 h1 h6 hn (n*ch) 0 Am [] (by simp) (by have:=Ak;omega) (by omega)
 have hat:=(Bj3 (ch:=ch) (p:=p) (N:=N) (n*ch) 0 [] (by omega)).1
 have e8:Ay (8:Int) (Ac p)=(N:Int):=by rw[Ac,Gc (by omega) (by omega)];omega
 rw[Zw,Aea]
 refine Eq.trans h ?_
 generalize Yc ch p N (n*ch) 0 []=V at*
 obtain⟨v,a,e⟩:=V
 simp only at*
 by_cases he:e≠0
 ·rw[if_pos he,if_pos he]
 ·rw[if_neg he,if_neg he,Pu,Aca,e8,Be (by omega) (by omega)]
  by_cases h7:7<N-a
  ·rw[if_pos (by rw[Aq];simp;omega),if_pos (.inl h7)]
  ·rw[if_neg (by rw[Aq];simp;omega),Ab8,Bgw p v N hN hN2 (N-a) a Am (by omega) (by have:=Ak;omega)]
   by_cases hv:Bt p a (N-a)=0
   ·rw[if_pos hv,if_neg (by omega)]
   ·rw[if_neg hv,if_pos (.inr hv)]
end Go.Pl
set_option linter.unusedVariables false
set_option linter.unusedSimpArgs false
namespace Go.Pl
open Go Go.Lv
theorem Bi1(n:Int):(GI.ofZ n:Int32)=Int32.ofInt n:=rfl
theorem Adq(a:Int32):GI.toZ a=a.toInt:=rfl
theorem Alx(a b:Int32):Ae a b=a+b:=by
 rw[Ae,Adq,Adq,Bi1,Int32.ofInt_add,Int32.ofInt_toInt,Int32.ofInt_toInt]
theorem Be9(a b:Int32):Ah a b=a-b:=by
 rw[Ah,Adq,Adq,Bi1,Int32.ofInt_sub,Int32.ofInt_toInt,Int32.ofInt_toInt]
theorem Bqe(a b:Int32):geq a b=(a==b):=by
 rw[geq,Adq,Adq,Bool.eq_iff_iff];simp[Int32.toInt_inj]
theorem Byg(a b:Int32):Bb a b=(a !=b):=by
 rw[Bb,Adq,Adq,Bool.eq_iff_iff];simp[Int32.toInt_inj]
def sel(p:Nat→Bool)(a b:List Int32):List Int32:=(List.range a.length).map fun k=>if p k=true then a.getD k 0 else b.getD k 0
section
variable {p q:Nat→Bool} {a b:List Int32}
theorem Aot:(sel p a b).length=a.length:=by simp[sel]
theorem Ks{k:Nat}(h:k<a.length):a.getD k 0=a[k]:=by simp[List.getD_eq_getElem?_getD,h]
theorem Xp{k:Nat}(h:k<(sel p a b).length):(sel p a b)[k]=if p k=true then a.getD k 0 else b.getD k 0:=by simp[sel]
theorem Aj6{k:Nat}(h:k<a.length):getI (sel p a b) (k:Int)=some (if p k=true then a.getD k 0 else b.getD k 0):=by
 rw[Cf (by rw[Aot];exact h),Xp]
theorem Xq(h:∀k,k<a.length→p k=q k):sel p a b=sel q a b:=by
 apply List.map_congr_left
 intro k hk
 rw[h k (List.mem_range.1 hk)]
theorem Awm{k:Nat}(h:k<a.length):Iv (sel p a b) (k:Int) (a.getD k 0)=some (sel (fun j=>p j||decide (j=k)) a b):=by
 rw[Tx _ (by rw[Aot];exact h)]
 congr 1
 apply List.ext_getElem (by simp[Aot])
 intro i h1 h2
 rw[List.getElem_set,Xp,Xp]
 by_cases hi:k=i
 ·subst hi;simp
 ·have:¬i=k:=fun e=>hi e.symm
  simp[hi,this]
theorem Aw0(h:∀k,k<a.length→p k=true):sel p a b=a:=by
 apply List.ext_getElem (by simp[Aot])
 intro i h1 h2
 rw[Xp,if_pos (h i h2),Ks h2]
theorem Ax6(hl:b.length=a.length)(h:∀k,k<a.length→p k=false):sel p a b=b:=by
 apply List.ext_getElem (by simp[Aot,hl])
 intro i h1 h2
 rw[Xp,h i (by omega)]
 simp[List.getD_eq_getElem?_getD,h2]
end
end Go.Pl
set_option linter.unusedVariables false
set_option linter.unusedSimpArgs false
namespace Go.Pl
open Go Go.Lv
theorem Bf0(a b:Int32):Ay a b=a*b:=by
 rw[Ay,Adq,Adq,Bi1,Int32.ofInt_mul,Int32.ofInt_toInt,Int32.ofInt_toInt]
theorem Aax(a:Int32): -2147483648≤a.toInt∧a.toInt<2147483648:=⟨a.le_toInt,a.toInt_lt⟩
theorem Ef(a:Int32):(Ad a:Int)=a.toInt:=by
 have:=Aax a
 show wrap64 a.toInt=_
 rw[Bq]<;>omega
theorem Ag0(n:Int):(Ad n:Int32)=Int32.ofInt n:=rfl
theorem Bs1(x:Int):Int32.ofInt (x %4294967296)=Int32.ofInt x:=by
 apply Int32.toInt_inj.1
 rw[Int32.toInt_ofInt,Int32.toInt_ofInt]
 exact Int.emod_bmod x 4294967296
theorem Bbp(x:Int):Bw x=some (Int32.ofInt x):=by
 have e1:(Ad x:UInt64).toNat=(x %18446744073709551616).toNat:=by
  rw[Bkw,UInt64.toNat_ofNat',Nat.mod_eq_of_lt (by omega)]
 have e2:(Ad (Ad x:UInt64):UInt32).toNat=(x %4294967296).toNat:=by
  have e:(Ad (Ad x:UInt64):UInt32)=UInt32.ofNat (Ad x:UInt64).toNat:=by simp only[Ad,Gz,Dm]
  rw[e,UInt32.toNat_ofNat',e1]
  show(x %18446744073709551616).toNat %4294967296=_
  omega
 have e3:(Ad (Ad (Ad x:UInt64):UInt32):Int32)=Int32.ofInt ((Ad (Ad x:UInt64):UInt32).toNat:Int):=rfl
 rw[Bw,e3,e2,←Bs1 x]
 congr 2;omega
theorem Axb(a b:Int32):Bw (Ae (Ad a:Int) (Ad b:Int))=some (a+b):=by
 have:=Aax a
 have:=Aax b
 rw[Ef,Ef,Ag (by omega) (by omega),Bbp,Int32.ofInt_add,Int32.ofInt_toInt,Int32.ofInt_toInt]
theorem Bvd(a b:Int32):Bw (Ay (Ad a:Int) (Ad b:Int))=some (a*b):=by
 have ha:=Aax a
 have hb:=Aax b
 have h1: -9223372036854775808≤a.toInt*b.toInt∧a.toInt*b.toInt≤9223372036854775807:=by
  have h2:(a.toInt*b.toInt).natAbs≤2147483648*2147483648:=by
   rw[Int.natAbs_mul];exact Nat.mul_le_mul (by omega) (by omega)
  omega
 rw[Ef,Ef,Gc h1.1 h1.2,Bbp,Int32.ofInt_mul,Int32.ofInt_toInt,Int32.ofInt_toInt]
def OkF(s:Int)(t p:List Int32):Prop:=(s=9∨s=10)∧t.length=16∧p.length=16
theorem Azb{s:Int}{t p:List Int32}(h:OkF s t p):Acv s t p=some 0:=by
 obtain⟨rfl|rfl,_,_⟩:=h<;>rfl
theorem g32{l:List Int32}{k:Nat}(h:k<l.length):getI l (k:Int)=some (l.getD k 0):=by
 rw[Cf h];simp[List.getD_eq_getElem?_getD,h]
def Asz(t p:List Int32):Nat→Int32
 |0=>0
 |i+1=>Asz t p i+t.getD i 0*p.getD i 0
def half(s:Int):Int32:=if s=9 then 256 else 512
def gF(s:Int)(t p:List Int32):Int32:=Int32.ofInt ((half s+Asz t p 16).toInt.fdiv (if s=9 then 512 else 1024))
theorem Bhr{s:Int}{t p:List Int32}(h:OkF s t p):∀(j i q:Nat),i+j=16→j<q→Pa t s p q (half s+Asz t p i) (i:Int)=some (gF s t p,0)
 |0,i,q+1,hi,_=>by
  obtain rfl:i=16:=by omega
  have hs:=h.1
  rw[Pa,Adm,if_neg (by rw[Af];simp),Alj,Aue,Br (by rw[Cx];simp;omega),Aa]
  obtain rfl|rfl:=hs<;>rfl
 |j+1,i,q+1,hi,hq=>by
  obtain⟨hs,ht,hp⟩:=h
  rw[Pa,Adm,if_pos (by rw[Af];simp;omega),g32 (by omega),Aa,g32 (by omega),Aa,Aa,Ag (b:=1) (by omega) (by omega),Alx,Bf0,Int32.add_assoc]
  exact Bhr ⟨hs,ht,hp⟩ j (i+1) q (by omega) (by omega)
theorem Bve{s:Int}{t p:List Int32}(h:OkF s t p):Ah6 s t p=some (gF s t p,0):=by
 have hs:=h.1
 have h1:=Bhr h 16 0 Am (by omega) (by have:=Ak;omega)
 have e:Ck (1:Int32) (GI.toZ (Ah s (1:Int))).toNat=half s+Asz t p 0:=by
  obtain rfl|rfl:=hs<;>rfl
 rw[Ah6,Alp,Azb h,Aa,if_neg (by rw[Aj];simp),Br (by rw[Cx,Be (by omega) (by omega)];simp;omega),Aa,Ak4,e]
 exact h1
theorem Bfh{s:Int}{t p:List Int32}(ht:t.length=16)(hp:p.length=16){g:Int32}(hg:Asz t p 16=g):∀(j i q:Nat),i+j=16→j<q→Ja s t p q (Asz t p i).toInt (i:Int)=some g
 |0,i,q+1,hi,_=>by
  obtain rfl:i=16:=by omega
  rw[Ja,Uj,if_neg (by rw[Af];simp),Af8,Agh,Ag0,Int32.ofInt_toInt,hg]
 |j+1,i,q+1,hi,hq=>by
  have ih:=Bfh (s:=s) ht hp hg j (i+1) q (by omega) (by omega)
  rw[Asz]at ih
  rw[Ja,Uj,if_pos (by rw[Af];simp;omega),g32 (by omega),g32 (by omega),Aa,Aa,Aa,Aa,Bvd,Aa,←Ef (Asz t p i),Axb,Aa,Ef,Ag (by omega) (by omega)]
  exact ih
theorem Bus{s:Int}{t p:List Int32}(h:OkF s t p):Aml s t p=some (Asz t p 16):=
 Bfh h.2.1 h.2.2 rfl 16 0 Am (by omega) (by have:=Ak;omega)
theorem Btt(x n:Int)(hn:n=512∨n=1024∨n=16∨n=32):(if x.tmod n<0 then x.tdiv n-1 else x.tdiv n)=x.fdiv n:=by
 have hs:n.sign=1:=by obtain rfl|rfl|rfl|rfl:=hn<;>rfl
 rw[Int.tdiv_eq_ediv,Int.tmod_eq_emod,hs,Int.fdiv_eq_ediv_of_nonneg _ (by omega)]
 by_cases h:0≤x∨n∣x
 ·rw[if_pos h,if_pos h]
  obtain rfl|rfl|rfl|rfl:=hn<;>(rw[if_neg (by omega)];omega)
 ·rw[if_neg h,if_neg h]
  obtain rfl|rfl|rfl|rfl:=hn<;>(rw[if_pos (by omega)];omega)
theorem Bdy(x n:Int)(hn:n=512∨n=1024∨n=16∨n=32)(h: -1000000000000≤x)(h':x≤1000000000000): -1000000000000≤x.tdiv n∧x.tdiv n≤1000000000000:=by
 have hs:n.sign=1:=by obtain rfl|rfl|rfl|rfl:=hn<;>rfl
 rw[Int.tdiv_eq_ediv,hs]
 by_cases h:0≤x∨n∣x
 ·rw[if_pos h];obtain rfl|rfl|rfl|rfl:=hn<;>omega
 ·rw[if_neg h];obtain rfl|rfl|rfl|rfl:=hn<;>omega
theorem Cec(x n:Int)(hn:n=512∨n=1024∨n=16∨n=32)(h: -1000000000000≤x)(h':x≤1000000000000):Bj x n=x.tdiv n:=by
 have:=Bdy x n hn h h'
 rw[Aft,Bq (by omega) (by omega)]
theorem Bmt(x n:Int)(hn:n=512∨n=1024∨n=16∨n=32)(h: -1000000000000≤x)(h':x≤1000000000000):
  (if(Bv (Fb x n) (0:Int))=true then some (Ad (Ah (Bj x n) (1:Int)):Int32)else some (Ad (Bj x n):Int32))=some (Int32.ofInt (x.fdiv n)):=by
 have hb:=Bdy x n hn h h'
 rw[Af,Fb,Cec x n hn h h',Be (by omega) (by omega),Ag0,Ag0,←Btt x n hn]
 by_cases hx:x.tmod n<0
 ·rw[if_pos (by simpa using hx),if_pos hx]
 ·rw[if_neg (by simpa using hx),if_neg hx]
theorem By8{s:Int}{t p:List Int32}(h:OkF s t p):Zl s t p=some (gF s t p):=by
 obtain⟨hs,ht,hp⟩:=h
 have h:OkF s t p:=⟨hs,ht,hp⟩
 have hx:=Aax (Asz t p 16+half s)
 have key:∀n:Int,(n=512∨n=1024)→(half s).toInt=n/2→gF s t p=Int32.ofInt ((half s+Asz t p 16).toInt.fdiv n)→Rk s t p n=some (gF s t p):=by
  intro n hn hh hg
  have e2:Bj n (2:Int)=(half s).toInt:=by rw[hh];obtain rfl|rfl:=hn<;>rfl
  rw[Rk,Afc,Bus h,Aa,e2,←Ef (half s),Axb,Aa,Br (by rw[Aj];simp;omega),Aa,Aa,Ef,Bmt _ n (by omega) (by omega) (by omega),hg,Int32.add_comm]
 rw[Zl,Aeb]
 obtain rfl|rfl:=hs
 ·rw[if_pos (by rw[Az];rfl)];exact key 512 (.inl rfl) rfl rfl
 ·rw[if_neg (by rw[Az];decide)];exact key 1024 (.inr rfl) rfl rfl
def stp(i:Nat):Int32:=if i=0 then 4 else if i<4 then 2 else 1
def sg(x:Int32):Int32:=if x.toInt<0 then -1 else if 0<x.toInt then 1 else 0
def lrn(t p:List Int32)(w:Int32):List Int32:=(List.range 16).map fun i=>t.getD i 0+stp i*sg (p.getD i 0)*sg w
theorem Adg(t p:List Int32)(w:Int32):(lrn t p w).length=16:=by simp[lrn]
theorem Bi2(t p:List Int32)(w:Int32){i:Nat}(h:i<16):(lrn t p w).getD i 0=t.getD i 0+stp i*sg (p.getD i 0)*sg w:=by
 rw[Ks (by rw[Adg];exact h)];simp[lrn]
theorem step_eq(i:Nat):Amt (i:Int)=some (stp i):=by
 rw[Amt,stp]
 by_cases h:i=0
 ·rw[if_pos (by rw[Az];simp[h]),if_pos h]
 ·rw[if_neg (by rw[Az];simp;omega),if_neg h]
  by_cases h2:i<4
  ·rw[if_pos (by rw[Af];simp;omega),if_pos h2]
  ·rw[if_neg (by rw[Af];simp;omega),if_neg h2]
theorem Btw(i:Nat):Aat (i:Int)=some (stp i):=by
 rw[Aat,stp]
 by_cases h:i=0
 ·rw[if_pos (by rw[Az];simp[h]),if_pos h]
 ·rw[if_neg (by rw[Az];simp;omega),if_neg h]
  by_cases h2:i<4
  ·rw[if_pos (by rw[Bhv];simp;omega),if_pos h2]
  ·rw[if_neg (by rw[Bhv];simp;omega),if_neg h2]
theorem Bjw(a b:Int32):Bv a b=decide (a.toInt<b.toInt):=rfl
theorem Bos(a b:Int32):Ey a b=decide (b.toInt<a.toInt):=rfl
theorem sign_eq(x:Int32):Qg x=some (sg x):=by
 rw[Qg,sg,Bjw,Bos,show(0:Int32).toInt=0 from rfl]
 by_cases h:x.toInt<0
 ·rw[if_pos (by simpa using h),if_pos h]
 ·rw[if_neg (by simpa using h),if_neg h]
  by_cases h2:0<x.toInt
  ·rw[if_pos (by simpa using h2),if_pos h2]
  ·rw[if_neg (by simpa using h2),if_neg h2]
theorem Brw:sg 0=0:=rfl
theorem toInt_ne{x:Int32}(h:x≠0):x.toInt≠0:=fun e=>h (Int32.toInt_inj.1 (by rw[e];rfl))
theorem Bjx{x:Int32}(h:x.toInt<0):sg x= -1:=by rw[sg,if_pos h]
theorem Bi4{x:Int32}(h:x≠0)(h2:¬x.toInt<0):sg x=1:=by
 have:=toInt_ne h
 rw[sg,if_neg h2,if_pos (by omega)]
theorem Atj(i:Nat):stp i=4∨stp i=2∨stp i=1:=by
 unfold stp
 by_cases h:i=0
 ·rw[if_pos h];exact .inl rfl
 ·rw[if_neg h];split;exact .inr (.inl rfl);exact .inr (.inr rfl)
theorem Bta{x w:Int32}(hx:x≠0)(hw:w≠0)(h:(x.toInt<0)=(w.toInt<0))(i:Nat):stp i*sg x*sg w=stp i:=by
 by_cases h1:x.toInt<0
 ·rw[Bjx h1,Bjx (by rw[←h];exact h1)]
  obtain e|e|e:=Atj i<;>rw[e]<;>decide
 ·rw[Bi4 hx h1,Bi4 hw (by rw[←h];exact h1)]
  obtain e|e|e:=Atj i<;>rw[e]<;>decide
theorem Bpk{x w:Int32}(hx:x≠0)(hw:w≠0)(h:¬(x.toInt<0)=(w.toInt<0))(i:Nat)(a:Int32):a+stp i*sg x*sg w=a-stp i:=by
 have key:stp i*sg x*sg w=-stp i:=by
  by_cases h1:x.toInt<0
  ·have h2:¬w.toInt<0:=fun h2=>h (propext ⟨fun _=>h2,fun _=>h1⟩)
   rw[Bjx h1,Bi4 hw h2]
   obtain e|e|e:=Atj i<;>rw[e]<;>decide
  ·have h2:w.toInt<0:=Decidable.by_contra fun h2=>h (propext ⟨fun h3=>absurd h3 h1,fun h3=>absurd h3 h2⟩)
   rw[Bi4 hx h1,Bjx h2]
   obtain e|e|e:=Atj i<;>rw[e]<;>decide
 rw[key,Int32.sub_eq_add_neg]
def Axx(i:Nat):Nat→Bool:=fun j=>decide (j<i)
theorem Bc9{a b:List Int32}{i:Nat}(h:i<a.length):Iv (sel (Axx i) a b) (i:Int) (a.getD i 0)=some (sel (Axx (i+1)) a b):=by
 rw[Awm h]
 congr 1
 apply Xq
 intro k _
 rw[Bool.eq_iff_iff]
 simp only[Axx,Bool.or_eq_true,decide_eq_true_eq];omega
theorem Bts{a b:List Int32}{i:Nat}(e:a.getD i 0=b.getD i 0):sel (Axx i) a b=sel (Axx (i+1)) a b:=by
 apply List.map_congr_left
 intro k _
 simp only[Axx,decide_eq_true_eq]
 by_cases h1:k<i
 ·rw[if_pos h1,if_pos (by omega)]
 ·by_cases h2:k=i
  ·subst h2;rw[if_neg h1,if_pos (by omega),e]
  ·rw[if_neg h1,if_neg (by omega)]
theorem Bk1{a b:List Int32}{i:Nat}(h:i<a.length):getI (sel (Axx i) a b) (i:Int)=some (b.getD i 0):=by
 rw[Aj6 h,if_neg (by simp[Axx])]
theorem Bie{s:Int}{t p:List Int32}{w:Int32}(hw:w≠0)(ht:t.length=16)(hp:p.length=16):∀(j i q:Nat),i+j=16→j<q→Pd w p s q (i:Int) (sel (Axx i) (lrn t p w) t)=some (s,lrn t p w,p,0)
 |0,i,q+1,hi,_=>by
  obtain rfl:i=16:=by omega
  rw[Pd,Ada,if_neg (by rw[Af];simp),Aw0 (fun k hk=>by rw[Adg]at hk;simpa [Axx]using hk)];rfl
 |j+1,i,q+1,hi,hq=>by
  have hl:=Adg t p w
  have hg:=Bi2 t p w (i:=i) (by omega)
  rw[Pd,Ada,if_pos (by rw[Af];simp;omega),g32 (by omega),Aa,Ag (b:=1) (by omega) (by omega),Bk1 (by omega),step_eq]
  simp only[Aa]
  rw[Alx,Be9,Bqe,Bjw,Bjw,show(0:Int32).toInt=0 from rfl]
  have ih:=Bie (s:=s) hw ht hp j (i+1) q (by omega) (by omega)
  by_cases hx:p.getD i 0=0
  ·rw[if_pos (by rw[hx];rfl),Bts (by rw[hg,hx,Brw,Int32.mul_zero,Int32.zero_mul,Int32.add_zero])]
   exact ih
  ·rw[if_neg (by simpa using hx)]
   by_cases hs:((p.getD i 0).toInt<0)=(w.toInt<0)
   ·rw[if_pos (by rw[beq_iff_eq];simp only[hs]),show t.getD i 0+stp i=(lrn t p w).getD i 0 by rw[hg,Bta hx hw hs],Bc9 (by omega),Aa]
    exact ih
   ·rw[if_neg (by rw[beq_iff_eq,decide_eq_decide];exact fun h=>hs (propext h)),show t.getD i 0-stp i=(lrn t p w).getD i 0 by rw[hg,Bpk hx hw hs],Bc9 (by omega),Aa]
    exact ih
theorem Bva{t:List Int32}(p:List Int32)(ht:t.length=16):lrn t p 0=t:=by
 apply List.ext_getElem (by rw[Adg,ht])
 intro i h1 h2
 have:=Bi2 t p 0 (i:=i) (by omega)
 rw[Ks h1,Ks h2]at this
 rw[this,Brw,Int32.mul_zero,Int32.add_zero]
theorem Bv2{s:Int}{t p:List Int32}(h:OkF s t p)(w:Int32):Anw s t p w=some (s,lrn t p w,p,0):=by
 rw[Anw,Alg,Azb h,Aa,if_neg (by rw[Aj];simp),Bqe]
 by_cases hw:w=0
 ·rw[if_pos (by simpa using hw),hw,Bva p h.2.1]
 ·have h1:=Bie (s:=s) hw h.2.1 h.2.2 16 0 Am (by omega) (by have:=Ak;omega)
  rw[Ax6 (by rw[Adg,h.2.1]) (fun k _=>by simp[Axx])]at h1
  rw[if_neg (by simpa using hw)]
  exact h1
theorem Axa{s:Int}{t p:List Int32}{w:Int32}(ht:t.length=16)(hp:p.length=16):∀(j i q:Nat),i+j=16→j<q→Fy w s p q (i:Int) (sel (Axx i) (lrn t p w) t)=some (s,lrn t p w,p)
 |0,i,q+1,hi,_=>by
  obtain rfl:i=16:=by omega
  rw[Fy,Nc,if_neg (by rw[Af];simp),Aw0 (fun k hk=>by rw[Adg]at hk;simpa [Axx]using hk)];rfl
 |j+1,i,q+1,hi,hq=>by
  have hl:=Adg t p w
  have hg:=Bi2 t p w (i:=i) (by omega)
  rw[Fy,Nc,if_pos (by rw[Af];simp;omega),g32 (l:=p) (by omega),Ag (b:=1) (by omega) (by omega),Bk1 (by omega),Btw,sign_eq w,Aa,Aa,Aa,Aa,Aa,sign_eq,Aa,Aa,Aa,Alx,Bf0,Bf0,←hg,Bc9 (by omega),Aa]
  exact Axa ht hp j (i+1) q (by omega) (by omega)
theorem Bpl{s:Int}{t p:List Int32}(h:OkF s t p)(w:Int32):Aeu s t p w=some (s,lrn t p w,p):=by
 have h1:=Axa (s:=s) (w:=w) h.2.1 h.2.2 16 0 Am (by omega) (by have:=Ak;omega)
 rw[Ax6 (by rw[Adg,h.2.1]) (fun k _=>by simp[Axx])]at h1
 exact h1
theorem Bzc{p:List Int32}(h:p.length=16):∃a0 a1 a2 a3 a4 a5 a6 a7 a8 a9 b0 b1 b2 b3 b4 b5,p=[a0,a1,a2,a3,a4,a5,a6,a7,a8,a9,b0,b1,b2,b3,b4,b5]:=by
 match p,h with
 |[a0,a1,a2,a3,a4,a5,a6,a7,a8,a9,b0,b1,b2,b3,b4,b5],_=>exact⟨a0,a1,a2,a3,a4,a5,a6,a7,a8,a9,b0,b1,b2,b3,b4,b5,rfl⟩
theorem Ca1{s:Int}{t p:List Int32}(h:OkF s t p)(x:Int32):Atl s t p x=some (s,t,x::p.take 15,0):=by
 obtain⟨hs,ht,hp⟩:=h
 rw[Atl,Agj,Azb ⟨hs,ht,hp⟩,Aa,if_neg (by rw[Aj];simp),show vwI (16:Int) 1 16=some ()from rfl,Aa,show vwI (16:Int) 0 16=some ()from rfl,Aa,An2,Awy]
 obtain⟨a0,a1,a2,a3,a4,a5,a6,a7,a8,a9,b0,b1,b2,b3,b4,b5,rfl⟩:=Bzc hp
 rfl
def shf(p:List Int32)(i:Nat):List Int32:=(List.range 16).map fun k=>if k≤i then p.getD k 0 else p.getD (k-1) 0
theorem Vt(p:List Int32)(i:Nat):(shf p i).length=16:=by simp[shf]
theorem Cad(p:List Int32)(i k:Nat)(h:k<16):(shf p i).getD k 0=if k≤i then p.getD k 0 else p.getD (k-1) 0:=by
 rw[Ks (by rw[Vt];exact h)];simp[shf]
theorem Caj(p:List Int32)(i:Nat)(h:i+1<16):Iv (shf p (i+1)) ((i+1:Nat):Int) (p.getD i 0)=some (shf p i):=by
 rw[Tx _ (by rw[Vt];exact h)]
 congr 1
 apply List.ext_getElem (by simp[Vt])
 intro k h1 h2
 rw[Vt]at h2
 rw[List.getElem_set]
 simp only[shf,List.getElem_map,List.getElem_range]
 by_cases hk:i+1=k
 ·subst hk;rw[if_pos rfl,if_neg (by omega)];rfl
 ·rw[if_neg hk]
  by_cases h3:k≤i
  ·rw[if_pos (by omega),if_pos h3]
  ·rw[if_neg (by omega),if_neg h3]
theorem Az5(s:Int)(t p:List Int32)(x:Int32)(hp:p.length=16):∀(i q:Nat),i<16→i<q→Gg x s t q (i:Int) (shf p i)=some (s,t,x::p.take 15)
 |0,q+1,_,_=>by
  have hg:getI (shf p 0) (0:Int)=some ((shf p 0).getD 0 0):=g32 (l:=shf p 0) (k:=0) (by rw[Vt];omega)
  have hset:Iv (shf p 0) (0:Int) x=some ((shf p 0).set 0 x):=Tx (l:=shf p 0) (n:=0) x (by rw[Vt];omega)
  rw[Gg,Oc,if_neg (by rw[Aq];simp),Aa5,Aa4,hg,Aa,hset,Aa]
  congr 3
  apply List.ext_getElem (by simp[Vt,hp])
  intro k h1 h2
  rw[List.length_set,Vt]at h1
  rw[List.getElem_set]
  cases k with
  |zero=>rw[if_pos rfl];rfl
  |succ k=>
   rw[if_neg (by omega)]
   simp only[shf,List.getElem_map,List.getElem_range,List.getElem_cons_succ,List.getElem_take]
   rw[if_neg (by omega),Nat.add_sub_cancel,Ks (by omega)]
 |i+1,q+1,hi,hq=>by
  have hg:=g32 (l:=shf p (i+1)) (k:=i) (by rw[Vt];omega)
  rw[Cad p (i+1) i (by omega),if_pos (by omega)]at hg
  have e1:Ah ((i+1:Nat):Int) (1:Int)=(i:Int):=by rw[Be (by omega) (by omega)];omega
  have hg2:=g32 (l:=shf p (i+1)) (k:=i+1) (by rw[Vt];omega)
  rw[Gg,Oc,if_pos (by rw[Aq];simp),e1,hg,Aa,Aa,hg2,Aa,Caj p i hi,Aa]
  exact Az5 s t p x hp i q (by omega) (by omega)
theorem Bt8{s:Int}{t p:List Int32}(hp:p.length=16)(x:Int32):Af4 s t p x=some (s,t,x::p.take 15):=by
 have h:=Az5 s t p x hp 15 Am (by omega) (by have:=Ak;omega)
 have e:shf p 15=p:=by
  apply List.ext_getElem (by rw[Vt,hp])
  intro k h1 h2
  rw[Vt]at h1
  simp only[shf,List.getElem_map,List.getElem_range]
  rw[if_pos (by omega),Ks h2]
 rw[e]at h
 exact h
theorem Bwq{s:Int}{t p:List Int32}(h:OkF s t p)(w x:Int32):OkF s (lrn t p w) (x::p.take 15):=⟨h.1,Adg _ _ _,by simp[h.2.2]⟩
theorem Bz1{s:Int}{t p:List Int32}(h:OkF s t p)(y:Int32):Aq1 s t p y=some (y+gF s t p,s,lrn t p y,(y+gF s t p)::p.take 15,0):=by
 rw[Aq1,Bve h,Aa]
 simp only
 rw[if_neg (by rw[Aj];simp),Alx,Aos,Bv2 h,Aa]
 simp only
 rw[Ca1 (s:=s) (t:=lrn t p y) (p:=p) ⟨h.1,Adg _ _ _,h.2.2⟩,Aa];rfl
theorem Bs2{s:Int}{t p:List Int32}(h:OkF s t p)(y:Int32):Ro s t p y=some (y+gF s t p,s,lrn t p y,(y+gF s t p)::p.take 15):=by
 rw[Ro,By8 h,Aa,Axb,Aa,Bpl h,Aa]
 simp only
 rw[Bt8 h.2.2,Aa]
def sB(bits:Int):Int:=if bits=16 then 9 else 10
def shB(bits:Int):Int:=if bits=8 then 4 else 5
def Cm(bits:Int):Prop:=bits=8∨bits=16∨bits=24
def gs(sh:Int)(last:Int32):Int32:=Ad (Bjj (Ah (Ck (Ad last:Int) sh.toNat) (Ad last)) sh.toNat)
theorem Ceu(bits:Int):sB bits=9∨sB bits=10:=by unfold sB;split<;>simp
theorem Cav(bits:Int):0≤shB bits:=by unfold shB;split<;>omega
theorem Cfm{bits:Int}(h:Cm bits)(t:List Int32):Axs bits t=some (sB bits,t,List.replicate 16 0,0):=by
 obtain rfl|rfl|rfl:=h<;>rfl
theorem Ccm{bits:Int}(h:Cm bits):Arv bits=some (shB bits,0):=by
 obtain rfl|rfl|rfl:=h<;>rfl
theorem Cdn{sh:Int}(h:0≤sh)(last:Int32):Ajs sh last=some (gs sh last):=by
 rw[Ajs,Br (by rw[Cx];simpa using h),Aa,Aa];rfl
theorem Cc9{bits:Int}(h:Cm bits)(last:Int32):Rl bits last=some (gs (shB bits) last,0):=by
 rw[Rl,Ccm h,Aa]
 simp only
 rw[if_neg (by rw[Aj];simp),Cdn (Cav bits),Aa]
theorem Boj{bits:Int}(h:Cm bits)(last:Int32)(t p:List Int32):Sk bits last (sB bits) t p=some 0:=by
 rw[Sk,Cfm h,Aa]
 simp only
 rw[if_neg (by rw[Aj,Aj];simp)]
theorem Bsv{bits:Int}(h:Cm bits){t p:List Int32}(hF:OkF (sB bits) t p)(last y:Int32):
  Is bits last (sB bits) t p y=some (y+gF (sB bits) t p+gs (shB bits) last,bits,y+gF (sB bits) t p+gs (shB bits) last,sB bits,lrn t p y,(y+gF (sB bits) t p)::p.take 15,0):=by
 rw[Is,Boj h,Aa,if_neg (by rw[Aj];simp),Cc9 h,Aa]
 simp only
 rw[Bz1 hF,Aa]
 simp only
 rw[Alx]
theorem Azj(sh:Int)(hs:sh=4∨sh=5)(last:Int32):Ml sh last=some (gs sh last):=by
 have hl:=Aax last
 have key:∀n:Int,n=16∨n=32→gs sh last=Int32.ofInt (((n-1)*last.toInt).fdiv n)→Of last n=some (gs sh last):=by
  intro n hn hg
  have e:Ay (Ah n (1:Int)) (Ad last:Int)=(n-1)*last.toInt:=by
   obtain rfl|rfl:=hn<;>(rw[Ef,Be (by omega) (by omega),Gc (by omega) (by omega)])
  rw[Of,Yz,Br (by rw[Aj];simp;omega),Aa,Aa,e,Bmt _ n (by omega) (by obtain rfl|rfl:=hn<;>omega) (by obtain rfl|rfl:=hn<;>omega),hg]
 rw[Ml,Yp]
 obtain rfl|rfl:=hs
 ·rw[if_neg (by rw[Az];decide)]
  refine key 16 (.inl rfl) ?_
  have e:Ck (Ad last:Int) (4:Int).toNat=last.toInt*16:=by
   rw[Ef];show wrap64 (last.toInt*2^4)=_;rw[Bq]<;>omega
  rw[gs,e,Ef,Be (by omega) (by omega),Ag0]
  show Int32.ofInt ((last.toInt*16-last.toInt).fdiv 16)=_
  congr 2;omega
 ·rw[if_pos (by rw[Az];rfl)]
  refine key 32 (.inr rfl) ?_
  have e:Ck (Ad last:Int) (5:Int).toNat=last.toInt*32:=by
   rw[Ef];show wrap64 (last.toInt*2^5)=_;rw[Bq]<;>omega
  rw[gs,e,Ef,Be (by omega) (by omega),Ag0]
  show Int32.ofInt ((last.toInt*32-last.toInt).fdiv 32)=_
  congr 2;omega
theorem Btg{bits:Int}(h:Cm bits){t p:List Int32}(hF:OkF (sB bits) t p)(last y:Int32):
  Sn bits last (sB bits) t p y=some (y+gF (sB bits) t p+gs (shB bits) last,bits,y+gF (sB bits) t p+gs (shB bits) last,sB bits,lrn t p y,(y+gF (sB bits) t p)::p.take 15):=by
 have hb:Ty bits last (sB bits) t p=some (Ad (gs (shB bits) last):Int):=by
  rw[Ty]
  obtain rfl|rfl|rfl:=h
  ·rw[if_pos (by rw[Az];rfl),Azj 4 (.inl rfl),Aa];rfl
  ·rw[if_neg (by rw[Az];decide),Azj 5 (.inr rfl),Aa];rfl
  ·rw[if_neg (by rw[Az];decide),Azj 5 (.inr rfl),Aa];rfl
 rw[Sn,Bs2 hF,Aa]
 simp only
 rw[hb,Aa,Axb,Aa]
theorem Cdv{bits:Int}(h:Cm bits)(t:List Int32):Amx bits t=some (bits,0,sB bits,t,List.replicate 16 0,0):=by
 obtain rfl|rfl|rfl:=h<;>rfl
def Apq(n:UInt32):Int32:=if n.toNat %2=0 then Int32.ofInt ((n.toNat/2:Nat):Int)else Int32.ofInt (-((n.toNat/2:Nat):Int)-1)
theorem Bnn(a b:Int32):(Tn a b).toBitVec=a.toBitVec^^^b.toBitVec:=by
 show(Int32.ofInt ((BitVec.ofInt 32 a.toBitVec.toInt^^^BitVec.ofInt 32 b.toBitVec.toInt).toNat:Int)).toBitVec=_
 rw[BitVec.ofInt_toInt,BitVec.ofInt_toInt,Int32.toBitVec_ofInt,BitVec.ofInt_natCast,BitVec.ofNat_toNat,BitVec.setWidth_eq]
theorem Cer(m:Nat)(h:m<2147483648):Tn (Int32.ofInt (m:Int)) (Int32.ofInt (-1))=Int32.ofInt (-(m:Int)-1):=by
 apply Int32.toBitVec_inj.1
 have e1:(Int32.ofInt (-1)).toBitVec=BitVec.allOnes 32:=by decide
 rw[Bnn,e1,BitVec.xor_allOnes,Int32.toBitVec_ofInt,Int32.toBitVec_ofInt]
 apply BitVec.eq_of_toNat_eq
 rw[BitVec.toNat_not,BitVec.toNat_ofInt,BitVec.toNat_ofInt]
 omega
theorem Bwr(n:UInt32):Tj n=some (Apq n):=by
 have hn:=n.toNat_lt
 have e1:(Ad (Bk n (GI.toZ (1:UInt64)).toNat):Int32)=Int32.ofInt ((n.toNat/2:Nat):Int):=by
  show Int32.ofInt ((Bk n 1).toNat:Int)=_
  rw[Amj]
 have e2:(Ad (Dd n (1:UInt32)):Int32)=Int32.ofInt ((n.toNat %2:Nat):Int):=by
  show Int32.ofInt ((Dd n (1:UInt32)).toNat:Int)=_
  rw[Bl4,UInt32.toNat_and]
  show Int32.ofInt ((n.toNat&&&1:Nat):Int)=_
  rw[Nat.and_one_is_mod]
 rw[Tj,e1,e2,Apq]
 congr 1
 by_cases h:n.toNat %2=0
 ·have e3:Ax3 (Int32.ofInt ((n.toNat %2:Nat):Int))=Int32.ofInt 0:=by rw[h];decide
  rw[if_pos h,e3]
  apply Int32.toBitVec_inj.1
  rw[Bnn,show(Int32.ofInt 0).toBitVec=0#32 from rfl,BitVec.xor_zero]
 ·have e3:Ax3 (Int32.ofInt ((n.toNat %2:Nat):Int))=Int32.ofInt (-1):=by rw[show n.toNat %2=1 by omega];decide
  rw[if_neg h,e3,Cer _ (by omega)]
theorem Bym(n:UInt32):Zq n=some (Apq n):=by
 have hn:=n.toNat_lt
 have e1:geq (Yd n (2:UInt32)) (0:UInt32)=decide (n.toNat %2=0):=by
  rw[Bjs,Bk2,Bool.eq_iff_iff]
  simp only[beq_iff_eq,←UInt32.toNat_inj,UInt32.toNat_mod,decide_eq_true_eq];rfl
 rw[Zq,e1,Apq]
 by_cases h:n.toNat %2=0
 ·rw[if_pos (by simpa using h),if_pos h,Bkg];rfl
 ·have e2:(Ad n:Int)=(n.toNat:Int):=Bo6 n
  rw[if_neg (by simpa using h),if_neg h,e2,Ag (by omega) (by omega),Bok,Bq (by omega) (by omega),Aft,Int.tdiv_eq_ediv,Ag0]
  congr 2
  rw[if_pos (.inr (by omega)),Bq (by omega) (by omega)];omega
end Go.Pl
set_option linter.unusedVariables false
set_option linter.unusedSimpArgs false
namespace Go.Pl
open Go Go.Lv
theorem Bks{c:Prop} [Decidable c](h:c):Gk (decide c)=some ():=by rw[decide_eq_true h];rfl
def unV(f:Nat→Int32)(ch:Nat):Nat→Int32
 |0=>if 1<ch then f (ch-1)+Bj (f (ch-2)) (2:Int32)else f (ch-1)
 |j+1=>unV f ch j-f (ch-2-j)
def unm(ch:Nat)(m:List Int32):List Int32:=(List.range m.length).map fun k=>unV (fun i=>m.getD (k-k %ch+i) 0) ch (ch-1-k %ch)
theorem Ati(ch:Nat)(m:List Int32):(unm ch m).length=m.length:=by simp[unm]
theorem Bb2{ch:Nat}{m:List Int32}{a i:Nat}(ha:a %ch=0)(hi:i<ch)(h:a+i<m.length):(unm ch m).getD (a+i) 0=unV (fun i=>m.getD (a+i) 0) ch (ch-1-i):=by
 have hb:(a+i) %ch=i:=by rw[Nat.add_mod,ha,Nat.zero_add,Nat.mod_mod,Nat.mod_eq_of_lt hi]
 rw[Ks (by rw[Ati];exact h)]
 simp only[unm,List.getElem_map,List.getElem_range,hb]
 rw[show a+i-i=a by omega]
section
variable (ch:Nat) (m:List Int32)
theorem Bxo(h1:1≤ch)(h6:ch≤6)(hm:m.length %ch=0)(hl2:m.length≤4000):Ami (ch:Int) m=some 0:=by
 rw[Ami,if_neg (by simp[Af,Aq];omega),if_neg (by rw[Aq,Ac];simp;omega),Br (by rw[Aj];simp;omega),Aa,if_neg]
 rw[Aj,Fb,Ac,←Int.ofNat_tmod,hm];simp
theorem Bfu(bk:Int→List Int32→Option (List Int32×Int))(at':Nat)(h1:1≤ch)(h6:ch≤6)(hm:at' %ch=0)(hl:at'+ch≤m.length)(hl2:m.length≤4000):∀(i q:Nat),i≤ch-1→i<q→
  Ts bk (ch:Int) (at':Int) q ((i:Int)-1) (sel (fun k=>decide (k<at'∨(at'+i≤k∧k<at'+ch))) (unm ch m) m)=bk ((at'+ch:Nat):Int) (sel (fun k=>decide (k<at'+ch)) (unm ch m) m)
 |0,q+1,hi,_=>by
  have e4:Ae (at':Int) (ch:Int)=((at'+ch:Nat):Int):=by rw[Ag (by omega) (by omega)];omega
  rw[Ts,Ago,if_neg (by rw[Cx];simp),Am7,Ayf,e4]
  congr 1
  apply Xq
  intro k _
  rw[Bool.eq_iff_iff];simp;omega
 |i+1,q+1,hi,hq=>by
  have hlen:=Ati ch m
  have e2:Ae (at':Int) (ch:Int)-(at':Int)=(ch:Int):=by rw[Ag (by omega) (by omega)];omega
  have e3:Ae (i:Int) 1=((i+1:Nat):Int):=by rw[Ag (by omega) (by omega)];omega
  have hv:((unm ch m).getD (at'+(i+1)) 0-m.getD (at'+i) 0)=(unm ch m).getD (at'+i) 0:=by
   rw[Bb2 hm (by omega) (by omega),Bb2 hm (by omega) (by omega),show ch-1-i=(ch-1-(i+1))+1 by omega,unV,show ch-2-(ch-1-(i+1))=i by omega]
  rw[Ts,Ago,show((i+1:Nat):Int)-1=(i:Int) by omega,if_pos (by rw[Cx];simp),e2,e3,Bks (by omega),Aa,Bks (by omega),Aa,
   show(at':Int)+((i+1:Nat):Int)=((at'+(i+1):Nat):Int) by omega,show(at':Int)+(i:Int)=((at'+i:Nat):Int) by omega,
   Aj6 (by omega),Aa,Aj6 (by omega),Aa,Aa,if_pos (by simp;omega),if_neg (by simp;omega),Be9,hv,Awm (by omega),Aa,Be (by omega) (by omega)]
  have ih:=Bfu bk at' h1 h6 hm hl hl2 i q (by omega) (by omega)
  rw[←ih]
  congr 1
  apply Xq
  intro k _
  rw[Bool.eq_iff_iff];simp;omega
theorem Bmp{at' ch n:Nat}(ha:at' %ch=0)(hm:n %ch=0)(h:at'<n):at'+ch≤n:=by
 have d1:=Nat.div_add_mod at' ch
 have d2:=Nat.div_add_mod n ch
 rw[ha,Nat.add_zero]at d1
 rw[hm,Nat.add_zero]at d2
 have hlt:at'/ch<n/ch:=by
  rcases Nat.lt_or_ge (at'/ch) (n/ch)with h'|h'
  ·exact h'
  ·have:=Nat.mul_le_mul_left ch h';omega
 have:=Nat.mul_le_mul_left ch (show at'/ch+1≤n/ch from hlt)
 rw[Nat.mul_add]at this;omega
theorem Bhx(h1:1≤ch)(h6:ch≤6)(hm:m.length %ch=0)(hl2:m.length≤4000):∀(j at' q:Nat),at' %ch=0→at'≤m.length→m.length-at'≤j→j<q→
  Om (ch:Int) q (at':Int) (sel (fun k=>decide (k<at')) (unm ch m) m)=some (unm ch m,0)
 |j,at',q+1,ha,hle,hj,hq=>by
  have hlen:=Ati ch m
  have hl:Ac (sel (fun k=>decide (k<at')) (unm ch m) m)=(m.length:Int):=by rw[Ac,Aot,hlen]
  rw[Om,Aoc,hl]
  by_cases h:at'<m.length
  ·have hb:=Bmp ha hm h
   obtain⟨j,rfl⟩:∃k,j=k+1:=⟨j-1,by omega⟩
   have e1:Ah (Ae (at':Int) (ch:Int)-(at':Int)) 1=((ch-1:Nat):Int):=by rw[Ag (by omega) (by omega),Be (by omega) (by omega)];omega
   have e2:Ae (at':Int) (ch:Int)-(at':Int)=(ch:Int):=by rw[Ag (by omega) (by omega)];omega
   have e4:Ae (at':Int) (ch:Int)=((at'+ch:Nat):Int):=by rw[Ag (by omega) (by omega)];omega
   have hi:=Bfu ch m (Om (ch:Int) q) at' h1 h6 ha hb hl2 (ch-1) Am (by omega) (by have:=Ak;omega)
   have hrest:=Bhx h1 h6 hm hl2 j (at'+ch) q (by rw[Nat.add_mod_right,ha]) hb (by omega) (by omega)
   have hstart:Agk (Om (ch:Int) q) (ch:Int) (at':Int) (sel (fun k=>decide (k<at'∨(at'+(ch-1)≤k∧k<at'+ch))) (unm ch m) m)=some (unm ch m,0):=by
    have e6:Ah ((ch-1:Nat):Int) 1=((ch-1:Nat):Int)-1:=Be (by omega) (by omega)
    rw[Agk,Aol,Aod,e1,e6]
    exact Eq.trans hi hrest
   rw[if_pos (by rw[Af];simp;omega),show vwI (m.length:Int) (at':Int) (Ae (at':Int) (ch:Int))=some () by rw[e4,vwI,Bks];omega,Aa,e1,e2]
   have hlast:=Bb2 (m:=m) ha (show ch-1<ch by omega) (by omega)
   rw[show ch-1-(ch-1)=0 by omega,unV]at hlast
   by_cases hc:1<ch
   ·have e5:Ah ((ch-1:Nat):Int) 1=((ch-2:Nat):Int):=by rw[Be (by omega) (by omega)];omega
    rw[if_pos hc]at hlast
    rw[if_pos (by rw[Aq];simp;omega),Bks (by omega),Aa,e5,Bks (by omega),Aa,show(at':Int)+((ch-1:Nat):Int)=((at'+(ch-1):Nat):Int) by omega,show(at':Int)+((ch-2:Nat):Int)=((at'+(ch-2):Nat):Int) by omega,
     Aj6 (by omega),Aa,Aj6 (by omega),Aa,Aa,if_neg (by simp),if_neg (by simp),Alx,←hlast,Awm (by omega),Aa]
    rw[←hstart]
    congr 1
    apply Xq
    intro k _
    rw[Bool.eq_iff_iff];simp;omega
   ·have hc1:ch=1:=by omega
    rw[if_neg (by rw[Aq];simp;omega),←hstart]
    congr 1
    rw[if_neg hc]at hlast
    apply List.map_congr_left
    intro k hk
    by_cases hk2:k=at'
    ·subst hk2
     rw[if_neg (by simp),if_pos (by simp;omega)]
     rw[show k+(ch-1)=k by omega]at hlast
     exact hlast.symm
    ·by_cases hk3:k<at'
     ·rw[if_pos (by simp;omega),if_pos (by simp;omega)]
     ·rw[if_neg (by simp;omega),if_neg (by simp;omega)]
  ·rw[if_neg (by rw[Af];simp;omega),Aw0 (fun k hk=>by simp;omega)]
   rfl
theorem Byc(h1:1≤ch)(h6:ch≤6)(hm:m.length %ch=0)(hl2:m.length≤4000):Aw7 (ch:Int) m=some (unm ch m,0):=by
 have hlen:=Ati ch m
 have h:=Bhx ch m h1 h6 hm hl2 m.length 0 Am (by simp) (by omega) (by omega) (by have:=Ak;omega)
 rw[Aw7,As1,Bxo ch m h1 h6 hm hl2,Aa,if_neg (by rw[Aj];simp),Di,Cr (by simp;omega),Aa,Aa,List.nil_append,Anx]
 rw[Ax6 hlen.symm (fun k _=>by simp)]at h
 exact h
end
def Azr(f:Nat→Int32)(ch:Nat):List Int32:=(List.range ch).map fun i=>unV f ch (ch-1-i)
theorem Amz(f:Nat→Int32)(ch:Nat):(Azr f ch).length=ch:=by simp[Azr]
theorem Axo(f:Nat→Int32){ch i:Nat}(h:i<ch):(Azr f ch).getD i 0=unV f ch (ch-1-i):=by
 rw[Ks (by rw[Amz];exact h)];simp[Azr]
theorem Bvg(a b:Int32):Bw (Ah (Ad a:Int) (Ad b:Int))=some (a-b):=by
 have:=Aax a
 have:=Aax b
 rw[Ef,Ef,Be (by omega) (by omega),Bbp,Int32.ofInt_sub,Int32.ofInt_toInt,Int32.ofInt_toInt]
theorem Bsh(a b:Int32):Bw (Ae (Ad a:Int) (Bj (Ad b:Int) (2:Int)))=some (a+Bj b (2:Int32)):=by
 have:=Aax a
 have hb:=Aax b
 have hd: -2147483648≤b.toInt.tdiv 2∧b.toInt.tdiv 2≤2147483648:=by
  rw[Int.tdiv_eq_ediv,show Int.sign 2=1 from rfl]
  by_cases h:0≤b.toInt∨2∣b.toInt
  ·rw[if_pos h];omega
  ·rw[if_neg h];omega
 have e:Bj b (2:Int32)=Int32.ofInt (b.toInt.tdiv 2):=rfl
 rw[Ef,Ef,Aft,Bq (by omega) (by omega),Ag (by omega) (by omega),Bbp,Int32.ofInt_add,Int32.ofInt_toInt,e]
theorem Ayc(seg z:List Int32)(ch:Nat)(h6:ch≤6)(hs:seg.length=ch)(hz:z.length=ch):∀(i q:Nat),i+1≤ch→i<q→
  Fx seg q ((i:Int)-1) (sel (fun k=>decide (i≤k)) (Azr (fun i=>seg.getD i 0) ch) z)=some (Azr (fun i=>seg.getD i 0) ch)
 |0,q+1,hi,_=>by
  rw[Fx,Nf,if_neg (by rw[Cx];simp),Aw0 (fun k hk=>by simp)];rfl
 |i+1,q+1,hi,hq=>by
  have hlen:=Amz (fun i=>seg.getD i 0) ch
  have e3:Ae (i:Int) 1=((i+1:Nat):Int):=by rw[Ag (by omega) (by omega)];omega
  have hv:(Azr (fun i=>seg.getD i 0) ch).getD (i+1) 0-seg.getD i 0=(Azr (fun i=>seg.getD i 0) ch).getD i 0:=by
   rw[Axo _ (by omega),Axo _ (by omega),show ch-1-i=(ch-1-(i+1))+1 by omega,unV,show ch-2-(ch-1-(i+1))=i by omega]
  rw[Fx,Nf,show((i+1:Nat):Int)-1=(i:Int) by omega,if_pos (by rw[Cx];simp),e3,Aj6 (by omega),Aa,g32 (by omega),Aa,Aa,if_pos (by simp),Bvg,Aa,Aj6 (by omega),Aa,hv,Awm (by omega),Aa,Be (by omega) (by omega)]
  have ih:=Ayc seg z ch h6 hs hz i q (by omega) (by omega)
  rw[←ih]
  congr 1
  apply Xq
  intro k _
  rw[Bool.eq_iff_iff];simp;omega
theorem Blw{l:List Int32}{i:Nat}(v:Int32)(h:i<l.length):(l.set i v).getD i 0=v:=by
 rw[Ks (by rw[List.length_set];exact h)];simp
theorem Bon(seg:List Int32)(ch:Nat)(h1:1≤ch)(h6:ch≤6)(hs:seg.length=ch):Rz seg=some (Azr (fun i=>seg.getD i 0) ch):=by
 have hlen:=Amz (fun i=>seg.getD i 0) ch
 have hzl:(List.replicate ch (0:Int32)).length=ch:=by simp
 have e1:Ah (Ac seg) 1=((ch-1:Nat):Int):=by rw[Ac,hs,Be (by omega) (by omega)];omega
 have e2:Ah (Ac seg) 2=((ch-1:Nat):Int)-1:=by rw[Ac,hs,Be (by omega) (by omega)];omega
 have hlast:=Axo (fun i=>seg.getD i 0) (show ch-1<ch by omega)
 rw[show ch-1-(ch-1)=0 by omega,unV]at hlast
 have hend:∀z:List Int32,z.length=ch→z.getD (ch-1) 0=(Azr (fun i=>seg.getD i 0) ch).getD (ch-1) 0→Ng seg z=some (Azr (fun i=>seg.getD i 0) ch):=by
  intro z hz hzl
  have h:=Ayc seg z ch h6 hs hz (ch-1) Am (by omega) (by have:=Ak;omega)
  have e:sel (fun k=>decide (ch-1≤k)) (Azr (fun i=>seg.getD i 0) ch) z=z:=by
   apply List.ext_getElem (by rw[Aot,hlen,hz])
   intro k k1 k2
   rw[Xp]
   by_cases hk:ch-1≤k
   ·obtain rfl:k=ch-1:=by omega
    rw[if_pos (by simp),←hzl,Ks k2]
   ·rw[if_neg (by simpa using hk),Ks k2]
  rw[e]at h
  rw[Ng,Xx,e2]
  exact h
 rw[Rz,Xa,Ac,hs,Az4 (by omega) (by omega),Aa,Br (by rw[Az];simp),Aa]
 rw[Ac,hs]at e1
 rw[Ac,hs]at e2
 have hz1:(List.replicate (Int.toNat (ch:Int)) (0:Int32)).length=ch:=by simp
 have hs1:=g32 (l:=seg) (k:=ch-1) (by omega)
 rw[e1,hs1,Aa,g32 (by omega),Aa,Tx _ (by omega),Aa]
 by_cases hc:1<ch
 ·rw[if_pos hc]at hlast
  have e3:((ch-1:Nat):Int)-1=((ch-2:Nat):Int):=by omega
  have hs2:=g32 (l:=seg) (k:=ch-2) (by omega)
  rw[if_pos (by rw[Aq];simp;omega),Aa,e2,e3,hs2,Aa,Bsh,Aa,g32 (by rw[List.length_set];omega),Aa,Tx _ (by rw[List.length_set];omega),Aa]
  refine hend _ (by simp) ?_
  rw[hlast,Blw _ (by rw[List.length_set];omega)]
 ·rw[if_neg hc]at hlast
  rw[if_neg (by rw[Aq];simp;omega)]
  refine hend _ (by simp) ?_
  rw[hlast,Blw _ (by omega)]
theorem Bx8(ch:Nat)(m:List Int32)(h1:1≤ch)(h6:ch≤6)(hm:m.length %ch=0)(hl2:m.length≤4000):Od (ch:Int) m=some 0:=by
 rw[Od,if_neg (by simp[Af,Aq];omega),if_neg (by rw[Aq,Ac];simp;omega),Br (by rw[Aj];simp;omega),Aa,if_neg]
 rw[Aq,Fb,Ac,←Int.ofNat_tmod,hm];simp
theorem Bbc(ch:Nat)(m:List Int32)(h1:1≤ch)(h6:ch≤6)(hm:m.length %ch=0)(hl2:m.length≤4000):∀(j at' q:Nat),at' %ch=0→at'≤m.length→m.length-at'≤j→j<q→
  Ll (ch:Int) m q (at':Int) ((unm ch m).take at')=some (unm ch m,0)
 |j,at',q+1,ha,hle,hj,hq=>by
  have hlen:=Ati ch m
  rw[Ll,Aey]
  by_cases h:at'<m.length
  ·have hb:=Bmp ha hm h
   have e4:Ae (at':Int) (ch:Int)=((at'+ch:Nat):Int):=by rw[Ag (by omega) (by omega)];omega
   have hrest:=Bbc ch m h1 h6 hm hl2 (j-1) (at'+ch) q (by rw[Nat.add_mod_right,ha]) hb (by omega) (by omega)
   have hseg:((m.take (at'+ch)).drop at').length=ch:=by simp;omega
   have htl:((unm ch m).take at').length=at':=by simp[hlen];omega
   rw[if_pos (by rw[Af,Ac];simp;omega),e4,Py (by omega) (by omega) (by omega),Aa,show((at'+ch:Nat):Int).toNat=at'+ch from rfl,show(at':Int).toNat=at' from rfl,Bon _ ch h1 h6 hseg,Aa,Cr (by rw[htl,Amz];omega),Aa]
   have e:(unm ch m).take at'++Azr (fun i=>((m.take (at'+ch)).drop at').getD i 0) ch=(unm ch m).take (at'+ch):=by
    apply List.ext_getElem (by rw[List.length_append,htl,Amz,List.length_take,hlen];omega)
    intro k k1 k2
    rw[List.length_take,hlen]at k2
    rw[List.getElem_append,List.getElem_take]
    by_cases hk:k<at'
    ·rw[dif_pos (by rw[htl];exact hk),List.getElem_take]
    ·rw[dif_neg (by rw[htl];exact hk)]
     have hu:=Bb2 (m:=m) ha (show k-at'<ch by omega) (by omega)
     rw[show at'+(k-at')=k by omega,Ks (by omega)]at hu
     have hx:∀n,n≤ch→unV (fun i=>((m.take (at'+ch)).drop at').getD i 0) ch n=unV (fun i=>m.getD (at'+i) 0) ch n:=by
      have hf:∀i,i<ch→((m.take (at'+ch)).drop at').getD i 0=m.getD (at'+i) 0:=by
       intro i hi
       rw[Ks (by omega),Ks (by omega)];simp
      intro n
      induction n with
      |zero=>
       intro _;rw[unV,unV,hf _ (by omega)];split
       ·rw[hf _ (by omega)]
       ·rfl
      |succ n ih=>intro hn;rw[unV,unV,ih (by omega),hf _ (by omega)]
     have hy:=Axo (fun i=>((m.take (at'+ch)).drop at').getD i 0) (show k-at'<ch by omega)
     rw[Ks (by rw[Amz];omega)]at hy
     rw[hu,←hx _ (by omega),←hy]
     congr 1
     rw[htl]
   rw[e]
   exact hrest
  ·rw[if_neg (by rw[Af,Ac];simp;omega),List.take_of_length_le (by omega)];rfl
theorem Bt5(ch:Nat)(m:List Int32)(h1:1≤ch)(h6:ch≤6)(hm:m.length %ch=0)(hl2:m.length≤4000):Aa2 (ch:Int) m=some (unm ch m,0):=by
 have h:=Bbc ch m h1 h6 hm hl2 m.length 0 Am (by simp) (by omega) (by omega) (by have:=Ak;omega)
 rw[Aa2,Ae1,Bx8 ch m h1 h6 hm hl2,Aa,if_neg (by rw[Aj];simp)]
 exact h
end Go.Pl
set_option linter.unusedVariables false
set_option linter.unusedSimpArgs false
namespace Go.Pl
open Go Go.Lv
def pre{α:Type}(ch c:Nat)(f:α→Nat→α)(a0:α):Nat→α
 |0=>a0
 |m+1=>if m %ch=c then f (pre ch c f a0 m) m else pre ch c f a0 m
theorem Bqn{α:Type}(ch c:Nat)(f:α→Nat→α)(a0:α):∀m,m≤c→c<ch→pre ch c f a0 m=a0
 |0,_,_=>rfl
 |m+1,h,h2=>by rw[pre,if_neg (by rw[Nat.mod_eq_of_lt (by omega)];omega),Bqn ch c f a0 m (by omega) h2]
theorem Bl7{α:Type}(ch c i:Nat)(f:α→Nat→α)(a0:α)(hi:i %ch=c)(hc:c<ch):∀j,j<ch→pre ch c f a0 (i+1+j)=pre ch c f a0 (i+1)
 |0,_=>rfl
 |j+1,h=>by
  have hne:(i+1+j) %ch≠c:=by
   intro e
   have h1:(i+(1+j)) %ch=i %ch:=by rw[hi,←e];congr 1;omega
   have h2:(1+j) %ch=0:=by
    have h3:=Nat.sub_mod_eq_zero_of_mod_eq h1
    rwa [Nat.add_sub_cancel_left]at h3
   rw[Nat.mod_eq_of_lt (by omega)]at h2;omega
  rw[show i+1+(j+1)=(i+1+j)+1 by omega,pre,if_neg hne,Bl7 ch c i f a0 hi hc j (by omega)]
theorem Bw9{α:Type}(ch c i:Nat)(f:α→Nat→α)(a0:α)(hi:i %ch=c)(hc:c<ch):pre ch c f a0 (i+ch)=f (pre ch c f a0 i) i:=by
 have h:=Bl7 ch c i f a0 hi hc (ch-1) (by omega)
 rw[show i+1+(ch-1)=i+ch by omega]at h
 rw[h,pre,if_pos hi]
abbrev CS:=Int32×List Int32×List Int32
def Bxn(bits:Int)(s:CS)(y:Int32):Int32:=y+gF (sB bits) s.2.1 s.2.2+gs (shB bits) s.1
def Bre(bits:Int)(s:CS)(y:Int32):CS:=(Bxn bits s y,lrn s.2.1 s.2.2 y,(y+gF (sB bits) s.2.1 s.2.2)::s.2.2.take 15)
def cst(bits:Int)(ch:Nat)(t:List Int32)(v:List UInt32)(c:Nat):Nat→CS:=pre ch c (fun s i=>Bre bits s (Apq (v.getD i 0))) (0,t,List.replicate 16 0)
def OkC(bits:Int)(s:CS):Prop:=OkF (sB bits) s.2.1 s.2.2
theorem Boi(bits:Int)(ch:Nat){t:List Int32}(ht:t.length=16)(v:List UInt32)(c:Nat):∀m,OkC bits (cst bits ch t v c m)
 |0=>⟨Ceu bits,ht,by simp[cst,pre]⟩
 |m+1=>by
  have ih:=Boi bits ch ht v c m
  rw[cst,pre]
  split
  ·exact Bwq ih _ _
  ·exact ih
def smp(bits:Int)(ch:Nat)(t:List Int32)(v:List UInt32):List Int32:=(List.range v.length).map fun i=>Bxn bits (cst bits ch t v (i %ch) i) (Apq (v.getD i 0))
theorem Atm(bits:Int)(ch:Nat)(t:List Int32)(v:List UInt32):(smp bits ch t v).length=v.length:=by simp[smp]
theorem Bru(bits:Int)(ch:Nat)(t:List Int32)(v:List UInt32){i:Nat}(h:i<v.length):(smp bits ch t v).getD i 0=Bxn bits (cst bits ch t v (i %ch) i) (Apq (v.getD i 0)):=by
 rw[Ks (by rw[Atm];exact h)];simp[smp]
abbrev CL:=Int×Int32×(Int×(List Int32)×(List Int32)×Unit)×Unit
def toC(bits:Int)(s:CS):CL:=(bits,s.1,(sB bits,s.2.1,s.2.2,()),())
def cts(bits:Int)(ch:Nat)(t:List Int32)(v:List UInt32)(i:Nat):List CL:=(List.range 6).map fun c=>toC bits (cst bits ch t v c i)
theorem Byn{bits:Int}{ch:Nat}{t:List Int32}{v:List UInt32}{i c:Nat}(h:c<6):getI (cts bits ch t v i) (c:Int)=some (toC bits (cst bits ch t v c i)):=by
 rw[Cf (by simp[cts];exact h)];simp[cts]
theorem Bml(bits:Int)(ch:Nat)(t:List Int32)(v:List UInt32)(c m:Nat):cst bits ch t v c (m+1)=if m %ch=c then Bre bits (cst bits ch t v c m) (Apq (v.getD m 0))else cst bits ch t v c m:=rfl
theorem Byw{bits:Int}{ch:Nat}{t:List Int32}{v:List UInt32}{i c:Nat}(h:c<6)(hc:i %ch=c):Iv (cts bits ch t v i) (c:Int) (toC bits (Bre bits (cst bits ch t v c i) (Apq (v.getD i 0))))=some (cts bits ch t v (i+1)):=by
 rw[Tx _ (by simp[cts];exact h)]
 congr 1
 apply List.ext_getElem (by simp[cts])
 intro k h1 h2
 rw[List.getElem_set]
 simp only[cts,List.getElem_map,List.getElem_range]
 by_cases hk:c=k
 ·subst hk;rw[if_pos rfl,Bml,if_pos hc]
 ·rw[if_neg hk,Bml,if_neg (by omega)]
section
variable {bits:Int} {ch:Nat} {t:List Int32} {v:List UInt32}
theorem Bn1(hb:Cm bits)(ht:t.length=16)(h1:1≤ch)(h6:ch≤6)(hv:v.length≤4000):∀(j i q:Nat),i+j=v.length→j<q→
  Gs v (ch:Int) bits q (i:Int) (cts bits ch t v i) ((smp bits ch t v).take i)=Iz (ch:Int) bits (smp bits ch t v)
 |0,i,q+1,hi,_=>by
  rw[Gs,Iy,if_neg (by rw[Af,Ac];simp;omega),List.take_of_length_le (by rw[Atm];omega)]
 |j+1,i,q+1,hi,hq=>by
  have hlen:=Atm bits ch t v
  have hc:i %ch<6:=Nat.lt_of_lt_of_le (Nat.mod_lt _ (by omega)) h6
  have hok:=Boi bits ch ht v (i %ch) i
  have hs:=Byw (bits:=bits) (ch:=ch) (t:=t) (v:=v) (i:=i) hc rfl
  have hx:=Bru bits ch t v (i:=i) (by omega)
  have hcb:=Bsv hb hok (cst bits ch t v (i %ch) i).1 (Apq (v.getD i 0))
  have ih:=Bn1 hb ht h1 h6 hv j (i+1) q (by omega) (by omega)
  rw[Amu (by omega),←Ks (by omega),hx]at ih
  rw[Gs,Iy,if_pos (by rw[Af,Ac];simp;omega),Bep (by omega),Aa,Br (by rw[Aj];simp;omega),Aa,Av5,Byn hc,Aa,Aa,Bwr,Aa]
  refine Eq.trans (congrArg (fun o=>Option.bind o _) hcb) ?_
  rw[Aa]
  simp only
  rw[Uc,Agd,if_neg (by rw[Aj];simp),Av5]
  refine Eq.trans (congrArg (fun o=>Option.bind o _) hs) ?_
  rw[Aa,Cr (by simp;omega),Aa,Ag (by omega) (by omega)]
  exact ih
theorem Bss(hb:Cm bits)(ht:t.length=16)(h1:1≤ch)(h6:ch≤6)(hv:v.length≤4000):Ou (ch:Int) bits t v=Iz (ch:Int) bits (smp bits ch t v):=by
 have h:=Bn1 hb ht h1 h6 hv v.length 0 Am (by omega) (by have:=Ak;omega)
 have e:Am=(Am-7)+1+1+1+1+1+1+1:=by have:=Ak;omega
 have hs:Mj v (ch:Int) bits t 0 (List.replicate 6 ((0:Int),(0:Int32),((0:Int),(List.replicate 16 (0:Int32)),(List.replicate 16 (0:Int32)),()),()))=Up v (ch:Int) bits (cts bits ch t v 0):=by
  rw[Mj,e]
  obtain rfl|rfl|rfl:=hb<;>rfl
 rw[Ou,Wt,hs]
 exact h
theorem Bgi(bk:Int→List Int32→Option (List Int32))(hb:Cm bits)(ht:t.length=16)(h1:1≤ch)(h6:ch≤6)(hv:v.length≤4000)(z:List Int32)(c:Nat)(hc:c<ch):∀(j i q:Nat),i %ch=c→v.length-i≤j→i≤5000→j<q→
  Ik bk v (ch:Int) bits t (c:Int) q (i:Int) (sel (fun k=>decide (k %ch<c∨(k %ch=c∧k<i))) (smp bits ch t v) z) bits (cst bits ch t v c i).1 (sB bits) (cst bits ch t v c i).2.1 (cst bits ch t v c i).2.2=
   bk ((c+1:Nat):Int) (sel (fun k=>decide (k %ch<c+1)) (smp bits ch t v) z)
 |j,i,q+1,hi,hj,hi5,hq=>by
  have hlen:=Atm bits ch t v
  rw[Ik,Xt]
  by_cases h:i<v.length
  ·have hok:=Boi bits ch ht v c i
   have hst:=Btg hb hok (cst bits ch t v c i).1 (Apq (v.getD i 0))
   have hx:=Bru bits ch t v (i:=i) h
   rw[hi]at hx
   have ih:=Bgi bk hb ht h1 h6 hv z c hc (j-1) (i+ch) q (by rw[Nat.add_mod_right];exact hi) (by omega) (by omega) (by omega)
   have hstep:cst bits ch t v c (i+ch)=Bre bits (cst bits ch t v c i) (Apq (v.getD i 0)):=Bw9 ch c i _ _ hi hc
   rw[hstep]at ih
   have hset:=Awm (p:=fun k=>decide (k %ch<c∨(k %ch=c∧k<i))) (a:=smp bits ch t v) (b:=z) (k:=i) (by omega)
   rw[hx]at hset
   have hcong:sel (fun j=>decide (j %ch<c∨(j %ch=c∧j<i))||decide (j=i)) (smp bits ch t v) z=sel (fun k=>decide (k %ch<c∨(k %ch=c∧k<i+ch))) (smp bits ch t v) z:=by
    apply Xq
    intro k _
    rw[Bool.eq_iff_iff]
    simp only[Bool.or_eq_true,decide_eq_true_eq]
    constructor
    ·rintro((h1|h1)|h1)
     ·exact .inl h1
     ·exact .inr ⟨h1.1,by omega⟩
     ·subst h1;exact .inr ⟨hi,by omega⟩
    ·rintro(h1|⟨h1,h2⟩)
     ·exact .inl (.inl h1)
     ·by_cases h3:k<i
      ·exact .inl (.inr ⟨h1,h3⟩)
      ·refine .inr ?_
       have h4:(i+(k-i)) %ch=i %ch:=by rw[show i+(k-i)=k by omega,h1,hi]
       have h5:=Nat.sub_mod_eq_zero_of_mod_eq h4
       rw[Nat.add_sub_cancel_left,Nat.mod_eq_of_lt (by omega)]at h5
       omega
   rw[hcong]at hset
   rw[if_pos (by rw[Af,Ac];simp;omega),Bep h,Aa,Bym,Aa]
   refine Eq.trans (congrArg (fun o=>Option.bind o _) hst) ?_
   rw[Aa]
   simp only
   rw[Xr,Xn,Aj6 (by omega),Aa]
   refine Eq.trans (congrArg (fun o=>Option.bind o _) hset) ?_
   rw[Aa,Xv,Xy,Ag (by omega) (by omega)]
   exact ih
  ·rw[if_neg (by rw[Af,Ac];simp;omega),Xb,Xs,Ag (by omega) (by omega)]
   have hcong:sel (fun k=>decide (k %ch<c∨(k %ch=c∧k<i))) (smp bits ch t v) z=sel (fun k=>decide (k %ch<c+1)) (smp bits ch t v) z:=by
    apply Xq
    intro k hk
    rw[Bool.eq_iff_iff]
    simp only[decide_eq_true_eq]
    omega
   rw[hcong];rfl
theorem Bg8(hb:Cm bits)(ht:t.length=16)(h1:1≤ch)(h6:ch≤6)(hv:v.length≤4000)(z:List Int32):∀(j c q:Nat),c+j=ch→j<q→
  Ee v (ch:Int) bits t q (c:Int) (sel (fun k=>decide (k %ch<c)) (smp bits ch t v) z)=Mp (ch:Int) bits (smp bits ch t v)
 |0,c,q+1,hc,_=>by
  rw[Ee,Mo,if_neg (by rw[Af];simp;omega),Aw0 (fun k hk=>by have:=Nat.mod_lt k (show 0<ch by omega);simp;omega)]
 |j+1,c,q+1,hc,hq=>by
  have ih:=Bg8 hb ht h1 h6 hv z j (c+1) q (by omega) (by omega)
  have hin:=Bgi (Ee v (ch:Int) bits t q) hb ht h1 h6 hv z c (by omega) v.length c Am (Nat.mod_eq_of_lt (by omega)) (by omega) (by omega) (by have:=Ak;omega)
  have h0:cst bits ch t v c c=(0,t,List.replicate 16 0):=Bqn ch c _ _ c (Nat.le_refl _) (by omega)
  rw[h0]at hin
  have hcong:sel (fun k=>decide (k %ch<c∨(k %ch=c∧k<c))) (smp bits ch t v) z=sel (fun k=>decide (k %ch<c)) (smp bits ch t v) z:=by
   apply Xq
   intro k hk
   have:=Nat.mod_le k ch
   rw[Bool.eq_iff_iff]
   simp only[decide_eq_true_eq]
   omega
  rw[hcong]at hin
  rw[Ee,Mo,if_pos (by rw[Af];simp;omega),Cdv hb,Aa]
  simp only
  rw[Xm]
  exact Eq.trans hin ih
theorem Bt3(hb:Cm bits)(ht:t.length=16)(h1:1≤ch)(h6:ch≤6)(hv:v.length≤4000)(hm:v.length %ch=0):Mi (ch:Int) bits t v=some (unm ch (smp bits ch t v)):=by
 have hlen:=Atm bits ch t v
 have h:=Bg8 hb ht h1 h6 hv (List.replicate v.length 0) ch 0 Am (by omega) (by have:=Ak;omega)
 rw[Ax6 (by rw[hlen];simp) (fun k _=>by simp)]at h
 rw[Mi,Aa9,Ac,Az4 (by omega) (by omega),Aa,Br (by rw[Az];simp),Aa,Xj]
 refine Eq.trans h ?_
 rw[Mp,Ya,Bt5 ch _ h1 h6 (by rw[hlen];exact hm) (by omega),Aa]
end
def hB(bits:Int):Int:=if bits=8 then 128 else if bits=16 then 32768 else 8388608
theorem Bj1{bits:Int}(h:Cm bits):Sf bits=some (Int32.ofInt (-(hB bits)),Int32.ofInt (hB bits-1),0):=by
 obtain rfl|rfl|rfl:=h<;>decide
theorem Bc7{bits:Int}(h:Cm bits):Lq bits=some (hB bits):=by
 obtain rfl|rfl|rfl:=h<;>rfl
theorem Azk(bits:Int):0<hB bits∧hB bits≤8388608:=by
 unfold hB;split; · omega
 ·split<;>omega
theorem Bds{bits:Int}(h:Cm bits)(l:List Int32)(hl:l.length≤4000):∀(j i q:Nat),i+j=l.length→j<q→
  Mr (Int32.ofInt (-(hB bits))) (Int32.ofInt (hB bits-1)) l q (i:Int)=By l (hB bits) q (i:Int)
 |0,i,q+1,hi,_=>by
  rw[Mr,Zj,By,Fj,if_neg (by rw[Af,Ac];simp;omega),if_neg (by rw[Af,Ac];simp;omega)];rfl
 |j+1,i,q+1,hi,hq=>by
  have hh:=Azk bits
  have ih:=Bds h l hl j (i+1) q (by omega) (by omega)
  have e1:(Int32.ofInt (-(hB bits))).toInt= -(hB bits):=by rw[Int32.toInt_ofInt,Int.bmod_eq_of_le (by show -(4294967296/2:Int)≤_;omega) (by show _<(4294967296+1)/2;omega)]
  have e2:(Int32.ofInt (hB bits-1)).toInt=hB bits-1:=by rw[Int32.toInt_ofInt,Int.bmod_eq_of_le (by show -(4294967296/2:Int)≤_;omega) (by show _<(4294967296+1)/2;omega)]
  rw[Mr,Zj,By,Fj,if_pos (by rw[Af,Ac];simp;omega),if_pos (by rw[Af,Ac];simp;omega),g32 (by omega),Aa,Aa,Aa,Ef,Bok,Bq (by omega) (by omega),Ag (by omega) (by omega),Bjw,Bos,e1,e2,Af,Cx]
  generalize(l.getD i 0).toInt=X
  by_cases h1:X< -(hB bits)
  ·rw[if_pos (by simp;omega),if_pos (by simp;omega)]
  ·rw[if_neg (c:=decide (X<0-hB bits)=true) (by simp;omega)]
   by_cases h2:hB bits≤X
   ·rw[if_pos (by simp;omega),if_pos (by simp;omega)]
   ·rw[if_neg (by simp;omega),if_neg (by simp;omega)];exact ih
theorem Bcx{bits:Int}(h:Cm bits)(l:List Int32)(hl:l.length≤4000):Ta bits l=cadenzaref18_Check bits l:=by
 have hh:=Azk bits
 rw[Ta,Ahc,Bj1 h,Aa,cadenzaref18_Check,Kl,Bc7 h,Aa]
 simp only
 rw[if_neg (by rw[Aj];simp),if_neg (by rw[Aq,Ac];simp;omega),if_neg (by rw[Az];simp;omega),if_neg (by rw[Aq,Ac];simp;omega)]
 exact Bds h l hl l.length 0 Am (by omega) (by have:=Ak;omega)
theorem Boa{bits:Int}(h:Cm bits)(l:List Int32)(hl:l.length≤4000):∃e,cadenzaref18_Check bits l=some e:=by
 have hh:=Azk bits
 have key:∀(j i q:Nat),i+j=l.length→j<q→∃e,By l (hB bits) q (i:Int)=some e:=by
  intro j
  induction j with
  |zero=>
   intro i q hi hq
   obtain⟨q,rfl⟩:∃k,q=k+1:=⟨q-1,by omega⟩
   rw[By,Fj,if_neg (by rw[Af,Ac];simp;omega)]
   exact⟨_,rfl⟩
  |succ j ih=>
   intro i q hi hq
   obtain⟨q,rfl⟩:∃k,q=k+1:=⟨q-1,by omega⟩
   rw[By,Fj,if_pos (by rw[Af,Ac];simp;omega),g32 (by omega),Aa,Aa,Ag (by omega) (by omega)]
   split
   ·exact⟨_,rfl⟩
   ·split
    ·exact⟨_,rfl⟩
    ·exact ih (i+1) q (by omega) (by omega)
 obtain⟨e,he⟩:=key l.length 0 Am (by omega) (by have:=Ak;omega)
 rw[cadenzaref18_Check,Kl,Bc7 h,Aa,if_neg (by rw[Az];simp;omega),if_neg (by rw[Aq,Ac];simp;omega)]
 exact⟨e,he⟩
theorem Bj5{bits:Int}{ch:Nat}{t:List Int32}{v:List UInt32}(hb:Cm bits)(ht:t.length=16)(h1:1≤ch)(h6:ch≤6)(hv:v.length≤4000)(hm:v.length %ch=0):
  ∃l e,Mi (ch:Int) bits t v=some l∧Ul (ch:Int) bits l=some (if e≠0 then([],e)else(l,0))∧Ou (ch:Int) bits t v=some (if e≠0 then([],e)else(l,0))∧cadenzaref18_Check bits l=some e∧l.length=v.length:=by
 have hlen:=Atm bits ch t v
 have hul:=Ati ch (smp bits ch t v)
 obtain⟨e,he⟩:=Boa hb (unm ch (smp bits ch t v)) (by omega)
 refine⟨unm ch (smp bits ch t v),e,Bt3 hb ht h1 h6 hv hm,?_,?_,he,by omega⟩
 ·rw[Ul,he,Aa]
  by_cases h:e=0
  ·rw[if_neg (by rw[Aj];simpa using h),if_neg (by simpa using h)]
  ·rw[if_pos (by rw[Aj];simpa using h),if_pos h]
 ·rw[Bss hb ht h1 h6 hv,Iz,Agf,Byc ch _ h1 h6 (by rw[hlen];exact hm) (by omega),Aa]
  simp only
  rw[if_neg (by rw[Aj];simp),Bcx hb _ (by omega),he,Aa]
  by_cases h:e=0
  ·rw[if_neg (by rw[Aj];simpa using h),if_neg (by simpa using h)]
  ·rw[if_pos (by rw[Aj];simpa using h),if_pos h]
end Go.Pl
set_option linter.unusedVariables false
set_option linter.unusedSimpArgs false
namespace Go.Pl
open Go Go.Lv
def Aq0(s:Nat):Nat:=(s/2)^^^ (if s %2=1 then 3988292384 else 0)
theorem Bdz{s:Nat}(h:s<4294967296):Aq0 s<4294967296:=by
 unfold Aq0
 exact Nat.xor_lt_two_pow (n:=32) (by simp;omega) (by split<;>decide)
theorem Blm(x y:Nat):(x^^^y)/2=(x/2)^^^ (y/2):=by
 have:=Nat.shiftRight_xor_distrib (a:=x) (b:=y) (i:=1)
 simpa [Nat.shiftRight_eq_div_pow]using this
theorem Bue(x y:Nat):Aq0 (x^^^y)=Aq0 x^^^Aq0 y:=by
 have h:(x^^^y) %2=(x %2+y %2) %2:=by
  have:=Nat.xor_mod_two_eq_one (a:=x) (b:=y)
  have h1:(x^^^y) %2<2:=Nat.mod_lt _ (by omega)
  omega
 simp only[Aq0,Blm,h]
 have hx:x %2=0∨x %2=1:=by omega
 have hy:y %2=0∨y %2=1:=by omega
 rcases hx with hx|hx<;>rcases hy with hy|hy<;>simp only[hx,hy]<;>simp
 ·rw[Nat.xor_assoc]
 ·rw[Nat.xor_assoc,Nat.xor_comm (y/2),Nat.xor_assoc,Nat.xor_comm 3988292384 (y/2)]
 ·rw[Nat.xor_assoc,Nat.xor_comm 3988292384,Nat.xor_assoc,Nat.xor_self];simp
def Tu:Nat→Nat→Nat
 |0,s=>s
 |k+1,s=>Tu k (Aq0 s)
theorem Bh5:∀(k x y:Nat),Tu k (x^^^y)=Tu k x^^^Tu k y
 |0,_,_=>rfl
 |k+1,x,y=>by rw[Tu,Bue,Bh5 k];rfl
theorem Bgl:∀(k h:Nat),Tu k (2^k*h)=h
 |0,h=>by simp[Tu]
 |k+1,h=>by
  have:Aq0 (2^(k+1)*h)=2^k*h:=by
   rw[Nat.pow_succ,Nat.mul_comm (2^k) 2,Nat.mul_assoc,Aq0,if_neg (by omega),Nat.mul_div_cancel_left _ (by omega)];simp
  rw[Tu,this,Bgl k]
theorem Bfw:∀(k:Nat) {s:Nat},s<4294967296→Tu k s<4294967296
 |0,_,h=>h
 |k+1,_,h=>Bfw k (Bdz h)
def Az3(s c:Nat):Nat:=Tu 8 (s^^^c)
theorem Ber{s c:Nat}(h:s<4294967296)(hc:c<256):Az3 s c<4294967296:=Bfw 8 (Nat.xor_lt_two_pow (n:=32) (by simpa using h) (by simp;omega))
theorem Bk7{s c:Nat}(hc:c<256):Az3 s c=(s/256)^^^Tu 8 ((s %256)^^^c):=by
 have h:s=(2^8*(s/256))^^^ (s %256):=by
  have h1:s %256<2^8:=by simpa using Nat.mod_lt s (by omega:256>0)
  have:=Nat.two_pow_add_eq_or_of_lt h1 (s/256)
  have h2:2^8*(s/256)|||s %256=(2^8*(s/256))^^^ (s %256):=by
   apply Nat.eq_of_testBit_eq;intro i
   rw[Nat.testBit_or,Nat.testBit_xor]
   by_cases hi:i<8
   ·have:(2^8*(s/256)).testBit i=false:=by rw[Nat.testBit_two_pow_mul];simp;omega
    rw[this];simp
   ·have:(s %256).testBit i=false:=Nat.testBit_lt_two_pow (Nat.lt_of_lt_of_le h1 (Nat.pow_le_pow_right (by omega) (by omega)))
    rw[this];simp
  omega
 rw[Az3]
 conv=>lhs;rw[h]
 rw[Nat.xor_assoc,Bh5,Bgl]
def Btd(s:Nat)(l:List UInt8):Nat:=l.foldl (fun s c=>Az3 s c.toNat) s
def Gj(b:List UInt8):UInt32:=4294967295-UInt32.ofNat (Btd 4294967295 b)
theorem Byt(s:UInt32)(c:Nat)(hc:c<256):Abf s (Ad (Yd (UInt8.ofNat c) (2:UInt8)):Int)=some (UInt32.ofNat (s.toNat/2^^^ (if(s.toNat^^^c) %2=1 then 3988292384 else 0))):=by
 have h1:(Ad (Yd (UInt8.ofNat c) (2:UInt8)):Int)=((c %2:Nat):Int):=by
  rw[Ac8,Caw,UInt8.toNat_mod,UInt8.toNat_ofNat']
  show((c %256 %2:Nat):Int)=_
  omega
 have h2:geq (Yd s (2:UInt32)) (1:UInt32)=decide (s.toNat %2=1):=by
  rw[Bjs,Bk2,Bool.eq_iff_iff]
  simp only[beq_iff_eq,decide_eq_true_eq]
  rw[←UInt32.toNat_inj,UInt32.toNat_mod];rfl
 have h3:Bj s (2:UInt32)=UInt32.ofNat (s.toNat/2):=by
  apply UInt32.toNat_inj.1
  rw[Bkg,UInt32.toNat_div,UInt32.toNat_ofNat']
  show s.toNat/2=_
  have:=s.toNat_lt
  omega
 have h4:Tn (Bj s (2:UInt32)) (3988292384:UInt32)=UInt32.ofNat (s.toNat/2^^^3988292384):=by
  apply UInt32.toNat_inj.1
  rw[h3,Axl,UInt32.toNat_xor,UInt32.toNat_ofNat',UInt32.toNat_ofNat']
  have:=s.toNat_lt
  rw[Nat.mod_eq_of_lt (a:=s.toNat/2) (by omega),Nat.mod_eq_of_lt]
  ·rfl
  ·exact Nat.xor_lt_two_pow (n:=32) (by omega) (by decide)
 have hx:(s.toNat^^^c) %2=(s.toNat %2+c %2) %2:=by
  have:=Nat.xor_mod_two_eq_one (a:=s.toNat) (b:=c)
  have h1:(s.toNat^^^c) %2<2:=Nat.mod_lt _ (by omega)
  omega
 have hs:s.toNat %2=0∨s.toNat %2=1:=by omega
 have hc2:c %2=0∨c %2=1:=by omega
 rw[Abf,Aex,h1,h2,hx]
 rcases hs with hs|hs<;>rcases hc2 with hc2|hc2<;>simp[hs,hc2,Az,Ae4,Aeo,Axl,h3]
theorem Az7:∀(j i q:Nat) (s:UInt32) (c:Nat),i+j=8→j<q→c<2^j→Ic q s (UInt8.ofNat c) (i:Int)=some (UInt32.ofNat (Tu j (s.toNat^^^c)))
 |0,i,q+1,s,c,hi,_,hc=>by
  obtain rfl:i=8:=by omega
  obtain rfl:c=0:=by simpa using hc
  rw[Ic,Sa,if_neg (by rw[Af];simp),Afa,Adv,Tu]
  simp
 |j+1,i,q+1,s,c,hi,hq,hc=>by
  have hc8:c<256:=Nat.lt_of_lt_of_le hc (show 2^(j+1)≤2^8 from Nat.pow_le_pow_right (by omega) (by omega))
  rw[Ic,Sa,if_pos (by rw[Af];simp;omega),Byt s c hc8,Aa,Ag (by omega) (by omega)]
  have e:Bj (UInt8.ofNat c) (2:UInt8)=UInt8.ofNat (c/2):=by
   apply UInt8.toNat_inj.1
   rw[Byo,UInt8.toNat_div,UInt8.toNat_ofNat',UInt8.toNat_ofNat']
   show c %256/2=_
   omega
  rw[e]
  have h:=Az7 j (i+1) q (UInt32.ofNat (s.toNat/2^^^ (if(s.toNat^^^c) %2=1 then 3988292384 else 0))) (c/2) (by omega) (by omega) (by rw[Nat.pow_succ]at hc;omega)
  rw[show((i:Int)+1)=((i+1:Nat):Int) by omega,h,UInt32.toNat_ofNat',Tu]
  congr 3
  have:=s.toNat_lt
  rw[Nat.mod_eq_of_lt,Aq0,Blm,Nat.xor_assoc,Nat.xor_assoc,Nat.xor_comm (c/2)]
  exact Nat.xor_lt_two_pow (n:=32) (by omega) (by split<;>decide)
theorem Bz9(s:UInt32)(c:UInt8):Aju s c=some (UInt32.ofNat (Az3 s.toNat c.toNat)):=by
 have h:=Az7 8 0 Am s c.toNat (by omega) (by have:=Ak;omega) (by simpa using c.toNat_lt)
 rw[UInt8.ofNat_toNat]at h
 exact h
theorem Aub(b:List UInt8)(hb:b.length<4611686018427387904):∀(j i q:Nat) (s:UInt32),i+j=b.length→j<q→Gh b q s (i:Int)=some (UInt32.ofNat (Btd s.toNat (b.drop i)))
 |0,i,q+1,s,hi,_=>by
  rw[Gh,Oj,if_neg (by rw[Af,Ac];simp;omega),show i=b.length by omega,List.drop_length]
  simp[Abc,Zo,Btd]
 |j+1,i,q+1,s,hi,hq=>by
  have hlt:i<b.length:=by omega
  rw[Gh,Oj,if_pos (by rw[Af,Ac];simp;omega),Cf hlt,Aa,Bz9,Aa,Ag (by omega) (by omega)]
  have h:=Aub b hb j (i+1) q (UInt32.ofNat (Az3 s.toNat b[i].toNat)) (by omega) (by omega)
  rw[show((i:Int)+1)=((i+1:Nat):Int) by omega,h,drop_cons hlt,UInt32.toNat_ofNat',Nat.mod_eq_of_lt (Ber s.toNat_lt b[i].toNat_lt)]
  rfl
theorem Bup(b:List UInt8)(hb:b.length<4611686018427387904):Ox b=some (Gj b):=by
 have h:=Aub b hb b.length 0 Am 4294967295 (by omega) (by have:=Ak;omega)
 rw[Ox,Af1,Aak,Aad,show((0:Int))=((0:Nat):Int)from rfl,h,Aa,Bmi];rfl
theorem Cak(c:UInt32):Tn (Bk c (GI.toZ (1:UInt64)).toNat) (Ay (3988292384:UInt32) (Dd c (1:UInt32)))=UInt32.ofNat (Aq0 c.toNat):=by
 apply UInt32.toNat_inj.1
 have e:(GI.toZ (1:UInt64)).toNat=1:=rfl
 have h1:(Bk c 1).toNat=c.toNat/2:=by rw[Amj]
 have h2:(Ay (3988292384:UInt32) (Dd c (1:UInt32))).toNat=if c.toNat %2=1 then 3988292384 else 0:=by
  rw[Bvh,Bl4,UInt32.toNat_mul,UInt32.toNat_and]
  show 3988292384*(c.toNat&&&1) %4294967296=_
  rw[Nat.and_one_is_mod]
  have:c.toNat %2=0∨c.toNat %2=1:=by omega
  rcases this with h|h<;>simp[h]
 rw[e,Axl,UInt32.toNat_xor,h1,h2,UInt32.toNat_ofNat',Nat.mod_eq_of_lt (Bdz c.toNat_lt)];rfl
theorem Bnw(bk16:Int→List UInt32→Option (UInt32×Int))(s:UInt32)(b:List UInt8)(x:Int)(t:List UInt32):∀(j i q:Nat) (c:UInt32),i+j=8→j<q→
  Nd bk16 s b x t q c (i:Int)=Aaw bk16 s b x (UInt32.ofNat (Tu j c.toNat)) t
 |0,i,q+1,c,hi,_=>by
  obtain rfl:i=8:=by omega
  rw[Nd,Yh,if_neg (by rw[Af];simp),Tu,UInt32.ofNat_toNat]
 |j+1,i,q+1,c,hi,hq=>by
  rw[Nd,Yh,if_pos (by rw[Af];simp;omega),Cak,Ag (by omega) (by omega),show((i:Int)+1)=((i+1:Nat):Int) by omega,Bnw bk16 s b x t j (i+1) q _ (by omega) (by omega),UInt32.toNat_ofNat',Nat.mod_eq_of_lt (Bdz c.toNat_lt)];rfl
def tbl(n:Nat):List UInt32:=(List.range n).map fun i=>UInt32.ofNat (Tu 8 i)
theorem Bp4(s:UInt32)(b:List UInt8):∀(j i q:Nat),i+j=256→j<q→Jt s b q (i:Int) (tbl i++List.replicate j 0)=Zn s b (tbl 256)
 |0,i,q+1,hi,_=>by
  obtain rfl:i=256:=by omega
  rw[Jt,Aap,if_neg (by rw[Af];simp)];simp
 |j+1,i,q+1,hi,hq=>by
  have hlen:(tbl i++List.replicate (j+1) 0).length=i+(j+1):=by simp[tbl]
  rw[Jt,Aap,if_pos (by rw[Af];simp;omega),Ail]
  have h:=Bnw (Jt s b q) s b (i:Int) (tbl i++List.replicate (j+1) 0) 8 0 Am (Ad (i:Int)) (by omega) (by have:=Ak;omega)
  rw[show((0:Int))=((0:Nat):Int)from rfl,h,Aaw,Ajg,Cf (by rw[hlen];omega),Aa,Tx _ (by rw[hlen];omega),Aa,Ahj,Arh,Ag (by omega) (by omega)]
  have e:(Ad (i:Int):UInt32).toNat=i:=by rw[Bhg,UInt32.toNat_ofNat',Nat.mod_eq_of_lt (by omega)]
  rw[e,List.replicate_succ,Ath (by simp[tbl])]
  have h2:=Bp4 s b j (i+1) q (by omega) (by omega)
  have h3:tbl (i+1)=tbl i++[UInt32.ofNat (Tu 8 i)]:=by simp[tbl,List.range_succ]
  rw[h3]at h2
  rw[show((i:Int)+1)=((i+1:Nat):Int) by omega,←h2]
  simp
theorem Cbf{i:Nat}(h:i<256):getI (tbl 256) (i:Int)=some (UInt32.ofNat (Tu 8 i)):=by
 rw[Cf (by simpa [tbl]using h)];simp[tbl]
theorem Bxs(s:UInt32)(c:UInt8):getI (tbl 256) (GI.toZ (Tn (Ad s:UInt8) c))=some (UInt32.ofNat (Tu 8 ((s.toNat %256)^^^c.toNat))):=by
 have e:GI.toZ (Tn (Ad s:UInt8) c)=(((s.toNat %256)^^^c.toNat:Nat):Int):=by
  rw[Wr,Bqg,UInt8.toNat_xor,Ava,UInt8.toNat_ofNat']
 rw[e,Cbf]
 exact Nat.xor_lt_two_pow (n:=8) (by simp;omega) (by simpa using c.toNat_lt)
theorem Btk(s:UInt32)(c:UInt8):Tn (Bk s (GI.toZ (8:UInt64)).toNat) (UInt32.ofNat (Tu 8 ((s.toNat %256)^^^c.toNat)))=UInt32.ofNat (Az3 s.toNat c.toNat):=by
 apply UInt32.toNat_inj.1
 have hlt:Tu 8 ((s.toNat %256)^^^c.toNat)<4294967296:=Bfw 8 (Nat.xor_lt_two_pow (n:=32) (by simp;omega) (by have:=c.toNat_lt;simp;omega))
 have e:(GI.toZ (8:UInt64)).toNat=8:=rfl
 rw[e,Axl,UInt32.toNat_xor,Amj,UInt32.toNat_ofNat',UInt32.toNat_ofNat',Nat.mod_eq_of_lt hlt,Nat.mod_eq_of_lt (Ber s.toNat_lt c.toNat_lt),Bk7 c.toNat_lt]
theorem Bkn(b:List UInt8)(hb:b.length<4611686018427387904):∀(j i q:Nat) (s:UInt32),i+j=b.length→j<q→Mv b (tbl 256) q s (i:Int)=some (UInt32.ofNat (Btd s.toNat (b.drop i)),0)
 |0,i,q+1,s,hi,_=>by
  rw[Mv,Zk,if_neg (by rw[Af,Ac];simp;omega),show i=b.length by omega,List.drop_length]
  simp[Ah3,Aqx,Btd]
 |j+1,i,q+1,s,hi,hq=>by
  have hlt:i<b.length:=by omega
  rw[Mv,Zk,if_pos (by rw[Af,Ac];simp;omega),Cf hlt,Aa,Bxs,Aa,Aa,Btk,Ag (by omega) (by omega)]
  have h:=Bkn b hb j (i+1) q (UInt32.ofNat (Az3 s.toNat b[i].toNat)) (by omega) (by omega)
  rw[show((i:Int)+1)=((i+1:Nat):Int) by omega,h,drop_cons hlt,UInt32.toNat_ofNat',Nat.mod_eq_of_lt (Ber s.toNat_lt b[i].toNat_lt)]
  rfl
theorem Car(s:UInt32)(b:List UInt8)(hb:b.length≤100000):An5 s b=some (UInt32.ofNat (Btd s.toNat b),0):=by
 have h:=Bp4 s b 256 0 Am (by omega) (by have:=Ak;omega)
 have h2:=Bkn b (by omega) b.length 0 Am s (by omega) (by have:=Ak;omega)
 rw[An5,Alq,if_neg (by rw[Aq,Ac];simp;omega),Ajo]
 refine Eq.trans h ?_
 rw[Zn,Ahr,Ag8,Ahv,Ah8]
 exact h2
theorem Bws(a:UInt32):Bfp a=4294967295-a:=by
 have h:=a.toNat_lt
 have e:Bfp a=UInt32.ofNat (BitVec.ofInt 32 4294967295^^^BitVec.ofInt 32 (a.toNat:Int)).toNat:=Dm _
 apply UInt32.toNat_inj.1
 rw[e,UInt32.toNat_ofNat',UInt32.toNat_sub_of_le _ _ (by rw[UInt32.le_iff_toNat_le];show a.toNat≤4294967295;omega)]
 have h1:BitVec.ofInt 32 (a.toNat:Int)=a.toBitVec:=Bij a
 have h2:(BitVec.ofInt 32 4294967295:BitVec 32)=BitVec.allOnes 32:=by decide
 rw[h1,h2,BitVec.allOnes_xor,BitVec.toNat_not]
 show(4294967296-1-a.toNat) %4294967296=4294967295-a.toNat
 omega
theorem Box(b:List UInt8)(hb:b.length≤100000):Tl b=some (Gj b,0):=by
 rw[Tl,Car _ _ hb,Aa]
 simp only[Aj,Bws]
 rfl
end Go.Pl
set_option linter.unusedVariables false
set_option linter.unusedSimpArgs false
namespace Go.Pl
open Go Go.Lv
theorem Brn:∀{l m:List UInt8},l.length=m.length→Dn l=Dn m→l=m
 |[],[],_,_=>rfl
 |x::l,y::m,h,e=>by
  simp only[Dn]at e
  have hx:=x.toNat_lt
  have hy:=y.toNat_lt
  have h1:x=y:=UInt8.toNat_inj.1 (by omega)
  rw[h1,Brn (l:=l) (m:=m) (by simpa using h) (by omega)]
theorem Bik:∀(w n:Nat),Dn (leB n w)=n %256^w
 |0,n=>by simp[leB,Dn,Nat.mod_one]
 |w+1,n=>by
  rw[leB,Dn,Bik w (n/256),UInt8.toNat_ofNat',show(256:Nat)^(w+1)=256*256^w by rw[Nat.pow_succ,Nat.mul_comm],Nat.mod_mul]
def Xu(b:List UInt8):Int:=
 if b.length<5 then 24 else if 41254<b.length then 4 else if(Gj (b.take (b.length-4))).toNat≠Dn (b.drop (b.length-4))then 22 else 0
theorem Blv(b:List UInt8):Aa3 b=some (if Xu b≠0 then([],Xu b)else(b.take (b.length-4),0)):=by
 rw[Aa3]
 by_cases h1:b.length<5
 ·have hS:Xu b=24:=by rw[Xu,if_pos h1]
  rw[if_pos (by rw[Af,Ac];simp;omega),hS];rfl
 rw[if_neg (by rw[Af,Ac];simp;omega)]
 by_cases h2:41254<b.length
 ·have hS:Xu b=4:=by rw[Xu,if_neg h1,if_pos h2]
  rw[if_pos (by rw[Aq,Ac];simp;omega),hS];rfl
 have e4:Ah (Ac b) 4=((b.length-4:Nat):Int):=by rw[Ac,Be (by omega) (by omega)];omega
 have hd:(b.drop (b.length-4)).length=4:=by simp;omega
 rw[if_neg (by rw[Aq,Ac];simp;omega),e4,Jg (by omega) (by omega),Aa,show((b.length-4:Nat):Int).toNat=b.length-4 from rfl,Box _ (by simp;omega),Aa]
 simp only
 rw[if_neg (by rw[Aj];simp),Lg (by omega) (by omega),Aa,show((b.length-4:Nat):Int).toNat=b.length-4 from rfl,Bnd _ (by omega) (by omega),Aa]
 have hne:Bb (leU (b.drop (b.length-4))) (Ad (Gj (b.take (b.length-4))):UInt64)=decide ((Gj (b.take (b.length-4))).toNat≠Dn (b.drop (b.length-4))):=by
  have hlt:=(Gj (b.take (b.length-4))).toNat_lt
  rw[Agl,Bool.eq_iff_iff]
  simp only[bne_iff_ne,ne_eq,←UInt64.toNat_inj,decide_eq_true_eq]
  rw[Aki (by omega),Gw,UInt64.toNat_ofNat',Nat.mod_eq_of_lt (by omega)]
  exact⟨fun h e=>h e.symm,fun h e=>h e.symm⟩
 simp only
 rw[hne,Aa]
 by_cases h3:(Gj (b.take (b.length-4))).toNat≠Dn (b.drop (b.length-4))
 ·have hS:Xu b=22:=by rw[Xu,if_neg h1,if_neg h2,if_pos h3]
  rw[if_pos (by simp[h3]),hS];rfl
 ·have hS:Xu b=0:=by rw[Xu,if_neg h1,if_neg h2,if_neg h3]
  rw[if_neg (by rw[decide_eq_false h3];decide),hS];rfl
theorem Bud(b:List UInt8)(hb:b.length≤1000000):Ug b=some (b++leB (Gj b).toNat 4):=by
 have h:∀k:Nat,(Ad (Bk (Gj b) k):UInt8)=UInt8.ofNat ((Gj b).toNat/2^k):=by
  intro k;rw[Ava,Amj]
 have h0:(Ad (Gj b):UInt8)=UInt8.ofNat (Gj b).toNat:=Ava _
 have h1:=h 8
 have h2:=h 16
 have h3:=h 24
 rw[Ug,Bup b (by omega),Aa,Cr (by simp;omega),Aa,Cr (by simp;omega),Aa,h0,show(GI.toZ (8:UInt64)).toNat=8 from rfl,show(GI.toZ (16:UInt64)).toNat=16 from rfl,show(GI.toZ (24:UInt64)).toNat=24 from rfl,h1,h2,h3]
 simp only[leB,Nat.div_div_eq_div_mul,List.nil_append]
theorem Bop(b:List UInt8):Mm b=some (Xu b):=by
 rw[Mm]
 by_cases h1:b.length<5
 ·rw[if_pos (by rw[Af,Ac];simp;omega),Xu,if_pos h1]
 rw[if_neg (by rw[Af,Ac];simp;omega)]
 by_cases h2:41254<b.length
 ·rw[if_pos (by rw[Aq,Ac];simp;omega),Xu,if_neg h1,if_pos h2]
 have e4:Ah (Ac b) 4=((b.length-4:Nat):Int):=by rw[Ac,Be (by omega) (by omega)];omega
 have hd:(b.drop (b.length-4)).length=4:=by simp;omega
 rw[if_neg (by rw[Aq,Ac];simp;omega),e4,Jg (by omega) (by omega),Aa,show((b.length-4:Nat):Int).toNat=b.length-4 from rfl,Bud _ (by simp;omega),Aa]
 have hlt:=(Gj (b.take (b.length-4))).toNat_lt
 have hiff:(b.take (b.length-4)++leB (Gj (b.take (b.length-4))).toNat 4 !=b)=decide ((Gj (b.take (b.length-4))).toNat≠Dn (b.drop (b.length-4))):=by
  rw[Bool.eq_iff_iff]
  simp only[bne_iff_ne,ne_eq,decide_eq_true_eq]
  constructor
  ·intro h e
   apply h
   have:leB (Gj (b.take (b.length-4))).toNat 4=b.drop (b.length-4):=Brn (by rw[Li,hd]) (by rw[Bik,Nat.mod_eq_of_lt (by omega),e])
   rw[this,List.take_append_drop]
  ·intro h e
   apply h
   have hx:leB (Gj (b.take (b.length-4))).toNat 4=b.drop (b.length-4):=by
    have e2:b.take (b.length-4)++leB (Gj (b.take (b.length-4))).toNat 4=b.take (b.length-4)++b.drop (b.length-4):=by rw[e,List.take_append_drop]
    exact List.append_cancel_left e2
   rw[←hx,Bik,Nat.mod_eq_of_lt (by omega)]
 rw[hiff]
 by_cases h3:(Gj (b.take (b.length-4))).toNat≠Dn (b.drop (b.length-4))
 ·rw[if_pos (by simp[h3]),Xu,if_neg h1,if_neg h2,if_pos h3]
 ·rw[if_neg (by rw[decide_eq_false h3];decide),Xu,if_neg h1,if_neg h2,if_neg h3]
theorem Bxw{b:List UInt8}(h:Xu b=0):5≤b.length∧b.length≤41254:=by
 unfold Xu at h
 split at h
 ·simp at h
 ·split at h
  ·simp at h
  ·omega
theorem Brh{c:Nat}(h1:1≤c)(h6:c≤6):Bj (4000:Int) (c:Int)=((4000/c:Nat):Int):=by
 have:c=1∨c=2∨c=3∨c=4∨c=5∨c=6:=by omega
 rcases this with rfl|rfl|rfl|rfl|rfl|rfl<;>rfl
theorem Bz2(p:List UInt8)(h:p.length≤41250):okB p (8*p.length):=⟨by omega,by omega,fun k h1 h2=>by omega⟩
theorem Az1{bits:Int}{ch n:Nat}{t:List Int32}(b:List UInt8)(hb:Cm bits)(ht:t.length=16)(h1:1≤ch)(h6:ch≤6)(n1:1≤n)(n2:n≤4000/ch):
  ∃l e,deframe_Decode (ch:Int) bits t (n:Int) b=some (l,e)∧cadenzaref21_Decode (ch:Int) bits t (n:Int) b=some (l,e)∧(e=0→cadenzaref18_Check bits l=some 0∧l.length≤4000∧l.length=n*ch)∧(e≠0→l=[]):=by
 have hn:n*ch≤4000:=by
  have:=Nat.mul_le_mul_right ch n2
  have h2:=Nat.div_mul_le_self 4000 ch
  omega
 have hq4:=Brh h1 h6
 generalize 4000/ch=mm at*
 have hck:Hw (ch:Int) bits=some 0:=by
  have hr:∃x y,Sf bits=some (x,y,0):=⟨_,_,Bj1 hb⟩
  obtain⟨x,y,hr⟩:=hr
  rw[Hw,hr,Aa]
  simp only
  rw[if_neg (by simp[Aj,Af,Aq];omega)]
 have hh:=Azk bits
 have hasked:Wf (ch:Int) bits (n:Int)=some 0:=by
  rw[Wf,Ajj,if_neg (by simp[Af,Aq];omega),Bc7 hb,Aa,if_neg (by rw[Az];simp;omega),Aa,if_neg (by simp[Aj,Af];omega),Br (by rw[Aj];simp;omega),Aa,hq4,if_neg (by rw[Aq];simp;omega)]
 rw[deframe_Decode,cadenzaref21_Decode,Yf,hck,hasked,Aa,Aa,if_neg (by rw[Aj];simp),if_neg (by rw[Af];simp;omega),Br (by rw[Aj];simp;omega),Aa,hq4,if_neg (by rw[Aq];simp;omega),if_neg (by rw[Aj];simp),Blv,Bop]
 by_cases hs:Xu b≠0
 ·rw[if_pos hs]
  simp only[Aa]
  rw[if_pos (by rw[Aj];simpa using hs),if_pos (by rw[Aj];simpa using hs)]
  exact⟨[],Xu b,rfl,rfl,fun e=>absurd e hs,fun _=>rfl⟩
 have hs0:Xu b=0:=by simpa using hs
 have hlen:=Bxw hs0
 have e4:Ah (Ac b) 4=((b.length-4:Nat):Int):=by rw[Ac,Be (by omega) (by omega)];omega
 rw[if_neg hs,hs0]
 simp only[Aa]
 rw[if_neg (by rw[Aj];simp),if_neg (by rw[Aj];simp),e4,Jg (by omega) (by omega),Aa,show((b.length-4:Nat):Int).toNat=b.length-4 from rfl]
 have hpl:(b.take (b.length-4)).length=b.length-4:=by simp
 generalize b.take (b.length-4)=p at*
 have e8:Ay (8:Int) (Ac p)=((8*p.length:Nat):Int):=by rw[Ac,Gc (by omega) (by omega)];omega
 have hp:=Bz2 p (by omega)
 have hv:=values_eq hp h1 h6 hn
 have hr:=Cai (N:=8*p.length) (p:=p) rfl (by omega) h1 h6 hn
 have hat:=Bj3 (ch:=ch) (p:=p) (N:=8*p.length) (n*ch) 0 [] (by omega)
 rw[Bja,if_neg (by rw[Aq,Ac];simp;omega),Eu,Cr (by simp;omega),Aa,Aa,Aa,List.nil_append,e8]
 simp only
 rw[if_neg (by rw[Aj];simp),hv,hr,Aa,Aa]
 generalize Yc ch p (8*p.length) (n*ch) 0 []=V at*
 obtain⟨v,at',e⟩:=V
 simp only at*
 by_cases he:e≠0
 ·rw[if_pos he,if_pos he]
  simp only
  rw[if_pos (by rw[Aj];simpa using he),Og,Nx,if_pos (by rw[Aj];simpa using he)]
  exact⟨[],e,rfl,rfl,fun h=>absurd h he,fun _=>rfl⟩
 have he0:e=0:=by simpa using he
 have hvl:=hat.2.2 he0
 simp only[List.length_nil,Nat.zero_add]at hvl
 rw[if_neg he,if_neg he]
 simp only
 rw[if_neg (by rw[Aj];simp),Be (by omega) (by omega),show((8*p.length:Nat):Int)-(at':Int)=((8*p.length-at':Nat):Int) by omega,Og,Nx]
 by_cases h7:7<8*p.length-at'
 ·have hE:(if 7<8*p.length-at'∨Bt p at' (8*p.length-at')≠0 then(12:Int)else 0)=12:=if_pos (.inl h7)
  rw[if_pos (by rw[Cx];simp;omega),hE,if_pos (by decide)]
  exact⟨[],12,rfl,rfl,fun h=>absurd h (by decide),fun _=>rfl⟩
 rw[if_neg (by rw[Cx];simp;omega),Azi hp at' _ (by omega),if_neg (by omega),Aa]
 have hz:Bb (Re p at' (8*p.length-at')) (0:UInt64)=decide (Bt p at' (8*p.length-at')≠0):=by
  rw[Agl,Bool.eq_iff_iff]
  simp only[bne_iff_ne,ne_eq,←UInt64.toNat_inj,decide_eq_true_eq]
  rw[Yj p _ _ (by omega)];rfl
 simp only
 rw[hz]
 by_cases hv0:Bt p at' (8*p.length-at')≠0
 ·have hE:(if 7<8*p.length-at'∨Bt p at' (8*p.length-at')≠0 then(12:Int)else 0)=12:=if_pos (.inr hv0)
  rw[if_pos (by simp[hv0]),hE,if_pos (by decide)]
  exact⟨[],12,rfl,rfl,fun h=>absurd h (by decide),fun _=>rfl⟩
 have hm:v.length %ch=0:=by rw[hvl];exact Nat.mul_mod_left n ch
 obtain⟨l,e,g1,g2,g3,g4,g5⟩:=Bj5 (v:=v) hb ht h1 h6 (by omega) hm
 have hE:(if 7<8*p.length-at'∨Bt p at' (8*p.length-at')≠0 then(12:Int)else 0)=0:=if_neg (by omega)
 rw[if_neg (by rw[decide_eq_false hv0];decide),hE,if_neg (by decide),g1,g3,Aa,Aa,g2]
 by_cases hl:e≠0
 ·rw[if_pos hl]
  exact⟨[],e,rfl,rfl,fun h=>absurd h hl,fun _=>rfl⟩
 ·rw[if_neg hl]
  have hl0:e=0:=by simpa using hl
  exact⟨l,0,rfl,rfl,fun _=>⟨by rw[g4,hl0],by omega,by omega⟩,fun e=>absurd rfl e⟩
end Go.Pl
set_option linter.unusedVariables false
set_option linter.unusedSimpArgs false
namespace Go.Pl
open Go Go.Lv
def P64:Nat:=4823603603198064275
def Afl(s:Nat):Nat:=(2*s %18446744073709551616)^^^ (s/9223372036854775808*P64)
theorem Amb{s:Nat}(h:s<18446744073709551616):Afl s<18446744073709551616:=by
 have h1:s/9223372036854775808=0∨s/9223372036854775808=1:=by omega
 exact Nat.xor_lt_two_pow (n:=64) (Nat.mod_lt _ (by decide)) (by rcases h1 with e|e<;>rw[e]<;>decide)
theorem Br4(x y:Nat):(x^^^y)/9223372036854775808=(x/9223372036854775808)^^^ (y/9223372036854775808):=by
 have:=Nat.shiftRight_xor_distrib (a:=x) (b:=y) (i:=63)
 simpa [Nat.shiftRight_eq_div_pow]using this
theorem Brk(x y:Nat):2*(x^^^y) %18446744073709551616=(2*x %18446744073709551616)^^^ (2*y %18446744073709551616):=by
 have h1:=Nat.shiftLeft_xor_distrib (a:=x) (b:=y) (i:=1)
 have h2:=Nat.xor_mod_two_pow (a:=2*x) (b:=2*y) (n:=64)
 have e:2*(x^^^y)=(2*x)^^^ (2*y):=by simpa [Nat.shiftLeft_eq,Nat.mul_comm]using h1
 rw[e];exact h2
theorem Bze{a b:Nat}(ha:a=0∨a=1)(hb:b=0∨b=1)(p:Nat):(a^^^b)*p=(a*p)^^^ (b*p):=by
 rcases ha with rfl|rfl<;>rcases hb with rfl|rfl<;>simp
theorem Cfb(a b c d:Nat):(a^^^b)^^^ (c^^^d)=(a^^^c)^^^ (b^^^d):=by
 rw[Nat.xor_assoc,Nat.xor_assoc,←Nat.xor_assoc b c d,Nat.xor_comm b c,Nat.xor_assoc c b d]
theorem Bpe{x y:Nat}(hx:x<18446744073709551616)(hy:y<18446744073709551616):Afl (x^^^y)=Afl x^^^Afl y:=by
 rw[Afl,Afl,Afl,Brk,Br4,Bze (by omega) (by omega),Cfb]
def Ld:Nat→Nat→Nat
 |0,s=>s
 |k+1,s=>Ld k (Afl s)
theorem Ay4:∀(k:Nat) {s:Nat},s<18446744073709551616→Ld k s<18446744073709551616
 |0,_,h=>h
 |k+1,_,h=>Ay4 k (Amb h)
theorem Bd5:∀(k:Nat) {x y:Nat},x<18446744073709551616→y<18446744073709551616→Ld k (x^^^y)=Ld k x^^^Ld k y
 |0,_,_,_,_=>rfl
 |k+1,x,y,hx,hy=>by rw[Ld,Bpe hx hy,Bd5 k (Amb hx) (Amb hy)];rfl
theorem Bee:∀(k h:Nat),2^k*h<18446744073709551616→Ld k h=2^k*h
 |0,h,_=>by simp[Ld]
 |k+1,h,hl=>by
  have hpos:0<2^k:=Nat.pow_pos (by omega)
  rw[Nat.pow_succ,Nat.mul_assoc]at hl
  have h2:2*h<18446744073709551616:=Nat.lt_of_le_of_lt (Nat.le_mul_of_pos_left _ hpos) hl
  have:Afl h=2*h:=by rw[Afl,Nat.mod_eq_of_lt h2,show h/9223372036854775808=0 by omega];simp
  rw[Ld,this,Bee k _ hl,Nat.pow_succ,Nat.mul_assoc]
def As7(s c:Nat):Nat:=Ld 8 (s^^^ (c*72057594037927936))
theorem c56{c:Nat}(hc:c<256):c*72057594037927936<18446744073709551616:=by omega
theorem Ayk{s c:Nat}(h:s<18446744073709551616)(hc:c<256):As7 s c<18446744073709551616:=Ay4 8 (Nat.xor_lt_two_pow (n:=64) h (c56 hc))
theorem Cbd(s:Nat):s=(s/72057594037927936*72057594037927936)^^^ (s %72057594037927936):=by
 have h1:s %72057594037927936<2^56:=Nat.mod_lt _ (by decide)
 have:=Nat.two_pow_add_eq_or_of_lt h1 (s/72057594037927936)
 have h2:2^56*(s/72057594037927936)|||s %72057594037927936=(2^56*(s/72057594037927936))^^^ (s %72057594037927936):=by
  apply Nat.eq_of_testBit_eq;intro i
  rw[Nat.testBit_or,Nat.testBit_xor]
  by_cases hi:i<56
  ·have:(2^56*(s/72057594037927936)).testBit i=false:=by rw[Nat.testBit_two_pow_mul];simp;omega
   rw[this];simp
  ·have:(s %72057594037927936).testBit i=false:=Nat.testBit_lt_two_pow (Nat.lt_of_lt_of_le h1 (Nat.pow_le_pow_right (by omega) (by omega)))
   rw[this];simp
 rw[Nat.mul_comm (s/72057594037927936)]
 show s=(2^56*(s/72057594037927936))^^^ _
 rw[←h2,←this]
 have:=Nat.div_add_mod s 72057594037927936
 show s=72057594037927936*_+_
 omega
theorem Bs3(a c:Nat):(a^^^c)*72057594037927936=(a*72057594037927936)^^^ (c*72057594037927936):=by
 have h1:=Nat.shiftLeft_xor_distrib (a:=a) (b:=c) (i:=56)
 simpa [Nat.shiftLeft_eq]using h1
theorem Bjz{s c:Nat}(h:s<18446744073709551616)(hc:c<256):As7 s c=(256*s %18446744073709551616)^^^Ld 8 (((s/72057594037927936)^^^c)*72057594037927936):=by
 have hs:s/72057594037927936<2^8:=by show _<256;omega
 have hx:(s/72057594037927936)^^^c<256:=Nat.xor_lt_two_pow (n:=8) hs (by simpa using hc)
 have hl:s %72057594037927936<72057594037927936:=Nat.mod_lt _ (by decide)
 rw[As7]
 conv=>lhs;rw[Cbd s]
 rw[Nat.xor_comm (s/72057594037927936*72057594037927936),Nat.xor_assoc,←Bs3,Bd5 8 (by omega) (c56 hx),Bee 8 _ (by show 256*_<_;omega)]
 congr 1
 show 256*(s %72057594037927936)=_
 omega
def Bes(s:Nat)(l:List UInt8):Nat:=l.foldl (fun s c=>As7 s c.toNat) s
theorem Bgb{n:Nat}(h:n<18446744073709551616):(UInt64.ofNat n).toNat=n:=by rw[UInt64.toNat_ofNat'];exact Nat.mod_eq_of_lt h
theorem Cb5(s:UInt64)(bit:Nat)(hb:bit=0∨bit=1):Zg s (bit:Int)=some (UInt64.ofNat ((2*s.toNat %18446744073709551616)^^^ (((s.toNat/9223372036854775808)^^^bit)*P64))):=by
 have hs:=s.toNat_lt
 have ht:s.toNat/9223372036854775808=0∨s.toNat/9223372036854775808=1:=by omega
 have e1:(Ay s (2:UInt64)).toNat=2*s.toNat %18446744073709551616:=by
  rw[Ad7,UInt64.toNat_mul];show s.toNat*2 %_=_;rw[Nat.mul_comm]
 have hlt:2*s.toNat %18446744073709551616<18446744073709551616:=Nat.mod_lt _ (by decide)
 have ey:Tn (Ay s (2:UInt64)) (4823603603198064275:UInt64)=UInt64.ofNat ((2*s.toNat %18446744073709551616)^^^P64):=by
  apply UInt64.toNat_inj.1
  rw[Bfs,UInt64.toNat_xor,e1,Bgb (Nat.xor_lt_two_pow (n:=64) hlt (by decide))];rfl
 have en:Ay s (2:UInt64)=UInt64.ofNat (2*s.toNat %18446744073709551616):=by
  apply UInt64.toNat_inj.1
  rw[e1,Bgb hlt]
 have eg:Jr s (9223372036854775808:UInt64)=decide (s.toNat/9223372036854775808=1):=by
  rw[Bzz,decide_eq_decide]
  show 9223372036854775808≤s.toNat↔_
  omega
 have hp:∀b:Bool,Sm s b=some (if b=true then UInt64.ofNat ((2*s.toNat %18446744073709551616)^^^P64)else UInt64.ofNat (2*s.toNat %18446744073709551616)):=by
  intro b
  rw[Sm,Ad1,ey,en];cases b<;>rfl
 rw[Zg,Afb,hp,hp,eg]
 rcases hb with rfl|rfl<;>rcases ht with h|h<;>rw[h]<;>simp[Az]
theorem Bat(c:UInt8):∀(j q:Nat) (s:UInt64),j≤8→j<q→Ib c q s ((2^j/2:Nat):Int)=some (UInt64.ofNat (Ld j (s.toNat^^^ (c.toNat %2^j*2^(64-j)))))
 |0,q+1,s,_,_=>by
  rw[Ib,Rq,if_neg (by rw[Aq];simp),Ad2,Aem]
  simp[Ld,Nat.mod_one]
 |j+1,q+1,s,hj,hq=>by
  have hc:=c.toNat_lt
  have hs:=s.toNat_lt
  have hj2:2^j≤2^7:=Nat.pow_le_pow_right (by omega) (by omega)
  have hpos:0<2^j:=Nat.pow_pos (by omega)
  have e1:2^(j+1)/2=2^j:=by rw[Nat.pow_succ];omega
  have e2:Bj ((2^j:Nat):Int) 2=((2^j/2:Nat):Int):=by
   generalize 2^j=K at*
   rw[Aft,Int.tdiv_eq_ediv_of_nonneg (by omega),Bq (by omega) (by omega)];omega
  have e3:Fb (Bj (Ad c:Int) ((2^j:Nat):Int)) (2:Int)=((c.toNat/2^j %2:Nat):Int):=by
   have hX:=Nat.div_le_self c.toNat (2^j)
   rw[Ac8,Aft,←Int.ofNat_tdiv]
   generalize c.toNat/2^j=X at*
   rw[Bq (by omega) (by omega),Fb,Int.tmod_eq_emod_of_nonneg (by omega)];omega
  have hbit:c.toNat/2^j %2=0∨c.toNat/2^j %2=1:=by omega
  rw[Ib,Rq,e1,if_pos (by rw[Aq,decide_eq_true_eq];omega),Br (by rw[Aj,bne_iff_ne];omega),Aa,e3,Cb5 s _ hbit,Aa,e2,Bat c j q _ (by omega) (by omega)]
  congr 2
  rw[Ld]
  congr 1
  have hx:c.toNat %2^(j+1)*2^(64-(j+1))=(c.toNat/2^j %2)*9223372036854775808+c.toNat %2^j*2^(63-j):=by
   have h63:(9223372036854775808:Nat)=2^j*2^(63-j):=by rw[←Nat.pow_add,show j+(63-j)=63 by omega]
   rw[Nat.mod_pow_succ,h63,show 64-(j+1)=63-j by omega,Nat.add_mul,Nat.add_comm,Nat.mul_assoc,Nat.mul_left_comm]
  have hr:c.toNat %2^j<2^j:=Nat.mod_lt _ hpos
  have hb63:c.toNat %2^j*2^(63-j)<9223372036854775808:=by
   have h63:(9223372036854775808:Nat)=2^j*2^(63-j):=by rw[←Nat.pow_add,show j+(63-j)=63 by omega]
   rw[h63];exact Nat.mul_lt_mul_of_pos_right hr (Nat.pow_pos (by omega))
  have h64:c.toNat %2^j*2^(64-j)=2*(c.toNat %2^j*2^(63-j)):=by
   rw[show 64-j=(63-j)+1 by omega,Nat.pow_succ,←Nat.mul_assoc,Nat.mul_comm]
  rw[hx,h64]
  generalize c.toNat %2^j*2^(63-j)=R at*
  generalize c.toNat/2^j %2=b at*
  have ht:s.toNat/9223372036854775808=0∨s.toNat/9223372036854775808=1:=by omega
  have hp:((s.toNat/9223372036854775808^^^b)*P64)<18446744073709551616:=by
   rcases ht with h|h<;>rcases hbit with h2|h2<;>rw[h,h2]<;>decide
  rw[Bgb (Nat.xor_lt_two_pow (n:=64) (Nat.mod_lt _ (by decide)) hp),Afl,Brk,Br4,show(b*9223372036854775808+R)/9223372036854775808=b by omega,show 2*(b*9223372036854775808+R) %18446744073709551616=2*R by omega,Nat.xor_assoc,Nat.xor_assoc,Nat.xor_comm (2*R)]
theorem Cc3(c:UInt8)(s:UInt64):Akm s c=some (UInt64.ofNat (As7 s.toNat c.toNat)):=by
 have h:=Bat c 8 Am s (Nat.le_refl _) (by have:=Ak;omega)
 have hc:=c.toNat_lt
 rw[Nat.mod_eq_of_lt (show c.toNat<2^8 by simpa using hc)]at h
 exact h
theorem Aum(b:List UInt8)(hb:b.length<4611686018427387904):∀(j i q:Nat) (s:UInt64),i+j=b.length→j<q→Gi b q s (i:Int)=some (UInt64.ofNat (Bes s.toNat (b.drop i)))
 |0,i,q+1,s,hi,_=>by
  rw[Gi,Np,if_neg (by rw[Af,Ac];simp;omega),show i=b.length by omega,List.drop_length]
  simp[Aac,Aa6,Bes]
 |j+1,i,q+1,s,hi,hq=>by
  have hlt:i<b.length:=by omega
  have hc:=b[i].toNat_lt
  rw[Gi,Np,if_pos (by rw[Af,Ac];simp;omega),Cf hlt,Aa,Cc3,Aa,Ag (by omega) (by omega)]
  have h:=Aum b hb j (i+1) q (UInt64.ofNat (As7 s.toNat b[i].toNat)) (by omega) (by omega)
  rw[show((i:Int)+1)=((i+1:Nat):Int) by omega,h,drop_cons hlt,Bgb (Ayk s.toNat_lt (by simpa using hc))]
  rfl
def Ad6(b:List UInt8):UInt64:=UInt64.ofNat (Bes 0 b)
theorem Bla(b:List UInt8)(hb:b.length≤100000):Uq 0 b=some (Ad6 b):=
 Aum b (by omega) b.length 0 Am 0 (by omega) (by have:=Ak;omega)
theorem Boz(c:UInt64):Tn (Ck c (GI.toZ (1:UInt64)).toNat) (Ay (4823603603198064275:UInt64) (Bk c (GI.toZ (63:UInt64)).toNat))=UInt64.ofNat (Afl c.toNat):=by
 have hc:=c.toNat_lt
 apply UInt64.toNat_inj.1
 have h1:(Ck c (GI.toZ (1:UInt64)).toNat).toNat=2*c.toNat %18446744073709551616:=by
  rw[show(GI.toZ (1:UInt64)).toNat=1 from rfl,Amo,Nat.mul_comm]
 have h2:(Ay (4823603603198064275:UInt64) (Bk c (GI.toZ (63:UInt64)).toNat)).toNat=c.toNat/9223372036854775808*P64:=by
  rw[show(GI.toZ (63:UInt64)).toNat=63 from rfl,Ad7,UInt64.toNat_mul,Ae2]
  show 4823603603198064275*(c.toNat/9223372036854775808) %18446744073709551616=_
  have h1:c.toNat/9223372036854775808=0∨c.toNat/9223372036854775808=1:=by omega
  rcases h1 with e|e<;>rw[e]<;>decide
 rw[Bfs,UInt64.toNat_xor,h1,h2,Bgb (Amb hc)];rfl
theorem Bar(bk16:Int→List UInt64→Option (UInt64×Int))(s:UInt64)(b:List UInt8)(x:Int)(t:List UInt64):∀(j i q:Nat) (c:UInt64),i+j=8→j<q→
  Mu bk16 s b x t q c (i:Int)=Yo bk16 s b x (UInt64.ofNat (Ld j c.toNat)) t
 |0,i,q+1,c,hi,_=>by
  obtain rfl:i=8:=by omega
  rw[Mu,Aar,if_neg (by rw[Af];simp),Ld,UInt64.ofNat_toNat]
 |j+1,i,q+1,c,hi,hq=>by
  rw[Mu,Aar,if_pos (by rw[Af];simp;omega),Boz,Ag (by omega) (by omega),show((i:Int)+1)=((i+1:Nat):Int) by omega,Bar bk16 s b x t j (i+1) q _ (by omega) (by omega),Bgb (Amb c.toNat_lt)];rfl
def Aj4(n:Nat):List UInt64:=(List.range n).map fun i=>UInt64.ofNat (Ld 8 (i*72057594037927936))
theorem Bcr(s:UInt64)(b:List UInt8):∀(j i q:Nat),i+j=256→j<q→Kf s b q (i:Int) (Aj4 i++List.replicate j 0)=Aal s b (Aj4 256)
 |0,i,q+1,hi,_=>by
  obtain rfl:i=256:=by omega
  rw[Kf,Ym,if_neg (by rw[Af];simp)];simp
 |j+1,i,q+1,hi,hq=>by
  have hlen:(Aj4 i++List.replicate (j+1) 0).length=i+(j+1):=by simp[Aj4]
  rw[Kf,Ym,if_pos (by rw[Af];simp;omega),Ahx]
  have h:=Bar (Kf s b q) s b (i:Int) (Aj4 i++List.replicate (j+1) 0) 8 0 Am (Ck (Ad (i:Int):UInt64) (GI.toZ (56:UInt64)).toNat) (by omega) (by have:=Ak;omega)
  rw[show((0:Int))=((0:Nat):Int)from rfl,h,Yo,Ahp,Cf (by rw[hlen];omega),Aa,Tx _ (by rw[hlen];omega),Aa,Ai0,Arw,Ag (by omega) (by omega)]
  have e:(Ck (Ad (i:Int):UInt64) (GI.toZ (56:UInt64)).toNat).toNat=i*72057594037927936:=by
   rw[Amo,Xi,Bgb (by omega)]
   show i*72057594037927936 %18446744073709551616=_
   omega
  rw[e,List.replicate_succ,Ath (by simp[Aj4])]
  have h2:=Bcr s b j (i+1) q (by omega) (by omega)
  have h3:Aj4 (i+1)=Aj4 i++[UInt64.ofNat (Ld 8 (i*72057594037927936))]:=by simp[Aj4,List.range_succ]
  rw[h3]at h2
  rw[show((i:Int)+1)=((i+1:Nat):Int) by omega,←h2]
  simp
theorem Btq{i:Nat}(h:i<256):getI (Aj4 256) (i:Int)=some (UInt64.ofNat (Ld 8 (i*72057594037927936))):=by
 rw[Cf (by simpa [Aj4]using h)];simp[Aj4]
theorem Bln(s:UInt64)(c:UInt8):getI (Aj4 256) (GI.toZ (Tn (Ad (Bk s (GI.toZ (56:UInt64)).toNat):UInt8) c))=some (UInt64.ofNat (Ld 8 (((s.toNat/72057594037927936)^^^c.toNat)*72057594037927936))):=by
 have hs:=s.toNat_lt
 have e:GI.toZ (Tn (Ad (Bk s (GI.toZ (56:UInt64)).toNat):UInt8) c)=(((s.toNat/72057594037927936)^^^c.toNat:Nat):Int):=by
  have e2:((Ad (Bk s (GI.toZ (56:UInt64)).toNat):UInt8)).toNat=s.toNat/72057594037927936:=by
   rw[Anb,UInt8.toNat_ofNat',Ae2]
   show s.toNat/72057594037927936 %256=_
   omega
  rw[Wr,Bqg,UInt8.toNat_xor,e2]
 rw[e,Btq]
 exact Nat.xor_lt_two_pow (n:=8) (by show _<256;omega) (by simpa using c.toNat_lt)
theorem Bj2(s:UInt64)(c:UInt8):Tn (Ck s (GI.toZ (8:UInt64)).toNat) (UInt64.ofNat (Ld 8 (((s.toNat/72057594037927936)^^^c.toNat)*72057594037927936)))=UInt64.ofNat (As7 s.toNat c.toNat):=by
 have hs:=s.toNat_lt
 have hc:c.toNat<256:=by simpa using c.toNat_lt
 apply UInt64.toNat_inj.1
 have hlt:Ld 8 (((s.toNat/72057594037927936)^^^c.toNat)*72057594037927936)<18446744073709551616:=Ay4 8 (c56 (Nat.xor_lt_two_pow (n:=8) (by show _<256;omega) (by simpa using c.toNat_lt)))
 have e:(GI.toZ (8:UInt64)).toNat=8:=rfl
 rw[e,Bfs,UInt64.toNat_xor,Amo,Bgb hlt,Bgb (Ayk hs hc),Bjz hs hc,Nat.mul_comm s.toNat]
theorem Bam(b:List UInt8)(s0:UInt64)(hb:b.length<4611686018427387904):∀(j i q:Nat) (s:UInt64),i+j=b.length→j<q→Na b s0 (Aj4 256) q s (i:Int)=some (UInt64.ofNat (Bes s.toNat (b.drop i)),0)
 |0,i,q+1,s,hi,_=>by
  rw[Na,Yk,if_neg (by rw[Af,Ac];simp;omega),show i=b.length by omega,List.drop_length]
  simp[Ag5,Ajk,Ai8,Arc,Bes]
 |j+1,i,q+1,s,hi,hq=>by
  have hlt:i<b.length:=by omega
  have hc:=b[i].toNat_lt
  rw[Na,Yk,if_pos (by rw[Af,Ac];simp;omega),Cf hlt,Aa,Bln,Aa,Aa,Bj2,Ag (by omega) (by omega)]
  have h:=Bam b s0 hb j (i+1) q (UInt64.ofNat (As7 s.toNat b[i].toNat)) (by omega) (by omega)
  rw[show((i:Int)+1)=((i+1:Nat):Int) by omega,h,drop_cons hlt,Bgb (Ayk s.toNat_lt (by simpa using hc))]
  rfl
theorem Bnm(b:List UInt8)(hb:b.length≤100000):Amn b=some (Ad6 b,0):=by
 have h:=Bcr 0 b 256 0 Am (by omega) (by have:=Ak;omega)
 have h2:=Bam b 0 (by omega) b.length 0 Am 0 (by omega) (by have:=Ak;omega)
 have hn:Ao1 0 b=some (Ad6 b,0):=by
  rw[Ao1,Alb,if_neg (by rw[Aq,Ac];simp;omega),Aig]
  refine Eq.trans h ?_
  rw[Aal,Ai1,Ajd]
  exact h2
 rw[Amn,hn,Aa]
theorem Bhh(p:List UInt8)(hp:p.length≤64):Zd p=some (leB (Ad6 p).toNat 8,0):=by
 rw[Zd,Ay6,if_neg (by rw[Aq,Ac];simp;omega),Bnm p (by omega),Aa,Aa]
 simp only
 have h:=Bmu (Ad6 p) 8 (by omega) (by omega) (by simpa using(Ad6 p).toNat_lt)
 rw[if_neg (by rw[Aj];simp)]
 exact congrArg (fun o=>Option.bind o fun x:List UInt8×Int=>some (x.1,x.2)) h
theorem Bg2(p:List UInt8)(hp:p.length≤64):Lp p=some (leB (Ad6 p).toNat 8):=by
 have h:=Bde (Ad6 p) 8 (by omega)
 rw[Lp,Akk,Bla p (by omega),Aa,Aa]
 exact congrArg (fun o=>Option.bind o fun l=>some l) h
def s8(n:Nat):Int32:=Int32.ofInt (if n<128 then(n:Int)else(n:Int)-256)
def Aj8(d:UInt64)(n:Nat):List Int32:=(List.range n).map fun i=>s8 (d.toNat/256^i %256)
theorem Ama(d:UInt64)(n:Nat):(Aj8 d n).length=n:=by simp[Aj8]
theorem Bca(d:UInt64)(n:Nat):Aj8 d (n+1)=Aj8 d n++[s8 (d.toNat/256^n %256)]:=by simp[Aj8,List.range_succ]
theorem bm8(z:Nat):(z:Int).bmod Int8.size=if z %256<128 then((z %256:Nat):Int)else((z %256:Nat):Int)-256:=by
 rw[show Int8.size=256 from rfl,Int.bmod_def]
 split<;>split<;>omega
theorem Bqr(d:UInt64):∀(j i q:Nat),i+j=8→j<q→Ac3 d q (i:Int) (Aj8 d i++List.replicate (16-i) 0)=some (Aj8 d 8++List.replicate 8 0)
 |0,i,q+1,hi,_=>by
  obtain rfl:i=8:=by omega
  rw[Ac3,Anz,if_neg (by rw[Af];simp)];rfl
 |j+1,i,q+1,hi,hq=>by
  have hlen:(Aj8 d i++List.replicate (16-i) 0).length=16:=by simp[Ama];omega
  have ih:=Bqr d j (i+1) q (by omega) (by omega)
  have e8:Ay (8:Int) (i:Int)=((8*i:Nat):Int):=by rw[Gc (by omega) (by omega)];omega
  have ev:(Ad (Ad (Bk d (GI.toZ (((8*i:Nat):Int))).toNat):Int8):Int32)=s8 (d.toNat/256^i %256):=by
   have e1:(Bk d (GI.toZ (((8*i:Nat):Int))).toNat).toNat=d.toNat/256^i:=by
    rw[show(GI.toZ (((8*i:Nat):Int))).toNat=8*i from rfl,Ae2,Nat.pow_mul]
   show Int32.ofInt (Int8.ofInt ((Bk d (GI.toZ (((8*i:Nat):Int))).toNat).toNat:Int)).toInt=_
   rw[e1,s8,Int8.toInt_ofInt,bm8]
  rw[Ac3,Anz,if_pos (by rw[Af];simp;omega),e8,Br (by rw[Cx];simp;omega),Aa,ev,Cf (by omega),Aa,Tx _ (by omega),Aa,Ag (by omega) (by omega),show 16-i=(15-i)+1 by omega,List.replicate_succ,Ath (Ama d i)]
  rw[Bca,show 16-(i+1)=15-i by omega,List.append_assoc]at ih
  exact ih
theorem Bu6(d:UInt64):∀(j i q:Nat) (e:UInt64),i+j=8→j<q→e.toNat=d.toNat/256^i→Hp q e (i:Int) (Aj8 d i++List.replicate (16-i) 0)=some (Aj8 d 8++List.replicate 8 0)
 |0,i,q+1,e,hi,_,he=>by
  obtain rfl:i=8:=by omega
  rw[Hp,Wj,if_neg (by rw[Af];simp)];rfl
 |j+1,i,q+1,e,hi,hq,he=>by
  have hlen:(Aj8 d i++List.replicate (16-i) 0).length=16:=by simp[Ama];omega
  have hq2:(Bj e (256:UInt64)).toNat=d.toNat/256^(i+1):=by
   rw[Ax5,UInt64.toNat_div,he,Nat.pow_succ,←Nat.div_div_eq_div_mul];rfl
  have ih:=Bu6 d j (i+1) q (Bj e (256:UInt64)) (by omega) (by omega) hq2
  have ev:(Ad (Yd e (256:UInt64)):Int32)=Int32.ofInt ((d.toNat/256^i %256:Nat):Int):=by
   show Int32.ofInt ((Yd e (256:UInt64)).toNat:Int)=_
   rw[Bkx,UInt64.toNat_mod,he];rfl
  have hz:d.toNat/256^i %256<256:=Nat.mod_lt _ (by omega)
  have et:(Int32.ofInt ((d.toNat/256^i %256:Nat):Int)).toInt=((d.toNat/256^i %256:Nat):Int):=by
   rw[Int32.toInt_ofInt,Int.bmod_eq_of_le (by show -(4294967296/2:Int)≤_;omega) (by show _<(4294967296+1)/2;omega)]
  have hp8:∀x:Int32,x=s8 (d.toNat/256^i %256)→Wn (Hp q) e (i:Int) (Aj8 d i++List.replicate (16-i) 0) x=some (Aj8 d 8++List.replicate 8 0):=by
   intro x hx
   rw[Wn,Ajf,hx,Cf (by omega),Aa,Tx _ (by omega),Aa,Ag (by omega) (by omega),show 16-i=(15-i)+1 by omega,List.replicate_succ,Ath (Ama d i)]
   rw[Bca,show 16-(i+1)=15-i by omega,List.append_assoc]at ih
   exact ih
  rw[Hp,Wj,if_pos (by rw[Af];simp;omega),ev,Bos,et,show(127:Int32).toInt=127 from rfl]
  by_cases h:d.toNat/256^i %256<128
  ·rw[if_neg (by simp only[decide_eq_true_eq];omega)]
   exact hp8 _ (by rw[s8,if_pos h])
  ·rw[if_pos (by simp only[decide_eq_true_eq];omega)]
   refine hp8 _ ?_
   rw[s8,if_neg h,Be9,Int32.ofInt_sub];rfl
def tapsOf(p:List UInt8):List Int32:=Aj8 (Ad6 p) 8++List.replicate 8 0
theorem Bct(p:List UInt8):(tapsOf p).length=16:=by simp[tapsOf,Ama]
theorem Bhe(p:List UInt8)(hp:p.length≤64):Xc p=some (tapsOf p,0):=by
 have h:=Bqr (Ad6 p) 8 0 Am (by omega) (by have:=Ak;omega)
 have h2:Biu (Ad6 p)=some (tapsOf p):=h
 rw[Xc,if_neg (by rw[Aq,Ac];simp;omega),Bnm p (by omega),Aa]
 simp only
 rw[if_neg (by rw[Aj];simp),h2,Aa]
theorem Bdg(p:List UInt8)(hp:p.length≤64):Lj p=some (tapsOf p,0):=by
 have h:=Bu6 (Ad6 p) 8 0 Am (Ad6 p) (by omega) (by have:=Ak;omega) (by simp)
 have h2:Apb (Ad6 p)=some (tapsOf p):=h
 rw[Lj,if_neg (by rw[Aq,Ac];simp;omega),Al6,Akr,if_neg (by rw[Aq,Ac];simp;omega),Bla p (by omega),Aa,Aa,Aa]
 simp only
 rw[h2,Aa]
end Go.Pl
set_option linter.unusedVariables false
set_option linter.unusedSimpArgs false
namespace Go.Pl
open Go Go.Lv
def u8(z:Int):UInt8:=UInt8.ofNat (z %256).toNat
theorem Bii(z:Int):u8 (z %256)=u8 z:=by rw[u8,u8];congr 2;omega
def wB(bits:Int):Nat:=if bits=8 then 1 else if bits=16 then 2 else 3
theorem Azs{bits:Int}(h:Cm bits):Bj bits 8=(wB bits:Int):=by obtain rfl|rfl|rfl:=h<;>rfl
theorem Bab(bits:Int):1≤wB bits∧wB bits≤3:=by
 unfold wB;split; · omega
 ·split<;>omega
def Acu(bits:Int)(x:Int):List UInt8:=if bits=8 then [u8 (x+128)]else if bits=16 then [u8 x,u8 (x/256)]else [u8 x,u8 (x/256),u8 (x/65536)]
theorem Bmy(bits x:Int):(Acu bits x).length≤3:=by
 unfold Acu;split; · simp
 ·split<;>simp
theorem Bxk(x:Int32)(k:Nat)(hk:k≤32):(Ad (Bk x k):UInt8)=u8 (x.toInt.fdiv (2^k)):=by
 have h:=Aax x
 have e:Bk x k=Int32.ofInt (x.toInt.fdiv (2^k)):=by
  show Int32.ofInt (x.toInt.fdiv (2^min k 32))=_
  rw[Nat.min_eq_left hk]
 have hb: -2147483648≤x.toInt.fdiv (2^k)∧x.toInt.fdiv (2^k)<2147483648:=by
  have hpos:(0:Int)<2^k:=Int.pow_pos (by omega)
  rw[Int.fdiv_eq_ediv_of_nonneg _ (by omega)]
  constructor
  ·refine(Int.le_ediv_iff_mul_le hpos).2 ?_
   have:(1:Int)≤2^k:=by omega
   have h2: -2147483648*(2^k:Int)≤ -2147483648*1:=Int.mul_le_mul_of_nonpos_left (by omega) this
   omega
  ·refine Int.ediv_lt_of_lt_mul hpos ?_
   have:(1:Int)≤2^k:=by omega
   have h2:(2147483648:Int)*1≤2147483648*2^k:=Int.mul_le_mul_of_nonneg_left this (by omega)
   omega
 show UInt8.ofNat ((Bk x k).toInt %256).toNat=_
 rw[e,Int32.toInt_ofInt,Int.bmod_eq_of_le (by show -(4294967296/2:Int)≤_;omega) (by show _<(4294967296+1)/2;omega)];rfl
section
variable (bk:Int→List UInt8→Option (List UInt8×Int)) (l:List Int32)
theorem Bbq{bits:Int}(h:Cm bits)(c:Int32)(x:Int)(i q:Nat)(acc:List UInt8)(hi:i<wB bits)(ha:acc.length≤100000):
  Gv bk bits l c x (q+1) (i:Int) acc=Gv bk bits l c x q ((i+1:Nat):Int) (acc++[u8 (c.toInt.fdiv (2^(8*i)))]):=by
 have hw:=Bab bits
 have e8:Ay (8:Int) (i:Int)=((8*i:Nat):Int):=by rw[Gc (by omega) (by omega)];omega
 rw[Gv,Vx,Azs h,if_pos (by rw[Af];simp;omega),e8,Br (by rw[Cx];simp;omega),Aa,show(GI.toZ (((8*i:Nat):Int))).toNat=8*i from rfl,Bxk _ _ (by omega),Cr (by simp;omega),Aa,Ag (by omega) (by omega)];rfl
theorem Bod{bits:Int}(h:Cm bits)(c:Int32)(x:Int)(q:Nat)(acc:List UInt8):Gv bk bits l c x (q+1) ((wB bits:Nat):Int) acc=bk (Ae x 1) acc:=by
 rw[Gv,Vx,Azs h,if_neg (by rw[Af];simp),Afv,Ao7]
theorem Ccj{bits:Int}(h:Cm bits)(c:Int32)(x:Int)(acc:List UInt8)(ha:acc.length≤90000)(hr: -(hB bits)≤c.toInt∧c.toInt<hB bits):
  It bk bits l x acc (if bits=8 then Ae c (128:Int32)else c)=bk (Ae x 1) (acc++Acu bits c.toInt):=by
 have e:Am=(Am-4)+1+1+1+1:=by have:=Ak;omega
 have hc:=Aax c
 rw[It,Afe,Afz,e]
 have g0:=fun(c:Int32) q acc ha=>Bbq bk l h c x 0 q acc (by have:=Bab bits;omega) ha
 obtain rfl|rfl|rfl:=h
 ·have hh:hB 8=128:=rfl
  rw[hh]at hr
  have e1:(Ae c (128:Int32)).toInt=c.toInt+128:=by
   show(Int32.ofInt (c.toInt+(128:Int32).toInt)).toInt=_
   rw[show(128:Int32).toInt=128 from rfl,Int32.toInt_ofInt,Int.bmod_eq_of_le (by show -(4294967296/2:Int)≤_;omega) (by show _<(4294967296+1)/2;omega)]
  have g1:=Bod bk l (bits:=8) (.inl rfl) (Ae c (128:Int32)) x (Am-4+1+1)
  rw[if_pos rfl,show(0:Int)=((0:Nat):Int)from rfl,g0 _ _ _ (by omega)]
  refine Eq.trans (g1 _) ?_
  rw[e1,Acu,if_pos rfl]
  show bk _ (acc++[u8 ((c.toInt+128).fdiv 1)])=_
  rw[Int.fdiv_one]
 ·have g1:=fun q acc ha=>Bbq bk l (bits:=16) (.inr (.inl rfl)) c x 1 q acc (by decide) ha
  have g2:=Bod bk l (bits:=16) (.inr (.inl rfl)) c x (Am-4+1)
  rw[if_neg (by decide),show(0:Int)=((0:Nat):Int)from rfl,g0 _ _ _ (by omega),g1 _ _ (by simp;omega)]
  refine Eq.trans (g2 _) ?_
  rw[Acu,if_neg (by decide),if_pos rfl,List.append_assoc]
  show bk _ (acc++[u8 (c.toInt.fdiv 1),u8 (c.toInt.fdiv 256)])=_
  rw[Int.fdiv_one,Int.fdiv_eq_ediv_of_nonneg _ (by omega)]
 ·have g1:=fun q acc ha=>Bbq bk l (bits:=24) (.inr (.inr rfl)) c x 1 q acc (by decide) ha
  have g2:=fun q acc ha=>Bbq bk l (bits:=24) (.inr (.inr rfl)) c x 2 q acc (by decide) ha
  have g3:=Bod bk l (bits:=24) (.inr (.inr rfl)) c x (Am-4)
  rw[if_neg (by decide),show(0:Int)=((0:Nat):Int)from rfl,g0 _ _ _ (by omega),g1 _ _ (by simp;omega),g2 _ _ (by simp;omega)]
  refine Eq.trans (g3 _) ?_
  rw[Acu,if_neg (by decide),if_neg (by decide),List.append_assoc,List.append_assoc]
  show bk _ (acc++[u8 (c.toInt.fdiv 1),u8 (c.toInt.fdiv 256),u8 (c.toInt.fdiv 65536)])=_
  rw[Int.fdiv_one,Int.fdiv_eq_ediv_of_nonneg _ (by omega),Int.fdiv_eq_ediv_of_nonneg _ (by omega)]
end
def bytesB(bits:Int)(l:List Int32):List UInt8:=l.flatMap fun x=>Acu bits x.toInt
theorem Aob(bits:Int):∀l:List Int32,(bytesB bits l).length≤3*l.length
 |[]=>by simp[bytesB]
 |x::l=>by
  have h1:=Aob bits l
  have h2:=Bmy bits x.toInt
  simp only[bytesB,List.flatMap_cons,List.length_append,List.length_cons]at*
  omega
def inR(bits:Int)(l:List Int32):Prop:=∀x∈l, -(hB bits)≤x.toInt∧x.toInt<hB bits
theorem Bql{bits:Int}(h:Cm bits)(l:List Int32)(hl:l.length≤4000)(hr:inR bits l):∀(j i q:Nat),i+j=l.length→j<q→Er bits l q (i:Int) (bytesB bits (l.take i))=some (bytesB bits l,0)
 |0,i,q+1,hi,_=>by
  rw[Er,Vw,if_neg (by rw[Af,Ac];simp;omega),List.take_of_length_le (by omega)];rfl
 |j+1,i,q+1,hi,hq=>by
  have hlt:i<l.length:=by omega
  have ih:=Bql h l hl hr j (i+1) q (by omega) (by omega)
  have hlen:=Aob bits (l.take i)
  have hx:=hr l[i] (List.getElem_mem _)
  have h1:=Ccj (Er bits l q) l h l[i] (i:Int) (bytesB bits (l.take i)) (by rw[List.length_take]at hlen;omega) hx
  rw[Er,Vw,if_pos (by rw[Af,Ac];simp;omega),Cf hlt,Aa]
  have e:(if(geq bits (8:Int))=true then It (Er bits l q) bits l (i:Int) (bytesB bits (l.take i)) (Ae l[i] (128:Int32))else It (Er bits l q) bits l (i:Int) (bytesB bits (l.take i)) l[i])=It (Er bits l q) bits l (i:Int) (bytesB bits (l.take i)) (if bits=8 then Ae l[i] (128:Int32)else l[i]):=by
   by_cases h8:bits=8
   ·rw[if_pos (by rw[Az];simpa using h8),if_pos h8]
   ·rw[if_neg (by rw[Az];simpa using h8),if_neg h8]
  rw[e,h1,Ag (by omega) (by omega)]
  rw[Amu hlt]at ih
  have e2:bytesB bits (l.take i++[l[i]])=bytesB bits (l.take i)++Acu bits l[i].toInt:=by unfold bytesB;rw[List.flatMap_append,List.flatMap_singleton]
  rw[e2]at ih
  exact ih
theorem Ayq{bits:Int}(h:Cm bits){l:List Int32}(hl:l.length≤4000)(hc:cadenzaref18_Check bits l=some 0):inR bits l:=by
 have hh:=Azk bits
 have key:∀(j i q:Nat),i+j=l.length→j<q→By l (hB bits) q (i:Int)=some 0→∀k,i≤k→(hk:k<l.length)→ -(hB bits)≤l[k].toInt∧l[k].toInt<hB bits:=by
  intro j
  induction j with
  |zero=>intro i q hi hq _ k h1 h2;omega
  |succ j ih=>
   intro i q hi hq hs k h1 h2
   obtain⟨q,rfl⟩:∃k,q=k+1:=⟨q-1,by omega⟩
   rw[By,Fj,if_pos (by rw[Af,Ac];simp;omega),Cf (by omega),Aa,Aa,Ef,Bok,Bq (by omega) (by omega),Ag (by omega) (by omega),Af,Cx]at hs
   by_cases g1:l[i].toInt<0-hB bits
   ·rw[if_pos (by simpa using g1)]at hs;simp at hs
   ·rw[if_neg (by simpa using g1)]at hs
    by_cases g2:hB bits≤l[i].toInt
    ·rw[if_pos (by simpa using g2)]at hs;simp at hs
    ·rw[if_neg (by simpa using g2)]at hs
     by_cases hk:k=i
     ·subst hk;omega
     ·exact ih (i+1) q (by omega) (by omega) hs k (by omega) h2
 rw[cadenzaref18_Check,Kl,Bc7 h,Aa,if_neg (by rw[Az];simp;omega),if_neg (by rw[Aq,Ac];simp;omega)]at hc
 have:=key l.length 0 Am (by omega) (by have:=Ak;omega) hc
 intro x hx
 obtain⟨k,hk,rfl⟩:=List.getElem_of_mem hx
 exact this k (by omega) hk
theorem Bdo{bits:Int}(h:Cm bits){l:List Int32}(hl:l.length≤4000)(hc:cadenzaref18_Check bits l=some 0):width_Bytes bits l=some (bytesB bits l,0):=by
 have h1:=Bql h l hl (Ayq h hl hc) l.length 0 Am (by omega) (by have:=Ak;omega)
 rw[width_Bytes,Air,Bcx h l hl,hc,Aa,if_neg (by rw[Aj];simp)]
 exact h1
theorem Ca3{bits:Int}(h:Cm bits)(x:Int32)(hr: -(hB bits)≤x.toInt∧x.toInt<hB bits):Ach bits x=some (Acu bits x.toInt):=by
 have hx:=Aax x
 have gu:∀z:Int,(Ad z:UInt8)=u8 z:=fun z=>rfl
 have hq:∀n:Int,0≤n→n≤20000000→Bj n (256:Int)=n/256∧Bj n (65536:Int)=n/65536:=by
  intro n h1 h2
  constructor<;>(rw[Aft,Int.tdiv_eq_ediv_of_nonneg h1,Bq (by omega) (by omega)])
 have hm:∀n:Int,0≤n→Fb n (256:Int)=n %256:=fun n h1=>by rw[Fb,Int.tmod_eq_emod_of_nonneg h1]
 rw[Ach,Agg,Ef]
 obtain rfl|rfl|rfl:=h
 ·rw[if_pos (by rw[Az];rfl),Ag (by omega) (by omega),gu,Acu,if_pos rfl]
 ·have hh:hB 16=32768:=rfl
  rw[hh]at hr
  have hp:∀n:Int,0≤n→n≤70000→u8 n=u8 x.toInt→u8 (n/256)=u8 (x.toInt/256)→Jc 16 n=some (Acu 16 x.toInt):=by
   intro n h1 h2 h3 h4
   rw[Jc,Um,if_neg (by rw[Az];decide),hm n h1,(hq n h1 (by omega)).1,hm _ (by omega),gu,gu,Bii,Bii,h3,h4,Acu,if_neg (by decide),if_pos rfl]
  rw[if_neg (by rw[Az];decide)]
  by_cases hn:x.toInt<0
  ·rw[if_pos (by rw[Af];simpa using hn),Bc7 (.inr (.inl rfl)),Aa,hh,Gc (by omega) (by omega),Ag (by omega) (by omega)]
   refine hp _ (by omega) (by omega) ?_ ?_
   ·rw[u8,u8];congr 2;omega
   ·rw[u8,u8];congr 2;omega
  ·rw[if_neg (by rw[Af];simpa using hn)]
   exact hp _ (by omega) (by omega) rfl rfl
 ·have hh:hB 24=8388608:=rfl
  rw[hh]at hr
  have hp:∀n:Int,0≤n→n≤16777215→u8 n=u8 x.toInt→u8 (n/256)=u8 (x.toInt/256)→u8 (n/65536)=u8 (x.toInt/65536)→Jc 24 n=some (Acu 24 x.toInt):=by
   intro n h1 h2 h3 h4 h5
   rw[Jc,Um,if_pos (by rw[Az];rfl),hm n h1,(hq n h1 (by omega)).1,(hq n h1 (by omega)).2,hm _ (by omega),gu,gu,gu,Bii,Bii,h3,h4,h5,Cr (by simp),Aa,Acu,if_neg (by decide),if_neg (by decide)];rfl
  rw[if_neg (by rw[Az];decide)]
  by_cases hn:x.toInt<0
  ·rw[if_pos (by rw[Af];simpa using hn),Bc7 (.inr (.inr rfl)),Aa,hh,Gc (by omega) (by omega),Ag (by omega) (by omega)]
   refine hp _ (by omega) (by omega) ?_ ?_ ?_
   ·rw[u8,u8];congr 2;omega
   ·rw[u8,u8];congr 2;omega
   ·rw[u8,u8];congr 2;omega
  ·rw[if_neg (by rw[Af];simpa using hn)]
   exact hp _ (by omega) (by omega) rfl rfl rfl
theorem Bp8{bits:Int}(h:Cm bits)(l:List Int32)(hl:l.length≤4000)(hr:inR bits l):∀(j i q:Nat),i+j=l.length→j<q→Hf bits l q (i:Int) (bytesB bits (l.take i))=some (bytesB bits l,0)
 |0,i,q+1,hi,_=>by
  rw[Hf,Pq,if_neg (by rw[Af,Ac];simp;omega),List.take_of_length_le (by omega)];rfl
 |j+1,i,q+1,hi,hq=>by
  have hlt:i<l.length:=by omega
  have ih:=Bp8 h l hl hr j (i+1) q (by omega) (by omega)
  have hlen:=Aob bits (l.take i)
  have hol:=Bmy bits l[i].toInt
  rw[List.length_take]at hlen
  have e2:bytesB bits (l.take i++[l[i]])=bytesB bits (l.take i)++Acu bits l[i].toInt:=by unfold bytesB;rw[List.flatMap_append,List.flatMap_singleton]
  rw[Amu hlt,e2]at ih
  rw[Hf,Pq,if_pos (by rw[Af,Ac];simp;omega),Cf hlt,Aa,Ca3 h _ (hr l[i] (List.getElem_mem _)),Aa,Cr (by omega),Aa,Ag (by omega) (by omega)]
  exact ih
theorem Bg1{bits:Int}(h:Cm bits){l:List Int32}(hl:l.length≤4000)(hc:cadenzaref18_Check bits l=some 0):We bits l=some (bytesB bits l,0):=by
 have h1:=Bp8 h l hl (Ayq h hl hc) l.length 0 Am (by omega) (by have:=Ak;omega)
 rw[We,Abz,hc,Aa,if_neg (by rw[Aj];simp)]
 exact h1
end Go.Pl
set_option linter.unusedVariables false
set_option linter.unusedSimpArgs false
namespace Go.Pl
open Go Go.Lv
def Amd:List UInt8→Nat→Int×Int
 |[],n=>((n:Int),0)
 |c::r,n=>if 128≤c.toNat then(0,12)else Amd r (128*n+c.toNat)
theorem Bsa:∀(l:List UInt8) (n k:Nat),n<128^k→0≤(Amd l n).1∧(Amd l n).1<((128^(k+l.length):Nat):Int)
 |[],n,k,h=>by simp[Amd];exact_mod_cast h
 |c::r,n,k,h=>by
  rw[Amd]
  split
  ·have:0<128^(k+(c::r).length):=Nat.pow_pos (by omega)
   exact⟨Int.le_refl _,by simp only;exact_mod_cast this⟩
  ·have:=Bsa r (128*n+c.toNat) (k+1) (by rw[Nat.pow_succ];omega)
   rw[List.length_cons,show k+(r.length+1)=k+1+r.length by omega]
   exact this
theorem or7(n c:Nat)(hn:n<268435456)(hc:c<128):gor (Ck (n:Int) (GI.toZ (7:UInt64)).toNat) (c:Int)=((128*n+c:Nat):Int):=by
 have e:(GI.toZ (7:UInt64)).toNat=7:=rfl
 have h1:Ck (n:Int) 7=((2^7*n:Nat):Int):=by
  have:Ck (n:Int) 7=wrap64 ((n:Int)*2^7):=rfl
  rw[this,Bq (by omega) (by omega)];omega
 rw[e,h1]
 have h2:gor ((2^7*n:Nat):Int) (c:Int)=wrap64 ((BitVec.ofInt 64 ((2^7*n:Nat):Int)|||BitVec.ofInt 64 (c:Int)).toNat:Int):=rfl
 rw[h2,BitVec.toNat_or,BitVec.toNat_ofInt,BitVec.toNat_ofInt]
 have h3:(((2^7*n:Nat):Int) %((2^64:Nat):Int)).toNat=2^7*n:=by omega
 have h4:((c:Int) %((2^64:Nat):Int)).toNat=c:=by omega
 rw[h3,h4,←Nat.two_pow_add_eq_or_of_lt (by simpa using hc),Bq (by omega) (by omega)]
theorem Br3(b:List UInt8)(hb:b.length=4):∀(j i q n:Nat),i+j=4→j<q→n<128^i→Jo b q (n:Int) (i:Int)=some (Amd (b.drop i) n)
 |0,i,q+1,n,hi,_,_=>by
  rw[Jo,Tt,if_neg (by rw[Af,Ac];simp;omega),show b.drop i=[] by simp;omega];rfl
 |j+1,i,q+1,n,hi,hq,hn=>by
  have hlt:i<b.length:=by omega
  have hn2:n<268435456:=Nat.lt_of_lt_of_le hn (show 128^i≤128^4 from Nat.pow_le_pow_right (by omega) (by omega))
  rw[Jo,Tt,if_pos (by rw[Af,Ac];simp;omega),Cf hlt,Aa,drop_cons hlt,Amd,Bu3]
  by_cases hc:128≤b[i].toNat
  ·rw[if_pos (by simp;omega),if_pos hc]
  ·rw[if_neg (by simp;omega),if_neg hc,Ac8,or7 n _ hn2 (by omega),Ag (by omega) (by omega)]
   exact Br3 b hb j (i+1) q _ (by omega) (by omega) (by rw[Nat.pow_succ];omega)
theorem Buz(b:List UInt8)(hb:b.length=4):∀(j i q n:Nat),i+j=4→j<q→n<128^i→Hl b q (n:Int) (i:Int)=some (Amd (b.drop i) n)
 |0,i,q+1,n,hi,_,_=>by
  rw[Hl,Pn,if_neg (by rw[Af];simp;omega),show b.drop i=[] by simp;omega];rfl
 |j+1,i,q+1,n,hi,hq,hn=>by
  have hlt:i<b.length:=by omega
  have hn2:n<268435456:=Nat.lt_of_lt_of_le hn (show 128^i≤128^4 from Nat.pow_le_pow_right (by omega) (by omega))
  rw[Hl,Pn,if_pos (by rw[Af];simp;omega),Cf hlt,Aa,drop_cons hlt,Amd,Bwk]
  have h128:(128:UInt8).toNat=128:=rfl
  by_cases hc:128≤b[i].toNat
  ·rw[if_pos (by simpa using hc),if_pos hc]
  ·have h3:=b[i].toNat_lt
   rw[if_neg (by simpa using hc),if_neg hc,Aa,Ac8,Gc (by omega) (by omega),Ag (by omega) (by omega),Ag (by omega) (by omega)]
   have:=Buz b hb j (i+1) q (128*n+b[i].toNat) (by omega) (by omega) (by rw[Nat.pow_succ];omega)
   rw[←this];rfl
theorem Boq(b:List UInt8)(hb:b.length=4):Adj b=some (Amd b 0):=by
 have h:=Br3 b hb 4 0 Am 0 (by omega) (by have:=Ak;omega) (by simp)
 rw[Adj,Acm,if_neg (by rw[Aj,Ac];simp;omega),Ac1];exact h
theorem Bsy(b:List UInt8)(hb:b.length=4):Wx b=some (Amd b 0):=by
 have h:=Buz b hb 4 0 Am 0 (by omega) (by have:=Ak;omega) (by simp)
 rw[Wx,Abt,if_neg (by rw[Aj,Ac];simp;omega),Ab5];exact h
theorem Bpr{b:List UInt8}(hb:b.length=4):0≤(Amd b 0).1∧(Amd b 0).1<268435456:=by
 have:=Bsa b 0 0 (by simp)
 rw[hb]at this
 simpa using this
theorem An8(s p:List UInt8):Iq s p=some (decide (p.length≤s.length∧s.take p.length=p)):=by
 rw[Iq]
 by_cases h:p.length≤s.length
 ·rw[if_pos (by rw[Cx,Ac,Ac];simp;omega),show Ac p=(p.length:Int)from rfl,Jg (by omega) (by omega),Aa,Fv,Aa,Int.toNat_natCast]
  congr 1
  rw[Bool.eq_iff_iff];simp[h]
 ·rw[if_neg (by rw[Cx,Ac,Ac];simp;omega)]
  simp[h]
def Aut(b:List UInt8)(n:Int):Int×Int:=
 if 4000<n then(0,4)else if(b.length:Int)<n then(0,24)else
 if b.getD 5 0=16∧(b.take n.toNat).drop (n-10).toNat≠ [51,68,73]++part b 3 7 then(0,12)else(n,0)
def Bgt(b:List UInt8)(r:Int):Int×Int:=Aut b (r+10+(if b.getD 5 0=16 then 10 else 0))
def Ao9(b:List UInt8):Int×Int:=
 if ¬(3≤b.length∧b.take 3=[73,68,51])then(0,6)else if b.length<10 then(0,24)else
 if(Amd (part b 6 4) 0).2≠0∨b.getD 4 0≠0∨¬((b.getD 5 0=0∧2≤(b.getD 3 0).toNat∧(b.getD 3 0).toNat≤4)∨(b.getD 5 0=16∧b.getD 3 0=4))then(0,12)else
 Bgt b (Amd (part b 6 4) 0).1
theorem Avo{b:List UInt8}{i:Nat}(h:i<b.length):getI b (i:Int)=some (b.getD i 0):=by
 rw[Cf h];simp[List.getD_eq_getElem?_getD,h]
theorem Lm{b:List UInt8}(a w:Nat)(h:a+w≤b.length):Bu b (a:Int) ((a+w:Nat):Int)=some (part b a w):=by
 rw[Py (by omega) (by omega) (by omega)];rfl
theorem By2(b:List UInt8)(r:Int)(h10:10≤b.length)(h0:0≤r)(h1:r<268435456):Rj b r=some (Bgt b r):=by
 have g5:getI b (5:Int)=some (b.getD 5 0):=Avo (i:=5) (by omega)
 have key:∀n:Int,10≤n→n<268435500→Sg b n=some (Aut b n):=by
  intro n hn hn2
  rw[Sg,Ad9,Aut]
  by_cases c1:4000<n
  ·rw[if_pos (by rw[Aq];simpa using c1),if_pos c1]
  ·rw[if_neg (by rw[Aq];simpa using c1),if_neg c1]
   by_cases c2:(b.length:Int)<n
   ·rw[if_pos (by rw[Af,Ac];simpa using c2),if_pos c2]
   ·have e3:Bu b (3:Int) (10:Int)=some (part b 3 7):=Lm 3 7 (by omega)
    rw[if_neg (by rw[Af,Ac];simpa using c2),if_neg c2,g5,Aa]
    by_cases c3:b.getD 5 0=16
    ·rw[if_pos (by rw[Anc];simpa using c3),Be (by omega) (by omega),Py (by omega) (by omega) (by omega),Aa,e3,Aa,Cr (by rw[Ct (by omega)];simp),Aa]
     by_cases c4:(b.take n.toNat).drop (n-10).toNat=[51,68,73]++part b 3 7
     ·rw[if_neg (by simpa using c4),if_neg (by intro h;exact h.2 c4)]
     ·rw[if_pos (by simpa using c4),if_pos ⟨c3,c4⟩]
    ·rw[if_neg (by rw[Anc];simpa using c3),if_neg (fun h=>c3 h.1)]
 rw[Rj,Adt,g5,Aa,Bgt]
 by_cases c3:b.getD 5 0=16
 ·rw[if_pos (by rw[Anc];simpa using c3),Ag (by rw[Ag]<;>omega) (by rw[Ag]<;>omega),Ag (by omega) (by omega),key _ (by omega) (by omega),if_pos c3,show 10+r+10=r+10+10 by omega]
 ·rw[if_neg (by rw[Anc];simpa using c3),Ag (by omega) (by omega),key _ (by omega) (by omega),if_neg c3,show 10+r=r+10+0 by omega]
theorem Bx3(b:List UInt8)(hb:b.length<4611686018427387904):Aba b=some (Ao9 b):=by
 rw[Aba,Aec,Ao9]
 by_cases h3:3≤b.length
 ·rw[if_neg (by rw[Af,Ac];simp;omega),Jg (by omega) (by omega),Aa]
  by_cases hp:b.take 3=[73,68,51]
  ·rw[if_neg (by simpa using hp),if_neg (by simp[h3,hp]),Adz,Aev]
   by_cases h10:b.length<10
   ·rw[if_pos (by rw[Af,Ac];simp;omega),if_pos h10]
   ·have e6:Bu b (6:Int) (10:Int)=some (part b 6 4):=Lm 6 4 (by omega)
    have g3:getI b (3:Int)=some (b.getD 3 0):=Avo (i:=3) (by omega)
    have g4:getI b (4:Int)=some (b.getD 4 0):=Avo (i:=4) (by omega)
    have g5:getI b (5:Int)=some (b.getD 5 0):=Avo (i:=5) (by omega)
    obtain⟨v1,v2⟩:=Bpr (b:=part b 6 4) (Ct (by omega))
    rw[if_neg (by rw[Af,Ac];simp;omega),if_neg h10,e6,Aa,Bsy _ (Ct (by omega)),Aa]
    have ht:=By2 b (Amd (part b 6 4) 0).1 (by omega) v1 v2
    generalize Amd (part b 6 4) 0=v at*
    obtain⟨v,e⟩:=v
    simp only at ht v1 v2⊢
    simp only[Aa,g3,g4,g5,ht]
    generalize b.getD 3 0=x at*
    generalize b.getD 4 0=y at*
    generalize b.getD 5 0=z at*
    simp only[Bo2,Cdm,Bu3,Aj]
    by_cases he:e=0<;>by_cases hy:y=0<;>by_cases hz:z=0<;>by_cases hz2:z=16<;>by_cases hx:x=4<;>by_cases hx2:x.toNat<2<;>by_cases hx4:4<x.toNat<;>simp_all<;>(rw[if_neg (by omega),if_neg (by omega)])
  ·rw[if_pos (by simpa using hp),if_pos (by simp[hp])]
 ·rw[if_pos (by rw[Af,Ac];simp;omega),if_pos (by simp[h3])]
theorem Bg7(b:List UInt8)(n:Int)(h10:10≤b.length)(hn:10≤n)(hn2:n<268435500):Vs b (b.getD 5 0) n=some (Aut b n):=by
 rw[Vs,Apg]
 by_cases c1:4000<n
 ·rw[if_pos (by rw[Aq];simpa using c1),Aut,if_pos c1]
 ·rw[if_neg (by rw[Aq];simpa using c1)]
  by_cases c2:(b.length:Int)<n
  ·rw[if_pos (by rw[Af,Ac];simpa using c2),Aut,if_neg c1,if_pos c2]
  ·have e3:Bu b (3:Int) (10:Int)=some (part b 3 7):=Lm 3 7 (by omega)
   rw[if_neg (by rw[Af,Ac];simpa using c2)]
   by_cases c3:b.getD 5 0=16
   ·have hl:((b.take n.toNat).drop (n-10).toNat).length=10:=by simp;omega
    have ht:Aut b n=if(b.take n.toNat).drop (n-10).toNat≠ [51,68,73]++part b 3 7 then(0,12)else(n,0):=by rw[Aut,if_neg c1,if_neg c2];simp only[c3,true_and]
    rw[if_pos (by rw[Anc];simpa using c3),Be (by omega) (by omega),Py (by omega) (by omega) (by omega),Aa,ht]
    generalize(b.take n.toNat).drop (n-10).toNat=f at*
    rw[Jg (by omega) (by omega),Aa,Lg (by omega) (by omega),Aa,e3,Aa,Fv,Aa]
    have hf:f=f.take 3++f.drop 3:=(List.take_append_drop 3 f).symm
    by_cases c4:f=[51,68,73]++part b 3 7
    ·subst c4
     simp
    ·by_cases c5:f.take 3=[51,68,73]
     ·have:f.drop 3≠part b 3 7:=fun h=>c4 (by rw[hf,c5,h])
      simp only[List.cons_append,List.nil_append]at c4
      simp[c4,c5,this]
     ·simp only[List.cons_append,List.nil_append]at c4
      simp[c4,c5]
   ·rw[if_neg (by rw[Anc];simpa using c3),Aut,if_neg c1,if_neg c2,if_neg (fun h=>c3 h.1)]
theorem Buq(b:List UInt8)(r:Int)(h10:10≤b.length)(h0:0≤r)(h1:r<268435456):Vu b r (b.getD 5 0)=some (Bgt b r):=by
 rw[Vu,Afg,Bgt]
 by_cases c3:b.getD 5 0=16
 ·rw[if_pos (by rw[Anc];simpa using c3),Ag (by rw[Ag]<;>omega) (by rw[Ag]<;>omega),Ag (by omega) (by omega),Bg7 b _ h10 (by omega) (by omega),if_pos c3]
 ·rw[if_neg (by rw[Anc];simpa using c3),Ag (by omega) (by omega),Bg7 b _ h10 (by omega) (by omega),if_neg c3];simp
theorem Bty(b:List UInt8)(hb:b.length<4611686018427387904):Agt b=some (Ao9 b):=by
 rw[Agt,Vr,An8,Aa]
 by_cases hp:3≤b.length∧b.take 3=[73,68,51]
 ·rw[if_neg (by simpa using hp)]
  by_cases h10:b.length<10
  ·rw[if_pos (by rw[Af,Ac];simp;omega),Ao9,if_neg (fun h=>h hp),if_pos h10]
  ·have e6:Bu b (6:Int) (10:Int)=some (part b 6 4):=Lm 6 4 (by omega)
   have g3:getI b (3:Int)=some (b.getD 3 0):=Avo (i:=3) (by omega)
   have g4:getI b (4:Int)=some (b.getD 4 0):=Avo (i:=4) (by omega)
   have g5:getI b (5:Int)=some (b.getD 5 0):=Avo (i:=5) (by omega)
   obtain⟨v1,v2⟩:=Bpr (b:=part b 6 4) (Ct (by omega))
   have ht:=Buq b (Amd (part b 6 4) 0).1 (by omega) v1 v2
   rw[if_neg (by rw[Af,Ac];simp;omega),g3,Aa,g5,Aa,Afs,Afu,e6,Aa,Boq _ (Ct (by omega)),Aa,Ao9,if_neg (fun h=>h hp),if_neg h10]
   generalize Amd (part b 6 4) 0=v at*
   obtain⟨v,e⟩:=v
   simp only at ht v1 v2⊢
   simp only[Aa,g4,Af0,Afm]
   generalize b.getD 3 0=x at*
   generalize b.getD 4 0=y at*
   generalize b.getD 5 0=z at*
   simp only[Bo2,Ccx,Anc,Bwk,Aj]
   have e2:(2:UInt8).toNat=2:=rfl
   have e4:(4:UInt8).toNat=4:=rfl
   by_cases he:e=0<;>by_cases hy:y=0<;>by_cases hz:z=0<;>by_cases hz2:z=16<;>by_cases hx:x=4<;>by_cases hx2:2≤x.toNat<;>by_cases hx4:x.toNat≤4<;>simp_all
 ·rw[if_pos (by rw[Bool.not_eq_true',decide_eq_false_iff_not];exact hp),Ao9,if_pos hp]
theorem Bv8{b:List UInt8}{n:Int}(h:Ao9 b=(n,0)):10≤n∧n≤b.length∧n≤4000:=by
 unfold Ao9 at h
 split at h; · simp at h
 split at h; · simp at h
 split at h; · simp at h
 rename_i h10 _
 obtain⟨v1,v2⟩:=Bpr (b:=part b 6 4) (Ct (by omega))
 unfold Bgt at h
 generalize hm:(Amd (part b 6 4) 0).1+10+(if b.getD 5 0=16 then 10 else 0)=m at h
 unfold Aut at h
 split at h; · simp at h
 split at h; · simp at h
 split at h; · simp at h
 simp only[Prod.mk.injEq,and_true]at h
 subst h
 refine⟨?_,by omega,by omega⟩
 rw[←hm]
 split<;>omega
end Go.Pl
set_option linter.unusedVariables false
set_option linter.unusedSimpArgs false
namespace Go.Pl
open Go Go.Lv
def APE:List UInt8:=[65,80,69,84,65,71,69,88]
def Lf(n m fl:Nat):List UInt8:=APE++leB 2000 4++leB (n+32) 4++leB m 4++leB fl 4++List.replicate 8 0
theorem Akl{n:Nat}(h:n<18446744073709551616):(UInt64.ofNat n).toNat=n:=by rw[UInt64.toNat_ofNat',Nat.mod_eq_of_lt h]
theorem Atg(n m:Int)(fl:UInt64)(c:UInt64)(i q:Nat)(acc:List UInt8)(hi:i<6)(hc:getI ([(2000:UInt64),(Ad (Ae n (32:Int)):UInt64),(Ad m:UInt64),fl,(0:UInt64),(0:UInt64)]:List UInt64) (i:Int)=some c)(h:c.toNat<4294967296)(ha:acc.length≤1000000):
  Ws n m fl (q+1) (i:Int) acc=Ws n m fl q ((i+1:Nat):Int) (acc++leB c.toNat 4):=by
 have hb:=Bmu c 4 (by omega) (by omega) (by simpa using h)
 rw[Ws,Aou,if_pos (by rw[Af,Ac];simp;omega),hc,Aa,Aa,show((4:Int))=((4:Nat):Int)from rfl,hb,Aa]
 simp only
 rw[Cr (by rw[Li];omega),Aa,Ag (by omega) (by omega)];rfl
theorem Bcy(n m:Nat)(fl:UInt64)(hn:n≤3000)(hm:m≤1000)(hf:fl.toNat<4294967296):Atf (n:Int) (m:Int) fl=some (Lf n m fl.toNat):=by
 have e1:(Ad (Ae (n:Int) (32:Int)):UInt64).toNat=n+32:=by rw[Ag (by omega) (by omega),show(n:Int)+32=((n+32:Nat):Int) by omega,Xi,Akl (by omega)]
 have e2:(Ad (m:Int):UInt64).toNat=m:=by rw[Xi,Akl (by omega)]
 have hF:Am=(Am-7)+1+1+1+1+1+1+1:=by have:=Ak;omega
 rw[Atf,Ave,Avw,hF]
 rw[show((0:Int))=((0:Nat):Int)from rfl,Atg n m fl 2000 0 _ _ (by omega) rfl (by decide) (by simp),Atg n m fl _ 1 _ _ (by omega) rfl (by rw[e1];omega) (by simp[Li]),Atg n m fl _ 2 _ _ (by omega) rfl (by rw[e2];omega) (by simp[Li]),
  Atg n m fl fl 3 _ _ (by omega) rfl hf (by simp[Li]),Atg n m fl 0 4 _ _ (by omega) rfl (by decide) (by simp[Li]),Atg n m fl 0 5 _ _ (by omega) rfl (by decide) (by simp[Li]),e1,e2]
 rw[Ws,Aou,if_neg (by rw[Af,Ac];simp),Avh,Bco,Lf]
 have z:leB (0:UInt64).toNat 4++leB (0:UInt64).toNat 4=List.replicate 8 0:=by decide
 have z2:leB (2000:UInt64).toNat 4=leB 2000 4:=rfl
 rw[List.append_assoc _ (leB (0:UInt64).toNat 4),z,z2];rfl
theorem Axv(n m:Nat)(fl:UInt64)(hn:n≤3000)(hm:m≤1000)(hf:fl.toNat<4294967296):Mq (n:Int) (m:Int) fl=some (Lf n m fl.toNat):=by
 have e1:(Ad (Ae (n:Int) (32:Int)):UInt64).toNat=n+32:=by rw[Ag (by omega) (by omega),show(n:Int)+32=((n+32:Nat):Int) by omega,Xi,Akl (by omega)]
 have e2:(Ad (m:Int):UInt64).toNat=m:=by rw[Xi,Akl (by omega)]
 have w:∀c:UInt64,Cz c 4=some (leB c.toNat 4):=fun c=>Bde c 4 (by omega)
 have z2:leB (2000:UInt64).toNat 4=leB 2000 4:=rfl
 rw[Mq]
 simp only[w,e1,e2,Aa]
 rw[Cr (by simp[Li]),Aa,Cr (by simp[Li]),Aa,Cr (by simp[Li]),Aa,Cr (by simp[Li]),Aa,Az4 (by omega) (by omega),Aa,Cr (by simp[Li]),Aa,z2];rfl
theorem Ag2{b:List UInt8}{a w k:Nat}(h:a+w≤k):part (b.take k) a w=part b a w:=by rw[part,part,List.take_take,Nat.min_eq_left h]
def Ae3(b:List UInt8):Bool:=decide (Dn (part b 12 4)<32∨3032<Dn (part b 12 4)∨1000<Dn (part b 16 4))
theorem Bv7(b:List UInt8)(h:20≤b.length):(((Bv (leU (part b 12 4)) (32:UInt64))||(Ey (leU (part b 12 4)) (3032:UInt64)))||(Ey (leU (part b 16 4)) (1000:UInt64)))=Ae3 b:=by
 rw[Bb1,Aj2,Aj2,Aki (by rw[Ct (by omega)];omega),Aki (by rw[Ct (by omega)];omega),Ae3]
 show((decide (Dn (part b 12 4)<32)||decide (3032<Dn (part b 12 4)))||decide (1000<Dn (part b 16 4)))=_
 simp[Bool.or_assoc]
theorem Azo(b:List UInt8)(h:20≤b.length)(hb:Ae3 b=false):Ah (Ad (leU (part b 12 4)):Int) (32:Int)=((Dn (part b 12 4)-32:Nat):Int)∧(Ad (leU (part b 16 4)):Int)=((Dn (part b 16 4):Nat):Int)∧Dn (part b 12 4)-32≤3000∧Dn (part b 16 4)≤1000:=by
 simp only[Ae3,decide_eq_false_iff_not]at hb
 refine⟨?_,Adc (by rw[Ct (by omega)];omega),by omega,by omega⟩
 rw[Adc (by rw[Ct (by omega)];omega),Be (by omega) (by omega)];omega
theorem Anj(b:List UInt8)(fl:UInt64)(h:20≤b.length)(hl:b.length<4611686018427387904)(hf:fl.toNat<4294967296):
  Ag3 b fl=some (if Ae3 b=true then(0,0,false)else(((Dn (part b 12 4)-32:Nat):Int),((Dn (part b 16 4):Nat):Int),b==Lf (Dn (part b 12 4)-32) (Dn (part b 16 4)) fl.toNat)):=by
 have a1:Al0 b 12 4=some (leU (part b 12 4),0):=Bg6 b 12 4 (by omega) (by omega) (by omega) hl
 have a2:Al0 b 16 4=some (leU (part b 16 4),0):=Bg6 b 16 4 (by omega) (by omega) (by omega) hl
 rw[Ag3,a1,Aa]
 simp only
 rw[a2,Aa]
 simp only
 rw[Bv7 b h]
 cases hb:Ae3 b with
 |true=>rfl
 |false=>
  obtain⟨i1,i2,i3,i4⟩:=Azo b h hb
  rw[i1,i2,Bcy _ _ _ i3 i4 hf]
  rfl
theorem Bnt(b:List UInt8)(h:20≤b.length)(hl:b.length<4611686018427387904):
  Qc b=some (if Ae3 b=true then(0,0,false)else(((Dn (part b 12 4)-32:Nat):Int),((Dn (part b 16 4):Nat):Int),true)):=by
 have a1:Bu b 12 16=some (part b 12 4):=Lm 12 4 (by omega)
 have a2:Bu b 16 20=some (part b 16 4):=Lm 16 4 (by omega)
 rw[Qc,a1,Aa,Bms _ (by rw[Ct (by omega)];omega),Aa,a2,Aa,Bms _ (by rw[Ct (by omega)];omega),Aa,Bv7 b h]
 cases hb:Ae3 b with
 |true=>rfl
 |false=>
  obtain⟨i1,i2,i3,i4⟩:=Azo b h hb
  rw[i1,i2];rfl
def Oa(b:List UInt8):Int×Int:=
 if ¬(8≤b.length∧b.take 8=APE)then(0,6)else if b.length<32 then(0,24)else
 if Ae3 b=true∨b.take 32≠Lf (Dn (part b 12 4)-32) (Dn (part b 16 4)) 2684354560 then(0,12)else
 if b.length<Dn (part b 12 4)+32 then(0,24)else
 if(b.take (Dn (part b 12 4)+32)).drop (Dn (part b 12 4))≠Lf (Dn (part b 12 4)-32) (Dn (part b 16 4)) 2147483648 then(0,12)else(((Dn (part b 12 4)+32:Nat):Int),0)
theorem Bkt(b:List UInt8):Ae3 (b.take 32)=Ae3 b:=by rw[Ae3,Ae3,Ag2 (by omega),Ag2 (by omega)]
section
variable {b:List UInt8}
theorem fa1(h:¬(8≤b.length∧b.take 8=APE)):Oa b=(0,6):=by rw[Oa,if_pos h]
theorem fa2(h:8≤b.length∧b.take 8=APE)(h2:b.length<32):Oa b=(0,24):=by rw[Oa,if_neg (fun h'=>h' h),if_pos h2]
variable (h:8≤b.length∧b.take 8=APE) (h2:¬b.length<32)
include h h2
theorem fa3(h3:Ae3 b=true):Oa b=(0,12):=by rw[Oa,if_neg (fun h'=>h' h),if_neg h2,if_pos (.inl h3)]
theorem fa4(h4:b.take 32≠Lf (Dn (part b 12 4)-32) (Dn (part b 16 4)) 2684354560):Oa b=(0,12):=by rw[Oa,if_neg (fun h'=>h' h),if_neg h2,if_pos (.inr h4)]
variable (h3:Ae3 b=false) (h4:b.take 32=Lf (Dn (part b 12 4)-32) (Dn (part b 16 4)) 2684354560)
include h3 h4
theorem fa5(h5:b.length<Dn (part b 12 4)+32):Oa b=(0,24):=by
 rw[Oa,if_neg (fun h'=>h' h),if_neg h2,if_neg (fun h'=>h'.elim (fun e=>by rw[h3]at e;cases e) fun e=>e h4),if_pos h5]
theorem fa6(h5:¬b.length<Dn (part b 12 4)+32)(h6:(b.take (Dn (part b 12 4)+32)).drop (Dn (part b 12 4))≠Lf (Dn (part b 12 4)-32) (Dn (part b 16 4)) 2147483648):Oa b=(0,12):=by
 rw[Oa,if_neg (fun h'=>h' h),if_neg h2,if_neg (fun h'=>h'.elim (fun e=>by rw[h3]at e;cases e) fun e=>e h4),if_neg h5,if_pos h6]
theorem fa7(h5:¬b.length<Dn (part b 12 4)+32)(h6:(b.take (Dn (part b 12 4)+32)).drop (Dn (part b 12 4))=Lf (Dn (part b 12 4)-32) (Dn (part b 16 4)) 2147483648):Oa b=(((Dn (part b 12 4)+32:Nat):Int),0):=by
 rw[Oa,if_neg (fun h'=>h' h),if_neg h2,if_neg (fun h'=>h'.elim (fun e=>by rw[h3]at e;cases e) fun e=>e h4),if_neg h5,if_neg (fun h'=>h' h6)]
end
theorem Bo5(b:List UInt8)(hl:b.length<4611686018427387904):Att b=some (Oa b):=by
 rw[Att,An8,Aa]
 by_cases hp:8≤b.length∧b.take 8=APE
 ·rw[if_neg (by simpa [APE]using hp)]
  by_cases h32:b.length<32
  ·rw[if_pos (by rw[Af,Ac];simp;omega),fa2 hp h32]
  ·have t:=Anj (b.take 32) 2684354560 (by simp;omega) (by simp;omega) (by decide)
   rw[Bkt,Ag2 (by omega),Ag2 (by omega)]at t
   rw[if_neg (by rw[Af,Ac];simp;omega),Jg (by omega) (by omega),Aa,show(32:Int).toNat=32 from rfl,t,Aa]
   cases hb:Ae3 b with
   |true=>rw[fa3 hp h32 hb];simp
   |false=>
    obtain⟨i1,i2,i3,i4⟩:=Azo b (by omega) hb
    have i5:32≤Dn (part b 12 4):=by simp only[Ae3,decide_eq_false_iff_not]at hb;omega
    simp only[Bool.false_eq_true,if_false,false_or]
    by_cases c1:b.take 32=Lf (Dn (part b 12 4)-32) (Dn (part b 16 4)) 2684354560
    ·have c1':b.take 32=Lf (Dn (part b 12 4)-32) (Dn (part b 16 4)) (2684354560:UInt64).toNat:=c1
     rw[if_neg (by simpa using c1'),Ag (by omega) (by omega)]
     have e1:((Dn (part b 12 4)-32:Nat):Int)+64=((Dn (part b 12 4)+32:Nat):Int):=by omega
     rw[e1]
     by_cases c2:b.length<Dn (part b 12 4)+32
     ·rw[if_pos (by rw[Af,Ac];simp;omega),fa5 hp h32 hb c1 c2]
     ·rw[if_neg (by rw[Af,Ac];simp;omega),Be (by omega) (by omega),Py (by omega) (by omega) (by omega),Aa,Bcy _ _ _ i3 i4 (by decide),Aa,Fv,Aa]
      rw[show(((Dn (part b 12 4)+32:Nat):Int)).toNat=Dn (part b 12 4)+32 by omega,show(((Dn (part b 12 4)+32:Nat):Int)-32).toNat=Dn (part b 12 4) by omega]
      by_cases c3:(b.take (Dn (part b 12 4)+32)).drop (Dn (part b 12 4))=Lf (Dn (part b 12 4)-32) (Dn (part b 16 4)) 2147483648
      ·have c3':(b.take (Dn (part b 12 4)+32)).drop (Dn (part b 12 4))=Lf (Dn (part b 12 4)-32) (Dn (part b 16 4)) (2147483648:UInt64).toNat:=c3
       rw[if_neg (by simpa using c3'),fa7 hp h32 hb c1 c2 c3]
      ·have c3':¬(b.take (Dn (part b 12 4)+32)).drop (Dn (part b 12 4))=Lf (Dn (part b 12 4)-32) (Dn (part b 16 4)) (2147483648:UInt64).toNat:=c3
       rw[if_pos (by simpa using c3'),fa6 hp h32 hb c1 c2 c3]
    ·have c1':¬b.take 32=Lf (Dn (part b 12 4)-32) (Dn (part b 16 4)) (2684354560:UInt64).toNat:=c1
     rw[if_pos (by simpa using c1'),fa4 hp h32 c1]
 ·rw[if_pos (by rw[Bool.not_eq_true',decide_eq_false_iff_not];exact hp),fa1 hp]
theorem Btm(b:List UInt8)(hl:b.length<4611686018427387904):Wm b=some (Oa b):=by
 rw[Wm,Ab3]
 by_cases h8:8≤b.length
 ·rw[if_neg (by rw[Af,Ac];simp;omega),Jg (by omega) (by omega),Aa,show(8:Int).toNat=8 from rfl]
  by_cases ha:b.take 8=APE
  ·have hp:=And.intro h8 ha
   rw[if_neg (by simpa [APE]using ha),Ab0,Abx]
   by_cases h32:b.length<32
   ·rw[if_pos (by rw[Af,Ac];simp;omega),fa2 hp h32]
   ·have t:=Bnt (b.take 32) (by simp;omega) (by simp;omega)
    rw[Bkt,Ag2 (by omega),Ag2 (by omega)]at t
    rw[if_neg (by rw[Af,Ac];simp;omega),Jg (by omega) (by omega),Aa,show(32:Int).toNat=32 from rfl,t,Aa]
    cases hb:Ae3 b with
    |true=>rw[fa3 hp h32 hb];simp
    |false=>
     obtain⟨i1,i2,i3,i4⟩:=Azo b (by omega) hb
     have i5:32≤Dn (part b 12 4):=by simp only[Ae3,decide_eq_false_iff_not]at hb;omega
     simp only[Bool.false_eq_true,if_false,false_or,Aa,Bool.not_true]
     rw[Qq,Axv _ _ _ i3 i4 (by decide),Aa,Aa]
     by_cases c1:b.take 32=Lf (Dn (part b 12 4)-32) (Dn (part b 16 4)) 2684354560
     ·have c1':b.take 32=Lf (Dn (part b 12 4)-32) (Dn (part b 16 4)) (2684354560:UInt64).toNat:=c1
      rw[if_neg (by simpa using c1'),Abl,Abs,Ag (by omega) (by omega)]
      have e1:64+((Dn (part b 12 4)-32:Nat):Int)=((Dn (part b 12 4)+32:Nat):Int):=by omega
      rw[e1]
      by_cases c2:b.length<Dn (part b 12 4)+32
      ·rw[if_pos (by rw[Af,Ac];simp;omega),fa5 hp h32 hb c1 c2]
      ·rw[if_neg (by rw[Af,Ac];simp;omega),Be (by omega) (by omega),Py (by omega) (by omega) (by omega),Aa,Il,if_pos rfl,Axv _ _ _ i3 i4 (by decide),Aa,Aa]
       rw[show(((Dn (part b 12 4)+32:Nat):Int)).toNat=Dn (part b 12 4)+32 by omega,show(((Dn (part b 12 4)+32:Nat):Int)-32).toNat=Dn (part b 12 4) by omega]
       by_cases c3:(b.take (Dn (part b 12 4)+32)).drop (Dn (part b 12 4))=Lf (Dn (part b 12 4)-32) (Dn (part b 16 4)) 2147483648
       ·have c3':(b.take (Dn (part b 12 4)+32)).drop (Dn (part b 12 4))=Lf (Dn (part b 12 4)-32) (Dn (part b 16 4)) (2147483648:UInt64).toNat:=c3
        rw[if_neg (by simpa using c3'),fa7 hp h32 hb c1 c2 c3]
       ·have c3':¬(b.take (Dn (part b 12 4)+32)).drop (Dn (part b 12 4))=Lf (Dn (part b 12 4)-32) (Dn (part b 16 4)) (2147483648:UInt64).toNat:=c3
        rw[if_pos (by simpa using c3'),fa6 hp h32 hb c1 c2 c3]
     ·have c1':¬b.take 32=Lf (Dn (part b 12 4)-32) (Dn (part b 16 4)) (2684354560:UInt64).toNat:=c1
      rw[if_pos (by simpa using c1'),fa4 hp h32 c1]
  ·rw[if_pos (by simpa [APE]using ha),fa1 (fun h=>ha h.2)]
 ·rw[if_pos (by rw[Af,Ac];simp;omega),fa1 (fun h=>h8 h.1)]
theorem Bsq{b:List UInt8}{n:Int}(h:Oa b=(n,0)):64≤n∧n≤b.length:=by
 unfold Oa at h
 split at h; · simp at h
 split at h; · simp at h
 split at h; · simp at h
 rename_i hb
 split at h; · simp at h
 split at h; · simp at h
 simp only[Prod.mk.injEq,and_true]at h
 have hb':¬Ae3 b=true:=fun e=>hb (.inl e)
 simp only[Ae3,decide_eq_true_eq]at hb'
 omega
end Go.Pl
set_option linter.unusedVariables false
set_option linter.unusedSimpArgs false
namespace Go.Pl
open Go Go.Lv
def Eh(b:List UInt8):Int×Int:=if(Ao9 b).2≠6 then Ao9 b else Oa b
theorem size_eq(b:List UInt8)(hl:b.length<4611686018427387904):Sy b=some (Eh b):=by
 rw[Sy,Bty b hl,Aa,Bo5 b hl]
 by_cases h:(Ao9 b).2=6
 ·simp[Eh,h,Aj]
 ·simp[Eh,h,Aj]
theorem Bdt{b:List UInt8}{n:Int}(h:Eh b=(n,0)):10≤n∧n≤b.length:=by
 unfold Eh at h
 split at h
 ·have:=Bv8 h;omega
 ·have:=Bsq h;omega
def Cq(b:List UInt8):Nat→Nat→List Int×Int
 |0,_=>([],6)
 |j+1,p=>if(Eh (b.drop p)).2=6 then([],0)else if(Eh (b.drop p)).2≠0 then([],(Eh (b.drop p)).2)else
  if 4000<(p:Int)+(Eh (b.drop p)).1 then([],4)else
  if(Cq b j (p+(Eh (b.drop p)).1.toNat)).2=0 then((Eh (b.drop p)).1::(Cq b j (p+(Eh (b.drop p)).1.toNat)).1,0)else([],(Cq b j (p+(Eh (b.drop p)).1.toNat)).2)
theorem Ayw(b:List UInt8):∀(j p:Nat),p≤b.length→p≤4000→(Cq b j p).2=0→(∀x∈(Cq b j p).1,10≤x)∧(p:Int)+(Cq b j p).1.sum≤b.length∧(p:Int)+(Cq b j p).1.sum≤4000
 |0,p,_,_,h=>by simp[Cq]at h
 |j+1,p,hp,hq,h=>by
  rw[Cq]at h⊢
  split at h
  ·rename_i h6;rw[if_pos h6];simp;omega
  ·rename_i h6
   split at h
   ·rename_i h0;exact absurd h h0
   ·rename_i h0
    rw[if_neg h6,if_neg h0]
    have hz:Eh (b.drop p)=((Eh (b.drop p)).1,0):=by rw[Prod.ext_iff];exact⟨rfl,Classical.not_not.1 h0⟩
    have hs:=Bdt hz
    rw[List.length_drop]at hs
    split at h
    ·simp at h
    ·rename_i h4
     rw[if_neg h4]
     split at h
     ·rename_i h00
      rw[if_pos h00]
      obtain⟨i1,i2,i3⟩:=Ayw b j _ (by omega) (by omega) h00
      refine⟨fun x hx=>?_,?_,?_⟩
      ·rcases List.mem_cons.1 hx with rfl|hx
       ·exact hs.1
       ·exact i1 x hx
      ·simp only[List.sum_cons];omega
      ·simp only[List.sum_cons];omega
     ·rename_i h00;exact absurd h h00
def Bs7(b:List UInt8)(j p:Nat):Int×Int:=if(Cq b j p).2=0 then((p:Int)+(Cq b j p).1.sum,0)else(0,(Cq b j p).2)
theorem Bch(b:List UInt8)(hl:b.length<4611686018427387904):∀(j p q:Nat),p≤b.length→p≤4000→b.length-p<j→j≤q→Oz b q (p:Int)=some (Bs7 b j p)
 |0,p,q,_,_,h,_=>by omega
 |j+1,p,q,hp,hp4,hj,hq=>by
  obtain⟨q,rfl⟩:∃k,q=k+1:=⟨q-1,by omega⟩
  rw[Oz,Lg (by omega) (by omega),Aa,Int.toNat_natCast,size_eq _ (by simp;omega),Aa,Az,Az,Aj,Bs7]
  by_cases h6:(Eh (b.drop p)).2=6
  ·rw[if_pos (by simpa using h6)]
   have:Cq b (j+1) p=([],0):=by rw[Cq,if_pos h6]
   rw[this];simp
  ·rw[if_neg (by simpa using h6)]
   by_cases h0:(Eh (b.drop p)).2=0
   ·have hz:Eh (b.drop p)=((Eh (b.drop p)).1,0):=by rw[Prod.ext_iff];exact⟨rfl,h0⟩
    have hs:=Bdt hz
    rw[List.length_drop]at hs
    rw[Ag (by omega) (by omega),Aq]
    by_cases h4:4000<(p:Int)+(Eh (b.drop p)).1
    ·rw[if_pos (by simp[h0];omega)]
     have:Cq b (j+1) p=([],4):=by rw[Cq,if_neg h6,if_neg (fun h=>h h0),if_pos h4]
     rw[this];simp
    ·rw[if_neg (by simp[h0];omega),if_neg (by simpa using h0)]
     have ih:=Bch b hl j (p+(Eh (b.drop p)).1.toNat) q (by omega) (by omega) (by omega) (by omega)
     rw[show(p:Int)+(Eh (b.drop p)).1=((p+(Eh (b.drop p)).1.toNat:Nat):Int) by omega,ih,Bs7]
     have:Cq b (j+1) p=if(Cq b j (p+(Eh (b.drop p)).1.toNat)).2=0 then((Eh (b.drop p)).1::(Cq b j (p+(Eh (b.drop p)).1.toNat)).1,0)else([],(Cq b j (p+(Eh (b.drop p)).1.toNat)).2):=by
      rw[Cq,if_neg h6,if_neg (fun h=>h h0),if_neg h4]
     rw[this]
     by_cases hr:(Cq b j (p+(Eh (b.drop p)).1.toNat)).2=0
     ·simp only[hr,if_true,List.sum_cons];congr 2;omega
     ·simp only[hr,if_false]
   ·rw[if_neg (by simp[h0]),if_pos (by simpa using h0)]
    have:Cq b (j+1) p=([],(Eh (b.drop p)).2):=by rw[Cq,if_neg h6,if_pos h0]
    rw[this];simp[h0]
def Bw6(b:List UInt8)(j p:Nat)(xs:List Int):List Int×Int:=if(Cq b j p).2=0 then(xs++(Cq b j p).1,0)else([],(Cq b j p).2)
theorem Bxm(bk:Int→List Int→Option (List Int×Int))(b:List UInt8)(p:Nat)(hp:p≤b.length)(xs:List Int)(hx:xs.length≤4000)(hl:b.length<4611686018427387904):Ph (Ko bk b) b (p:Int) xs=Ko bk b (p:Int) xs (Eh (b.drop p)).1 (Eh (b.drop p)).2:=by
 have hf:=Btm (b.drop p) (by simp;omega)
 rw[Ph,Lg (by omega) (by omega),Aa,Int.toNat_natCast,Bx3 _ (by simp;omega),Aa]
 by_cases h:(Ao9 (b.drop p)).2=6
 ·simp[Eh,h,Az,hf]
 ·simp[Eh,h,Az]
theorem Bhn(b:List UInt8)(hl:b.length<4611686018427387904):∀(j p q:Nat) (xs:List Int),p≤b.length→p≤4000→b.length-p<j→j≤q→xs.length≤p→Ku b q (p:Int) xs=some (Bw6 b j p xs)
 |0,p,q,_,_,_,h,_,_=>by omega
 |j+1,p,q,xs,hp,hp4,hj,hq,hx=>by
  obtain⟨q,rfl⟩:∃k,q=k+1:=⟨q-1,by omega⟩
  rw[Ku,Bxm _ b p hp xs (by omega) hl,Ko,Ab6,Az,Aj,Bw6]
  by_cases h6:(Eh (b.drop p)).2=6
  ·rw[if_pos (by simpa using h6)]
   have:Cq b (j+1) p=([],0):=by rw[Cq,if_pos h6]
   rw[this];simp
  ·rw[if_neg (by simpa using h6)]
   by_cases h0:(Eh (b.drop p)).2=0
   ·have hz:Eh (b.drop p)=((Eh (b.drop p)).1,0):=by rw[Prod.ext_iff];exact⟨rfl,h0⟩
    have hs:=Bdt hz
    rw[List.length_drop]at hs
    rw[if_neg (by simpa using h0),Ag (by omega) (by omega),Aq]
    by_cases h4:4000<(p:Int)+(Eh (b.drop p)).1
    ·rw[if_pos (by simp;omega)]
     have:Cq b (j+1) p=([],4):=by rw[Cq,if_neg h6,if_neg (fun h=>h h0),if_pos h4]
     rw[this];simp
    ·rw[if_neg (by simp;omega),Cr (by simp;omega),Aa]
     have ih:=Bhn b hl j (p+(Eh (b.drop p)).1.toNat) q (xs++[(Eh (b.drop p)).1]) (by omega) (by omega) (by omega) (by omega) (by simp;omega)
     rw[show(p:Int)+(Eh (b.drop p)).1=((p+(Eh (b.drop p)).1.toNat:Nat):Int) by omega,ih,Bw6]
     have:Cq b (j+1) p=if(Cq b j (p+(Eh (b.drop p)).1.toNat)).2=0 then((Eh (b.drop p)).1::(Cq b j (p+(Eh (b.drop p)).1.toNat)).1,0)else([],(Cq b j (p+(Eh (b.drop p)).1.toNat)).2):=by
      rw[Cq,if_neg h6,if_neg (fun h=>h h0),if_neg h4]
     rw[this]
     by_cases hr:(Cq b j (p+(Eh (b.drop p)).1.toNat)).2=0
     ·simp only[hr,if_true];simp
     ·simp only[hr,if_false]
   ·rw[if_pos (by simpa using h0)]
    have:Cq b (j+1) p=([],(Eh (b.drop p)).2):=by rw[Cq,if_neg h6,if_pos h0]
    rw[this];simp[h0]
theorem Bbr:∀{l:List Int},(∀x∈l,10≤x)→0≤l.sum∧(l.length:Int)≤l.sum
 |[],_=>by simp
 |x::l,h=>by
  have h1:=h x List.mem_cons_self
  have h2:=Bbr (l:=l) fun y hy=>h y (List.mem_cons_of_mem _ hy)
  simp only[List.sum_cons,List.length_cons];omega
theorem Bcu(r:Int)(l:List Int)(hl:l.length≤4000)(hx:∀x∈l,10≤x):∀(j i q:Nat) (n:Int),i+j=l.length→j<q→0≤n→n+(l.drop i).sum≤4000→Hi r l q n (i:Int)=some (n+(l.drop i).sum,r)
 |0,i,q+1,n,hi,_,_,_=>by
  rw[Hi,Pw,if_neg (by rw[Af,Ac];simp;omega),show i=l.length by omega,List.drop_length]
  simp[Abq,Acd]
 |j+1,i,q+1,n,hi,hq,hn,hs=>by
  have hlt:i<l.length:=by omega
  rw[drop_cons hlt,List.sum_cons]at hs⊢
  have h1:=hx l[i] (List.getElem_mem hlt)
  have h2:=Bbr (l:=l.drop (i+1)) fun y hy=>hx y (List.mem_of_mem_drop hy)
  rw[Hi,Pw,if_pos (by rw[Af,Ac];simp;omega),Cf hlt,Aa,Aa,Ag (by omega) (by omega),Ag (by omega) (by omega)]
  have ih:=Bcu r l hl hx j (i+1) q (n+l[i]) (by omega) (by omega) (by omega) (by omega)
  rw[show((i:Int)+1)=((i+1:Nat):Int) by omega,ih]
  congr 2;omega
def frontS(b:List UInt8):Int×Int:=Bs7 b (b.length+1) 0
theorem Aq3(b:List UInt8)(hl:b.length<4611686018427387904):Rf b=some (frontS b):=by
 have:=Bch b hl (b.length+1) 0 Am (by omega) (by omega) (by omega) (by have:=Ak;omega)
 exact this
theorem Axj(b:List UInt8)(hl:b.length<4611686018427387904):Nm b=some (frontS b):=by
 have h:=Bhn b hl (b.length+1) 0 Am [] (by omega) (by omega) (by omega) (by have:=Ak;omega) (by simp)
 have h':Aio b=some (Bw6 b (b.length+1) 0 []):=h
 rw[Nm,Acb,h',Aa,frontS,Bs7,Bw6]
 have ho:=Ayw b (b.length+1) 0 (by omega) (by omega)
 by_cases h0:(Cq b (b.length+1) 0).2=0
 ·obtain⟨i1,i2,i3⟩:=ho h0
  have hp:=Bbr i1
  simp only[h0,if_true,List.nil_append]
  have:=Bcu 0 (Cq b (b.length+1) 0).1 (by omega) i1 (Cq b (b.length+1) 0).1.length 0 Am 0 (by omega) (by have:=Ak;omega) (by omega) (by simpa using i3)
  simpa [Pg]using this
 ·simp only[h0,if_false]
  have:=Bcu (Cq b (b.length+1) 0).2 [] (by simp) (by simp) 0 0 Am 0 (by simp) (by have:=Ak;omega) (by omega) (by simp)
  simpa [Pg]using this
theorem Bh7{b:List UInt8}(h:(frontS b).2=0):0≤(frontS b).1∧(frontS b).1≤b.length∧(frontS b).1≤4000:=by
 unfold frontS Bs7 at h⊢
 split at h
 ·rename_i h0
  rw[if_pos h0]
  obtain⟨i1,i2,i3⟩:=Ayw b (b.length+1) 0 (by omega) (by omega) h0
  have hp:=Bbr i1
  exact⟨by simp;omega,i2,i3⟩
 ·rename_i h0;exact absurd h h0
end Go.Pl
set_option linter.unusedVariables false
set_option linter.unusedSimpArgs false
namespace Go.Pl
open Go Go.Lv
def longN(r:Nat):Nat:=max 1 (256*r/245)
theorem Al7(r:Nat):1≤longN r:=Nat.le_max_left _ _
theorem Bed{r:Nat}(h:r≤1048576):longN r≤1100000:=by unfold longN;omega
theorem Bm3{r:Nat}(h:r≤1048576):Atz (1:Int) (Bj (Ay (256:Int) (r:Int)) (245:Int))=(longN r:Int):=by
 rw[Gc (by omega) (by omega),Aft,Int.tdiv_eq_ediv_of_nonneg (by omega),Bq (by omega) (by omega),Bo9,longN];omega
def framesL(g n:Nat):List Int:=List.replicate ((n-1)/g) (g:Int)++[((n-(n-1)/g*g:Nat):Int)]
theorem Blx(g n:Nat):(framesL g n).length=(n-1)/g+1:=by simp[framesL]
theorem Bge{g n:Nat}(h:n≤g)(h1:1≤n):framesL g n=[(n:Int)]:=by
 rw[framesL,Nat.div_eq_of_lt (by omega)];simp
theorem Blj{g n:Nat}(hg:1≤g)(h:g<n):framesL g n=(g:Int)::framesL g (n-g):=by
 have e:(n-1)/g=(n-g-1)/g+1:=by rw[←Nat.add_div_right _ (by omega)];congr 1;omega
 rw[framesL,framesL,e,List.replicate_succ,List.cons_append]
 congr 4
 have:=Nat.div_mul_le_self (n-g-1) g
 rw[Nat.add_mul,Nat.one_mul];omega
theorem Axk{g n:Nat}(hg:1≤g)(h1:1≤n):(n+g-1)/g=(n-1)/g+1:=by
 rw[←Nat.add_div_right _ (by omega)];congr 1;omega
theorem Bh3{r:Nat}(h1:1≤r)(h:r≤1048576):Zt (r:Int)=some ((longN r:Int),0):=by
 rw[Zt,if_neg (by simp[Af,Aq];omega),Bm3 h]
theorem Bx1{r:Nat}(h:r≤1048576):Qm (r:Int)=some (longN r:Int):=by rw[Qm,Bm3 h]
theorem Bb9{r n:Nat}(h1:1≤r)(h:r≤1048576)(n1:1≤n)(n2:n≤4000):Oy (r:Int) (n:Int)=some (if 1000<(n-1)/longN r+1 then(0,4)else((((n-1)/longN r+1:Nat):Int),0)):=by
 have hp:=Al7 r
 have hl:=Bed h
 have e:Bj (Ah (Ae (n:Int) (longN r:Int)) (1:Int)) (longN r:Int)=(((n-1)/longN r+1:Nat):Int):=by
  have:(n+longN r-1)/longN r≤n+longN r-1:=Nat.div_le_self _ _
  rw[Ag (by omega) (by omega),Be (by omega) (by omega),Aft,Int.tdiv_eq_ediv_of_nonneg (by omega),show(n:Int)+(longN r:Int)-1=((n+longN r-1:Nat):Int) by omega,←Int.natCast_ediv,Axk hp n1]
  rw[Axk hp n1]at this
  generalize(n-1)/longN r=k at*
  exact Bq (by omega) (by omega)
 rw[Oy,Bh3 h1 h,Aa]
 simp only
 rw[if_neg (by rw[Aj];simp),if_neg (by simp[Af,Aq];omega),Br (by rw[Aj];simp;omega),Aa,e]
 by_cases hk:1000<(n-1)/longN r+1
 ·rw[if_pos (by rw[Aq];simp;omega),if_pos hk]
 ·rw[if_neg (by rw[Aq];simp;omega),if_neg hk]
theorem Bf7{r:Nat}(h:r≤1048576):∀(j n q:Nat) (acc:List Int),n≤4000→n≤j→j<q→acc.length+n≤10000→Dt (r:Int) q (n:Int) acc=some (acc++(if n=0 then []else framesL (longN r) n))
 |0,n,q+1,acc,hn,hj,hq,ha=>by
  obtain rfl:n=0:=by omega
  rw[Dt,Hc,if_neg (by rw[Aq];simp)]
  simp[Kr,Kq]
 |j+1,n,q+1,acc,hn,hj,hq,ha=>by
  have hp:=Al7 r
  have hl:=Bed h
  by_cases h0:n=0
  ·subst h0
   rw[Dt,Hc,if_neg (by rw[Aq];simp)]
   simp[Kr,Kq]
  ·rw[Dt,Hc,if_pos (by rw[Aq];simp;omega),Bx1 h,Aa,Cr (by simp;omega),Aa,Aa,Be (by omega) (by omega),Ali]
   by_cases hs:n≤longN r
   ·rw[show min (n:Int) (longN r:Int)=(n:Int) by omega,if_neg h0,Bge hs (by omega)]
    have hz:∃k,q=k+1:=⟨q-1,by omega⟩
    obtain⟨q,rfl⟩:=hz
    rw[Dt,Hc,if_neg (by rw[Aq];simp;omega)]
    simp[Kr,Kq]
   ·rw[show min (n:Int) (longN r:Int)=(longN r:Int) by omega,show(n:Int)-(longN r:Int)=((n-longN r:Nat):Int) by omega,Bf7 h j (n-longN r) q _ (by omega) (by omega) (by omega) (by simp;omega),if_neg (by omega),if_neg h0,Blj hp (show longN r<n by omega)]
    simp
theorem Ark{r n:Nat}(h:r≤1048576)(n1:1≤n)(n2:n≤4000):Ek (r:Int) (n:Int)=some (framesL (longN r) n):=by
 have:=Bf7 h n n Am [] n2 (Nat.le_refl _) (by have:=Ak;omega) (by simp;omega)
 rw[Ek,Abp,Ab1,this,if_neg (by omega)];rfl
theorem mul_one(m:Nat)(h:m≤100000):Ac9 (1:UInt64) (UInt64.ofNat m)=some (0,UInt64.ofNat m):=by
 have y1:(UInt64.ofNat m).toNat=m:=Akl (by omega)
 have s1:Bk (1:UInt64) (GI.toZ (32:UInt64)).toNat=0:=by decide
 have s2:Bk (UInt64.ofNat m) (GI.toZ (32:UInt64)).toNat=0:=by
  apply UInt64.toNat_inj.1
  rw[Ae2,y1]
  exact Nat.div_eq_of_lt (Nat.lt_of_le_of_lt h (by decide))
 have s0:Bk (0:UInt64) (GI.toZ (32:UInt64)).toNat=0:=by decide
 have a1:Dd (1:UInt64) (4294967295:UInt64)=1:=by decide
 have a0:Dd (0:UInt64) (4294967295:UInt64)=0:=by decide
 have a2:Dd (UInt64.ofNat m) (4294967295:UInt64)=UInt64.ofNat m:=by
  apply UInt64.toNat_inj.1
  rw[Bck,UInt64.toNat_and,y1]
  show m&&& (2^32-1)=m
  rw[Nat.and_two_pow_sub_one_eq_mod,Nat.mod_eq_of_lt (by omega)]
 have m1:∀x:UInt64,Ay 1 x=x:=fun x=>by rw[Ad7,UInt64.one_mul]
 have m0:∀x:UInt64,Ay 0 x=0:=fun x=>by rw[Ad7,UInt64.zero_mul]
 have p0:∀x:UInt64,Ae 0 x=x:=fun x=>by rw[Aes,UInt64.zero_add]
 have p1:∀x:UInt64,Ae x 0=x:=fun x=>by rw[Aes,UInt64.add_zero]
 rw[Ac9,Afp]
 simp only[s1,s2,a1,a2,m1,m0,p0,p1,s0,a0,Aa]
theorem Baj(v:Int)(m:Nat)(hm:m≤100000):∀(j n q:Nat),1≤n→n≤m→m-n≤j→j<q→Dj q (n:Int) (List.replicate n v++List.replicate (m-n) 0)=some (List.replicate m v)
 |j,n,q+1,hn,hnm,hj,hq=>by
  have hlen:Ac (List.replicate n v++List.replicate (m-n) 0)=(m:Int):=by simp[Ac];omega
  rw[Dj,Fm,hlen]
  by_cases h:n<m
  ·obtain⟨j,rfl⟩:∃k,j=k+1:=⟨j-1,by omega⟩
   rw[if_pos (by rw[Af];simp;omega)]
   have v1:vwI (m:Int) (n:Int) (m:Int)=some ():=by rw[vwI,Br];simp;omega
   have v2:vwI (m:Int) (0:Int) (n:Int)=some ():=by rw[vwI,Br];simp;omega
   have e1:Ala (List.replicate n v++List.replicate (m-n) 0) (0:Int) ((n:Int)-0)=List.replicate n v:=by
    simp[Ala]
   rw[v1,Aa,v2,Aa,e1]
   have e2:Ahh ((m:Int)-(n:Int)) (List.replicate n v).length=((min n (m-n):Nat):Int):=by
    rw[Ahh,List.length_replicate];split<;>omega
   have e3:Pr (List.replicate n v++List.replicate (m-n) 0) (n:Int) ((m:Int)-(n:Int)) (List.replicate n v)=List.replicate (n+min n (m-n)) v++List.replicate (m-(n+min n (m-n))) 0:=by
    have t1:((m:Int)-(n:Int)).toNat=m-n:=by omega
    have t2:(List.replicate n v++List.replicate (m-n) (0:Int)).take n=List.replicate n v:=by simp
    rw[Pr,t1,Int.toNat_natCast,t2,List.take_replicate,List.length_replicate,←List.append_assoc,List.replicate_append_replicate,List.drop_append,List.length_replicate,Nat.min_comm (m-n) n]
    simp only[List.drop_replicate]
    rw[show n-(n+min n (m-n))=0 by omega,List.replicate_zero,List.nil_append,show m-n-(n+min n (m-n)-n)=m-(n+min n (m-n)) by omega]
   rw[e2,e3,Ag (by omega) (by omega),show(n:Int)+((min n (m-n):Nat):Int)=((n+min n (m-n):Nat):Int) by omega]
   exact Baj v m hm j (n+min n (m-n)) q (by omega) (by omega) (by omega) (by omega)
  ·rw[if_neg (by rw[Af];simp;omega)]
   obtain rfl:n=m:=by omega
   simp[Gx,Ky]
theorem Bui(v:Int)(m:Nat)(hm:m≤100000):Km [v] (m:Int)=some (List.replicate m v):=by
 have y1:(UInt64.ofNat m).toNat=m:=Akl (by omega)
 have c1:(Ad (Ac [v]):UInt64)=1:=by rfl
 have c2:(Ad (m:Int):UInt64)=UInt64.ofNat m:=Xi m
 have c3:(Ad (UInt64.ofNat m):Int)=(m:Int):=by rw[Ay7 (by omega),y1]
 rw[Km,Md,if_neg (by rw[Af];simp),Lt,Mb,c1,c2,mul_one m hm,Aa]
 simp only
 rw[if_neg (by rw[Aj2,Aj2,y1];simp;show m≤9223372036854775807;omega),Ls,Lz,c3,Az4 (by omega) (by omega),Aa,Br (by rw[Az];simp),Aa,Mc,Int.toNat_natCast]
 by_cases h0:m=0
 ·subst h0
  have hF:Am=(Am-1)+1:=by have:=Ak;omega
  rw[hF,Dj,Fm]
  simp[Ac,Bc2,Ahh,Af,Gx,Ky]
 ·have:=Baj v m hm m 1 Am (by omega) (by omega) (by omega) (by have:=Ak;omega)
  have e1:Ahh (Ac (List.replicate m (0:Int))) [v].length=((1:Nat):Int):=by simp[Ahh,Ac];omega
  have e2:Bc2 (List.replicate m (0:Int)) [v]=List.replicate 1 v++List.replicate (m-1) 0:=by
   obtain⟨k,rfl⟩:∃k,m=k+1:=⟨m-1,by omega⟩
   simp[Bc2]
  rw[e1,e2,this]
theorem Bte(l m:List Int)(h:l.length+m.length≤1000000):Kt [l,m]=some (l++m):=by
 have hF:Am=(Am-3)+1+1+1:=by have:=Ak;omega
 rw[Kt,Mg,Lr]
 have g0:getI [l,m] (0:Int)=some l:=rfl
 have g1:getI [l,m] (1:Int)=some m:=rfl
 have l2:Ac [l,m]=2:=rfl
 have h3:Ha [l,m] []=some (l++m):=by
  rw[Ha,Kw,Lc,hF,Da,Ex,l2,if_pos (by decide),g0,Aa,Cr (by simp;omega),Aa,List.nil_append,show Ae (0:Int) 1=1 by decide,
   Da,Ex,l2,if_pos (by decide),g1,Aa,Cr (by omega),Aa,show Ae (1:Int) 1=2 by decide,Da,Ex,l2,if_neg (by decide)]
  rfl
 rw[hF,Dl,Fl,l2,if_pos (by decide),g0,Aa,Ag (by unfold Ac;omega) (by unfold Ac;omega),if_neg (by rw[Af,Ac];simp),show Ae (0:Int) 1=1 by decide,
  Dl,Fl,l2,if_pos (by decide),g1,Aa,Ag (by unfold Ac;omega) (by unfold Ac;omega),if_neg (by rw[Af,Ac,Ac];simp;omega),show Ae (1:Int) 1=2 by decide,
  Dl,Fl,l2,if_neg (by decide),La,Le,if_neg (by rw[Af,Ac,Ac];simp;omega),Lb,Kv]
 have z:Ah (0:Int) 0=0:=by decide
 have n0:(0:Int)+Ac l+Ac m=((l.length+m.length:Nat):Int):=by simp[Ac]
 rw[z,n0,Be (by omega) (by omega),Int.sub_zero]
 by_cases hp:0<l.length+m.length
 ·rw[if_pos (by rw[Aq];simp;omega),show vwI (0:Int) 0 0=some ()from rfl,Aa,Az4 (by omega) (by omega),Aa,Cr (by simp;omega),Aa]
  rw[show vwI (Ac ([]++List.replicate ((l.length+m.length:Nat):Int).toNat (0:Int))) 0 0=some () by rw[vwI,Br];simp[Ac];omega,Aa]
  simp only[Ala,Int.sub_self,Int.toNat_zero,List.take_zero]
  exact h3
 ·rw[if_neg (by rw[Aq];simp;omega)];exact h3
theorem Bxb{r n:Nat}(h1:1≤r)(h:r≤1048576)(n1:1≤n)(n2:n≤4000)(hk:(n-1)/longN r+1≤1000):Rv (r:Int) (n:Int)=some (framesL (longN r) n,0):=by
 have hp:=Al7 r
 have hl:=Bed h
 have hd:=Nat.div_mul_le_self (n-1) (longN r)
 rw[Rv,Bb9 h1 h n1 n2,if_neg (by omega),Aa]
 simp only
 rw[if_neg (by rw[Aj];simp),Bh3 h1 h,Aa]
 simp only
 rw[framesL]
 generalize(n-1)/longN r=k at*
 have e1:Ah ((k+1:Nat):Int) 1=(k:Int):=by rw[Be (by omega) (by omega)];omega
 have e2:(k:Int)*(longN r:Int)=((k*longN r:Nat):Int):=by simp
 rw[e1,Bui _ _ (by omega),Aa,Gc (by rw[e2];omega) (by rw[e2];omega),e2,Be (by omega) (by omega),Aiz,Bte _ _ (by simp;omega),Aa,Aa,show(n:Int)-((k*longN r:Nat):Int)=((n-k*longN r:Nat):Int) by omega]
end Go.Pl
set_option linter.unusedVariables false
set_option linter.unusedSimpArgs false
namespace Go.Pl
open Go Go.Lv
def shapeB(f c w r n:Nat):Bool:=decide ((f=1∨f=2)∧(1≤c∧c≤6)∧(w=8∨w=16∨w=24)∧(1≤r∧r≤1048576)∧1≤n)
def fitB(c r n:Nat):Bool:=decide (n≤4000/c∧(n-1)/longN r+1≤1000)
theorem Bai(f c w r n:Nat):Vm (f:Int) (c:Int) (w:Int) (r:Int) (n:Int)=some (shapeB f c w r n):=by
 have e2:Tp (f:Int) (c:Int) (w:Int) (r:Int) (n:Int)=some (decide ((f=1∨f=2)∧(1≤c∧c≤6)∧(1≤r∧r≤1048576)∧1≤n)):=by
  rw[Tp,Ame]
  congr 1
  rw[Bool.eq_iff_iff]
  simp only[Az,Aq,Bhv,Bool.and_eq_true,Bool.or_eq_true,beq_iff_eq,decide_eq_true_eq]
  omega
 have g:∀k:Nat,geq (w:Int) (k:Int)=decide (w=k):=fun k=>by rw[Az,Bool.eq_iff_iff];simp;omega
 have g8:geq (w:Int) (8:Int)=decide (w=8):=g 8
 have g16:geq (w:Int) (16:Int)=decide (w=16):=g 16
 have g24:geq (w:Int) (24:Int)=decide (w=24):=g 24
 rw[Vm,Acg,e2,g8,g16,g24,shapeB]
 by_cases h8:w=8
 ·subst h8;simp
 ·by_cases h16:w=16
  ·subst h16;simp
  ·by_cases h24:w=24
   ·subst h24;simp
   ·simp[h8,h16,h24]
theorem Bpw(f c w r n:Nat):Ub (f:Int) (c:Int) (w:Int) (r:Int) (n:Int)=some (shapeB f c w r n):=by
 rw[Ub,shapeB]
 simp only[Az,Cx,Bhv,Bool.and_eq_true,Bool.or_eq_true,beq_iff_eq,decide_eq_true_eq,Bool.false_and]
 split
 ·rename_i h
  congr 1
  rw[Bool.eq_iff_iff]
  simp only[Bool.and_eq_true,Bool.or_eq_true,beq_iff_eq,decide_eq_true_eq]
  omega
 ·rename_i h
  congr 1
  symm
  rw[decide_eq_false_iff_not]
  omega
theorem Cbr{c:Nat}(h:1≤c):Bj (4000:Int) (c:Int)=((4000/c:Nat):Int):=by
 have:4000/c≤4000:=Nat.div_le_self _ _
 rw[Aft,Int.tdiv_eq_ediv_of_nonneg (by omega),show(4000:Int)=((4000:Nat):Int)from rfl,←Int.natCast_ediv]
 generalize 4000/c=k at*
 exact Bq (by omega) (by omega)
theorem Bh9{f c w r n:Nat}(h:shapeB f c w r n=true):Ae6 (f:Int) (c:Int) (w:Int) (r:Int) (n:Int)=some (fitB c r n):=by
 simp only[shapeB,decide_eq_true_eq]at h
 have hd:4000/c≤4000:=Nat.div_le_self _ _
 rw[Ae6,Br (by rw[Aj];simp;omega),Aa,Cbr (by omega),fitB]
 generalize 4000/c=m at*
 by_cases h1:n≤m
 ·rw[if_neg (by rw[Aq];simp;omega),Bb9 (by omega) (by omega) (by omega) (by omega),Aa]
  generalize(n-1)/longN r+1=k
  by_cases h2:1000<k
  ·rw[if_pos h2]
   simp[Az,Bhv]
   omega
  ·rw[if_neg h2]
   simp[Az,Bhv,h1]
   omega
 ·rw[if_pos (by rw[Aq];simp;omega)]
  simp[h1]
theorem Bxy{f c w r n:Nat}(h:shapeB f c w r n=true):Ye (f:Int) (c:Int) (w:Int) (r:Int) (n:Int)=some (!fitB c r n):=by
 simp only[shapeB,decide_eq_true_eq]at h
 have hd:4000/c≤4000:=Nat.div_le_self _ _
 rw[Ye,Br (by rw[Aj];simp;omega),Aa,Cbr (by omega),fitB]
 generalize 4000/c=m at*
 by_cases h1:n≤m
 ·rw[if_neg (by rw[Aq];simp;omega),Ark (by omega) (by omega) (by omega),Aa,Ac,Blx]
  generalize(n-1)/longN r+1=k
  congr 1
  rw[Aq,Bool.eq_iff_iff]
  simp only[decide_eq_true_eq,Bool.not_eq_true',decide_eq_false_iff_not]
  omega
 ·rw[if_pos (by rw[Aq];simp;omega)]
  simp[h1]
def Az8:List UInt8:=[84,84,65,49]
def f0(b:List UInt8):Nat:=Dn (part b 4 2)
def f1(b:List UInt8):Nat:=Dn (part b 6 2)
def f2(b:List UInt8):Nat:=Dn (part b 8 2)
def f3(b:List UInt8):Nat:=Dn (part b 10 4)
def f4(b:List UInt8):Nat:=Dn (part b 14 4)
abbrev H6:=Int×Int×Int×Int×Int×Int
def readS(b:List UInt8):H6:=
 if b.take (min 4 b.length)≠Az8.take (min 4 b.length)then(0,0,0,0,0,12)else if b.length<22 then(0,0,0,0,0,24)else
 if(Gj (b.take 18)).toNat≠Dn (part b 18 4)then(0,0,0,0,0,22)else
 if shapeB (f0 b) (f1 b) (f2 b) (f3 b) (f4 b)=false then(0,0,0,0,0,12)else
 if fitB (f1 b) (f3 b) (f4 b)=false then(0,0,0,0,0,4)else((f0 b:Int),(f1 b:Int),(f2 b:Int),(f3 b:Int),(f4 b:Int),0)
section
variable {b:List UInt8}
theorem rs1(h:b.take (min 4 b.length)≠Az8.take (min 4 b.length)):readS b=(0,0,0,0,0,12):=by rw[readS,if_pos h]
variable (h:b.take (min 4 b.length)=Az8.take (min 4 b.length))
include h
theorem rs2(h2:b.length<22):readS b=(0,0,0,0,0,24):=by rw[readS,if_neg (fun e=>e h),if_pos h2]
variable (h2:¬b.length<22)
include h2
theorem rs3(h3:(Gj (b.take 18)).toNat≠Dn (part b 18 4)):readS b=(0,0,0,0,0,22):=by rw[readS,if_neg (fun e=>e h),if_neg h2,if_pos h3]
variable (h3:(Gj (b.take 18)).toNat=Dn (part b 18 4))
include h3
theorem rs4(h4:shapeB (f0 b) (f1 b) (f2 b) (f3 b) (f4 b)=false):readS b=(0,0,0,0,0,12):=by rw[readS,if_neg (fun e=>e h),if_neg h2,if_neg (fun e=>e h3),if_pos h4]
variable (h4:shapeB (f0 b) (f1 b) (f2 b) (f3 b) (f4 b)=true)
include h4
theorem rs5(h5:fitB (f1 b) (f3 b) (f4 b)=false):readS b=(0,0,0,0,0,4):=by rw[readS,if_neg (fun e=>e h),if_neg h2,if_neg (fun e=>e h3),if_neg (by rw[h4];simp),if_pos h5]
theorem rs6(h5:fitB (f1 b) (f3 b) (f4 b)=true):readS b=((f0 b:Int),(f1 b:Int),(f2 b:Int),(f3 b:Int),(f4 b:Int),0):=by rw[readS,if_neg (fun e=>e h),if_neg h2,if_neg (fun e=>e h3),if_neg (by rw[h4];simp),if_neg (by rw[h5];simp)]
end
theorem Bv3(b:List UInt8)(h2:¬b.length<22):Bb (Ad (Gj (b.take 18)):UInt64) (leU (part b 18 4))=decide ((Gj (b.take 18)).toNat≠Dn (part b 18 4)):=by
 rw[Agl,Gw,Bool.eq_iff_iff]
 simp only[bne_iff_ne,ne_eq,decide_eq_true_eq]
 rw[←UInt64.toNat_inj,Akl (by have:=(Gj (b.take 18)).toNat_lt;omega),Aki (by rw[Ct (by omega)];omega)]
theorem Asr(b:List UInt8)(a w:Nat)(i q:Nat)(l:List Int)(hi:i<5)(hl:l.length=5)(hw:getI ([2,2,2,4,4]:List Int) (i:Int)=some (w:Int))(h1:1≤w)(h4:w≤4)(ha:a+w≤b.length)(hb:b.length<4611686018427387904):
  Kg b (q+1) (a:Int) (i:Int) l=Kg b q ((a+w:Nat):Int) ((i+1:Nat):Int) (l.set i (Dn (part b a w):Int)):=by
 rw[Kg,Zs,if_pos (by rw[Af];simp;omega),hw,Aa,Bg6 b a w h1 (by omega) ha hb,Aa]
 simp only
 rw[Cf (by omega),Aa,Tx _ (by omega),Aa,Adc (by rw[Ct ha];omega),Ag (by omega) (by omega),Ag (by omega) (by omega)]
 rfl
theorem Bvi(b:List UInt8)(h22:¬b.length<22)(hb:b.length<4611686018427387904):Zi b 4 0 (List.replicate 5 0)=Aau [(f0 b:Int),(f1 b:Int),(f2 b:Int),(f3 b:Int),(f4 b:Int)]:=by
 have hF:Am=(Am-6)+1+1+1+1+1+1:=by have:=Ak;omega
 rw[Zi,hF,show(4:Int)=((4:Nat):Int)from rfl,show(0:Int)=((0:Nat):Int)from rfl]
 rw[Asr b 4 2 0 _ _ (by omega) (by simp) rfl (by omega) (by omega) (by omega) hb,Asr b 6 2 1 _ _ (by omega) (by simp) rfl (by omega) (by omega) (by omega) hb,Asr b 8 2 2 _ _ (by omega) (by simp) rfl (by omega) (by omega) (by omega) hb,
  Asr b 10 4 3 _ _ (by omega) (by simp) rfl (by omega) (by omega) (by omega) hb,Asr b 14 4 4 _ _ (by omega) (by simp) rfl (by omega) (by omega) (by omega) hb,Kg,Zs,if_neg (by rw[Af];simp)]
 rfl
theorem Cfi(b:List UInt8):Qo [84,84,65,49] (b.take (min 4 b.length))=some (decide (b.take (min 4 b.length)=Az8.take (min 4 b.length))):=by
 have hl:(b.take (min 4 b.length)).length=min 4 b.length:=by rw[List.length_take];omega
 rw[Qo,Hr,if_pos (by rw[Cx,Ac,Ac,hl];simp;omega),Ac,hl,Jg (by omega) (by simp;omega),Aa,Aa,Int.toNat_natCast]
 congr 1
 rw[Bool.eq_iff_iff]
 rw[decide_eq_true_eq,beq_iff_eq]
 exact eq_comm
theorem Cex(b:List UInt8):Dk (4:Int) (Ac b)=((min 4 b.length:Nat):Int):=by rw[Ali,Ac];omega
theorem Bg4(b:List UInt8)(hb:b.length<4611686018427387904):Ad4 b=some (readS b):=by
 rw[Ad4,Ahb,Cex,Jg (by omega) (by omega),Aa,Int.toNat_natCast,Cfi,Aa]
 by_cases h:b.take (min 4 b.length)=Az8.take (min 4 b.length)
 ·rw[if_neg (by simpa using h)]
  by_cases h2:b.length<22
  ·rw[if_pos (by rw[Af,Ac];simp;omega),rs2 h h2]
  ·have a1:Al0 b 18 4=some (leU (part b 18 4),0):=Bg6 b 18 4 (by omega) (by omega) (by omega) hb
   rw[if_neg (by rw[Af,Ac];simp;omega),a1,Aa]
   simp only
   rw[Jg (by omega) (by omega),Aa,show(18:Int).toNat=18 from rfl,Box _ (by simp;omega),Aa]
   simp only
   rw[Bv3 b h2]
   by_cases h3:(Gj (b.take 18)).toNat=Dn (part b 18 4)
   ·rw[if_neg (by simpa using h3),Bvi b h2 hb,Aau,Arm]
    rw[show getI [(f0 b:Int),(f1 b:Int),(f2 b:Int),(f3 b:Int),(f4 b:Int)] 0=some (f0 b:Int)from rfl,show getI [(f0 b:Int),(f1 b:Int),(f2 b:Int),(f3 b:Int),(f4 b:Int)] 1=some (f1 b:Int)from rfl,show getI [(f0 b:Int),(f1 b:Int),(f2 b:Int),(f3 b:Int),(f4 b:Int)] 2=some (f2 b:Int)from rfl,
     show getI [(f0 b:Int),(f1 b:Int),(f2 b:Int),(f3 b:Int),(f4 b:Int)] 3=some (f3 b:Int)from rfl,show getI [(f0 b:Int),(f1 b:Int),(f2 b:Int),(f3 b:Int),(f4 b:Int)] 4=some (f4 b:Int)from rfl]
    simp only[Aa,Bai]
    cases h4:shapeB (f0 b) (f1 b) (f2 b) (f3 b) (f4 b)with
    |false=>rw[rs4 h h2 h3 h4];rfl
    |true=>
     rw[Bh9 h4,if_neg (by simp),Aa]
     cases h5:fitB (f1 b) (f3 b) (f4 b)with
     |false=>rw[rs5 h h2 h3 h4 h5];rfl
     |true=>rw[rs6 h h2 h3 h4 h5];rfl
   ·rw[if_pos (by simpa using h3),rs3 h h2 h3]
 ·rw[if_pos (by simpa using h),rs1 h]
theorem Bki(b:List UInt8)(hb:b.length<4611686018427387904):Qu b=some (readS b):=by
 rw[Qu,Aei,Cex,Jg (by omega) (by omega),Aa,Int.toNat_natCast,Jg (by omega) (by simp;omega),Aa,Int.toNat_natCast]
 by_cases h:b.take (min 4 b.length)=Az8.take (min 4 b.length)
 ·rw[if_neg (by rw[h];simp[Az8]),Aet,Ads]
  by_cases h2:b.length<22
  ·rw[if_pos (by rw[Af,Ac];simp;omega),rs2 h h2]
  ·have a1:Bu b 18 22=some (part b 18 4):=Lm 18 4 (by omega)
   have c1:Bu b 4 6=some (part b 4 2):=Lm 4 2 (by omega)
   have c2:Bu b 6 8=some (part b 6 2):=Lm 6 2 (by omega)
   have c3:Bu b 8 10=some (part b 8 2):=Lm 8 2 (by omega)
   have c4:Bu b 10 14=some (part b 10 4):=Lm 10 4 (by omega)
   have c5:Bu b 14 18=some (part b 14 4):=Lm 14 4 (by omega)
   have hs:Bb (leU (part b 18 4)) (Ad (Gj (b.take 18)):UInt64)=decide ((Gj (b.take 18)).toNat≠Dn (part b 18 4)):=by
    rw[←Bv3 b h2,Agl,Agl,Bool.eq_iff_iff];simp only[bne_iff_ne,ne_eq];exact not_congr eq_comm
   have lp:∀a w,a+w≤b.length→Cj (part b a w)=some (leU (part b a w)):=fun a w h=>Bms _ (by rw[Ct h];omega)
   rw[if_neg (by rw[Af,Ac];simp;omega),a1,Aa,Jg (by omega) (by omega),Aa,show(18:Int).toNat=18 from rfl,lp _ _ (by omega),Aa,Bup _ (by simp;omega),Aa,hs]
   by_cases h3:(Gj (b.take 18)).toNat=Dn (part b 18 4)
   ·rw[if_neg (by simpa using h3),Ad5,Adw,c1,Aa,c2,Aa,c3,Aa,c4,Aa,c5,Aa,lp _ _ (by omega),Aa,lp _ _ (by omega),Aa,lp _ _ (by omega),Aa,lp _ _ (by omega),Aa,lp _ _ (by omega),Aa,
     Ael,Ady,Adc (by rw[Ct (by omega)];omega),Adc (by rw[Ct (by omega)];omega),Adc (by rw[Ct (by omega)];omega),Adc (by rw[Ct (by omega)];omega),Adc (by rw[Ct (by omega)];omega)]
    rw[show Dn (part b 4 2)=f0 b from rfl,show Dn (part b 6 2)=f1 b from rfl,show Dn (part b 8 2)=f2 b from rfl,show Dn (part b 10 4)=f3 b from rfl,show Dn (part b 14 4)=f4 b from rfl,Bpw,Aa]
    cases h4:shapeB (f0 b) (f1 b) (f2 b) (f3 b) (f4 b)with
    |false=>rw[rs4 h h2 h3 h4];rfl
    |true=>
     rw[Bxy h4,if_neg (by simp),Aa]
     cases h5:fitB (f1 b) (f3 b) (f4 b)with
     |false=>rw[rs5 h h2 h3 h4 h5];rfl
     |true=>rw[rs6 h h2 h3 h4 h5];rfl
   ·rw[if_pos (by simpa using h3),rs3 h h2 h3]
 ·rw[if_pos (by simpa [Az8]using h),rs1 h]
theorem Bko{b:List UInt8}(h:(readS b).2.2.2.2.2=0):readS b=((f0 b:Int),(f1 b:Int),(f2 b:Int),(f3 b:Int),(f4 b:Int),0)∧22≤b.length∧shapeB (f0 b) (f1 b) (f2 b) (f3 b) (f4 b)=true∧fitB (f1 b) (f3 b) (f4 b)=true:=by
 unfold readS at h⊢
 split at h; · simp at h
 rename_i c1;rw[if_neg c1]
 split at h; · simp at h
 rename_i c2;rw[if_neg c2]
 split at h; · simp at h
 rename_i c3;rw[if_neg c3]
 split at h; · simp at h
 rename_i c4;rw[if_neg c4]
 split at h; · simp at h
 rename_i c5;rw[if_neg c5]
 exact⟨rfl,by omega,by simpa using c4,by simpa using c5⟩
theorem Aew{f c w r n:Nat}(h:shapeB f c w r n=true)(h2:fitB c r n=true):Jn (f:Int) (c:Int) (w:Int) (r:Int) (n:Int)=some (framesL (longN r) n,0):=by
 have hc:Ze (f:Int) (c:Int) (w:Int) (r:Int) (n:Int)=some 0:=by
  rw[Ze,Bai,Aa,h,if_neg (by simp),Bh9 h,Aa,h2];rfl
 have hd:4000/c≤4000:=Nat.div_le_self _ _
 simp only[shapeB,decide_eq_true_eq]at h
 simp only[fitB,decide_eq_true_eq]at h2
 rw[Jn,hc,Aa,if_neg (by rw[Aj];simp),Bxb (by omega) (by omega) (by omega) (by omega) h2.2]
 rfl
end Go.Pl
set_option linter.unusedVariables false
set_option linter.unusedSimpArgs false
namespace Go.Pl
open Go Go.Lv
def okL:List Int→Int→Bool
 |[],_=>true
 |x::l,left=>decide (5≤x∧x≤left)&&okL l (left-x)
theorem Bv1:∀l:List Int,(∀x∈l,5≤x)→0≤l.sum
 |[],_=>by simp
 |x::l,h=>by
  have h1:=h x List.mem_cons_self
  have h2:=Bv1 l fun y hy=>h y (List.mem_cons_of_mem _ hy)
  rw[List.sum_cons];omega
theorem Bbo:∀(l:List Int) (left:Int),0≤left→(okL l left=true↔(∀x∈l,5≤x)∧l.sum≤left)
 |[],left,h=>by simp[okL];exact h
 |x::l,left,h=>by
  rw[okL,Bool.and_eq_true,decide_eq_true_eq,List.sum_cons]
  by_cases hx:5≤x∧x≤left
  ·rw[Bbo l (left-x) (by omega)]
   constructor
   ·rintro⟨_,h1,h2⟩
    exact⟨fun y hy=>(List.mem_cons.1 hy).elim (fun e=>e▸hx.1) (h1 y),by omega⟩
   ·rintro⟨h1,h2⟩
    exact⟨hx,fun y hy=>h1 y (List.mem_cons_of_mem _ hy),by omega⟩
  ·constructor
   ·rintro⟨h1,_⟩;exact absurd h1 hx
   ·rintro⟨h1,h2⟩
    have h3:=h1 x List.mem_cons_self
    have:0≤l.sum:=Bv1 l fun y hy=>h1 y (List.mem_cons_of_mem _ hy)
    omega
theorem Ben(l:List Int)(hl:l.length≤1000):∀(j i q:Nat) (left:Int),i+j=l.length→j<q→0≤left→left≤100000→Nj l q left (i:Int)=some (if okL (l.drop i) left=true then 0 else 8)
 |0,i,q+1,left,hi,_,_,_=>by
  rw[Nj,Zx,if_neg (by rw[Af,Ac];simp;omega),show i=l.length by omega,List.drop_length];rfl
 |j+1,i,q+1,left,hi,hq,h0,h1=>by
  have hlt:i<l.length:=by omega
  rw[Nj,Zx,if_pos (by rw[Af,Ac];simp;omega),Cf hlt,Aa,drop_cons hlt]
  by_cases h:5≤l[i]∧l[i]≤left
  ·rw[if_neg (by simp[Af,Aq];omega),Be (by omega) (by omega),Ag (by omega) (by omega)]
   have ih:=Ben l hl j (i+1) q (left-l[i]) (by omega) (by omega) (by omega) (by omega)
   rw[show((i:Int)+1)=((i+1:Nat):Int) by omega,ih]
   simp[okL,h]
  ·rw[if_pos (by simp[Af,Aq];omega)]
   have:okL (l[i]::l.drop (i+1)) left=false:=by rw[okL,decide_eq_false h];rfl
   rw[this];rfl
def Ard(l:List Int):Bool:=decide (1≤l.length∧l.length≤1000)&&okL l 100000
theorem Big(l:List Int)(hl:l.length≤1000):Ln l=some (if Ard l=true then 0 else 8):=by
 rw[Ln,Aah,Ard]
 by_cases h:1≤l.length
 ·rw[if_neg (by rw[Az,Aq,Ac];simp;constructor;(intro e;subst e;simp at h);omega),Ajn]
  have:=Ben l hl l.length 0 Am 100000 (by omega) (by have:=Ak;omega) (by omega) (by omega)
  rw[List.drop_zero]at this
  rw[decide_eq_true (show 1≤l.length∧l.length≤1000 from⟨h,hl⟩),Bool.true_and]
  exact this
 ·have:l=[]:=by
   cases l with
   |nil=>rfl
   |cons _ _=>simp at h
  subst this;rfl
theorem Bg3(l:List Int)(hl:l.length≤1000):∀(j i q:Nat) (s:Int),i+j=l.length→j<q→0≤s→s≤100000*(i:Int)→Hk l q s (i:Int)=some (if(∀x∈l.drop i,5≤x∧x≤100000)∧s+(l.drop i).sum≤100000 then 0 else 8)
 |0,i,q+1,s,hi,_,_,_=>by
  rw[Hk,Pz,if_neg (by rw[Af,Ac];simp;omega),show i=l.length by omega,List.drop_length,Yx,Zr]
  by_cases h:s≤100000
  ·rw[if_neg (by rw[Aq];simp;omega),if_pos (by simp;omega)]
  ·rw[if_pos (by rw[Aq];simp;omega),if_neg (by simp;omega)]
 |j+1,i,q+1,s,hi,hq,h0,h1=>by
  have hlt:i<l.length:=by omega
  rw[Hk,Pz,if_pos (by rw[Af,Ac];simp;omega),Cf hlt,Aa,drop_cons hlt]
  by_cases h5:l[i]<5
  ·rw[if_pos (by rw[Af];simpa using h5),if_neg (fun h=>by have:=(h.1 l[i] List.mem_cons_self).1;omega)]
  ·rw[if_neg (by rw[Af];simpa using h5),Aa]
   by_cases h6:100000<l[i]
   ·rw[if_pos (by rw[Aq];simpa using h6),if_neg (fun h=>by have:=(h.1 l[i] List.mem_cons_self).2;omega)]
   ·rw[if_neg (by rw[Aq];simpa using h6),Abw,Aby,Cf hlt,Aa,Ag (by omega) (by omega),Ag (by omega) (by omega)]
    have ih:=Bg3 l hl j (i+1) q (s+l[i]) (by omega) (by omega) (by omega) (by omega)
    rw[show((i:Int)+1)=((i+1:Nat):Int) by omega,ih]
    have e:((∀x∈l.drop (i+1),5≤x∧x≤100000)∧s+l[i]+(l.drop (i+1)).sum≤100000)↔((∀x∈l[i]::l.drop (i+1),5≤x∧x≤100000)∧s+(l[i]::l.drop (i+1)).sum≤100000):=by
     rw[List.sum_cons,List.forall_mem_cons,Int.add_assoc]
     constructor
     ·rintro⟨a,b⟩;exact⟨⟨by omega,a⟩,b⟩
     ·rintro⟨⟨_,a⟩,b⟩;exact⟨a,b⟩
    simp only[e]
theorem Bol:∀{l:List Int},(∀x∈l,5≤x)→∀x∈l,x≤l.sum
 |[],_,x,hx=>by simp at hx
 |y::l,h,x,hx=>by
  have h1:=h y List.mem_cons_self
  have h2:=Bv1 l fun z hz=>h z (List.mem_cons_of_mem _ hz)
  rw[List.sum_cons]
  rcases List.mem_cons.1 hx with rfl|hx
  ·omega
  ·have:=Bol (l:=l) (fun z hz=>h z (List.mem_cons_of_mem _ hz)) x hx
   omega
theorem Bnv(l:List Int)(hl:l.length≤1000):Hu l=some (if Ard l=true then 0 else 8):=by
 rw[Hu,Pv,Ard]
 by_cases h:1≤l.length
 ·have:=Bg3 l hl l.length 0 Am 0 (by omega) (by have:=Ak;omega) (by omega) (by omega)
  rw[if_neg (by rw[Af,Aq,Ac];simp;omega),Abm]
  refine Eq.trans this ?_
  rw[List.drop_zero,decide_eq_true (show 1≤l.length∧l.length≤1000 from⟨h,hl⟩),Bool.true_and]
  have e:((∀x∈l,5≤x∧x≤100000)∧0+l.sum≤100000)↔okL l 100000=true:=by
   rw[Bbo l 100000 (by omega),Int.zero_add]
   constructor
   ·rintro⟨a,b⟩;exact⟨fun x hx=>(a x hx).1,b⟩
   ·rintro⟨a,b⟩;exact⟨fun x hx=>⟨a x hx,Int.le_trans (Bol a x hx) b⟩,b⟩
  simp only[e]
 ·have:l=[]:=by
   cases l with
   |nil=>rfl
   |cons _ _=>simp at h
  subst this;rfl
theorem Bdl(l:List Int):Ln l=some (if Ard l=true then 0 else 8):=by
 by_cases hl:l.length≤1000
 ·exact Big l hl
 ·rw[Ln,Aah,if_pos (by rw[Aq,Ac];simp;omega),Ard,decide_eq_false (by omega)];rfl
theorem Bgd(l:List Int):Hu l=some (if Ard l=true then 0 else 8):=by
 by_cases hl:l.length≤1000
 ·exact Bnv l hl
 ·rw[Hu,Pv,if_pos (by rw[Aq,Ac];simp;omega),Ard,decide_eq_false (by omega)];rfl
theorem Be3(l:List Int)(hl:l.length≤1000)(hx:∀x∈l,0≤x∧x<4294967296):Ln l=some (if Ard l=true then 0 else 8):=Bdl l
theorem Bul(l:List Int)(hl:l.length≤1000)(hx:∀x∈l,0≤x∧x<4294967296):Hu l=some (if Ard l=true then 0 else 8):=Bgd l
def Ak2(b:List UInt8)(n:Nat):List Int:=(List.range n).map fun i=>(Dn (part b (4*i) 4):Int)
theorem Aee(b:List UInt8)(n:Nat):(Ak2 b n).length=n:=by simp[Ak2]
theorem Bhs(b:List UInt8)(n:Nat):Ak2 b (n+1)=Ak2 b n++[(Dn (part b (4*n) 4):Int)]:=by simp[Ak2,List.range_succ]
theorem Bqk(b:List UInt8)(n:Nat)(h:4*n≤b.length):∀x∈Ak2 b n,0≤x∧x<4294967296:=by
 intro x hx
 simp only[Ak2,List.mem_map,List.mem_range]at hx
 obtain⟨i,hi,rfl⟩:=hx
 have:=Bq3 (l:=part b (4*i) 4) (by rw[Ct (by omega)];omega)
 omega
def seekS(b:List UInt8)(n:Nat):List Int×Int:=
 if ¬(1≤n∧n≤1000)then([],2)else if b.length<4*n+4 then([],24)else if(Gj (b.take (4*n))).toNat≠Dn (part b (4*n) 4)then([],22)else
 if Ard (Ak2 b n)=true then(Ak2 b n,0)else([],12)
theorem Bqa{b:List UInt8}{n:Nat}(h:1≤n∧n≤1000)(h2:¬b.length<4*n+4):Bb (Ad (Gj (b.take (4*n))):UInt64) (leU (part b (4*n) 4))=decide ((Gj (b.take (4*n))).toNat≠Dn (part b (4*n) 4)):=by
 rw[Agl,Gw,Bool.eq_iff_iff]
 simp only[bne_iff_ne,ne_eq,decide_eq_true_eq]
 rw[←UInt64.toNat_inj,Akl (by have:=(Gj (b.take (4*n))).toNat_lt;omega),Aki (by rw[Ct (by omega)];omega)]
section
variable {b:List UInt8} {n:Nat}
theorem ss1(h:¬(1≤n∧n≤1000)):seekS b n=([],2):=by rw[seekS,if_pos h]
variable (h:1≤n∧n≤1000)
include h
theorem ss2(h2:b.length<4*n+4):seekS b n=([],24):=by rw[seekS,if_neg (fun e=>e h),if_pos h2]
variable (h2:¬b.length<4*n+4)
include h2
theorem ss3(h3:(Gj (b.take (4*n))).toNat≠Dn (part b (4*n) 4)):seekS b n=([],22):=by rw[seekS,if_neg (fun e=>e h),if_neg h2,if_pos h3]
theorem ss4(h3:(Gj (b.take (4*n))).toNat=Dn (part b (4*n) 4)):seekS b n=if Ard (Ak2 b n)=true then(Ak2 b n,0)else([],12):=by rw[seekS,if_neg (fun e=>e h),if_neg h2,if_neg (fun e=>e h3)]
end
theorem Bh0(b:List UInt8)(l8:List Int)(n:Nat)(hn:n≤1000)(h8:l8.length=n)(hb:4*n+4≤b.length)(hb2:b.length<4611686018427387904):∀(j i q:Nat),i+j=n→j<q→Pf b l8 q (i:Int) (Ak2 b i++List.replicate j 0)=Adn (Ak2 b n)
 |0,i,q+1,hi,_=>by
  obtain rfl:i=n:=by omega
  rw[Pf,Adi,if_neg (by rw[Af,Ac];simp;omega)];simp
 |j+1,i,q+1,hi,hq=>by
  have hlen:(Ak2 b i++List.replicate (j+1) 0).length=i+(j+1):=by simp[Aee]
  have ha:=Bg6 b (4*i) 4 (by omega) (by omega) (by omega) hb2
  rw[Pf,Adi,if_pos (by rw[Af,Ac];simp;omega),Gc (by omega) (by omega),show(4:Int)*(i:Int)=((4*i:Nat):Int) by omega,show(4:Int)=((4:Nat):Int)from rfl,ha,Aa]
  simp only
  rw[Cf (by rw[hlen];omega),Aa,Tx _ (by rw[hlen];omega),Aa,Adc (by rw[Ct (by omega)];omega),Ag (by omega) (by omega),List.replicate_succ,Ath (Aee _ _)]
  have ih:=Bh0 b l8 n hn h8 hb hb2 j (i+1) q (by omega) (by omega)
  rw[Bhs]at ih
  rw[show((i:Int)+1)=((i+1:Nat):Int) by omega,←ih]
  simp
theorem Bgs(b:List UInt8)(n:Nat)(hb:b.length≤100100):Ahn b (n:Int)=some (seekS b n):=by
 rw[Ahn,Ak6]
 by_cases h:1≤n∧n≤1000
 ·rw[if_neg (by simp[Af,Aq];omega),Gc (by omega) (by omega),Ag (by omega) (by omega)]
  by_cases h2:b.length<4*n+4
  ·rw[if_pos (by rw[Af,Ac];simp;omega),ss2 h h2]
  ·have ha:Al0 b (4*(n:Int)) 4=some (leU (part b (4*n) 4),0):=by
    rw[show(4:Int)*(n:Int)=((4*n:Nat):Int) by omega]
    exact Bg6 b (4*n) 4 (by omega) (by omega) (by omega) (by omega)
   rw[if_neg (by rw[Af,Ac];simp;omega),ha,Aa]
   simp only
   rw[Jg (by omega) (by omega),Aa,show(4*(n:Int)).toNat=4*n by omega,Box _ (by simp;omega),Aa]
   simp only
   rw[Bqa h h2]
   by_cases h3:(Gj (b.take (4*n))).toNat=Dn (part b (4*n) 4)
   ·have hlp:=Bh0 b (List.replicate n 0) n (by omega) (by simp) (by omega) (by omega) n 0 Am (by omega) (by have:=Ak;omega)
    rw[if_neg (by simpa using h3),Az4 (by omega) (by omega),Aa,Br (by rw[Az];simp),Aa,All,Int.toNat_natCast]
    refine Eq.trans (hlp) ?_
    rw[Adn,Au3,Be3 _ (by rw[Aee];omega) (Bqk b n (by omega)),Aa,ss4 h h2 h3]
    cases Ard (Ak2 b n)<;>rfl
   ·rw[if_pos (by simpa using h3),ss3 h h2 h3]
 ·rw[if_pos (by simp[Af,Aq];omega),ss1 h]
theorem Aui(b:List UInt8)(n:Nat)(hn:n≤1000)(hb:4*n+4≤b.length)(hb2:b.length<4611686018427387904):∀(j i q:Nat),i+j=n→j<q→Ig b (n:Int) q (i:Int) (Ak2 b i)=Rs (Ak2 b n)
 |0,i,q+1,hi,_=>by
  obtain rfl:i=n:=by omega
  rw[Ig,Rp,if_neg (by rw[Af];simp)]
 |j+1,i,q+1,hi,hq=>by
  have hc:Bu b ((4:Int)*(i:Int)) ((4:Int)*(i:Int)+4)=some (part b (4*i) 4):=by
   rw[show(4:Int)*(i:Int)=((4*i:Nat):Int) by omega]
   exact Lm (4*i) 4 (by omega)
  rw[Ig,Rp,if_pos (by rw[Af];simp;omega),Gc (by omega) (by omega),Ag (by omega) (by omega),hc,Aa,Bms _ (by rw[Ct (by omega)];omega),Aa,Cr (by rw[Aee];simp;omega),Aa,
   Adc (by rw[Ct (by omega)];omega),Ag (by omega) (by omega),←Bhs]
  exact Aui b n hn hb hb2 j (i+1) q (by omega) (by omega)
theorem Bkk(b:List UInt8)(n:Nat)(hb:b.length≤100100):Qe b (n:Int)=some (seekS b n):=by
 rw[Qe,Ad0]
 by_cases h:1≤n∧n≤1000
 ·rw[if_neg (by simp[Af,Aq];omega),Gc (by omega) (by omega),Ag (by omega) (by omega)]
  by_cases h2:b.length<4*n+4
  ·rw[if_pos (by rw[Af,Ac];simp;omega),ss2 h h2]
  ·have hc:Bu b ((4:Int)*(n:Int)) ((4:Int)*(n:Int)+4)=some (part b (4*n) 4):=by
    rw[show(4:Int)*(n:Int)=((4*n:Nat):Int) by omega]
    exact Lm (4*n) 4 (by omega)
   have hs:Bb (leU (part b (4*n) 4)) (Ad (Gj (b.take (4*n))):UInt64)=decide ((Gj (b.take (4*n))).toNat≠Dn (part b (4*n) 4)):=by
    rw[←Bqa h h2,Agl,Agl,Bool.eq_iff_iff];simp only[bne_iff_ne,ne_eq];exact not_congr eq_comm
   rw[if_neg (by rw[Af,Ac];simp;omega),hc,Aa,Jg (by omega) (by omega),Aa,show(4*(n:Int)).toNat=4*n by omega,Bms _ (by rw[Ct (by omega)];omega),Aa,Bup _ (by simp;omega),Aa,hs]
   by_cases h3:(Gj (b.take (4*n))).toNat=Dn (part b (4*n) 4)
   ·have hlp:=Aui b n (by omega) (by omega) (by omega) n 0 Am (by omega) (by have:=Ak;omega)
    rw[if_neg (by simpa using h3),Ae0,Ad8,Aed]
    refine Eq.trans hlp ?_
    rw[Rs,Ae9,Bul _ (by rw[Aee];omega) (Bqk b n (by omega)),Aa,ss4 h h2 h3]
    cases Ard (Ak2 b n)<;>rfl
   ·rw[if_pos (by simpa using h3),ss3 h h2 h3]
 ·rw[if_pos (by simp[Af,Aq];omega),ss1 h]
theorem Bd1{b:List UInt8}{n:Nat}(h:(seekS b n).2=0):seekS b n=(Ak2 b n,0)∧1≤n∧n≤1000∧4*n+4≤b.length∧(∀x∈Ak2 b n,5≤x)∧(Ak2 b n).sum≤100000:=by
 unfold seekS at h⊢
 split at h; · simp at h
 rename_i c1;rw[if_neg c1]
 split at h; · simp at h
 rename_i c2;rw[if_neg c2]
 split at h; · simp at h
 rename_i c3;rw[if_neg c3]
 split at h
 ·rename_i c4
  rw[if_pos c4]
  have c4':=c4
  rw[Ard,Bool.and_eq_true,Bbo _ _ (by omega)]at c4'
  exact⟨rfl,by omega,by omega,by omega,c4'.2.1,c4'.2.2⟩
 ·simp at h
end Go.Pl
set_option linter.unusedVariables false
set_option linter.unusedSimpArgs false
namespace Go.Pl
open Go Go.Lv
def hdr(b:List UInt8):List UInt8:=b.drop (frontS b).1.toNat
abbrev Op8:=Int×Int×Int×Int×Int×Int×(List Int)×Int
def Aoe(e:Int):Op8:=(0,0,0,0,0,0,[],e)
theorem Bvb(A K:Nat)(h:A≤200000)(hk:K≤1000):Ae (Ae (A:Int) (Ay 4 (K:Int))) 4=((A+4*K+4:Nat):Int):=by
 rw[Gc (by omega) (by omega),Ag (a:=(A:Int)) (by omega) (by omega),Ag (by omega) (by omega)];omega
theorem Bhq{f c w r n:Nat}(h1:shapeB f c w r n=true)(h2:fitB c r n=true)(b:List UInt8)(hb:b.length≤100100)(A:Nat)(hA:A≤b.length):
  Mt b (f:Int) (c:Int) (w:Int) (r:Int) (n:Int) (A:Int)=
   some (if(seekS (b.drop A) (framesL (longN r) n).length).2≠0 then Aoe (seekS (b.drop A) (framesL (longN r) n).length).2 else((f:Int),(c:Int),(w:Int),(r:Int),(n:Int),((A+4*(framesL (longN r) n).length+4:Nat):Int),(seekS (b.drop A) (framesL (longN r) n).length).1,0)):=by
 rw[Mt,Ar7,Aew h1 h2,Aa]
 simp only
 rw[if_neg (by rw[Aj];simp),Lg (by omega) (by omega),Aa,Ac,show(A:Int).toNat=A from rfl,Bgs _ _ (by simp;omega),Aa]
 by_cases h:(seekS (b.drop A) (framesL (longN r) n).length).2≠0
 ·rw[if_pos h,if_pos (by rw[Aj];simpa using h)];rfl
 ·have h0:(seekS (b.drop A) (framesL (longN r) n).length).2=0:=by simpa using h
  obtain⟨g1,g2,g3,g4,g5,g6⟩:=Bd1 h0
  have gl:(seekS (b.drop A) (framesL (longN r) n).length).1.length=(framesL (longN r) n).length:=by rw[g1];exact Aee _ _
  rw[if_neg h,if_neg (by rw[Aj];simpa using h),Ac,gl,Bvb _ _ (by omega) (by omega)]
theorem Bwg{f c w r n:Nat}(h1:shapeB f c w r n=true)(h2:fitB c r n=true)(b:List UInt8)(hb:b.length≤100100)(A:Nat)(hA:A≤b.length):
  Je b (f:Int) (c:Int) (w:Int) (r:Int) (n:Int) (A:Int)=
   some (if(seekS (b.drop A) (framesL (longN r) n).length).2≠0 then Aoe (seekS (b.drop A) (framesL (longN r) n).length).2 else((f:Int),(c:Int),(w:Int),(r:Int),(n:Int),((A+4*(framesL (longN r) n).length+4:Nat):Int),(seekS (b.drop A) (framesL (longN r) n).length).1,0)):=by
 have hs:(1≤r∧r≤1048576)∧1≤n∧1≤c:=by
  simp only[shapeB,decide_eq_true_eq]at h1;omega
 have hf:n≤4000:=by
  simp only[fitB,decide_eq_true_eq]at h2
  have:=Nat.div_le_self 4000 c
  omega
 rw[Je,Aag,Lg (by omega) (by omega),Aa,Ark hs.1.2 hs.2.1 hf,Aa,Ac,show(A:Int).toNat=A from rfl,Bkk _ _ (by simp;omega),Aa]
 simp only
 rw[Abd,Aab]
 by_cases h:(seekS (b.drop A) (framesL (longN r) n).length).2≠0
 ·rw[if_pos h,if_pos (by rw[Aj];simpa using h)];rfl
 ·have h0:(seekS (b.drop A) (framesL (longN r) n).length).2=0:=by simpa using h
  obtain⟨g1,g2,g3,g4,g5,g6⟩:=Bd1 h0
  have gl:(seekS (b.drop A) (framesL (longN r) n).length).1.length=(framesL (longN r) n).length:=by rw[g1];exact Aee _ _
  rw[if_neg h,if_neg (by rw[Aj];simpa using h),Ac,gl,Bvb _ _ (by omega) (by omega)]
structure Opn (b p:List UInt8) (f c w r n A:Nat) (l:List Int):Prop where
 prog:seekto_Open b p=some ((f:Int),(c:Int),(w:Int),(r:Int),(n:Int),(A:Int),l,0)
 ref:cadenzaref40_Opened b p=some ((f:Int),(c:Int),(w:Int),(r:Int),(n:Int),(A:Int),l,0)
 pass:p.length≤64
 file:b.length≤100000
 shape:shapeB f c w r n=true
 fit:fitB c r n=true
 len:l.length=(framesL (longN r) n).length
 some1:1≤l.length∧l.length≤1000
 five:∀x∈l,5≤x
 sum:l.sum≤100000
 at':A≤b.length
 tag:(frontS b).2=0
 head:readS (hdr b)=((f:Int),(c:Int),(w:Int),(r:Int),(n:Int),0)
 tab:seekS (b.drop ((frontS b).1.toNat+22+(if f=2 then 8 else 0))) l.length=(l,0)
 pos:A=(frontS b).1.toNat+22+(if f=2 then 8 else 0)+4*l.length+4
theorem Bj8(b p:List UInt8)(hb:b.length≤100100)(hp:p.length≤64):
  (∃e:Int,e≠0∧seekto_Open b p=some (Aoe e)∧cadenzaref40_Opened b p=some (Aoe e))∨(∃f c w r n A l,Opn b p f c w r n A l):=by
 by_cases h1:100000<b.length
 ·refine .inl ⟨4,by omega,?_,?_⟩
  ·rw[seekto_Open,Rm,if_neg (by rw[Aq,Ac];simp;omega),if_pos (by rw[Aq,Ac];simp;omega)];rfl
  ·rw[cadenzaref40_Opened,Nt,if_pos (by rw[Aq,Ac];simp;omega)];rfl
 have hP:seekto_Open b p=seekto_Open b p:=rfl
 have hR:cadenzaref40_Opened b p=cadenzaref40_Opened b p:=rfl
 conv at hP=>rhs;rw[seekto_Open,Rm,if_neg (by rw[Aq,Ac];simp;omega),if_neg (by rw[Aq,Ac];simp;omega),Aq3 b (by omega),Aa]
 conv at hR=>rhs;rw[cadenzaref40_Opened,Nt,if_neg (by rw[Aq,Ac];simp;omega),Axj b (by omega),Aa]
 by_cases h2:(frontS b).2=0
 ·obtain⟨p0,p1,p2⟩:=Bh7 h2
  have hc:=Lg (l:=b) p0 p1
  simp only[h2]at hP hR
  rw[if_neg (by rw[Aj];simp),hc,Aa,show b.drop (frontS b).1.toNat=hdr b from rfl,Bg4 _ (by simp[hdr];omega),Aa]at hP
  rw[if_neg (by rw[Aj];simp),hc,Aa,show b.drop (frontS b).1.toNat=hdr b from rfl,Bki _ (by simp[hdr];omega),Aa]at hR
  by_cases h3:(readS (hdr b)).2.2.2.2.2=0
  ·obtain⟨g1,g2,g3,g4⟩:=Bko h3
   have hlen:(hdr b).length=b.length-(frontS b).1.toNat:=by simp[hdr]
   generalize hF:(frontS b).1.toNat=F at*
   have hF':(frontS b).1=(F:Int):=by omega
   rw[g1,hF']at hP hR
   simp only at hP hR
   generalize f0 (hdr b)=f at*
   generalize f1 (hdr b)=c at*
   generalize f2 (hdr b)=w at*
   generalize f3 (hdr b)=r at*
   generalize f4 (hdr b)=n at*
   have t22:Ae (F:Int) 22=((F+22:Nat):Int):=by rw[Ag (by omega) (by omega)];omega
   have t30:Ae ((F+22:Nat):Int) 8=((F+30:Nat):Int):=by rw[Ag (by omega) (by omega)];omega
   have hf12:f=1∨f=2:=by simp only[shapeB,decide_eq_true_eq]at g3;omega
   rw[if_neg (by rw[Aj];simp),t22,t30]at hP hR
   have hend:∀A:Nat,A≤b.length→A=F+22+(if f=2 then 8 else 0)→seekto_Open b p=Mt b (f:Int) (c:Int) (w:Int) (r:Int) (n:Int) (A:Int)→cadenzaref40_Opened b p=Je b (f:Int) (c:Int) (w:Int) (r:Int) (n:Int) (A:Int)→
     (∃e:Int,e≠0∧seekto_Open b p=some (Aoe e)∧cadenzaref40_Opened b p=some (Aoe e))∨(∃f c w r n A l,Opn b p f c w r n A l):=by
    intro A hA hA2 e1 e2
    rw[Bhq g3 g4 b hb A hA]at e1
    rw[Bwg g3 g4 b hb A hA]at e2
    by_cases h:(seekS (b.drop A) (framesL (longN r) n).length).2≠0
    ·rw[if_pos h]at e1 e2
     exact .inl ⟨_,h,e1,e2⟩
    ·have h0:(seekS (b.drop A) (framesL (longN r) n).length).2=0:=by simpa using h
     obtain⟨k1,k2,k3,k4,k5,k6⟩:=Bd1 h0
     have gl:(seekS (b.drop A) (framesL (longN r) n).length).1.length=(framesL (longN r) n).length:=by rw[k1];exact Aee _ _
     rw[if_neg h]at e1 e2
     rw[List.length_drop]at k4
     refine .inr ⟨f,c,w,r,n,_,_,⟨e1,e2,hp,by omega,g3,g4,gl,by omega,by rw[k1];exact k5,by rw[k1];exact k6,by omega,h2,g1,by rw[gl,hF,←hA2];exact Prod.ext rfl h0,by rw[gl,hF,←hA2]⟩⟩
   by_cases hpass:((p==([]:List UInt8)) !=(geq (f:Int) (1:Int)))=true
   ·rw[if_pos hpass]at hP hR
    exact .inl ⟨26,by omega,hP,hR⟩
   ·rw[if_neg hpass]at hP hR
    have hpf:(p=[]↔f=1):=by
     rw[Az]at hpass
     have h5:(p==([]:List UInt8))=((f:Int)==1):=by simpa using hpass
     have h6:(p==([]:List UInt8))=true↔((f:Int)==1)=true:=by rw[h5]
     rw[beq_iff_eq,beq_iff_eq]at h6
     rw[h6];omega
    by_cases h5:f=2
    ·have hpne:p≠ []:=fun e=>by have:=hpf.1 e;omega
     have h64:(p !=([]:List UInt8))=true:=by simpa using hpne
     rw[if_pos h64]at hP
     rw[if_pos (by rw[Az,h5];rfl),Be (by rw[Ac];omega) (by rw[Ac];omega)]at hR
     by_cases h6:b.length<F+30
     ·rw[if_pos (by rw[Af,Ac];simp;omega)]at hP hR
      exact .inl ⟨24,by omega,hP,hR⟩
     ·have hseg:((b.take (F+30)).drop (F+22)).length=8:=by simp;omega
      rw[if_neg (by rw[Af,Ac];simp;omega),Py (by omega) (by omega) (by omega),Aa]at hP hR
      rw[Tq,Bhh p hp,Aa]at hP
      rw[Bg2 p hp,Aa]at hR
      simp only at hP
      rw[if_neg (by rw[Aj,Aj,Ac,Ac,Li,show((F+30:Nat):Int).toNat=F+30 from rfl,show((F+22:Nat):Int).toNat=F+22 from rfl,hseg];simp),Fv,Aa,Aa]at hP
      simp only at hP
      rw[if_neg (by rw[Aj];simp)]at hP
      generalize(b.take ((F+30:Nat):Int).toNat).drop ((F+22:Nat):Int).toNat=seg at*
      by_cases h7:seg=leB (Ad6 p).toNat 8
      ·rw[if_neg (by simp[h7])]at hP
       rw[if_neg (by simp[h7])]at hR
       exact hend (F+30) (by omega) (by rw[if_pos h5]) hP hR
      ·rw[if_pos (by simpa using h7)]at hP
       rw[if_pos (by simpa using h7)]at hR
       exact .inl ⟨26,by omega,hP,hR⟩
    ·have hpe:p=[]:=hpf.2 (by omega)
     rw[if_neg (by rw[hpe];simp)]at hP
     rw[if_neg (by rw[Az];simp;omega)]at hR
     exact hend (F+22) (by omega) (by rw[if_neg h5]) hP hR
  ·generalize readS (hdr b)=v at*
   obtain⟨v1,v2,v3,v4,v5,v6⟩:=v
   simp only at h3 hP hR
   rw[if_pos (by rw[Aj];simpa using h3)]at hP hR
   exact .inl ⟨v6,h3,hP,hR⟩
 ·generalize frontS b=v at*
  obtain⟨v,e⟩:=v
  simp only at h2 hP hR
  rw[if_pos (by rw[Aj];simpa using h2)]at hP hR
  exact .inl ⟨e,h2,hP,hR⟩
end Go.Pl
set_option linter.unusedVariables false
set_option linter.unusedSimpArgs false
namespace Go.Pl
open Go Go.Lv
theorem Bsn(l:List Int)(i:Nat):(l.take i).sum+(l.drop i).sum=l.sum:=by
 conv=>rhs;rw[←List.take_append_drop i l,List.sum_append]
theorem Fc{l:List Int}(h5:∀x∈l,5≤x)(i:Nat):0≤(l.take i).sum∧(l.take i).sum≤l.sum:=by
 have h1:=Bv1 (l.take i) fun x hx=>h5 x (List.mem_of_mem_take hx)
 have h2:=Bv1 (l.drop i) fun x hx=>h5 x (List.mem_of_mem_drop hx)
 have:=Bsn l i
 omega
theorem Lw{l:List Int}{i:Nat}(h:i<l.length):(l.take (i+1)).sum=(l.take i).sum+l[i]:=by
 rw[Amu h,List.sum_append];simp
def Bbg(l:List Int)(n:Nat):List Int:=(List.range n).map fun i=>(l.take i).sum
theorem Bny(l:List Int)(n:Nat):(Bbg l n).length=n:=by simp[Bbg]
theorem Bum(l:List Int)(n:Nat):Bbg l (n+1)=Bbg l n++[(l.take n).sum]:=by simp[Bbg,List.range_succ]
theorem Bcf(l:List Int){n i:Nat}(h:i<n):getI (Bbg l n) (i:Int)=some ((l.take i).sum):=by
 rw[Cf (by rw[Bny];exact h)];simp[Bbg]
section
variable {l:List Int} (hl:l.length≤1000) (h5:∀x∈l,5≤x) (hs:l.sum≤100000)
include hl h5 hs
theorem Bid:∀(j i q:Nat),i+j=l.length→j<q→Jp l q (i:Int) ((l.take i).sum) (Bbg l (i+1))=some (Bbg l (l.length+1),0)
 |0,i,q+1,hi,_=>by
  rw[Jp,To,if_neg (by rw[Af,Ac];simp;omega),show i=l.length by omega];rfl
 |j+1,i,q+1,hi,hq=>by
  have hlt:i<l.length:=by omega
  have ih:=Bid j (i+1) q (by omega) (by omega)
  have b1:=Fc h5 i
  have b2:=Fc h5 (i+1)
  have e:=Lw hlt
  rw[Bum l (i+1),e]at ih
  rw[Jp,To,if_pos (by rw[Af,Ac];simp;omega),Cf hlt,Aa,Ag (by omega) (by omega),Cr (by simp[Bny];omega),Aa,Ac2,Al9,Ag (by omega) (by omega),Ag (by omega) (by omega)]
  exact ih
theorem Byp(h1:1≤l.length):Adb l=some (Bbg l (l.length+1),0):=by
 have h:=Bid hl h5 hs l.length 0 Am (by omega) (by have:=Ak;omega)
 have hx:∀x∈l,0≤x∧x<4294967296:=fun x hx=>by
  have:=Bol h5 x hx
  have:=h5 x hx
  omega
 have ht:Ard l=true:=by
  rw[Ard,Bool.and_eq_true]
  exact⟨by simpa using⟨h1,hl⟩,(Bbo l 100000 (by omega)).2 ⟨h5,hs⟩⟩
 rw[Adb,Ace,Be3 l hl hx,Aa,if_pos ht,if_neg (by rw[Aj];simp)]
 exact h
theorem Bc8(f c w r n A:Int)(hA:0≤A)(hA2:A≤200000)(k:Nat)(hk:k≤l.length):∀(j i q:Nat),i+j=k→j<q→Hm (k:Int) f c w r n A l q (A+(l.take i).sum) (i:Int)=some (A+(l.take k).sum)
 |0,i,q+1,hi,_=>by
  rw[Hm,Pj,if_neg (by rw[Af];simp;omega),show i=k by omega];rfl
 |j+1,i,q+1,hi,hq=>by
  have hlt:i<l.length:=by omega
  have ih:=Bc8 f c w r n A hA hA2 k hk j (i+1) q (by omega) (by omega)
  have b1:=Fc h5 i
  have b2:=Fc h5 (i+1)
  have e:=Lw hlt
  rw[e,←Int.add_assoc]at ih
  rw[Hm,Pj,if_pos (by rw[Af];simp;omega),Cf hlt,Aa,Ag (by omega) (by omega),Ag (by omega) (by omega)]
  exact ih
theorem Bgp(f c w r n A:Int)(hA:0≤A)(hA2:A≤200000)(k:Nat)(hk:k≤l.length):Ag7 f c w r n A l (k:Int)=some (A+(l.take k).sum):=by
 have h:=Bc8 hl h5 hs f c w r n A hA hA2 k hk k 0 Am (by omega) (by have:=Ak;omega)
 rw[List.take_zero,List.sum_nil,Int.add_zero]at h
 exact h
end
theorem Bf1{g n:Nat}(hg:1≤g)(hn:1≤n){x:Int}(h:x∈framesL g n):∃m:Nat,x=m∧1≤m∧m≤n:=by
 have hmul:=Nat.div_mul_le_self (n-1) g
 rw[framesL,List.mem_append]at h
 rcases h with h|h
 ·rw[List.mem_replicate]at h
  have h1:1≤(n-1)/g:=Nat.pos_of_ne_zero h.1
  have:=Nat.mul_le_mul_right g h1
  exact⟨g,h.2,hg,by omega⟩
 ·rw[List.mem_singleton]at h
  exact⟨_,h,by omega,by omega⟩
theorem Ot{f c w r n:Nat}(h:shapeB f c w r n=true):(1≤c∧c≤6)∧Cm (w:Int)∧(1≤r∧r≤1048576)∧1≤n∧(f=1∨f=2):=by
 simp only[shapeB,decide_eq_true_eq]at h
 refine⟨h.2.1,?_,h.2.2.2.1,h.2.2.2.2,h.1⟩
 rcases h.2.2.1 with rfl|rfl|rfl
 ·exact .inl rfl
 ·exact .inr (.inl rfl)
 ·exact .inr (.inr rfl)
theorem Buf{b p:List UInt8}{f c w r n A:Nat}{l:List Int}(o:Opn b p f c w r n A l)(k:Nat)(hk:k<l.length):
  ∃y:List UInt8×Int,Oo (k:Int) (framesL (longN r) n) (f:Int) (c:Int) (w:Int) (r:Int) (n:Int) (A:Int) b (tapsOf p) l (Bbg l (l.length+1))=some y∧
   cadenzaref40_Got b p (f:Int) (c:Int) (w:Int) (r:Int) (n:Int) (A:Int) l (k:Int)=some y:=by
 obtain⟨hc,hw,hr,hn,_⟩:=Ot o.shape
 have hfit:n≤4000/c:=by have:=o.fit;simp only[fitB,decide_eq_true_eq]at this;exact this.1
 have hn4:n≤4000:=by have:=Nat.div_le_self 4000 c;omega
 have hA:=o.at'
 have hfile:=o.file
 have hlen:=o.len
 have b1:=Fc o.five k
 have b2:=Fc o.five (k+1)
 have e:=Lw hk
 have h5:=o.five l[k] (List.getElem_mem _)
 have hsum:=o.sum
 have hs1:=o.some1
 have hkf:k<(framesL (longN r) n).length:=by omega
 obtain⟨m,hm,m1,m2⟩:=Bf1 (Al7 r) hn (List.getElem_mem hkf)
 have e1:Ae (k:Int) 1=((k+1:Nat):Int):=by rw[Ag (by omega) (by omega)];omega
 rw[Oo,Aff,if_neg (by rw[Aj];simp),if_neg (by simp[Af,Cx,Ac];omega),e1,Bcf l (by omega),Bcf l (by omega),Aa,Aa,Aa,Aa,Afk,Afy,Ag (a:=(A:Int)) (b:=(l.take (k+1)).sum) (by omega) (by omega),Ag (by omega) (by omega)]
 rw[cadenzaref40_Got,Ut,Bgp hs1.2 o.five o.sum _ _ _ _ _ (A:Int) (by omega) (by omega) k (by omega),Aa,Cf hk,Aa,Be (by rw[Ac];omega) (by rw[Ac];omega)]
 by_cases hto:(b.length:Int)<(A:Int)+(l.take (k+1)).sum
 ·rw[if_pos (by rw[Aq,Ac,decide_eq_true_eq];omega),if_pos (by rw[Af,Ac,decide_eq_true_eq];omega)]
  exact⟨_,rfl,rfl⟩
 ·rw[if_neg (by rw[Aq,Ac,decide_eq_true_eq];omega),if_neg (by rw[Af,Ac,decide_eq_true_eq];omega),Bdg p o.pass,Ark hr.2 hn hn4]
  simp only[Aa]
  rw[Ag (a:=(A:Int)+(l.take k).sum) (b:=l[k]) (by omega) (by omega),Int.add_assoc,←e,Cf hkf,hm]
  simp only[Aa]
  rw[Py (by omega) (by omega) (by omega),Aa,Aa]
  obtain⟨x,er,g1,g2,g3,_⟩:=Az1 (ch:=c) (n:=m) (t:=tapsOf p) ((b.take ((A:Int)+(l.take (k+1)).sum).toNat).drop ((A:Int)+(l.take k).sum).toNat) hw (Bct p) hc.1 hc.2 m1 (by omega)
  rw[g1,g2,Aa,Aa]
  simp only
  rw[Afi,Afh,Un,Ui]
  by_cases her:er=0
  ·obtain⟨g4,g5,_⟩:=g3 her
   rw[if_neg (by rw[Aj];simpa using her),if_neg (by rw[Aj];simpa using her),Bdo hw g5 g4,Bg1 hw g5 g4,Aa,Aa]
   exact⟨_,rfl,rfl⟩
  ·rw[if_pos (by rw[Aj];simpa using her),if_pos (by rw[Aj];simpa using her)]
   exact⟨_,rfl,rfl⟩
theorem Bky{b p:List UInt8}{f c w r n A:Nat}{l:List Int}(o:Opn b p f c w r n A l)(k:Int):Tr b p k=Oo k (framesL (longN r) n) (f:Int) (c:Int) (w:Int) (r:Int) (n:Int) (A:Int) b (tapsOf p) l (Bbg l (l.length+1)):=by
 have hs1:=o.some1
 rw[Tr,Afx,o.prog,Aa]
 simp only
 rw[if_neg (by rw[Aj];simp),Aew o.shape o.fit,Aa]
 simp only
 rw[if_neg (by rw[Aj];simp),Byp hs1.2 o.five o.sum hs1.1,Aa]
 simp only
 rw[if_neg (by rw[Aj];simp),Bhe p o.pass,Aa]
 simp only
 rw[if_neg (by rw[Aj];simp),Ac,←o.len,Bcf l (by omega),Aa,Aa]
end Go.Pl
set_option linter.unusedVariables false
set_option linter.unusedSimpArgs false
namespace Go.Pl
open Go Go.Lv
theorem Cc6(n m:Nat):Lf n m 0≠Lf n m 2147483648:=by
 intro h
 simp[Lf,leB,APE]at h
def Bo(b:List UInt8):List UInt8:=b.drop (b.length-32)
theorem Bnr{b:List UInt8}(h:32≤b.length):(Bo b).length=32:=by rw[Bo,List.length_drop];omega
def itA(t:List UInt8):Nat:=Dn (part t 12 4)-32
def mnA(t:List UInt8):Nat:=Dn (part t 16 4)
def Ry(b:List UInt8):Int×Int:=
 if ¬(32≤b.length∧(Bo b).take 8=APE)then(0,6)else if Ae3 (Bo b)=true then(0,12)else
 if Bo b=Lf (itA (Bo b)) (mnA (Bo b)) 0 then(if b.length<itA (Bo b)+32 then(0,24)else(((itA (Bo b)+32:Nat):Int),0))else
 if Bo b≠Lf (itA (Bo b)) (mnA (Bo b)) 2147483648 then(0,12)else
 if b.length<itA (Bo b)+64 then(0,24)else
 if(b.take (b.length-(itA (Bo b)+64)+32)).drop (b.length-(itA (Bo b)+64))≠Lf (itA (Bo b)) (mnA (Bo b)) 2684354560 then(0,12)else(((itA (Bo b)+64:Nat):Int),0)
section
variable {b:List UInt8}
theorem ba1(h:¬(32≤b.length∧(Bo b).take 8=APE)):Ry b=(0,6):=by rw[Ry,if_pos h]
variable (h:32≤b.length∧(Bo b).take 8=APE)
include h
theorem ba2(h2:Ae3 (Bo b)=true):Ry b=(0,12):=by rw[Ry,if_neg (fun h'=>h' h),if_pos h2]
variable (h2:Ae3 (Bo b)=false)
include h2
theorem ba3(h3:Bo b=Lf (itA (Bo b)) (mnA (Bo b)) 0):Ry b=if b.length<itA (Bo b)+32 then(0,24)else(((itA (Bo b)+32:Nat):Int),0):=by
 rw[Ry,if_neg (fun h'=>h' h),if_neg (by rw[h2];simp),if_pos h3]
variable (h3:Bo b≠Lf (itA (Bo b)) (mnA (Bo b)) 0)
include h3
theorem ba4(h4:Bo b≠Lf (itA (Bo b)) (mnA (Bo b)) 2147483648):Ry b=(0,12):=by
 rw[Ry,if_neg (fun h'=>h' h),if_neg (by rw[h2];simp),if_neg h3,if_pos h4]
variable (h4:Bo b=Lf (itA (Bo b)) (mnA (Bo b)) 2147483648)
include h4
theorem ba5(h5:b.length<itA (Bo b)+64):Ry b=(0,24):=by
 rw[Ry,if_neg (fun h'=>h' h),if_neg (by rw[h2];simp),if_neg h3,if_neg (fun e=>e h4),if_pos h5]
theorem ba6(h5:¬b.length<itA (Bo b)+64):Ry b=if(b.take (b.length-(itA (Bo b)+64)+32)).drop (b.length-(itA (Bo b)+64))≠Lf (itA (Bo b)) (mnA (Bo b)) 2684354560 then(0,12)else(((itA (Bo b)+64:Nat):Int),0):=by
 rw[Ry,if_neg (fun h'=>h' h),if_neg (by rw[h2];simp),if_neg h3,if_neg (fun e=>e h4),if_neg h5]
end
theorem Bmq{b:List UInt8}{n:Int}(h:Ry b=(n,0)):32≤n∧n≤b.length:=by
 unfold Ry at h
 split at h; · simp at h
 rename_i h32
 split at h; · simp at h
 split at h
 ·split at h; · simp at h
  simp only[Prod.mk.injEq,and_true]at h;omega
 split at h; · simp at h
 split at h; · simp at h
 split at h; · simp at h
 simp only[Prod.mk.injEq,and_true]at h;omega
theorem Bsx{b:List UInt8}(h:(Ry b).2≠0):(Ry b).1=0:=by
 revert h
 unfold Ry
 split; · simp
 split; · simp
 split
 ·split<;>simp
 split; · simp
 split; · simp
 split<;>simp
theorem Bwc{b:List UInt8}(h:32≤b.length)(hl:b.length<4611686018427387904):Ah (Ac b) 32=((b.length-32:Nat):Int)∧Bu b ((b.length-32:Nat):Int) (Ac b)=some (Bo b):=by
 refine⟨by rw[Ac,Be (by omega) (by omega)];omega,?_⟩
 rw[Lg (by omega) (by omega)];rfl
theorem Btp(b:List UInt8)(hl:b.length<4611686018427387904):Axg b=some (Ry b):=by
 rw[Axg,Arr]
 by_cases h32:32≤b.length
 ·obtain⟨e1,e2⟩:=Bwc h32 hl
  have hl3:=Bnr h32
  rw[if_neg (by rw[e1,Af];simp),e1,e2,Aa,An8,Aa]
  by_cases hp:(Bo b).take 8=APE
  ·have h:=And.intro h32 hp
   rw[if_neg (by simpa [APE,hl3]using hp),Aqo,Az6,e1,e2,Aa,Anj _ 0 (by omega) (by omega) (by decide),Aa]
   cases hb:Ae3 (Bo b)with
   |true=>
    rw[ba2 h hb]
    simp only[if_true,Bool.false_eq_true,if_false]
    rw[Aa,Anj _ 2147483648 (by omega) (by omega) (by decide),Aa,hb];rfl
   |false=>
    obtain⟨i1,i2,i3,i4⟩:=Azo (Bo b) (by omega) hb
    have eI:Dn (part (Bo b) 12 4)-32=itA (Bo b):=rfl
    have eM:Dn (part (Bo b) 16 4)=mnA (Bo b):=rfl
    simp only[Bool.false_eq_true,if_false]
    rw[eI]at i3
    rw[eM]at i4
    rw[eI,eM]
    by_cases c1:Bo b=Lf (itA (Bo b)) (mnA (Bo b)) 0
    ·have c1':Bo b=Lf (itA (Bo b)) (mnA (Bo b)) (0:UInt64).toNat:=c1
     rw[if_pos (by simpa using c1'),ba3 h hb c1]
     by_cases c2:b.length<itA (Bo b)+32
     ·rw[if_pos (by rw[Af];simp;omega),if_pos c2]
     ·rw[if_neg (by rw[Af];simp;omega),if_neg c2,Ag (by omega) (by omega)];rfl
    ·have c1':¬Bo b=Lf (itA (Bo b)) (mnA (Bo b)) (0:UInt64).toNat:=c1
     rw[if_neg (by simpa using c1'),Aa,Anj _ 2147483648 (by omega) (by omega) (by decide),Aa,hb]
     simp only[Bool.false_eq_true,if_false]
     rw[eI,eM]
     by_cases c2:Bo b=Lf (itA (Bo b)) (mnA (Bo b)) 2147483648
     ·have c2':Bo b=Lf (itA (Bo b)) (mnA (Bo b)) (2147483648:UInt64).toNat:=c2
      rw[if_neg (by simpa using c2'),Ag (by omega) (by omega)]
      by_cases c3:b.length<itA (Bo b)+64
      ·rw[if_pos (by rw[Af,Ac];simp;omega),ba5 h hb c1 c2 c3]
      ·rw[if_neg (by rw[Af,Ac];simp;omega),Ac,Be (by omega) (by omega),Ag (by omega) (by omega),Py (by omega) (by omega) (by omega),Aa,Bcy _ _ _ i3 i4 (by decide),Aa,Fv,Aa,ba6 h hb c1 c2 c3]
       rw[show((b.length:Int)-(((itA (Bo b):Nat):Int)+64)).toNat=b.length-(itA (Bo b)+64) by omega,show((b.length:Int)-(((itA (Bo b):Nat):Int)+64)+32).toNat=b.length-(itA (Bo b)+64)+32 by omega]
       have e7:(2684354560:UInt64).toNat=2684354560:=rfl
       rw[e7]
       by_cases c4:(b.take (b.length-(itA (Bo b)+64)+32)).drop (b.length-(itA (Bo b)+64))=Lf (itA (Bo b)) (mnA (Bo b)) 2684354560
       ·rw[if_neg (by simpa using c4),if_neg (fun e=>e c4)];rfl
       ·rw[if_pos (by simpa using c4),if_pos c4]
     ·have c2':¬Bo b=Lf (itA (Bo b)) (mnA (Bo b)) (2147483648:UInt64).toNat:=c2
      rw[if_pos (by simpa using c2'),ba4 h hb c1 c2]
  ·rw[if_pos (by rw[Bool.not_eq_true',decide_eq_false_iff_not];intro h;exact hp h.2),ba1 (fun h=>hp h.2)]
 ·rw[if_pos (by rw[Ac,Be (by omega) (by omega),Af];simp;omega),ba1 (fun h=>h32 h.1)]
theorem By3{b:List UInt8}(h:32≤b.length):(b.take (b.length-32+8)).drop (b.length-32)=(Bo b).take 8:=by
 rw[Bo,List.take_drop]
theorem But(b:List UInt8)(hl:b.length<4611686018427387904):Yg b=some (Ry b):=by
 rw[Yg,Ae5]
 by_cases h32:32≤b.length
 ·obtain⟨e1,e2⟩:=Bwc h32 hl
  have hl3:=Bnr h32
  rw[if_neg (by rw[Af,Ac];simp;omega),e1,Ag (by omega) (by omega),Py (by omega) (by omega) (by omega),Aa,show((b.length-32:Nat):Int).toNat=b.length-32 from rfl,show(((b.length-32:Nat):Int)+8).toNat=b.length-32+8 by omega,By3 h32]
  by_cases hp:(Bo b).take 8=APE
  ·have h:=And.intro h32 hp
   rw[if_neg (by simpa [APE]using hp),Adx,Aep,e1,e2,Aa,Bnt _ (by omega) (by omega),Aa]
   cases hb:Ae3 (Bo b)with
   |true=>rw[ba2 h hb];rfl
   |false=>
    obtain⟨i1,i2,i3,i4⟩:=Azo (Bo b) (by omega) hb
    have eI:Dn (part (Bo b) 12 4)-32=itA (Bo b):=rfl
    have eM:Dn (part (Bo b) 16 4)=mnA (Bo b):=rfl
    simp only[Bool.false_eq_true,if_false,Bool.not_true]
    rw[eI]at i3
    rw[eM]at i4
    rw[eI,eM,Il,if_pos rfl,Axv _ _ _ i3 i4 (by decide),Aa,Aa]
    have e7:(2147483648:UInt64).toNat=2147483648:=rfl
    have e8:(2684354560:UInt64).toNat=2684354560:=rfl
    rw[e7]
    by_cases c2:Bo b=Lf (itA (Bo b)) (mnA (Bo b)) 2147483648
    ·have c1:Bo b≠Lf (itA (Bo b)) (mnA (Bo b)) 0:=fun e=>Cc6 (itA (Bo b)) (mnA (Bo b)) (e.symm.trans c2)
     rw[if_neg (by simpa using c2),Td,So,if_pos (by simpa using c2),Sp,Sd,Ag (a:=32) (by omega) (by omega),Ag (by omega) (by omega)]
     by_cases c3:b.length<itA (Bo b)+64
     ·rw[if_pos (by rw[Af,Ac];simp;omega),ba5 h hb c1 c2 c3]
     ·rw[if_neg (by rw[Af,Ac];simp;omega),if_pos (by simpa using c2),Ac,Be (by omega) (by omega),Ag (by omega) (by omega),Py (by omega) (by omega) (by omega),Aa,Qq,Axv _ _ _ i3 i4 (by decide),Aa,Aa,ba6 h hb c1 c2 c3,e8]
      rw[show((b.length:Int)-(32+((itA (Bo b):Nat):Int)+32)).toNat=b.length-(itA (Bo b)+64) by omega,show((b.length:Int)-(32+((itA (Bo b):Nat):Int)+32)+32).toNat=b.length-(itA (Bo b)+64)+32 by omega]
      by_cases c4:(b.take (b.length-(itA (Bo b)+64)+32)).drop (b.length-(itA (Bo b)+64))=Lf (itA (Bo b)) (mnA (Bo b)) 2684354560
      ·rw[if_neg (by simpa using c4),if_neg (fun e=>e c4),show(32+((itA (Bo b):Nat):Int)+32)=((itA (Bo b)+64:Nat):Int) by omega]
      ·rw[if_pos (by simpa using c4),if_pos c4]
    ·rw[if_pos (by simpa using c2),Il,if_neg (by simp),Axv _ _ _ i3 i4 (by decide),Aa,Aa]
     have e9:(0:UInt64).toNat=0:=rfl
     rw[e9]
     by_cases c1:Bo b=Lf (itA (Bo b)) (mnA (Bo b)) 0
     ·rw[if_neg (by simpa using c1),Td,So,if_neg (by simpa using c2),Sp,Sd,Ag (by omega) (by omega),ba3 h hb c1,if_neg (c:=(Bo b==Lf (itA (Bo b)) (mnA (Bo b)) 2147483648)=true) (by simpa using c2)]
      by_cases c3:b.length<itA (Bo b)+32
      ·rw[if_pos (by rw[Af,Ac];simp;omega),if_pos c3]
      ·rw[if_neg (by rw[Af,Ac];simp;omega),if_neg c3,show(32+((itA (Bo b):Nat):Int))=((itA (Bo b)+32:Nat):Int) by omega]
     ·rw[if_pos (by simpa using c1),ba4 h hb c1 c2]
  ·rw[if_pos (by simpa [APE]using hp),ba1 (fun h=>hp h.2)]
 ·rw[if_pos (by rw[Af,Ac];simp;omega),ba1 (fun h=>h32 h.1)]
def Bs6:Nat→List UInt8→Nat→Int×Int
 |0,_,_=>(0,38)
 |j+1,b,a=>if b=[]then((a:Int),0)else if(Ry b).2≠0 then(0,38)else Bs6 j (b.take (b.length-(Ry b).1.toNat)) (a+1)
theorem Bmw:∀(j q a:Nat) (b:List UInt8),b.length<j→j≤q→b.length≤4000→a+b.length≤4000→On q (a:Int) b=some (Bs6 j b a)
 |0,_,_,_,h,_,_,_=>by omega
 |j+1,q+1,a,b,h,hq,h4,ha=>by
  rw[On,Afj,Bs6]
  by_cases hb:b=[]
  ·subst hb;rw[if_neg (by decide),if_pos rfl];rfl
  ·have hpos:0<b.length:=List.length_pos_iff.2 hb
   rw[if_pos (by rw[Aq,Ac];simp;omega),if_neg hb,Btp b (by omega),Aa]
   have hbad:=Bsx (b:=b)
   have hok:=fun n=>Bmq (b:=b) (n:=n)
   generalize Ry b=v at*
   obtain⟨n,e⟩:=v
   simp only at hbad⊢
   rw[Aci,Acz]
   by_cases he:e≠0
   ·rw[if_pos he,hbad he,if_pos (by decide)]
   ·obtain⟨k1,k2⟩:=hok n (by rw[show e=0 by simpa using he])
    rw[if_neg he,if_neg (by rw[Az];simp;omega),Ac,Be (by omega) (by omega),Jg (by omega) (by omega),Aa,Acs,Amh,Ag (by omega) (by omega)]
    rw[show((b.length:Int)-n).toNat=b.length-n.toNat by omega]
    have ih:=Bmw j q (a+1) (b.take (b.length-n.toNat)) (by rw[List.length_take];omega) (by omega) (by rw[List.length_take];omega) (by rw[List.length_take];omega)
    rw[←ih];rfl
theorem Br5:∀(j q a:Nat) (b:List UInt8),b.length<j→j≤q→b.length≤4000→a+b.length≤4000→Ji q b (a:Int)=some (Bs6 j b a)
 |0,_,_,_,h,_,_,_=>by omega
 |j+1,q+1,a,b,h,hq,h4,ha=>by
  rw[Ji,Aam,Bs6]
  by_cases hb:b=[]
  ·subst hb;rw[if_neg (by decide),if_pos rfl];rfl
  ·have hpos:0<b.length:=List.length_pos_iff.2 hb
   rw[if_pos (by rw[Aq,Ac];simp;omega),if_neg hb,But b (by omega),Aa]
   have hok:=fun n=>Bmq (b:=b) (n:=n)
   generalize Ry b=v at*
   obtain⟨n,e⟩:=v
   simp only
   by_cases he:e≠0
   ·rw[if_pos he,if_pos (by rw[Aj];simpa using he)]
   ·obtain⟨k1,k2⟩:=hok n (by rw[show e=0 by simpa using he])
    rw[if_neg he,if_neg (by rw[Aj];simpa using he),Ac,Be (by omega) (by omega),Jg (by omega) (by omega),Aa,Ag (by omega) (by omega)]
    rw[show((b.length:Int)-n).toNat=b.length-n.toNat by omega]
    have ih:=Br5 j q (a+1) (b.take (b.length-n.toNat)) (by rw[List.length_take];omega) (by omega) (by rw[List.length_take];omega) (by rw[List.length_take];omega)
    rw[←ih];rfl
def Aoa(b:List UInt8):Int×Int:=if 4000<b.length then(0,38)else Bs6 (b.length+1) b 0
theorem Bk6(b:List UInt8)(hl:b.length<4611686018427387904):Agn b=some (Aoa b):=by
 rw[Agn,Afn,Aoa]
 by_cases h:4000<b.length
 ·rw[if_pos (by rw[Aq,Ac];simp;omega),if_pos h]
 ·rw[if_neg (by rw[Aq,Ac];simp;omega),if_neg h]
  exact Bmw _ Am 0 b (by omega) (by have:=Ak;omega) (by omega) (by omega)
theorem Bpt(b:List UInt8)(hl:b.length<4611686018427387904):Uo b=some (Aoa b):=by
 rw[Uo,Aaj,Aoa]
 by_cases h:4000<b.length
 ·rw[if_pos (by rw[Aq,Ac];simp;omega),if_pos h]
 ·rw[if_neg (by rw[Aq,Ac];simp;omega),if_neg h]
  exact Br5 _ Am 0 b (by omega) (by have:=Ak;omega) (by omega) (by omega)
end Go.Pl
set_option linter.unusedVariables false
set_option linter.unusedSimpArgs false
namespace Go.Pl
open Go Go.Lv
theorem Bu7{a b:Nat}(h:a<9223372036854775808):Bj (a:Int) (b:Int)=((a/b:Nat):Int):=by
 have:a/b≤a:=Nat.div_le_self _ _
 rw[Aft,Int.tdiv_eq_ediv_of_nonneg (by omega),←Int.natCast_ediv]
 generalize a/b=k at*
 exact Bq (by omega) (by omega)
theorem Ay3{bits:Int}(h:Cm bits)(x:Int):(Acu bits x).length=wB bits:=by
 obtain rfl|rfl|rfl:=h<;>rfl
theorem Arj{bits:Int}(h:Cm bits):∀l:List Int32,(bytesB bits l).length=l.length*wB bits
 |[]=>by simp[bytesB]
 |x::l=>by
  have h1:=Arj h l
  have h2:=Ay3 h x.toInt
  simp only[bytesB,List.flatMap_cons,List.length_append,List.length_cons,Nat.succ_mul]at*
  omega
def segF(b:List UInt8)(A:Nat)(l:List Int)(k:Nat):List UInt8:=(b.take ((A:Int)+(l.take (k+1)).sum).toNat).drop ((A:Int)+(l.take k).sum).toNat
structure Gts (b p:List UInt8) (f c w r n A:Nat) (l:List Int) (k m:Nat) (x:List Int32) (s:List UInt8) (e:Int):Prop where
 mom:getI (framesL (longN r) n) (k:Int)=some (m:Int)
 pos:1≤m∧m*c≤4000
 got:cadenzaref40_Got b p (f:Int) (c:Int) (w:Int) (r:Int) (n:Int) (A:Int) l (k:Int)=some (s,e)
 none':e≠0→s=[]∧x=[]
 some':e=0→s=bytesB (w:Int) x∧x.length=m*c∧cadenzaref18_Check (w:Int) x=some 0∧width_Bytes (w:Int) x=some (s,0)∧(A:Int)+(l.take (k+1)).sum≤b.length
 way:((b.length:Int)<(A:Int)+(l.take (k+1)).sum∧e=24)∨((A:Int)+(l.take (k+1)).sum≤b.length∧deframe_Decode (c:Int) (w:Int) (tapsOf p) (m:Int) (segF b A l k)=some (x,e)∧cadenzaref21_Decode (c:Int) (w:Int) (tapsOf p) (m:Int) (segF b A l k)=some (x,e))
theorem Agz{b p:List UInt8}{f c w r n A:Nat}{l:List Int}(o:Opn b p f c w r n A l)(k:Nat)(hk:k<l.length):∃m x s e,Gts b p f c w r n A l k m x s e:=by
 obtain⟨hc,hw,hr,hn,_⟩:=Ot o.shape
 have hfit:n≤4000/c:=by have:=o.fit;simp only[fitB,decide_eq_true_eq]at this;exact this.1
 have hn4:n≤4000:=by have:=Nat.div_le_self 4000 c;omega
 have hA:=o.at'
 have hfile:=o.file
 have hlen:=o.len
 have b1:=Fc o.five k
 have b2:=Fc o.five (k+1)
 have e:=Lw hk
 have h5:=o.five l[k] (List.getElem_mem _)
 have hsum:=o.sum
 have hs1:=o.some1
 have hkf:k<(framesL (longN r) n).length:=by omega
 obtain⟨m,hm,m1,m2⟩:=Bf1 (Al7 r) hn (List.getElem_mem hkf)
 have hmom:getI (framesL (longN r) n) (k:Int)=some (m:Int):=by rw[Cf hkf,hm]
 have hpos:1≤m∧m*c≤4000:=by
  refine⟨m1,?_⟩
  have:=Nat.mul_le_mul_right c (Nat.le_trans m2 hfit)
  have:=Nat.div_mul_le_self 4000 c
  omega
 have hR:cadenzaref40_Got b p (f:Int) (c:Int) (w:Int) (r:Int) (n:Int) (A:Int) l (k:Int)=cadenzaref40_Got b p (f:Int) (c:Int) (w:Int) (r:Int) (n:Int) (A:Int) l (k:Int):=rfl
 conv at hR=>rhs;rw[cadenzaref40_Got,Ut,Bgp hs1.2 o.five o.sum _ _ _ _ _ (A:Int) (by omega) (by omega) k (by omega),Aa,Cf hk,Aa,Be (by rw[Ac];omega) (by rw[Ac];omega)]
 by_cases hto:(b.length:Int)<(A:Int)+(l.take (k+1)).sum
 ·rw[if_pos (by rw[Af,Ac,decide_eq_true_eq];omega)]at hR
  exact⟨m,[],[],24,hmom,hpos,hR,fun _=>⟨rfl,rfl⟩,fun h=>by simp at h, .inl ⟨hto,rfl⟩⟩
 ·rw[if_neg (by rw[Af,Ac,decide_eq_true_eq];omega),Bdg p o.pass,Ark hr.2 hn hn4]at hR
  simp only[Aa]at hR
  rw[Ag (a:=(A:Int)+(l.take k).sum) (b:=l[k]) (by omega) (by omega),Int.add_assoc,←e,hmom]at hR
  simp only[Aa]at hR
  rw[Py (by omega) (by omega) (by omega),Aa]at hR
  obtain⟨x,er,g1,g2,g3,g4⟩:=Az1 (ch:=c) (n:=m) (t:=tapsOf p) (segF b A l k) hw (Bct p) hc.1 hc.2 m1 (by omega)
  rw[show(b.take ((A:Int)+(l.take (k+1)).sum).toNat).drop ((A:Int)+(l.take k).sum).toNat=segF b A l k from rfl,g2,Aa]at hR
  simp only at hR
  rw[Un,Ui]at hR
  by_cases her:er=0
  ·obtain⟨g5,g6,g7⟩:=g3 her
   rw[if_neg (by rw[Aj];simpa using her),Bg1 hw g6 g5,Aa]at hR
   subst her
   exact⟨m,x,_,0,hmom,hpos,hR,fun h=>absurd rfl h,fun _=>⟨rfl,g7,g5,Bdo hw g6 g5,by omega⟩, .inr ⟨by omega,g1,g2⟩⟩
  ·rw[if_pos (by rw[Aj];simpa using her)]at hR
   exact⟨m,x,_,er,hmom,hpos,hR,fun h=>⟨rfl,g4 h⟩,fun h=>absurd h her, .inr ⟨by omega,g1,g2⟩⟩
theorem Gts.lens{b p:List UInt8}{f c w r n A:Nat}{l:List Int}{k m:Nat}{x:List Int32}{s:List UInt8}{e:Int}(hw:Cm (w:Int))(g:Gts b p f c w r n A l k m x s e):s.length≤12000∧x.length≤4000∧(e=0→s.length=m*c*wB (w:Int)):=by
 by_cases he:e=0
 ·obtain⟨h1,h2,_⟩:=g.some' he
  have h3:=Aob (w:Int) x
  have h4:=Arj hw x
  have h5:=g.pos
  rw[←h1]at h3 h4
  refine⟨by omega,by omega,fun _=>by rw[h4,h2]⟩
 ·obtain⟨h1,h2⟩:=g.none' he
  exact⟨by simp[h1],by simp[h2],fun h=>absurd h he⟩
def Oq(b p:List UInt8)(f c w r n A:Nat)(l:List Int)(k:Nat):List UInt8×Int:=(cadenzaref40_Got b p (f:Int) (c:Int) (w:Int) (r:Int) (n:Int) (A:Int) l (k:Int)).getD ([],0)
theorem Gts.eq{b p:List UInt8}{f c w r n A:Nat}{l:List Int}{k m:Nat}{x:List Int32}{s:List UInt8}{e:Int}(g:Gts b p f c w r n A l k m x s e):Oq b p f c w r n A l k=(s,e):=by rw[Oq,g.got];rfl
def Bda(b:List UInt8)(A:Nat)(l:List Int):Int:=(Aoa (b.drop ((A:Int)+l.sum).toNat)).2
end Go.Pl
