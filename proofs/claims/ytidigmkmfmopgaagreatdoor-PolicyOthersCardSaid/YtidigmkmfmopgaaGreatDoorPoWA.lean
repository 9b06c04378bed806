/- A part of the proof of a statement of this seat (see the text that ends in Proof): LwBase, LwBitB, LwLe, LwBits, LwRef02, LwCut, LwUn, LwRice, LwDual, LwVal, LwI32, LwFil, LwUnm, LwSam, LwCrc, LwFrm, LwEc1, LwEc2, LwC64, LwWby, LwId, LwApe, LwStrip, LwLen, LwHead, LwSeek, LwOpen, LwFrame. No conditions of its own. -/
import Derived.Test.YtidigmkmfmopgaaGreatDoorPoBA
import Derived.Test.YtidigmkmfmopgaaGreatDoorPoPA
set_option linter.unusedVariables false
set_option linter.unusedSimpArgs false
namespace Go.Lv
theorem Ag{a b:Int}(h: -9223372036854775808≤a+b)(h':a+b≤9223372036854775807):Ad a b=a+b:=by rw[Chc,Cc h h']
theorem Bc{a b:Int}(h: -9223372036854775808≤a-b)(h':a-b≤9223372036854775807):Ah a b=a-b:=by rw[Chu,Cc h h']
theorem Fq{a b:Int}(h: -9223372036854775808≤a*b)(h':a*b≤9223372036854775807):Ar a b=a*b:=by rw[Cb8,Cc h h']
theorem Afk(c:UInt8):(Ae c:Int)=(c.toNat:Int):=by rw[Cby,Cc]<;>have:=c.toNat_lt<;>omega
theorem Bik(c:UInt32):(Ae c:Int)=(c.toNat:Int):=by rw[Bw5,Cc]<;>have:=c.toNat_lt<;>omega
theorem Aze(c:UInt8):(Ae c:UInt64)=UInt64.ofNat c.toNat:=by simp only[Ae,Zk,Hb]
theorem Cr(c:UInt32):(Ae c:UInt64)=UInt64.ofNat c.toNat:=by simp only[Ae,Wo,Hb]
theorem Aj3(c:UInt64):(Ae c:UInt8)=UInt8.ofNat c.toNat:=by simp only[Ae,Ii,Mu]
theorem Ay4(c:UInt32):(Ae c:UInt8)=UInt8.ofNat c.toNat:=by simp only[Ae,Wo,Mu]
theorem Td(n:Nat):(Ae (n:Int):UInt64)=UInt64.ofNat n:=by simp only[Ae];exact Hb n
theorem Bjr(n:Nat):(Ae (n:Int):UInt32)=UInt32.ofNat n:=by simp only[Ae];exact Eo n
theorem Car(n:Nat):(Ae (n:Int):UInt8)=UInt8.ofNat n:=by simp only[Ae];exact Mu n
theorem Bc7{c:UInt64}(h:c.toNat<9223372036854775808):(Ae c:Int)=(c.toNat:Int):=by rw[Bxc,Cc]<;>omega
theorem Bvh:LIM=17179869184:=by decide
theorem Ak:36893488147419103231<Al:=by decide
theorem Bu{α:Type}{l:List α}{n:Nat}(h:n<l.length):getI l (n:Int)=some l[n]:=by simp[getI,h]
theorem Oz{α:Type}{l:List α}{n:Nat}(x:α)(h:n<l.length):Ji l (n:Int) x=some (l.set n x):=by simp[Ji,h]
theorem Ww{α:Type}{l:List α}{a b:Int}(h:0≤a)(h1:a≤b)(h2:b≤l.length):Bv l a b=some ((l.take b.toNat).drop a.toNat):=by rw[Bv,if_pos ⟨h,h1,h2⟩]
theorem Qe{α:Type}{l:List α}{a:Int}(h:0≤a)(h1:a≤l.length):Bv l a (Ac l)=some (l.drop a.toNat):=by
 unfold Ac;rw[Ww h h1 (Int.le_refl _),Int.toNat_natCast,List.take_length]
theorem Kt{α:Type}{l:List α}{b:Int}(h:0≤b)(h1:b≤l.length):Bv l 0 b=some (l.take b.toNat):=by rw[Ww (Int.le_refl _) h h1];rfl
theorem Bt{α:Type}{l m:List α}(h:l.length+m.length≤17179869184):Cg l m=some (l++m):=by rw[Cg,Bvh,if_pos h]
theorem Ayj{α:Type}{n:Int}{z:α}(h:0≤n)(h':n≤17179869184):mkI n z=some (List.replicate n.toNat z):=by rw[mkI,Bvh,if_pos ⟨h,h'⟩]
theorem Ay{b:Bool}(h:b=true):Hm b=some ():=by rw[h];rfl
theorem Aa{α β:Type}(a:α)(f:α→Option β):Option.bind (some a) f=f a:=rfl
theorem drop_cons{α:Type}{l:List α}{n:Nat}(h:n<l.length):l.drop n=l[n]::l.drop (n+1):=List.drop_eq_getElem_cons h
theorem Kn{α:Type}{l:List α}{n:Nat}(h:n<l.length):l.take (n+1)=l.take n++[l[n]]:=by rw[List.take_add_one,List.getElem?_eq_getElem h];rfl
def Ef:List UInt8→Nat
 |[]=>0
 |x::r=>x.toNat+256*Ef r
theorem Bl1:∀l:List UInt8,Ef l<256^l.length
 |[]=>by simp[Ef]
 |x::r=>by
  have h:=Bl1 r
  have:=x.toNat_lt
  simp only[Ef,List.length_cons,Nat.pow_succ]
  omega
theorem Bhg:∀l m:List UInt8,Ef (l++m)=Ef l+256^l.length*Ef m
 |[],m=>by simp[Ef]
 |x::r,m=>by
  simp only[Ef,List.cons_append,Bhg r m,List.length_cons,Nat.pow_succ,Nat.mul_add]
  rw[Nat.mul_comm (256^r.length) 256,Nat.mul_assoc];omega
def leU(l:List UInt8):UInt64:=UInt64.ofNat (Ef l)
theorem Ce4{l:List UInt8}(h:l.length≤8):Ef l<18446744073709551616:=by
 have h1:=Bl1 l
 have h2:256^l.length≤256^8:=Nat.pow_le_pow_right (by omega) h
 exact Nat.lt_of_lt_of_le h1 (by simpa using h2)
theorem Btz{l:List UInt8}(h:l.length≤4):Ef l<4294967296:=by
 have h1:=Bl1 l
 have h2:256^l.length≤256^4:=Nat.pow_le_pow_right (by omega) h
 exact Nat.lt_of_lt_of_le h1 (by simpa using h2)
theorem Anr{l:List UInt8}(h:l.length≤8):(leU l).toNat=Ef l:=by
 rw[leU,UInt64.toNat_ofNat',Nat.mod_eq_of_lt (Ce4 h)]
theorem Afz{l:List UInt8}(h:l.length≤4):(Ae (leU l):Int)=(Ef l:Int):=by
 have:=Btz h
 rw[Bc7]<;>rw[Anr (by omega)];omega
def Qv(n:Nat):Nat→List UInt8
 |0=>[]
 |w+1=>UInt8.ofNat n::Qv (n/256) w
theorem Bq:∀(w n:Nat),(Qv n w).length=w
 |0,_=>rfl
 |w+1,n=>by simp[Qv,Bq w]
theorem Bn2:∀(w n:Nat),Qv n (w+1)=Qv n w++[UInt8.ofNat (n/256^w)]
 |0,n=>by simp[Qv]
 |w+1,n=>by
  rw[Qv,Bn2 w (n/256),Qv]
  simp[Nat.div_div_eq_div_mul,Nat.pow_succ,Nat.mul_comm]
end Go.Lv
set_option linter.unusedVariables false
set_option linter.unusedSimpArgs false
namespace Go.Lv
def Fv(p:List UInt8)(i:Nat):Nat:=(p.getD (i/8) 0).toNat/2^(i %8) %2
theorem Yj(p:List UInt8)(i:Nat):Fv p i<2:=Nat.mod_lt _ (by omega)
def Bk(p:List UInt8):Nat→Nat→Nat
 |_,0=>0
 |a,n+1=>Fv p a+2*Bk p (a+1) n
theorem Nh(p:List UInt8):∀(n a:Nat),Bk p a n<2^n
 |0,_=>by simp[Bk]
 |n+1,a=>by
  have:=Nh p n (a+1)
  have:=Yj p a
  rw[Bk,Nat.pow_succ];omega
theorem Ahj(p:List UInt8):∀(m n a:Nat),Bk p a (m+n)=Bk p a m+2^m*Bk p (a+m) n
 |0,n,a=>by simp[Bk]
 |m+1,n,a=>by
  rw[show m+1+n=(m+n)+1 by omega,Bk,Bk,Ahj p m n (a+1),show a+1+m=a+(m+1) by omega,Nat.pow_succ,Nat.mul_add,Nat.mul_comm (2^m) 2,Nat.mul_assoc];omega
theorem Baq(p:List UInt8)(a:Nat):Bk p a 1=Fv p a:=by simp[Bk]
theorem Aw2(p:List UInt8)(a n:Nat):Bk p a (n+1)=Bk p a n+2^n*Fv p (a+n):=by rw[Ahj p n 1 a,Baq]
theorem Aqc(p:List UInt8)(a:Nat):∀t:Nat,a %8+t≤8→Bk p a t=(p.getD (a/8) 0).toNat/2^(a %8) %2^t
 |0,_=>by simp[Bk,Nat.mod_one]
 |t+1,h=>by
  have h1:(a+t)/8=a/8:=by omega
  have h2:(a+t) %8=a %8+t:=by omega
  rw[Aw2,Aqc p a t (by omega),Fv,h1,h2,Nat.mod_pow_succ,Nat.pow_add,Nat.div_div_eq_div_mul]
theorem Bco{p:List UInt8}:∀(n a:Nat),(∀k,k<n→Fv p (a+k)=0)→Bk p a n=0
 |0,_,_=>rfl
 |n+1,a,h=>by
  have h0:=h 0 (by omega)
  rw[Bk,Bco n (a+1) fun k hk=>by have:=h (k+1) (by omega);rwa [show a+1+k=a+(k+1) by omega]]
  rw[Nat.add_zero]at h0;omega
def okB(p:List UInt8)(n:Nat):Prop:=n≤330000∧p.length=(n+7)/8∧∀k,n≤k→k<8*p.length→Fv p k=0
def Oi(p:List UInt8)(a n:Nat):List UInt8:=(List.range ((n+7)/8)).map fun j=>UInt8.ofNat (Bk p (a+8*j) (min 8 (n-8*j)))
theorem Hp(p:List UInt8)(a n:Nat):(Oi p a n).length=(n+7)/8:=by simp[Oi]
theorem Bo3(p:List UInt8):∀(n a k:Nat),k<n→Bk p a n/2^k %2=Fv p (a+k)
 |n+1,a,0,_=>by have:=Yj p a;rw[Bk];simp;omega
 |n+1,a,k+1,h=>by
  have hb:=Yj p a
  have e:(Fv p a+2*Bk p (a+1) n)/2=Bk p (a+1) n:=by omega
  rw[Bk,Nat.pow_succ,Nat.mul_comm (2^k) 2,←Nat.div_div_eq_div_mul,e,Bo3 p n (a+1) k (by omega),show a+1+k=a+(k+1) by omega]
theorem Bxz(p:List UInt8)(n a k:Nat)(h:n≤k):Bk p a n/2^k %2=0:=by
 have:=Nh p n a
 rw[Nat.div_eq_of_lt (Nat.lt_of_lt_of_le this (Nat.pow_le_pow_right (by omega) h))]
theorem Bbi(p:List UInt8)(a n k:Nat):Fv (Oi p a n) k=if k<n then Fv p (a+k)else 0:=by
 rw[Fv]
 by_cases hj:k/8<(n+7)/8
 ·have e:(Oi p a n).getD (k/8) 0=UInt8.ofNat (Bk p (a+8*(k/8)) (min 8 (n-8*(k/8)))):=by
   rw[List.getD_eq_getElem?_getD,List.getElem?_eq_getElem (by rw[Hp];exact hj)];simp[Oi]
  have hlt:Bk p (a+8*(k/8)) (min 8 (n-8*(k/8)))<256:=by
   have:=Nh p (min 8 (n-8*(k/8))) (a+8*(k/8))
   have h2:2^(min 8 (n-8*(k/8)))≤2^8:=Nat.pow_le_pow_right (by omega) (by omega)
   omega
  have hu:(UInt8.ofNat (Bk p (a+8*(k/8)) (min 8 (n-8*(k/8))))).toNat=Bk p (a+8*(k/8)) (min 8 (n-8*(k/8))):=by
   rw[UInt8.toNat_ofNat'];exact Nat.mod_eq_of_lt hlt
  rw[e,hu]
  by_cases hk:k<n
  ·rw[if_pos hk,Bo3 p _ _ _ (by omega),show a+8*(k/8)+k %8=a+k by omega]
  ·rw[if_neg hk,Bxz p _ _ _ (by omega)]
 ·have e:(Oi p a n).getD (k/8) 0=0:=by
   rw[List.getD_eq_getElem?_getD,List.getElem?_eq_none (by rw[Hp];omega)];rfl
  rw[e,if_neg (by omega)];simp
theorem Bbm(p:List UInt8)(a n:Nat)(h:n≤330000):okB (Oi p a n) n:=⟨h,Hp p a n,fun k hk _=>by rw[Bbi,if_neg (by omega)]⟩
theorem Bpa{p q:List UInt8}(hl:p.length=q.length)(h:∀k,k<8*p.length→Fv p k=Fv q k):p=q:=by
 apply List.ext_getElem hl
 intro i h1 h2
 have hp:Bk p (8*i) 8=Bk q (8*i) 8:=by
  have key:∀(n a:Nat),a+n≤8*p.length→Bk p a n=Bk q a n:=by
   intro n
   induction n with
   |zero=>intros;rfl
   |succ n ih=>intro a ha;rw[Bk,Bk,h a (by omega),ih (a+1) (by omega)]
  exact key 8 (8*i) (by omega)
 rw[Aqc p _ 8 (by omega),Aqc q _ 8 (by omega)]at hp
 have e1:8*i/8=i:=by omega
 have e2:8*i %8=0:=by omega
 rw[e1,e2]at hp
 have a1:p.getD i 0=p[i]:=by simp[List.getD_eq_getElem?_getD,h1]
 have a2:q.getD i 0=q[i]:=by simp[List.getD_eq_getElem?_getD,h2]
 rw[a1,a2]at hp
 apply UInt8.toNat_inj.1
 have:=p[i].toNat_lt
 have:=q[i].toNat_lt
 simp at hp;omega
end Go.Lv
set_option linter.unusedVariables false
set_option linter.unusedSimpArgs false
namespace Go.Pl
open Go Go.Lv
theorem Bzs(b:List UInt8)(hb:b.length<4611686018427387904):∀(j q:Nat),j≤b.length→j<q→Ms b q (leU (b.drop j)) ((j:Int)-1)=some (leU b)
 |0,q+1,_,_=>by
  rw[Ms,Zg,if_neg (by rw[Cl];simp)]
  simp[Alc,Akx]
 |j+1,q+1,hj,hq=>by
  rw[Ms,Zg,if_pos (by rw[Cl];simp),show((j+1:Nat):Int)-1=(j:Int) by omega,Bu (by omega),Aa,Bc (by omega) (by omega)]
  have h:Ad (Ar (256:UInt64) (leU (b.drop (j+1)))) (Ae b[j]:UInt64)=leU (b.drop j):=by
   rw[Ag2,Ahk,Aze,drop_cons (n:=j) (by omega),leU,leU,Ef,UInt64.ofNat_add,UInt64.ofNat_mul]
   exact UInt64.add_comm _ _
  rw[h]
  exact Bzs b hb j q (by omega) (by omega)
theorem Bp5(b:List UInt8)(hb:b.length<4611686018427387904):Dc b=some (leU b):=by
 have h:=Bzs b hb b.length Al (Nat.le_refl _) (by have:=Ak;omega)
 rw[Dc,Alm,Aj7]
 have e:Ah (Ac b) 1=(b.length:Int)-1:=Bc (by unfold Ac;omega) (by unfold Ac;omega)
 rw[e,←h,List.drop_length];rfl
theorem Ccf{n c:UInt64}{i:Nat}(hn:n.toNat<2^i)(hc:c.toNat*2^i<18446744073709551616):gor n (Cm c i)=UInt64.ofNat (n.toNat+c.toNat*2^i):=by
 rw[Cf3];apply UInt64.toNat_inj.1
 rw[UInt64.toNat_or,Ak5,Nat.mod_eq_of_lt hc,Nat.mul_comm,Nat.or_comm,←Nat.two_pow_add_eq_or_of_lt hn,UInt64.toNat_ofNat',Nat.mod_eq_of_lt,Nat.add_comm,Nat.mul_comm]
 have h:=Nat.two_pow_add_eq_or_of_lt hn c.toNat
 have h2:2^i*c.toNat+n.toNat<2^64:=by
  rw[h]
  exact Nat.or_lt_two_pow (by rw[Nat.mul_comm];simpa using hc) n.toNat_lt
 rw[Nat.add_comm];first|exact h2|(rw[Nat.mul_comm];exact h2)
theorem Bka(b:List UInt8)(hb:b.length≤8):∀(j i q:Nat),i+j=b.length→j<q→Aaz b q (leU (b.take i)) (i:Int)=some (leU b,0)
 |0,i,q+1,hi,_=>by
  rw[Aaz,Ams,if_neg (by rw[Af,Ac];simp;omega),show i=b.length by omega,List.take_length];rfl
 |j+1,i,q+1,hi,hq=>by
  have hlt:i<b.length:=by omega
  rw[Aaz,Ams,if_pos (by rw[Af,Ac];simp;omega),Bu hlt,Aa,Fq (by omega) (by omega),Ay (by rw[Cl];simp;omega),Aa,Ag (by omega) (by omega)]
  have h:gor (leU (b.take i)) (Cm (Ae b[i]:UInt64) (GI.toZ ((8:Int)*(i:Int))).toNat)=leU (b.take (i+1)):=by
   have e:(GI.toZ ((8:Int)*(i:Int))).toNat=8*i:=by show((8:Int)*(i:Int)).toNat=_;omega
   have e2:(2:Nat)^(8*i)=256^i:=by rw[Nat.pow_mul]
   have h1:=Bl1 (b.take i)
   rw[List.length_take,Nat.min_eq_left (by omega)]at h1
   have h3:=b[i].toNat_lt
   have hle:(256:Nat)^(i+1)≤256^8:=Nat.pow_le_pow_right (by omega) (by omega)
   rw[Nat.pow_succ]at hle
   have h4:(Ae b[i]:UInt64).toNat=b[i].toNat:=by rw[Aze,UInt64.toNat_ofNat'];omega
   have h5:b[i].toNat*256^i<18446744073709551616:=by
    have:b[i].toNat*256^i<256*256^i:=Nat.mul_lt_mul_of_pos_right (by simpa using h3) (Nat.pow_pos (by omega))
    simp at hle;omega
   rw[e,Ccf (by rw[Anr (by simp;omega),e2];exact h1) (by rw[h4,e2];exact h5),Anr (by simp;omega),h4,e2,Kn hlt]
   rw[leU,Bhg]
   simp only[Ef,List.length_take,Nat.min_eq_left (Nat.le_of_lt hlt),Nat.mul_zero,Nat.add_zero]
   rw[Nat.mul_comm]
  rw[h]
  exact Bka b hb j (i+1) q (by omega) (by omega)
theorem Bov(b:List UInt8)(h1:1≤b.length)(h2:b.length≤8):Auv b=some (leU b,0):=by
 have h:=Bka b h2 b.length 0 Al (by omega) (by have:=Ak;omega)
 rw[Auv,Awt,if_neg (by simp[Af,Am,Ac];omega),Aut]
 exact h
def part(b:List UInt8)(at' w:Nat):List UInt8:=(b.take (at'+w)).drop at'
theorem Dm{b:List UInt8}{a w:Nat}(h:a+w≤b.length):(part b a w).length=w:=by simp[part];omega
theorem Bkl(b:List UInt8)(a w:Nat)(h1:1≤w)(h2:w≤8)(h3:a+w≤b.length)(hb:b.length<4611686018427387904):Ap3 b (a:Int) (w:Int)=some (leU (part b a w),0):=by
 rw[Ap3,if_neg (by simp[Af,Am];omega),if_neg (by rw[Am,Bc (by unfold Ac;omega) (by unfold Ac;omega),Ac];simp;omega),Ag (by omega) (by omega),Ww (by omega) (by omega) (by omega),Aa]
 rw[show((a:Int)+(w:Int)).toNat=a+w by omega,show(a:Int).toNat=a by omega]
 rw[Bov _ (by rw[show((b.take (a+w)).drop a).length=_ from Dm h3];exact h1) (by rw[show((b.take (a+w)).drop a).length=_ from Dm h3];exact h2),Aa];rfl
theorem Bdi(w:Nat)(hw:w≤1000):∀(j i q:Nat) (n:UInt64) (acc:List UInt8),i+j=w→j<q→acc.length+j≤1000000→Hi (w:Int) q n (i:Int) acc=some (acc++Qv n.toNat j)
 |0,i,q+1,n,acc,hi,_,_=>by
  rw[Hi,Qb,if_neg (by rw[Af];simp;omega)]
  simp[Aan,Aay,Qv]
 |j+1,i,q+1,n,acc,hi,hq,ha=>by
  rw[Hi,Qb,if_pos (by rw[Af];simp;omega)]
  have e:(Ae (Aa5 n (256:UInt64)):UInt8)=UInt8.ofNat n.toNat:=by
   rw[Aj3,Bp9];apply UInt8.toNat_inj.1
   rw[UInt8.toNat_ofNat',UInt8.toNat_ofNat',UInt64.toNat_mod]
   show n.toNat %256 %256=_
   omega
  have e2:(Bg n (256:UInt64)).toNat=n.toNat/256:=by rw[Ba4,UInt64.toNat_div];rfl
  rw[Bt (by simp;omega),Aa,Ag (by omega) (by omega),e]
  have h:=Bdi w hw j (i+1) q (Bg n 256) (acc++[UInt8.ofNat n.toNat]) (by omega) (by omega) (by simp;omega)
  rw[e2]at h
  rw[show((i:Int)+1)=((i+1:Nat):Int) by omega,h,Qv];simp
theorem Bf2(n:UInt64)(w:Nat)(hw:w≤1000):Dw n (w:Int)=some (Qv n.toNat w):=by
 rw[Dw,Aao,Zz]
 have h:=Bdi w hw w 0 Al n [] (by omega) (by have:=Ak;omega) (by simp;omega)
 simpa using h
theorem Am1{α:Type}{l m:List α}{x y:α}{i:Nat}(h:l.length=i):(l++x::m).set i y=l++y::m:=by subst h;simp
theorem Bld(n:UInt64)(l4:List UInt8)(w:Nat)(hl:l4.length=w)(hw:w≤8):∀(j i q:Nat),i+j=w→j<q→Zy n l4 q (i:Int) (Qv n.toNat i++List.replicate j 0)=some (Qv n.toNat w,0)
 |0,i,q+1,hi,_=>by
  rw[Zy,An5,if_neg (by rw[Af,Ac];simp;omega)]
  obtain rfl:i=w:=by omega
  simp[Av1,Bec]
 |j+1,i,q+1,hi,hq=>by
  have hlen:(Qv n.toNat i++List.replicate (j+1) 0).length=i+(j+1):=by simp[Bq]
  rw[Zy,An5,if_pos (by rw[Af,Ac];simp;omega),Fq (by omega) (by omega),Ay (by rw[Cl];simp;omega),Aa,Bu (by rw[hlen];omega),Aa,Oz _ (by rw[hlen];omega),Aa,Ag (by omega) (by omega)]
  have e:(Ae (Bo n (GI.toZ ((8:Int)*(i:Int))).toNat):UInt8)=UInt8.ofNat (n.toNat/256^i):=by
   have e:(GI.toZ ((8:Int)*(i:Int))).toNat=8*i:=by show((8:Int)*(i:Int)).toNat=_;omega
   rw[e,Aj3,Abj,Nat.pow_mul]
  rw[e,List.replicate_succ,Am1 (Bq _ _)]
  have h:=Bld n l4 w hl hw j (i+1) q (by omega) (by omega)
  rw[Bn2]at h
  simpa using h
theorem Cdv(n:UInt64)(w:Nat)(h1:1≤w)(h2:w≤8)(h:n.toNat<256^w):Bez n (w:Int)=some true:=by
 rw[Bez]
 by_cases h8:w=8
 ·subst h8;rw[if_pos (by rw[Bb];rfl)]
 ·rw[if_neg (by rw[Bb];simp;omega),Fq (by omega) (by omega),Ay (by rw[Cl];simp;omega),Aa]
  have e:(GI.toZ ((8:Int)*(w:Int))).toNat=8*w:=by show((8:Int)*(w:Int)).toNat=_;omega
  rw[e,Be0]
  have:Bo n (8*w)=0:=by
   apply UInt64.toNat_inj.1
   rw[Abj,Nat.pow_mul]
   exact Nat.div_eq_of_lt h
  rw[this];rfl
theorem Alh(n:UInt64)(w:Nat)(h1:1≤w)(h2:w≤8)(h:n.toNat<256^w):Yh n (w:Int)=some (Qv n.toNat w,0):=by
 rw[Yh,Avh,if_neg (by simp[Af,Am];omega),Cdv n w h1 h2 h,Aa,if_neg (by simp),Ayj (by omega) (by omega),Aa,Ay (by rw[Bb];simp),Aa,Auq]
 have h:=Bld n (List.replicate (w:Int).toNat 0) w (by simp) h2 w 0 Al (by omega) (by have:=Ak;omega)
 simpa [Qv]using h
end Go.Pl
set_option linter.unusedVariables false
set_option linter.unusedSimpArgs false
namespace Go.Pl
open Go Go.Lv
theorem Bel(n:Nat)(h:n<4611686018427387904):Dq (n:Int) (7:Int)=((n %8:Nat):Int):=by
 have e:Dq (n:Int) (7:Int)=wrap64 ((BitVec.ofInt 64 (n:Int)&&&BitVec.ofInt 64 7).toNat:Int):=rfl
 rw[e,BitVec.toNat_and,BitVec.toNat_ofInt,BitVec.toNat_ofInt]
 have h1:((n:Int) %((2^64:Nat):Int)).toNat=n:=by omega
 have h2:((7:Int) %((2^64:Nat):Int)).toNat=2^3-1:=by decide
 rw[h1,h2,Nat.and_two_pow_sub_one_eq_mod,Cc (by omega) (by omega)]
theorem Cjn(n:Nat):Bl9 (n:Int) (GI.toZ (3:UInt64)).toNat=((n/8:Nat):Int):=by
 have e:Bl9 (n:Int) (GI.toZ (3:UInt64)).toNat=(n:Int).fdiv 8:=rfl
 rw[e,Int.fdiv_eq_ediv_of_nonneg _ (by omega)];omega
theorem Cjh{t:Nat}(h:t≤8):Ah (Cm (1:UInt8) t) (1:UInt8)=UInt8.ofNat (2^t-1):=by
 have:t=0∨t=1∨t=2∨t=3∨t=4∨t=5∨t=6∨t=7∨t=8:=by omega
 rcases this with rfl|rfl|rfl|rfl|rfl|rfl|rfl|rfl|rfl<;>decide
theorem bitsOf(c:UInt8)(off t:Nat)(h:t≤8):(Dq (Bo c off) (Ah (Cm (1:UInt8) t) (1:UInt8))).toNat=c.toNat/2^off %2^t:=by
 have hp:2^t≤2^8:=Nat.pow_le_pow_right (by omega) h
 rw[Cjh h,Bwd,UInt8.toNat_and,Bm0,UInt8.toNat_ofNat',Nat.mod_eq_of_lt (by have:=Nat.pow_pos (n:=t) (show 0<2 by omega);omega),Nat.and_two_pow_sub_one_eq_mod]
theorem Bfj{p:List UInt8}{k:Nat}(h:k<p.length):getI p (k:Int)=some (p.getD k 0):=by
 rw[Bu h];simp[List.getD_eq_getElem?_getD,h]
def Ni(p:List UInt8)(a n:Nat):UInt64:=UInt64.ofNat (Bk p a n)
theorem Ux(p:List UInt8)(a n:Nat)(h:n≤64):(Ni p a n).toNat=Bk p a n:=by
 have h1:=Nh p n a
 have h2:2^n≤2^64:=Nat.pow_le_pow_right (by omega) h
 rw[Ni,UInt64.toNat_ofNat',Nat.mod_eq_of_lt (by omega)]
theorem Bn3(p:List UInt8)(N:Int)(a n:Nat)(hn:n≤64)(ha:a+n≤8*p.length)(hp:p.length≤1000000):∀(j h q:Nat),h+j=n→j<q→Agg (a:Int) (n:Int) p N q (Ni p a h) (h:Int)=some (Ni p a n)
 |j,h,q+1,hj,hq=>by
  rw[Agg,Avl]
  by_cases hlt:h<n
  ·have e1:Ad (a:Int) (h:Int)=((a+h:Nat):Int):=by rw[Ag (by omega) (by omega)];omega
   have e2:Dx (Ah (n:Int) (h:Int)) (Ah (8:Int) (((a+h) %8:Nat):Int))=((min (n-h) (8-(a+h) %8):Nat):Int):=by
    rw[Afb,Bc (by omega) (by omega),Bc (by omega) (by omega)];omega
   have hm:(a+h)/8<p.length:=by omega
   rw[if_pos (by rw[Af];simp;omega),e1,Cjn,Bfj hm,Aa,Bel _ (by omega),Ay (by rw[Cl];simp;omega),Aa,e2,Ay (by rw[Cl];simp),Aa,Ay (by rw[Cl];simp),Aa]
   generalize hT:min (n-h) (8-(a+h) %8)=T
   have hT8:T≤8:=by omega
   have hT1:1≤T:=by omega
   have hb:(a+h) %8+T≤8:=by omega
   have hv:=Aqc p (a+h) T hb
   have z1:(GI.toZ (((a+h) %8:Nat):Int)).toNat=(a+h) %8:=rfl
   have z2:(GI.toZ ((T:Nat):Int)).toNat=T:=rfl
   have z3:(GI.toZ ((h:Nat):Int)).toNat=h:=rfl
   rw[z1,z2,z3]
   have hx:(Ae (Dq (Bo (p.getD ((a+h)/8) 0) ((a+h) %8)) (Ah (Cm (1:UInt8) T) (1:UInt8))):UInt64).toNat=Bk p (a+h) T:=by
    rw[Aze,UInt64.toNat_ofNat',bitsOf _ _ _ hT8,←hv]
    have:=Nh p T (a+h)
    have h2:2^T≤2^8:=Nat.pow_le_pow_right (by omega) hT8
    omega
   have hlt2:=Nh p (h+T) a
   rw[Ahj]at hlt2
   have h64:2^(h+T)≤2^64:=Nat.pow_le_pow_right (by omega) (by omega)
   have hor:gor (Ni p a h) (Cm (Ae (Dq (Bo (p.getD ((a+h)/8) 0) ((a+h) %8)) (Ah (Cm (1:UInt8) T) (1:UInt8))):UInt64) h)=Ni p a (h+T):=by
    rw[Ccf (by rw[Ux p a h (by omega)];exact Nh p h a) (by rw[hx,Nat.mul_comm];omega),hx,Ux p a h (by omega),Ni,Ahj,Nat.mul_comm (2^h)]
   rw[hor,Ag (by omega) (by omega),show(h:Int)+((T:Nat):Int)=((h+T:Nat):Int) by omega]
   exact Bn3 p N a n hn ha hp (j-T) (h+T) q (by omega) (by omega)
  ·rw[if_neg (by rw[Af];simp;omega),show h=n by omega];rfl
theorem get_eq(p:List UInt8)(N:Int)(a n:Nat)(hn:n≤64)(ha:a+n≤8*p.length)(hp:p.length≤1000000):Bba p N (a:Int) (n:Int)=some (Ni p a n):=by
 have:=Bn3 p N a n hn ha hp n 0 Al (by omega) (by have:=Ak;omega)
 exact this
theorem Wm{p:List UInt8}{n:Nat}(h:okB p n):Hw p (n:Int)=some 0:=by
 obtain⟨h1,h2,h3⟩:=h
 have e7:Ad (n:Int) 7=((n+7:Nat):Int):=by rw[Ag (by omega) (by omega)];omega
 rw[Hw,e7,Cjn,if_neg (by simp[Af,Am,Aj,Ac,h2];omega),Bel _ (by omega)]
 by_cases hz:n %8=0
 ·rw[if_neg (by rw[Am];simp;omega)]
 ·have el:Ah (Ac p) 1=((p.length-1:Nat):Int):=by rw[Ac,Bc (by omega) (by omega)];omega
  rw[if_pos (by rw[Am];simp;omega),el,Bfj (by omega),Aa,Ay (by rw[Cl];simp;omega),Aa]
  have z:(GI.toZ ((n %8:Nat):Int)).toNat=n %8:=rfl
  have hs:Bo (p.getD (p.length-1) 0) (n %8)=0:=by
   apply UInt8.toNat_inj.1
   rw[Bm0]
   have hv:=Aqc p n (8-n %8) (by omega)
   have h0:Bk p n (8-n %8)=0:=Bco _ _ fun k hk=>h3 _ (by omega) (by omega)
   rw[h0,show n/8=p.length-1 by omega]at hv
   have hlt:(p.getD (p.length-1) 0).toNat/2^(n %8)<2^(8-n %8):=by
    have:=(p.getD (p.length-1) 0).toNat_lt
    rw[Nat.div_lt_iff_lt_mul (Nat.pow_pos (by omega)),←Nat.pow_add,show 8-n %8+n %8=8 by omega];simpa using this
   rw[Nat.mod_eq_of_lt hlt]at hv
   exact hv.symm
  rw[z,hs,if_neg (by rw[Bsx];simp)]
theorem Bck{p:List UInt8}{N:Nat}(h:okB p N)(a n:Nat)(hn:n≤64):Abd p (N:Int) (a:Int) (n:Int)=some (if N<a+n then(0,24)else(Ni p a n,0)):=by
 obtain⟨h1,h2,h3⟩:=h
 rw[Abd,Wm ⟨h1,h2,h3⟩,Aa,if_neg (by rw[Aj];simp),if_neg (by simp[Af,Am];omega),Bc (by omega) (by omega)]
 by_cases hl:N<a+n
 ·rw[if_pos (by rw[Am];simp;omega),if_pos hl]
 ·rw[if_neg (by rw[Am];simp;omega),get_eq p N a n hn (by omega) (by omega),Aa,if_neg hl]
end Go.Pl
set_option linter.unusedVariables false
set_option linter.unusedSimpArgs false
namespace Go.Pl
open Go Go.Lv
theorem Cj1(c:Nat)(h:c<4611686018427387904):Bg (c:Int) (2:Int)=((c/2:Nat):Int):=by
 rw[Aid,Int.tdiv_eq_ediv_of_nonneg (by omega),Cc (by omega) (by omega)];omega
theorem Ciu(c:Nat)(h:c<4611686018427387904):Bg (c:Int) (8:Int)=((c/8:Nat):Int):=by
 rw[Aid,Int.tdiv_eq_ediv_of_nonneg (by omega),Cc (by omega) (by omega)];omega
theorem By3(c:Nat):Ff (c:Int) (8:Int)=((c %8:Nat):Int):=by rw[Ff,Int.tmod_eq_emod_of_nonneg (by omega)];omega
theorem Cj8(c:Nat):Ff (c:Int) (2:Int)=((c %2:Nat):Int):=by rw[Ff,Int.tmod_eq_emod_of_nonneg (by omega)];omega
theorem Bu3(i c:Nat)(hc:c<256):∀(j k q:Nat),k+j=i %8→j<q→Mx (i:Int) q ((c/2^k:Nat):Int) (k:Int)=some (((c/2^(i %8) %2:Nat):Int))
 |0,k,q+1,hk,_=>by
  rw[Mx,Zb,By3,if_neg (by rw[Af];simp;omega),Alx,Aj4,Cj8,show k=i %8 by omega]
 |j+1,k,q+1,hk,hq=>by
  have hle:c/2^k≤c:=Nat.div_le_self _ _
  rw[Mx,Zb,By3,if_pos (by rw[Af];simp;omega),Cj1 _ (by omega),Ag (by omega) (by omega),Nat.div_div_eq_div_mul,←Nat.pow_succ]
  exact Bu3 i c hc j (k+1) q (by omega) (by omega)
theorem Bch(p:List UInt8)(N:Int)(i:Nat)(h:i/8<p.length)(hi:i<4611686018427387904):Lh p N (i:Int)=some ((Fv p i:Nat):Int):=by
 have hc:=(p.getD (i/8) 0).toNat_lt
 have:=Bu3 i (p.getD (i/8) 0).toNat (by simpa using hc) (i %8) 0 Al (by omega) (by have:=Ak;omega)
 rw[Lh,Akt,Ciu _ hi,Bfj h,Aa,Afk,Alk]
 simpa [Fv]using this
theorem Bgg(p:List UInt8)(N:Int)(a n:Nat)(ha:a+n≤8*p.length)(hp:p.length≤1000000):∀(j q:Nat),j≤n→j<q→Is (a:Int) p N q (Ni p (a+j) (n-j)) ((j:Int)-1)=some (Ni p a n)
 |0,q+1,_,_=>by
  rw[Is,Tv,if_neg (by rw[Cl];simp)];rfl
 |j+1,q+1,hj,hq=>by
  have hb:=Yj p (a+j)
  rw[Is,Tv,show((j+1:Nat):Int)-1=(j:Int) by omega,if_pos (by rw[Cl];simp),Ag (a:=(a:Int)) (by omega) (by omega),show(a:Int)+(j:Int)=((a+j:Nat):Int) by omega,Bch p N (a+j) (by omega) (by omega),Aa,Bc (by omega) (by omega)]
  have e:Ad (Ar (2:UInt64) (Ni p (a+(j+1)) (n-(j+1)))) (Ae ((Fv p (a+j):Nat):Int):UInt64)=Ni p (a+j) (n-j):=by
   rw[Ag2,Ahk,Td,Ni,Ni,show n-j=(n-(j+1))+1 by omega,Bk,show a+j+1=a+(j+1) by omega,UInt64.ofNat_add,UInt64.ofNat_mul]
   exact UInt64.add_comm _ _
  rw[e]
  exact Bgg p N a n ha hp j q (by omega) (by omega)
theorem Azp(p:List UInt8)(N:Int)(a n:Nat)(ha:a+n≤8*p.length)(hp:p.length≤1000000):Ro p N (a:Int) (n:Int)=some (Ni p a n):=by
 have:=Bgg p N a n ha hp n Al (Nat.le_refl _) (by have:=Ak;omega)
 have hz:Ni p (a+n) (n-n)=0:=by rw[Nat.sub_self];rfl
 rw[hz]at this
 rw[Ro,Aeg,Ad6,Bc (by omega) (by omega)]
 exact this
theorem Bt0(bit:Int)(N:Nat)(l:List UInt8):∀(j k q:Nat),k+j=N %8→j<q→Li bit (N:Int) l q ((2^k:Nat):Int) (k:Int)=Wt bit ((2^(N %8):Nat):Int) (N:Int) l
 |0,k,q+1,hk,_=>by
  rw[Li,Xi,By3,if_neg (by rw[Af];simp;omega),show k=N %8 by omega]
 |j+1,k,q+1,hk,hq=>by
  have hp:2^k≤2^8:=Nat.pow_le_pow_right (by omega) (by omega)
  have e:Ar ((2^k:Nat):Int) 2=((2^(k+1):Nat):Int):=by
   rw[Nat.pow_succ]
   generalize 2^k=K at*
   rw[Fq (by omega) (by omega)];omega
  rw[Li,Xi,By3,if_pos (by rw[Af];simp;omega),e,Ag (by omega) (by omega)]
  exact Bt0 bit N l j (k+1) q (by omega) (by omega)
theorem Bg1(p:List UInt8)(a n j:Nat)(h:j<(n+7)/8):(Oi p a n)[j]'(by rw[Hp];exact h)=UInt8.ofNat (Bk p (a+8*j) (min 8 (n-8*j))):=by simp[Oi]
theorem Bad(p:List UInt8)(a t:Nat)(h:t≤8):Bk p a t<256:=by
 have h1:=Nh p t a
 have h2:2^t≤2^8:=Nat.pow_le_pow_right (by omega) h
 omega
def room(p:List UInt8)(a n:Nat):List UInt8:=if n %8=0 then Oi p a n++[0]else Oi p a n
theorem Ml(p:List UInt8)(a n:Nat):(room p a n).length=n/8+1:=by
 rw[room];split<;>simp[Hp]<;>omega
theorem Bqm(p:List UInt8)(a n j:Nat)(h:j<n/8+1):(room p a n)[j]'(by rw[Ml];exact h)=UInt8.ofNat (Bk p (a+8*j) (min 8 (n-8*j))):=by
 have h0:(room p a n)[j]? =some (UInt8.ofNat (Bk p (a+8*j) (min 8 (n-8*j)))):=by
  rw[room]
  split
  ·by_cases hj:j<(n+7)/8
   ·rw[List.getElem?_append_left (by rw[Hp];exact hj),List.getElem?_eq_getElem (by rw[Hp];exact hj),Bg1 p a n j hj]
   ·rw[List.getElem?_append_right (by rw[Hp];omega),Hp,show j-(n+7)/8=0 by omega,show n-8*j=0 by omega];rfl
  ·rw[List.getElem?_eq_getElem (by rw[Hp];omega),Bg1 p a n j (by omega)]
 rw[List.getElem?_eq_getElem (by rw[Ml];exact h)]at h0
 exact Option.some.inj h0
theorem Az4(p:List UInt8)(a n T:Nat)(h1:1≤T)(h:n %8+T≤8):(room p a n).set (n/8) (UInt8.ofNat (Bk p (a+8*(n/8)) (n %8+T)))=Oi p a (n+T):=by
 apply List.ext_getElem (by rw[List.length_set,Ml,Hp];omega)
 intro j g1 g2
 rw[List.length_set,Ml]at g1
 rw[List.getElem_set,Bg1 p a (n+T) j (by rw[Hp]at g2;exact g2)]
 split
 ·rename_i e;subst e;rw[show min 8 (n+T-8*(n/8))=n %8+T by omega]
 ·rw[Bqm p a n j g1,show min 8 (n-8*j)=8 by omega,show min 8 (n+T-8*j)=8 by omega]
theorem Axj(p:List UInt8)(a n:Nat):(room p a n)[n/8]'(by rw[Ml];omega)=UInt8.ofNat (Bk p (a+8*(n/8)) (n %8)):=by
 rw[Bqm p a n _ (by omega),show min 8 (n-8*(n/8))=n %8 by omega]
theorem Bzo(p:List UInt8)(a n:Nat)(hn:n≤400000):Wi (Oi p a n) (n:Int) ((Fv p (a+n):Nat):Int)=some (Oi p a (n+1),((n+1:Nat):Int)):=by
 have hb:=Yj p (a+n)
 have hp:2^(n %8)≤2^7:=Nat.pow_le_pow_right (by omega) (by omega)
 have hroom:Wi (Oi p a n) (n:Int) ((Fv p (a+n):Nat):Int)=Wu ((Fv p (a+n):Nat):Int) (n:Int) (room p a n):=by
  rw[Wi,Aiy,By3,room]
  by_cases h0:n %8=0
  ·rw[if_pos (by rw[Bb,h0];rfl),Bt (by rw[Hp];simp;omega),Aa,if_pos h0]
  ·rw[if_neg (by rw[Bb];simp;omega),if_neg h0]
 have hl:=Bt0 ((Fv p (a+n):Nat):Int) n (room p a n) (n %8) 0 Al (by omega) (by have:=Ak;omega)
 rw[hroom,Wu,Ai6,Aiv]
 refine Eq.trans hl ?_
 have hg:getI (room p a n) ((n/8:Nat):Int)=some (UInt8.ofNat (Bk p (a+8*(n/8)) (n %8))):=by
  rw[Bu (by rw[Ml];omega),Axj]
 have hlt:=Bad p (a+8*(n/8)) (n %8+1) (by omega)
 have hsn:=Aw2 p (a+8*(n/8)) (n %8)
 rw[show a+8*(n/8)+n %8=a+n by omega]at hsn
 have hm:Ar ((Fv p (a+n):Nat):Int) ((2^(n %8):Nat):Int)=((2^(n %8)*Fv p (a+n):Nat):Int):=by
  have hle:2^(n %8)*Fv p (a+n)≤2^7*1:=Nat.mul_le_mul hp (by omega)
  rw[Cb8,←Int.natCast_mul,Cc (by omega) (by rw[Nat.mul_comm];omega),Nat.mul_comm]
 have hx:Ad (UInt8.ofNat (Bk p (a+8*(n/8)) (n %8))) (Ae (((2^(n %8)*Fv p (a+n):Nat):Int)):UInt8)=UInt8.ofNat (Bk p (a+8*(n/8)) (n %8+1)):=by
  rw[Cei,Car,hsn,UInt8.ofNat_add]
 rw[Wt,Ai8,Ciu _ (by omega),hg,Aa,Aa,Aa,hm,hx,Oz _ (by rw[Ml];omega),Aa,Az4 p a n 1 (by omega) (by omega),Ag (by omega) (by omega)];rfl
theorem Az2(p:List UInt8)(N:Int)(a n:Nat)(ha:a+n≤8*p.length)(hp:p.length≤1000000)(hn:n≤300000):∀(j m q:Nat),m+j=n→j<q→Hf ((a+n:Nat):Int) p N q ((a+m:Nat):Int) (m:Int) (Oi p a m)=some (Oi p a n,(n:Int))
 |0,m,q+1,hm,_=>by
  rw[Hf,Py,if_neg (by rw[Af];simp;omega),show m=n by omega];rfl
 |j+1,m,q+1,hm,hq=>by
  rw[Hf,Py,if_pos (by rw[Af];simp;omega),Bch p N (a+m) (by omega) (by omega),Aa,Bzo p a m (by omega),Aa]
  simp only
  rw[Ag (by omega) (by omega)]
  exact Az2 p N a n ha hp hn j (m+1) q (by omega) (by omega)
theorem Bqd(p:List UInt8)(N:Int)(a n:Nat)(ha:a+n≤8*p.length)(hp:p.length≤1000000)(hn:n≤300000):Agf p N (a:Int) ((a+n:Nat):Int)=some (Oi p a n,(n:Int)):=by
 have:=Az2 p N a n ha hp hn n 0 Al (by omega) (by have:=Ak;omega)
 exact this
end Go.Pl
set_option linter.unusedVariables false
set_option linter.unusedSimpArgs false
namespace Go.Pl
open Go Go.Lv
theorem Ch7{t:Nat}(h:t≤8):Ah (Cm (1:UInt64) t) (1:UInt64)=UInt64.ofNat (2^t-1):=by
 have:t=0∨t=1∨t=2∨t=3∨t=4∨t=5∨t=6∨t=7∨t=8:=by omega
 rcases this with rfl|rfl|rfl|rfl|rfl|rfl|rfl|rfl|rfl<;>decide
theorem Cje(v:UInt64){t:Nat}(h:t≤8):(Dq v (Ah (Cm (1:UInt64) t) (1:UInt64))).toNat=v.toNat %2^t:=by
 have hp:2^t≤2^8:=Nat.pow_le_pow_right (by omega) h
 rw[Ch7 h,Biq,UInt64.toNat_and,UInt64.toNat_ofNat',Nat.mod_eq_of_lt (by have:=Nat.pow_pos (n:=t) (show 0<2 by omega);omega),Nat.and_two_pow_sub_one_eq_mod]
theorem or8{v w i:Nat}(hv:v<2^i)(hw:w*2^i<256)(hi:i<8):gor (UInt8.ofNat v) (Cm (UInt8.ofNat w) i)=UInt8.ofNat (v+w*2^i):=by
 have hp:2^i≤2^8:=Nat.pow_le_pow_right (by omega) (by omega)
 have hpos:0<2^i:=Nat.pow_pos (by omega)
 have hw2:w<256:=Nat.lt_of_le_of_lt (Nat.le_mul_of_pos_right w hpos) hw
 rw[Chs];apply UInt8.toNat_inj.1
 have e1:(UInt8.ofNat v).toNat=v:=by rw[UInt8.toNat_ofNat',Nat.mod_eq_of_lt (by omega)]
 have e2:(UInt8.ofNat w).toNat=w:=by rw[UInt8.toNat_ofNat',Nat.mod_eq_of_lt (by omega)]
 rw[UInt8.toNat_or,Cf2,e1,e2,Nat.mod_eq_of_lt hw,Nat.mul_comm w,Nat.or_comm,←Nat.two_pow_add_eq_or_of_lt hv,UInt8.toNat_ofNat',Nat.add_comm v]
 rw[Nat.mul_comm]at hw
 have hb:2^i*w+v<256:=by
  rw[Nat.two_pow_add_eq_or_of_lt hv]
  exact Nat.or_lt_two_pow (n:=8) hw (by omega)
 rw[Nat.mod_eq_of_lt hb]
theorem Bqz(p:List UInt8)(a n T:Nat)(h:T≤n)(hn:n≤64):Bo (Ni p a n) T=Ni p (a+T) (n-T):=by
 apply UInt64.toNat_inj.1
 rw[Abj,Ux p a n hn,Ux p (a+T) (n-T) (by omega)]
 have:=Nh p T a
 conv=>lhs;rw[show n=T+(n-T) by omega,Ahj,Nat.add_mul_div_left _ _ (Nat.pow_pos (by omega)),Nat.div_eq_of_lt this,Nat.zero_add]
theorem Bqc(p:List UInt8)(a n T:Nat)(h:T≤n)(hn:n≤64):(Ni p a n).toNat %2^T=Bk p a T:=by
 have:=Nh p T a
 rw[Ux p a n hn]
 conv=>lhs;rw[show n=T+(n-T) by omega,Ahj,Nat.add_mul_mod_self_left,Nat.mod_eq_of_lt this]
theorem Bjf(bk:Int→Int→List UInt8→Option (List UInt8×Int×Int))(to':Int)(p:List UInt8)(N fr:Int)(r6:UInt64)(a:Nat):∀(j m q:Nat),m+j≤300000→j≤64→j<q→
  Nx bk to' p N fr r6 q (Ni p (a+m) j) (j:Int) (m:Int) (Oi p a m)=Ajn bk to' p N fr ((m+j:Nat):Int) (Oi p a (m+j))
 |0,m,q+1,_,_,_=>by
  rw[Nx,Aje,if_neg (by rw[Am];simp)];rfl
 |j+1,m,q+1,hm,hj,hq=>by
  have hroom:Nx bk to' p N fr r6 (q+1) (Ni p (a+m) (j+1)) ((j+1:Nat):Int) (m:Int) (Oi p a m)=Ajr (Nx bk to' p N fr r6 q) to' fr p N r6 (Ni p (a+m) (j+1)) ((j+1:Nat):Int) (m:Int) (room p a m):=by
   rw[Nx,Aje,if_pos (by rw[Am];simp),Bel m (by omega),room]
   by_cases h0:m %8=0
   ·rw[if_pos (by rw[Bb,h0];rfl),Bt (by rw[Hp];simp;omega),Aa,if_pos h0]
   ·rw[if_neg (by rw[Bb];simp;omega),if_neg h0]
  have hl:Ah (Ac (room p a m)) 1=((m/8:Nat):Int):=by
   rw[Ac,Ml,Bc (by omega) (by omega)];omega
  have e2:Dx ((j+1:Nat):Int) (Ah (8:Int) ((m %8:Nat):Int))=((min (j+1) (8-m %8):Nat):Int):=by
   rw[Afb,Bc (by omega) (by omega)];omega
  rw[hroom,Ajr,Ase,Bel m (by omega),e2,hl]
  generalize hT:min (j+1) (8-m %8)=T
  have hT1:1≤T:=by omega
  have hT8:m %8+T≤8:=by omega
  have hg:getI (room p a m) ((m/8:Nat):Int)=some (UInt8.ofNat (Bk p (a+8*(m/8)) (m %8))):=by
   rw[Bu (by rw[Ml];omega),Axj]
  have z1:(GI.toZ ((m %8:Nat):Int)).toNat=m %8:=rfl
  have z2:(GI.toZ ((T:Nat):Int)).toNat=T:=rfl
  have hlt:=Bad p (a+8*(m/8)) (m %8+T) (by omega)
  have hadd:=Ahj p (m %8) T (a+8*(m/8))
  rw[show a+8*(m/8)+m %8=a+m by omega]at hadd
  have hbyte:(Ae (Dq (Ni p (a+m) (j+1)) (Ah (Cm (1:UInt64) T) (1:UInt64))):UInt8)=UInt8.ofNat (Bk p (a+m) T):=by
   rw[Aj3,Cje _ (by omega),Bqc p (a+m) (j+1) T (by omega) hj]
  have hnew:gor (UInt8.ofNat (Bk p (a+8*(m/8)) (m %8))) (Cm (UInt8.ofNat (Bk p (a+m) T)) (m %8))=UInt8.ofNat (Bk p (a+8*(m/8)) (m %8+T)):=by
   rw[or8 (Nh _ _ _) (by rw[Nat.mul_comm];omega) (by omega),hadd,Nat.mul_comm (2^(m %8))]
  rw[hg,z1,z2,hbyte]
  simp only[Aa]
  rw[Ay (by rw[Cl];simp),Aa,Ay (by rw[Cl];simp;omega),Aa,hnew,Oz _ (by rw[Ml];omega),Aa,Az4 p a m T hT1 hT8,Aq6,Bbt,Bel m (by omega),e2,hT,Ay (by rw[Cl];simp),Aa,z2,Bqz p (a+m) (j+1) T (by omega) hj,Bc (by omega) (by omega),Ag (by omega) (by omega)]
  have ih:=Bjf bk to' p N fr r6 a (j+1-T) (m+T) q (by omega) (by omega) (by omega)
  rw[show m+T+(j+1-T)=m+(j+1) by omega]at ih
  rw[←ih,show a+m+T=a+(m+T) by omega,show((j+1:Nat):Int)-((T:Nat):Int)=((j+1-T:Nat):Int) by omega,show(m:Int)+((T:Nat):Int)=((m+T:Nat):Int) by omega]
theorem Bqs(p:List UInt8)(N:Int)(a n:Nat)(ha:a+n≤8*p.length)(hp:p.length≤1000000)(hn:n≤300000):∀(j m f q:Nat),(f=m∨n≤f∧m=n)→m+j=n→f≤n+64→j<q→Wr ((a+n:Nat):Int) p N q ((a+f:Nat):Int) (m:Int) (Oi p a m)=some (Oi p a n,(n:Int),0)
 |j,m,f,q+1,hf,hm,hf2,hq=>by
  rw[Wr,Aq7]
  by_cases hlt:f<n
  ·obtain rfl:f=m:=by omega
   have e1:Dx (64:Int) (Ah ((a+n:Nat):Int) ((a+f:Nat):Int))=((min 64 (n-f):Nat):Int):=by
    rw[Afb,Bc (by omega) (by omega)];omega
   rw[if_pos (by rw[Af];simp;omega),e1,get_eq p N (a+f) _ (by omega) (by omega) hp,Aa,Ar0]
   have h1:=Bjf (Wr ((a+n:Nat):Int) p N q) ((a+n:Nat):Int) p N ((a+f:Nat):Int) (Ni p (a+f) (min 64 (n-f))) a (min 64 (n-f)) f Al (by omega) (by omega) (by have:=Ak;omega)
   refine Eq.trans h1 ?_
   rw[Ajn,Bat,Ag (by omega) (by omega),show((a+f:Nat):Int)+64=((a+(f+64):Nat):Int) by omega]
   exact Bqs p N a n ha hp hn (j-min 64 (n-f)) (f+min 64 (n-f)) (f+64) q (by omega) (by omega) (by omega) (by omega)
  ·rw[if_neg (by rw[Af];simp;omega),Arp,Bav,show m=n by omega]
theorem Cgv{p:List UInt8}{N:Nat}(h:okB p N)(a n:Nat)(ha:a+n≤N)(hn:n≤300000):Aux p (N:Int) (a:Int) ((a+n:Nat):Int)=some (Oi p a n,(n:Int),0):=by
 obtain⟨h1,h2,h3⟩:=h
 have:=Bqs p N a n (by omega) (by omega) hn n 0 0 Al (by omega) (by omega) (by omega) (by have:=Ak;omega)
 rw[Aux,Aum,Wm ⟨h1,h2,h3⟩,Aa,if_neg (by rw[Aj];simp),if_neg (by simp[Af,Am];omega),Aqz]
 exact this
end Go.Pl
set_option linter.unusedVariables false
set_option linter.unusedSimpArgs false
namespace Go.Pl
open Go Go.Lv
def Fc(p:List UInt8):Nat→Nat→Nat
 |_,0=>0
 |a,m+1=>if Fv p a=1 then 1+Fc p (a+1) m else 0
theorem An0(p:List UInt8):∀(m a:Nat),Fc p a m≤m
 |0,_=>Nat.le_refl _
 |m+1,a=>by rw[Fc];split<;>have:=An0 p m (a+1)<;>omega
theorem Bpe(p:List UInt8):∀(m a:Nat),∃s,Bk p a m+1=2^(Fc p a m+1)*s+2^Fc p a m∧(Fc p a m=m→s=0)
 |0,a=>⟨0,by simp[Bk,Fc],fun _=>rfl⟩
 |m+1,a=>by
  have hb:=Yj p a
  obtain⟨s,h1,h2⟩:=Bpe p m (a+1)
  by_cases h:Fv p a=1
  ·refine⟨s,?_,fun e=>h2 ?_⟩
   ·rw[Fc,if_pos h,Bk,h,show 1+Fc p (a+1) m+1=(Fc p (a+1) m+1)+1 by omega,show 1+Fc p (a+1) m=Fc p (a+1) m+1 by omega,Nat.pow_succ,Nat.pow_succ (n:=2) (m:=Fc p (a+1) m)]
    rw[Nat.pow_succ]at h1
    generalize Bk p (a+1) m=V at*
    generalize 2^Fc p (a+1) m=W at*
    have e1:W*2*2*s=2*(W*2*s):=by rw[Nat.mul_right_comm (W*2) 2 s,Nat.mul_comm]
    omega
   ·rw[Fc,if_pos h]at e;omega
  ·refine⟨Bk p (a+1) m,?_,fun e=>?_⟩
   ·rw[Fc,if_neg h,Bk];simp;omega
   ·rw[Fc,if_neg h]at e;omega
theorem Cd6{n t s:Nat}(h:2^(t+1)*s+2^t≤2^n)(ht:t<n)(x:Nat)(hx:x=2^n-(2^(t+1)*s+2^t)):x&&& (2^(t+1)*s+2^t)=2^t:=by
 have hpos:0<2^t:=Nat.pow_pos (by omega)
 have hlt:2^t<2^(t+1):=by rw[Nat.pow_succ];omega
 have e:x=2^n-((2^(t+1)*s+(2^t-1))+1):=by rw[hx];congr 1;omega
 apply Nat.eq_of_testBit_eq
 intro i
 rw[Nat.testBit_and,e,Nat.testBit_two_pow_sub_succ (by omega),Nat.testBit_two_pow_mul_add _ (by omega),Nat.testBit_two_pow_mul_add _ hlt]
 by_cases hi:i<t+1
 ·rw[if_pos hi,if_pos hi,Nat.testBit_two_pow_sub_one,Nat.testBit_two_pow]
  by_cases hit:t=i
  ·subst hit;simp;exact ht
  ·have:¬i=t:=fun e=>hit e.symm
   simp[hit]
 ·rw[if_neg hi,if_neg hi,Nat.testBit_two_pow]
  have:¬t=i:=by omega
  simp[this]
theorem Bzi(a:UInt64):(Bgc a).toNat=18446744073709551615-a.toNat:=by
 have h:=a.toNat_lt
 have e:Bgc a=UInt64.ofNat (BitVec.ofInt 64 18446744073709551615^^^BitVec.ofInt 64 (a.toNat:Int)).toNat:=Hb _
 have h1:BitVec.ofInt 64 (a.toNat:Int)=a.toBitVec:=Bno a
 have h2:(BitVec.ofInt 64 18446744073709551615:BitVec 64)=BitVec.allOnes 64:=by decide
 rw[e,UInt64.toNat_ofNat',h1,h2,BitVec.allOnes_xor,BitVec.toNat_not]
 show(18446744073709551616-1-a.toNat) %18446744073709551616=18446744073709551615-a.toNat
 omega
theorem Bzq(a:UInt64):(Bae a).toNat=(18446744073709551616-a.toNat) %18446744073709551616:=by
 have h:=a.toNat_lt
 have e:Bae a=UInt64.ofNat ((0-(a.toNat:Int)) %18446744073709551616).toNat:=Bm1 _
 rw[e,UInt64.toNat_ofNat']
 show((0-(a.toNat:Int)) %18446744073709551616).toNat %18446744073709551616=_
 omega
def Cjf:List UInt8:=[0,1,56,2,57,49,28,3,61,58,42,50,38,29,17,4,62,47,59,36,45,43,51,22,53,39,33,30,24,18,12,5,63,55,48,27,60,41,37,16,46,35,44,21,52,32,23,11,54,26,40,15,34,20,31,10,25,14,19,9,13,8,7,6]
theorem Bx7:∀t:Fin 64,getI Cjf (GI.toZ (Bo (Ar (UInt64.ofNat (2^t.val)) (285870213051353865:UInt64)) (GI.toZ (58:UInt64)).toNat))=some (UInt8.ofNat t.val):=by decide +kernel
theorem Cjb(x:UInt64)(t s:Nat)(ht:t<64)(h:x.toNat+(2^(t+1)*s+2^t)=18446744073709551616):Fy x=some (t:Int):=by
 have hpos:0<2^t:=Nat.pow_pos (by omega)
 have hx:x.toNat=2^64-(2^(t+1)*s+2^t):=by show x.toNat=18446744073709551616-_;omega
 have hle:2^t≤2^63:=Nat.pow_le_pow_right (by omega) (by omega)
 have hne:x≠0:=by
  intro e
  rw[e]at h
  have h':2^t*(2*s+1)=2^64:=by
   rw[Nat.mul_add,Nat.mul_one,←Nat.mul_assoc,←Nat.pow_succ]
   show _=18446744073709551616
   simpa using h
  have h2:2^64=2^t*2^(64-t):=by rw[←Nat.pow_add];congr 1;omega
  rw[h2]at h'
  have h3:=Nat.eq_of_mul_eq_mul_left hpos h'
  rw[show 64-t=(63-t)+1 by omega,Nat.pow_succ]at h3
  omega
 have hx0:x.toNat≠0:=fun e=>hne (UInt64.toNat_inj.1 e)
 have hl:Dq x (Bae x)=UInt64.ofNat (2^t):=by
  apply UInt64.toNat_inj.1
  rw[Biq,UInt64.toNat_and,Bzq,show(18446744073709551616-x.toNat) %18446744073709551616=2^(t+1)*s+2^t by omega,Cd6 (n:=64) (by show _≤18446744073709551616;omega) ht _ hx,UInt64.toNat_ofNat',Nat.mod_eq_of_lt]
  exact Nat.lt_of_le_of_lt hle (by decide)
 have hb:=Bx7 ⟨t,ht⟩
 rw[Fy,if_neg (by rw[Be0];simpa using hne),hl]
 refine Eq.trans (congrArg (fun o=>Option.bind o fun c=>some (Ae c:Int)) hb) ?_
 rw[Aa,Afk,UInt8.toNat_ofNat',Nat.mod_eq_of_lt (by show t<256;omega)]
theorem Cel(p:List UInt8)(a m:Nat)(hm:m≤48):Fy (Bgc (Ni p a m))=some ((Fc p a m:Nat):Int):=by
 obtain⟨s,h1,h2⟩:=Bpe p m a
 have hle:=An0 p m a
 have hlt:=Nh p m a
 have h48:2^m≤2^48:=Nat.pow_le_pow_right (by omega) hm
 have hn:(Bgc (Ni p a m)).toNat=18446744073709551615-Bk p a m:=by rw[Bzi,Ux p a m (by omega)]
 have h3:(281474976710656:Nat)=2^48:=rfl
 refine Cjb _ (Fc p a m) s (by omega) ?_
 rw[hn];omega
def unS(p:List UInt8)(N a:Nat):Int×Int×Int:=
 if Fc p a (min 48 (N-a))<min 48 (N-a)then((Fc p a (min 48 (N-a)):Nat),((a+Fc p a (min 48 (N-a))+1:Nat):Int),0)else
 if Fc p a (min 48 (N-a))=48 then(48,((a+48:Nat):Int),0)else(0,0,24)
theorem Cbz{p:List UInt8}{N:Nat}(h:okB p N)(a:Nat)(ha:a<N):Aff p (N:Int) (a:Int)=some (unS p N a):=by
 have hN:=h.1
 have e1:Dx (48:Int) (Ah (N:Int) (a:Int))=((min 48 (N-a):Nat):Int):=by rw[Afb,Bc (by omega) (by omega)];omega
 have hle:=An0 p (min 48 (N-a)) a
 rw[Aff,Xu,Wm h,Aa,if_neg (by rw[Aj];simp),if_neg (by rw[Af];simp),if_neg (by rw[Cl];simp;omega),e1,Bck h a _ (by omega),if_neg (by omega),Aa]
 simp only
 rw[Ao4,Ao0,if_neg (by rw[Aj];simp),Cel p a _ (by omega),Aa,Aoq,Aoy,e1,unS]
 by_cases h1:Fc p a (min 48 (N-a))<min 48 (N-a)
 ·rw[if_pos (by rw[Af];simp;omega),if_pos h1,Ag (a:=(a:Int)) (by omega) (by omega),show Ad (0:Int) 1=1 by decide,Ag (by omega) (by omega)]
  congr 3;omega
 ·rw[if_neg (by rw[Af];simp;omega),if_neg h1,Aod,Aoz]
  by_cases h2:Fc p a (min 48 (N-a))=48
  ·rw[if_pos (by rw[Bb,h2];rfl),if_pos h2,h2,Ag (a:=(a:Int)) (by omega) (by omega),Ag (by omega) (by omega)]
   congr 3;omega
  ·rw[if_neg (by rw[Bb];simp;omega),if_neg h2];rfl
theorem Bk5(p:List UInt8):∀(m a:Nat),Fc p a m<m→Fv p (a+Fc p a m)≠1
 |0,_,h=>by simp[Fc]at h
 |m+1,a,h=>by
  by_cases hb:Fv p a=1
  ·rw[Fc,if_pos hb]at h⊢
   have:=Bk5 p m (a+1) (by omega)
   rwa [show a+(1+Fc p (a+1) m)=a+1+Fc p (a+1) m by omega]
  ·rw[Fc,if_neg hb];exact hb
theorem Bj0(p:List UInt8):∀(m a k:Nat),k<Fc p a m→Fv p (a+k)=1
 |0,a,k,h=>by simp[Fc]at h
 |m+1,a,k,h=>by
  by_cases hb:Fv p a=1
  ·rw[Fc,if_pos hb]at h
   cases k with
   |zero=>exact hb
   |succ k=>
    have:=Bj0 p m (a+1) k (by omega)
    rwa [show a+(k+1)=a+1+k by omega]
  ·rw[Fc,if_neg hb]at h;omega
def unR(p:List UInt8)(N a:Nat):Int×Int:=if(unS p N a).2.2=0 then((unS p N a).1,(unS p N a).2.1)else(-1,0)
theorem Bgm{p:List UInt8}{N:Nat}(h:okB p N)(a:Nat)(ha:a<N):∀(j k q:Nat),k+j=Fc p a (min 48 (N-a))→j<q→Ll (a:Int) p (N:Int) q (k:Int)=some (unR p N a)
 |0,k,q+1,hk,_=>by
  obtain⟨hN,hl,hz⟩:=h
  have hle:=An0 p (min 48 (N-a)) a
  have hk':k=Fc p a (min 48 (N-a)):=by omega
  have e1:Ad (a:Int) (k:Int)=((a+k:Nat):Int):=by rw[Ag (by omega) (by omega)];omega
  have hend:Xd (a:Int) (k:Int) p (N:Int)=some (unR p N a):=by
   rw[Xd,Ai1,e1]
   by_cases h48:k=48
   ·have hu:unS p N a=(48,((a+48:Nat):Int),0):=by rw[unS,←hk',if_neg (by omega),if_pos h48]
    rw[if_pos (by rw[Bb,h48];rfl),unR,hu,h48];rfl
   ·rw[if_neg (by rw[Bb];simp;omega)]
    by_cases hN2:N≤a+k
    ·have hu:unS p N a=(0,0,24):=by rw[unS,←hk',if_neg (by omega),if_neg h48]
     rw[if_pos (by rw[Cl];simp;omega),unR,hu];rfl
    ·have hu:unS p N a=(((k:Nat):Int),((a+k+1:Nat):Int),0):=by rw[unS,←hk',if_pos (by omega)]
     rw[if_neg (by rw[Cl];simp;omega),unR,hu,Ag (by omega) (by omega)];rfl
  rw[Ll,Xe,e1]
  by_cases hc:a+k<N∧k<48
  ·have hb:=Yj p (a+k)
   have hs:=Bk5 p (min 48 (N-a)) a (by omega)
   rw[←hk']at hs
   rw[if_pos (by simp[Af];omega),Bch p _ (a+k) (by omega) (by omega),Aa,if_neg (by rw[Bb];simp;omega),hend]
  ·rw[if_neg (by simp[Af];omega),hend]
 |j+1,k,q+1,hk,hq=>by
  obtain⟨hN,hl,hz⟩:=h
  have hle:=An0 p (min 48 (N-a)) a
  have hb:=Bj0 p (min 48 (N-a)) a k (by omega)
  have e1:Ad (a:Int) (k:Int)=((a+k:Nat):Int):=by rw[Ag (by omega) (by omega)];omega
  rw[Ll,Xe,e1,if_pos (by simp[Af];omega),Bch p _ (a+k) (by omega) (by omega),Aa,hb,if_pos (by decide),Ag (by omega) (by omega)]
  exact Bgm ⟨hN,hl,hz⟩ a ha j (k+1) q (by omega) (by omega)
theorem Bza{p:List UInt8}{N:Nat}(h:okB p N)(a:Nat)(ha:a<N):Aqr p (N:Int) (a:Int)=some (unR p N a):=by
 have hle:=An0 p (min 48 (N-a)) a
 have:=Bgm h a ha (Fc p a (min 48 (N-a))) 0 Al (by omega) (by have:=Ak;omega)
 exact this
end Go.Pl
set_option linter.unusedVariables false
set_option linter.unusedSimpArgs false
namespace Go.Pl
open Go Go.Lv
theorem Bzp{p:List UInt8}{N a:Nat}(h:Fc p a (min 48 (N-a))<min 48 (N-a)):unS p N a=(((Fc p a (min 48 (N-a)):Nat):Int),((a+Fc p a (min 48 (N-a))+1:Nat):Int),0):=by rw[unS,if_pos h]
theorem Cas{p:List UInt8}{N a:Nat}(h:¬Fc p a (min 48 (N-a))<min 48 (N-a))(h2:Fc p a (min 48 (N-a))=48):unS p N a=(48,((a+48:Nat):Int),0):=by rw[unS,if_neg h,if_pos h2]
theorem Cce{p:List UInt8}{N a:Nat}(h:¬Fc p a (min 48 (N-a))<min 48 (N-a))(h2:¬Fc p a (min 48 (N-a))=48):unS p N a=(0,0,24):=by rw[unS,if_neg h,if_neg h2]
theorem Byn{p:List UInt8}{N:Nat}(h:okB p N)(a:Nat)(ha:N≤a):Aff p (N:Int) (a:Int)=some (0,0,24):=by
 rw[Aff,Xu,Wm h,Aa,if_neg (by rw[Aj];simp),if_neg (by rw[Af];simp),if_pos (by rw[Cl];simp;omega)]
def rcS(p:List UInt8)(N a k:Nat):UInt32×Int×Int:=
 if N≤a then(0,0,24)else
 if Fc p a (min 48 (N-a))<min 48 (N-a)then
  (if N<a+Fc p a (min 48 (N-a))+1+k then(0,0,24)else(UInt32.ofNat (Fc p a (min 48 (N-a))*2^k+Bk p (a+Fc p a (min 48 (N-a))+1) k),((a+Fc p a (min 48 (N-a))+1+k:Nat):Int),0))
 else if Fc p a (min 48 (N-a))=48 then
  (if N<a+48+32 then(0,0,24)else if Bk p (a+48) 32/2^k<48 then(0,0,12)else(UInt32.ofNat (Bk p (a+48) 32),((a+48+32:Nat):Int),0))
 else(0,0,24)
theorem Bap{p:List UInt8}{a n:Nat}(h:n≤32):(Ae (Ni p a n):UInt32)=UInt32.ofNat (Bk p a n):=by
 have e:(Ae (Ni p a n):UInt32)=UInt32.ofNat (Ni p a n).toNat:=by simp only[Ae,Ii,Eo]
 rw[e,Ux p a n (by omega)]
theorem Anf{n:Nat}(h:n<4294967296):(UInt32.ofNat n).toNat=n:=by rw[UInt32.toNat_ofNat'];exact Nat.mod_eq_of_lt h
theorem Bol(p:List UInt8)(a:Nat){n:Nat}(h:n≤32):Bk p a n<4294967296:=by
 have h1:=Nh p n a
 have h2:2^n≤2^32:=Nat.pow_le_pow_right (by omega) h
 omega
theorem Ch8{q v k:Nat}(hq:q<48)(hv:v<2^k)(hk:k≤24):gor (Cm (Ae (q:Int):UInt32) k) (UInt32.ofNat v)=UInt32.ofNat (q*2^k+v):=by
 have hp:2^k≤2^24:=Nat.pow_le_pow_right (by omega) hk
 have h1:q*2^k≤47*2^24:=Nat.mul_le_mul (by omega) hp
 rw[Cej];apply UInt32.toNat_inj.1
 rw[UInt32.toNat_or,Awc,Bjr,Anf (by omega),Anf (n:=v) (by omega),Nat.mod_eq_of_lt (by omega),Nat.mul_comm q,←Nat.two_pow_add_eq_or_of_lt hv,Anf (by rw[Nat.mul_comm];omega)]
theorem Cdh{p:List UInt8}{N:Nat}(h:okB p N)(a k:Nat)(hk:k≤24):Awz p (N:Int) (a:Int) (k:Int)=some (rcS p N a k):=by
 have hN:=h.1
 rw[Awz,Asg,Wm h,Aa,if_neg (by rw[Aj];simp),if_neg (by simp[Af,Am];omega)]
 by_cases ha:N≤a
 ·rw[Byn h a ha,Aa,rcS,if_pos ha];rfl
 have hle:=An0 p (min 48 (N-a)) a
 rw[Cbz h a (by omega),Aa]
 by_cases h1:Fc p a (min 48 (N-a))<min 48 (N-a)
 ·have hS:rcS p N a k=if N<a+Fc p a (min 48 (N-a))+1+k then(0,0,24)else(UInt32.ofNat (Fc p a (min 48 (N-a))*2^k+Bk p (a+Fc p a (min 48 (N-a))+1) k),((a+Fc p a (min 48 (N-a))+1+k:Nat):Int),0):=by rw[rcS,if_neg ha,if_pos h1]
  rw[Bzp h1,hS]
  generalize Fc p a (min 48 (N-a))=q at*
  simp only
  rw[if_neg (by rw[Aj];simp),if_neg (by rw[Bb];simp;omega),Ajb,Ard,Bck h _ k (by omega),Aa]
  by_cases h2:N<a+q+1+k
  ·rw[if_pos h2,if_pos h2];rfl
  ·rw[if_neg h2,if_neg h2]
   simp only
   have z:(GI.toZ (k:Int)).toNat=k:=rfl
   rw[if_neg (by rw[Aj];simp),if_pos (by rw[Af];simp;omega),Ay (by rw[Cl];simp),Aa,z,Bap (by omega),Ch8 (by omega) (Nh _ _ _) hk,Ag (by omega) (by omega)];rfl
 ·by_cases h2:Fc p a (min 48 (N-a))=48
  ·have hS:rcS p N a k=if N<a+48+32 then(0,0,24)else if Bk p (a+48) 32/2^k<48 then(0,0,12)else(UInt32.ofNat (Bk p (a+48) 32),((a+48+32:Nat):Int),0):=by rw[rcS,if_neg ha,if_neg h1,if_pos h2]
   have hg:=Bck h (a+48) 32 (by omega)
   rw[Cas h1 h2,hS]
   simp only
   rw[if_neg (by rw[Aj];simp),if_pos (by rw[Bb];rfl),Ajb,Ard]
   refine Eq.trans (congrArg (fun o=>Option.bind o _) hg) ?_
   rw[Aa]
   by_cases h3:N<a+48+32
   ·rw[if_pos h3,if_pos h3];rfl
   ·rw[if_neg h3,if_neg h3]
    simp only
    have z:(GI.toZ (k:Int)).toNat=k:=rfl
    have hv:=Bol p (a+48) (n:=32) (by omega)
    rw[if_neg (by rw[Aj];simp),if_neg (by rw[Af];simp),We,Ay (by rw[Cl];simp),Aa,Aa,z,Bap (by omega),Bt3]
    have e:(decide ((48:UInt32).toNat≤(Bo (UInt32.ofNat (Bk p (a+48) 32)) k).toNat))=decide (¬Bk p (a+48) 32/2^k<48):=by
     rw[Ahp,Anf hv];simp
    rw[e]
    by_cases h4:Bk p (a+48) 32/2^k<48
    ·rw[if_pos (by simp[h4]),if_pos h4]
    ·rw[if_neg (by simp;omega),if_neg h4,Ag (by omega) (by omega)];rfl
  ·rw[Cce h1 h2,rcS,if_neg ha,if_neg h1,if_neg h2];rfl
theorem Bg0(k:Nat)(hk:k≤63):∀(j i q:Nat),i+j=k→j<q→Ir (k:Int) q (UInt64.ofNat (2^i)) (i:Int)=some (UInt64.ofNat (2^k))
 |0,i,q+1,hi,_=>by
  rw[Ir,Tk,if_neg (by rw[Af];simp;omega),show i=k by omega];rfl
 |j+1,i,q+1,hi,hq=>by
  have e:Ar (UInt64.ofNat (2^i)) (2:UInt64)=UInt64.ofNat (2^(i+1)):=by
   rw[Ahk,Nat.pow_succ,UInt64.ofNat_mul];rfl
  rw[Ir,Tk,if_pos (by rw[Af];simp;omega),Ag (by omega) (by omega),e]
  exact Bg0 k hk j (i+1) q (by omega) (by omega)
theorem Ahm(k:Nat)(hk:k≤63):Fl (k:Int)=some (UInt64.ofNat (2^k)):=
 Bg0 k hk k 0 Al (by omega) (by have:=Ak;omega)
theorem Am9{k:Nat}(hk:k≤63):(UInt64.ofNat (2^k)).toNat=2^k:=by
 have hp:2^k≤2^63:=Nat.pow_le_pow_right (by omega) hk
 rw[UInt64.toNat_ofNat',Nat.mod_eq_of_lt (by omega)]
theorem Cd7(v:UInt32)(k:Nat)(hk:k≤24):Abn v (k:Int)=some ((min 48 (v.toNat/2^k):Nat):Int):=by
 have hpos:0<2^k:=Nat.pow_pos (by omega)
 have hv:=v.toNat_lt
 rw[Abn,Ahm k (by omega),Aa,Ay (by rw[Ajj];simp only[bne_iff_ne,ne_eq,←UInt64.toNat_inj,Am9 (show k≤63 by omega)];simp),Aa]
 have e:(Bg (Ae v:UInt64) (UInt64.ofNat (2^k))).toNat=v.toNat/2^k:=by
  rw[Ba4,UInt64.toNat_div,Cr,Am9 (by omega),UInt64.toNat_ofNat',Nat.mod_eq_of_lt (by omega)]
 have hle:v.toNat/2^k≤v.toNat:=Nat.div_le_self _ _
 have e2:Dx (48:UInt64) (Bg (Ae v:UInt64) (UInt64.ofNat (2^k)))=UInt64.ofNat (min 48 (v.toNat/2^k)):=by
  apply UInt64.toNat_inj.1
  rw[UInt64.toNat_ofNat',Nat.mod_eq_of_lt (by omega)]
  show(if _ then _ else _:UInt64).toNat=_
  rw[show(GI.toZ (Bg (Ae v:UInt64) (UInt64.ofNat (2^k))))=((v.toNat/2^k:Nat):Int) by rw[Ii,e],show GI.toZ (48:UInt64)=48 from rfl]
  split
  ·rw[e];omega
  ·show 48=_;omega
 rw[e2,Bc7 (by rw[UInt64.toNat_ofNat',Nat.mod_eq_of_lt]<;>omega),UInt64.toNat_ofNat',Nat.mod_eq_of_lt (by omega)]
theorem Bzb{p:List UInt8}{N:Nat}(h:okB p N)(a k:Nat)(hk:k≤24):Afh p (N:Int) (a:Int) (k:Int)=some (rcS p N a k):=by
 obtain⟨hN,hl,hz⟩:=h
 have h:okB p N:=⟨hN,hl,hz⟩
 rw[Afh,Aix]
 by_cases ha:N≤a
 ·rw[if_pos (by rw[Cl];simp;omega),rcS,if_pos ha]
 have hle:=An0 p (min 48 (N-a)) a
 rw[if_neg (by rw[Cl];simp;omega),Bza h a (by omega),Aa,unR]
 by_cases h1:Fc p a (min 48 (N-a))<min 48 (N-a)
 ·have hS:rcS p N a k=if N<a+Fc p a (min 48 (N-a))+1+k then(0,0,24)else(UInt32.ofNat (Fc p a (min 48 (N-a))*2^k+Bk p (a+Fc p a (min 48 (N-a))+1) k),((a+Fc p a (min 48 (N-a))+1+k:Nat):Int),0):=by rw[rcS,if_neg ha,if_pos h1]
  rw[Bzp h1,hS]
  generalize Fc p a (min 48 (N-a))=q at*
  rw[if_pos rfl]
  simp only
  rw[if_neg (by rw[Bb];simp;omega),Xr,Wx,Bc (by omega) (by omega)]
  by_cases h2:N<a+q+1+k
  ·rw[if_pos (by simp[Af];omega),if_pos h2]
  ·have hp:2^k≤2^24:=Nat.pow_le_pow_right (by omega) hk
   have hm:q*2^k≤47*2^24:=Nat.mul_le_mul (by omega) hp
   have hv:=Nh p k (a+q+1)
   have e:(Ae (Ad (Ar (Ae (q:Int):UInt64) (UInt64.ofNat (2^k))) (Ni p (a+q+1) k)):UInt32)=UInt32.ofNat (q*2^k+Bk p (a+q+1) k):=by
    have e1:Ad (Ar (Ae (q:Int):UInt64) (UInt64.ofNat (2^k))) (Ni p (a+q+1) k)=UInt64.ofNat (q*2^k+Bk p (a+q+1) k):=by
     rw[Ag2,Ahk,Td,Ni,UInt64.ofNat_add,UInt64.ofNat_mul]
    rw[e1]
    have e2:∀x:UInt64,(Ae x:UInt32)=UInt32.ofNat x.toNat:=fun x=>by simp only[Ae,Ii,Eo]
    rw[e2,UInt64.toNat_ofNat',Nat.mod_eq_of_lt (by omega)]
   rw[if_neg (by simp[Af];omega),if_neg h2,Azp p _ _ k (by omega) (by omega),Aa,if_pos (by rw[Af];simp;omega),Ahm k (by omega),Aa,e,Ag (by omega) (by omega)];rfl
 ·by_cases h2:Fc p a (min 48 (N-a))=48
  ·have hS:rcS p N a k=if N<a+48+32 then(0,0,24)else if Bk p (a+48) 32/2^k<48 then(0,0,12)else(UInt32.ofNat (Bk p (a+48) 32),((a+48+32:Nat):Int),0):=by rw[rcS,if_neg ha,if_neg h1,if_pos h2]
   rw[Cas h1 h2,hS,if_pos rfl]
   simp only
   rw[if_pos (by rw[Bb];rfl),Xr,Wx,Bc (by omega) (by omega)]
   by_cases h3:N<a+48+32
   ·rw[if_pos (by simp[Af];omega),if_pos h3]
   ·have hg:=Azp p (N:Int) (a+48) 32 (by omega) (by omega)
    have hv:=Bol p (a+48) (n:=32) (by omega)
    rw[if_neg (by simp[Af];omega),if_neg h3]
    refine Eq.trans (congrArg (fun o=>Option.bind o _) hg) ?_
    rw[Aa,if_neg (by rw[Af];simp),Bap (by omega),Cd7 _ k hk,Aa,Anf hv]
    by_cases h4:Bk p (a+48) 32/2^k<48
    ·rw[if_pos (by rw[Af];simp;omega),if_pos h4]
    ·rw[if_neg (by rw[Af];simp;omega),if_neg h4,Ag (by omega) (by omega)];rfl
  ·rw[Cce h1 h2,rcS,if_neg ha,if_neg h1,if_neg h2]
   have e:(if((0:Int),(0:Int),(24:Int)).2.2=0 then(((0:Int),(0:Int),(24:Int)).1,((0:Int),(0:Int),(24:Int)).2.1)else((-1:Int),(0:Int)))=(-1,0):=by decide
   rw[e];rfl
theorem Cha{p:List UInt8}{N a k:Nat}{v:UInt32}{n:Int}(h:rcS p N a k=(v,n,0)):(a:Int)<n∧n≤N:=by
 unfold rcS at h
 split at h
 ·simp at h
 split at h
 ·split at h
  ·simp at h
  ·simp only[Prod.mk.injEq]at h;omega
 ·split at h
  ·split at h
   ·simp at h
   ·split at h
    ·simp at h
    ·simp only[Prod.mk.injEq]at h;omega
  ·simp at h
end Go.Pl
set_option linter.unusedVariables false
set_option linter.unusedSimpArgs false
namespace Go.Pl
open Go Go.Lv
def okD(k l:Nat)(s t:UInt64):Prop:=k≤24∧l≤24∧s.toNat≤68719476735∧t.toNat≤68719476735
theorem Brs(a b:UInt64)(h:a.toNat≤b.toNat):Dx a b=a:=by
 show(if _ then _ else _)=_
 rw[Ii,Ii,if_neg (by omega)]
theorem Bbf(a:UInt64):geq a a=true:=by rw[Be0];simp
theorem Cb4{k l:Nat}{s t:UInt64}(h:okD k l s t):Amk (k:Int) (l:Int) s t=some 0:=by
 obtain⟨h1,h2,h3,h4⟩:=h
 have e1:Dx (At3 (k:Int) 0) 24=(k:Int):=by rw[Afb,Bgx];omega
 have e2:Dx (At3 (l:Int) 0) 24=(l:Int):=by rw[Afb,Bgx];omega
 have e3:Dx s (68719476735:UInt64)=s:=Brs _ _ (by simpa using h3)
 have e4:Dx t (68719476735:UInt64)=t:=Brs _ _ (by simpa using h4)
 have e5:∀a:Int,geq a a=true:=fun a=>by rw[Bb];simp
 rw[Amk,Aga,Aov,Af2,Aog,Aye,e1,e2,e3,e4,e5,e5,Bbf,Bbf];rfl
def Ut(s n:UInt64):UInt64:=s+n-s/16
def kS(k:Nat)(s:UInt64):Nat:=if 0<k∧s.toNat<2^(k+4)then k-1 else if k<24∧2^(k+5)<s.toNat then k+1 else k
theorem Cgs{k:Nat}(h:k≤24)(s:UInt64):kS k s≤24:=by
 unfold kS
 by_cases h1:0<k∧s.toNat<2^(k+4)
 ·rw[if_pos h1];omega
 ·rw[if_neg h1];split<;>omega
theorem Bt4{k:Nat}{s:UInt64}(h:¬(0<k∧s.toNat<2^(k+4))):(if k<24∧2^(k+5)<s.toNat then((k+1:Nat):Int)else(k:Int))=((kS k s:Nat):Int):=by
 rw[kS,if_neg h];split<;>rfl
theorem Bvf{s n:UInt64}(h:s.toNat≤68719476735)(hn:n.toNat≤4294967295):(Ut s n).toNat≤68719476735:=by
 have h1:=s.toNat_lt
 have e:(s+n).toNat=s.toNat+n.toNat:=by rw[UInt64.toNat_add];omega
 have e2:(s/16).toNat=s.toNat/16:=by rw[UInt64.toNat_div];rfl
 rw[Ut,UInt64.toNat_sub_of_le _ _ (by rw[UInt64.le_iff_toNat_le,e,e2];omega),e,e2];omega
theorem Aqp(s n:UInt64):Ad s (Ah n (Bo s (GI.toZ (4:UInt64)).toNat))=Ut s n:=by
 have e:Bo s (GI.toZ (4:UInt64)).toNat=s/16:=by
  apply UInt64.toNat_inj.1
  rw[Abj,UInt64.toNat_div];rfl
 rw[e,Ag2,Az9,Ut,UInt64.sub_eq_add_neg,UInt64.sub_eq_add_neg,UInt64.add_assoc]
theorem Bt6(s n:UInt64):Ah (Ad s n) (Bg s (16:UInt64))=Ut s n:=by rw[Ag2,Az9,Ba4,Ut]
theorem Cjk{k:Nat}(h:k≤24):(Cm (16:UInt64) k).toNat=2^(k+4):=by
 have hp:2^k≤2^24:=Nat.pow_le_pow_right (by omega) h
 rw[Ak5,Nat.pow_add]
 show 16*2^k %_=2^k*16
 rw[Nat.mod_eq_of_lt (by omega),Nat.mul_comm]
theorem Chy{k:Nat}(h:k≤24):(Cm (32:UInt64) k).toNat=2^(k+5):=by
 have hp:2^k≤2^24:=Nat.pow_le_pow_right (by omega) h
 rw[Ak5,Nat.pow_add]
 show 32*2^k %_=2^k*32
 rw[Nat.mod_eq_of_lt (by omega),Nat.mul_comm]
theorem Cgd{k:Nat}{s:UInt64}(h:0<k)(h2:s.toNat<2^(k+4)):kS k s=k-1:=by rw[kS,if_pos ⟨h,h2⟩]
theorem Cgk{k:Nat}{s:UInt64}(h:¬(0<k∧s.toNat<2^(k+4)))(h2:k<24)(h3:2^(k+5)<s.toNat):kS k s=k+1:=by rw[kS,if_neg h,if_pos ⟨h2,h3⟩]
theorem Bu9{k:Nat}{s:UInt64}(h:¬(0<k∧s.toNat<2^(k+4)))(h2:¬(k<24∧2^(k+5)<s.toNat)):kS k s=k:=by rw[kS,if_neg h,if_neg h2]
theorem Bt8{α:Type}(k:Nat)(hk:k≤24)(s:UInt64)(f:Int→Option α):
  (if(Ga (k:Int) (0:Int))=true then(
   Option.bind (Hm (Ly (k:Int) (0:Int))) fun _=>
   if(Ch s (Cm (16:UInt64) (GI.toZ (k:Int)).toNat))=true then f (Ah (k:Int) (1:Int))
   else(if(Ch (k:Int) (24:Int))=true then(
    Option.bind (Hm (Ly (k:Int) (0:Int))) fun _=>
    if(Ga s (Cm (32:UInt64) (GI.toZ (k:Int)).toNat))=true then f (Ad (k:Int) (1:Int))else f (k:Int))
    else f (k:Int)))
  else(if(Ch (k:Int) (24:Int))=true then(
    Option.bind (Hm (Ly (k:Int) (0:Int))) fun _=>
    if(Ga s (Cm (32:UInt64) (GI.toZ (k:Int)).toNat))=true then f (Ad (k:Int) (1:Int))else f (k:Int))
    else f (k:Int)))=f ((kS k s:Nat):Int):=by
 have z:(GI.toZ (k:Int)).toNat=k:=rfl
 rw[z,Ay (by rw[Cl];simp)]
 simp only[Aa]
 rw[Be6,Am4,Cjk hk,Chy hk]
 by_cases h0:0<k
 ·rw[if_pos (by rw[Am];simp;omega)]
  by_cases h1:s.toNat<2^(k+4)
  ·rw[if_pos (by simp[h1]),Cgd h0 h1,Bc (by omega) (by omega)];congr 1;omega
  ·rw[if_neg (by simp;omega)]
   by_cases h2:k<24
   ·rw[if_pos (by rw[Af];simp;omega)]
    by_cases h3:2^(k+5)<s.toNat
    ·rw[if_pos (by simp[h3]),Cgk (fun h=>h1 h.2) h2 h3,Ag (by omega) (by omega)];rfl
    ·rw[if_neg (by simp;omega),Bu9 (fun h=>h1 h.2) (fun h=>h3 h.2)]
   ·rw[if_neg (by rw[Af];simp;omega),Bu9 (fun h=>h1 h.2) (fun h=>h2 h.1)]
 ·rw[if_neg (by rw[Am];simp;omega)]
  by_cases h2:k<24
  ·rw[if_pos (by rw[Af];simp;omega)]
   by_cases h3:2^(k+5)<s.toNat
   ·rw[if_pos (by simp[h3]),Cgk (fun h=>h0 h.1) h2 h3,Ag (by omega) (by omega)];rfl
   ·rw[if_neg (by simp;omega),Bu9 (fun h=>h0 h.1) (fun h=>h3 h.2)]
  ·rw[if_neg (by rw[Af];simp;omega),Bu9 (fun h=>h0 h.1) (fun h=>h2 h.1)]
theorem Bvt(k:Nat)(hk:k≤24)(s n:UInt64):Us (k:Int) s n=some (((kS k (Ut s n):Nat):Int),Ut s n):=by
 have g1:Ad (k:Int) 4=((k+4:Nat):Int):=by rw[Ag (by omega) (by omega)];omega
 have g2:Ad (k:Int) 5=((k+5:Nat):Int):=by rw[Ag (by omega) (by omega)];omega
 have hp:Wb (k:Int) s n=some (if k<24∧2^(k+5)<(Ut s n).toNat then((k+1:Nat):Int)else(k:Int),Ut s n):=by
  rw[Wb,Ahw,g2,Ahm _ (by omega),Aa,Bt6,Am4,Am9 (by omega)]
  by_cases h2:k<24
  ·rw[if_pos (by rw[Af];simp;omega)]
   by_cases h3:2^(k+5)<(Ut s n).toNat
   ·rw[if_pos (by simp[h3]),if_pos ⟨h2,h3⟩,Ag (by omega) (by omega)];rfl
   ·rw[if_neg (by simp;omega),if_neg (fun h=>h3 h.2)]
  ·rw[if_neg (by rw[Af];simp;omega),if_neg (fun h=>h2 h.1)]
 rw[Us,Agk,g1,Ahm _ (by omega),Aa,Bt6,Be6,Am9 (by omega),hp]
 by_cases h0:0<k
 ·rw[if_pos (by rw[Am];simp;omega)]
  by_cases h1:(Ut s n).toNat<2^(k+4)
  ·rw[if_pos (by simp[h1]),Cgd h0 h1,Bc (by omega) (by omega)];congr 2;omega
  ·rw[if_neg (by simp;omega),Bt4 (fun h=>h1 h.2)]
 ·rw[if_neg (by rw[Am];simp;omega),Bt4 (fun h=>h0 h.1)]
def n64(v:UInt32):UInt64:=UInt64.ofNat v.toNat
theorem Cav(v:UInt32):(n64 v).toNat≤4294967295:=by have:=v.toNat_lt;rw[n64,UInt64.toNat_ofNat',Nat.mod_eq_of_lt (by omega)];omega
def As7(k:Nat)(v:UInt32):UInt32:=UInt32.ofNat (v.toNat-2^k)
def lK(l:Nat)(t:UInt64)(k:Nat)(v:UInt32):Nat:=if v.toNat<2^k then l else kS l (Ut t (n64 (As7 k v)))
def lT(t:UInt64)(k:Nat)(v:UInt32):UInt64:=if v.toNat<2^k then t else Ut t (n64 (As7 k v))
theorem Cbe{k l:Nat}{s t:UInt64}(h:okD k l s t)(v:UInt32):okD (kS k (Ut s (n64 v))) (lK l t k v) (Ut s (n64 v)) (lT t k v):=by
 obtain⟨h1,h2,h3,h4⟩:=h
 refine⟨Cgs h1 _,?_,Bvf h3 (Cav v),?_⟩
 ·unfold lK;split; · exact h2
  exact Cgs h2 _
 ·unfold lT;split; · exact h4
  exact Bvf h4 (Cav _)
theorem Ch0(k l:Nat)(s t:UInt64)(hk:k≤24)(v:UInt32):Ae5 (k:Int) (l:Int) s t v=some (decide (v.toNat<2^k)):=by
 have:=v.toNat_lt
 rw[Ae5,Ahm k (by omega),Aa,Be6,Am9 (by omega),Cr,UInt64.toNat_ofNat',Nat.mod_eq_of_lt (by omega)]
theorem left_eq(k l:Nat)(s t:UInt64)(hk:k≤24)(v:UInt32)(h:¬v.toNat<2^k):Acd (k:Int) (l:Int) s t v=some (As7 k v):=by
 have:=v.toNat_lt
 have e2:∀x:UInt64,(Ae x:UInt32)=UInt32.ofNat x.toNat:=fun x=>by simp only[Ae,Ii,Eo]
 have e3:(UInt64.ofNat v.toNat).toNat=v.toNat:=by rw[UInt64.toNat_ofNat',Nat.mod_eq_of_lt (by omega)]
 rw[Acd,Ahm k (by omega),Aa,e2,Az9,Cr,UInt64.toNat_sub_of_le _ _ (by rw[UInt64.le_iff_toNat_le,Am9 (by omega),e3];omega),Am9 (by omega),e3,As7]
theorem Bx3{k l:Nat}{s t:UInt64}(h:okD k l s t)(v:UInt32):Xn (k:Int) (l:Int) s t v=some (((kS k (Ut s (n64 v)):Nat):Int),((lK l t k v:Nat):Int),Ut s (n64 v),lT t k v):=by
 obtain⟨h1,h2,h3,h4⟩:=h
 have hp:∀(r1:Int) (r2:UInt64),Rl v (k:Int) (l:Int) s t r1 r2=some (((kS k (Ut s (n64 v)):Nat):Int),r1,Ut s (n64 v),r2):=by
  intro r1 r2
  rw[Rl,Adi,Cr,Bvt k h1,Aa];rfl
 rw[Xn,Adv,Ch0 k l s t h1,Aa]
 by_cases hv:v.toNat<2^k
 ·rw[if_neg (by simp[hv]),hp,lK,if_pos hv,lT,if_pos hv]
 ·rw[if_pos (by simp;omega),left_eq k l s t h1 v hv,Aa,Cr,Bvt l h2,Aa]
  simp only
  rw[hp,lK,if_neg hv,lT,if_neg hv];rfl
theorem Bit(k l:Nat)(s t:UInt64)(hk:k≤24)(v:UInt32):Afa (k:Int) (l:Int) s t v=some (if v.toNat<2^k then(0,v)else(1,As7 k v)):=by
 have hp:2^k≤2^24:=Nat.pow_le_pow_right (by omega) hk
 have hpos:0<2^k:=Nat.pow_pos (by omega)
 have hl:=v.toNat_lt
 have z:(GI.toZ (k:Int)).toNat=k:=rfl
 have e1:geq (Bo v k) (0:UInt32)=decide (v.toNat<2^k):=by
  rw[Bmg,Bool.eq_iff_iff]
  simp only[beq_iff_eq,←UInt32.toNat_inj,Ahp,decide_eq_true_eq]
  show _/_=0↔_
  rw[Nat.div_eq_zero_iff];omega
 have e2:¬v.toNat<2^k→Ah v (Cm (1:UInt32) k)=As7 k v:=by
  intro h
  have e3:(Cm (1:UInt32) k).toNat=2^k:=by rw[Awc];show 1*2^k %_=_;rw[Nat.mod_eq_of_lt (by omega),Nat.one_mul]
  apply UInt32.toNat_inj.1
  rw[Bft,UInt32.toNat_sub_of_le _ _ (by rw[UInt32.le_iff_toNat_le,e3];omega),e3,As7,Anf (by omega)]
 rw[Afa,Ay (by rw[Cl];simp),Aa,Aa,z,e1]
 by_cases h:v.toNat<2^k
 ·rw[if_pos (by simp[h]),if_pos h]
 ·rw[if_neg (by simp;omega),if_neg h,e2 h]
abbrev Rd:=UInt32×Int×Int×Int×UInt64×UInt64×Int
theorem Bix{k l:Nat}{s t:UInt64}(h:okD k l s t)(v:UInt32)(r:Int):Ajq (k:Int) (l:Int) s t v r=some (v,r,((kS k (Ut s (n64 v)):Nat):Int),((lK l t k v:Nat):Int),Ut s (n64 v),lT t k v,0):=by
 obtain⟨h1,h2,h3,h4⟩:=h
 have hp:∀(x:Int) (y:UInt64),Ade v r (k:Int) s x y=some (v,r,((kS k (Ut s (n64 v)):Nat):Int),x,Ut s (n64 v),y,0):=by
  intro x y
  rw[Ade,Asl,Cr,Aqp,Bt8 k h1]
  rw[Arj,Asj,Aow,Axy,Cr,Aqp];rfl
 rw[Ajq,Arw,Bit k l s t h1,Aa]
 by_cases hv:v.toNat<2^k
 ·rw[if_pos hv]
  simp only
  rw[if_neg (by rw[Bb];simp),hp,lK,if_pos hv,lT,if_pos hv]
 ·rw[if_neg hv]
  simp only
  rw[if_pos (by rw[Bb];rfl),Cr,Aqp,Bt8 l h2 _ (fun x=>Ade v r (k:Int) s x (Ut t (UInt64.ofNat (As7 k v).toNat))),hp,lK,if_neg hv,lT,if_neg hv];rfl
def dgS(p:List UInt8)(N a k l:Nat):UInt32×Int×Int:=
 if N≤a then(0,0,24)else
 if Fv p a=0 then(if N<a+1+k then(0,0,24)else(UInt32.ofNat (Bk p (a+1) k),((a+1+k:Nat):Int),0))else
 if(rcS p N (a+1) l).2.2≠0 then(0,0,(rcS p N (a+1) l).2.2)else
 if 4294967295<(rcS p N (a+1) l).1.toNat+2^k then(0,0,12)else(UInt32.ofNat ((rcS p N (a+1) l).1.toNat+2^k),(rcS p N (a+1) l).2.1,0)
theorem Chm{p:List UInt8}{N a k l:Nat}(h:(dgS p N a k l).2.2=0):(a:Int)<(dgS p N a k l).2.1∧(dgS p N a k l).2.1≤N:=by
 revert h
 unfold dgS
 split
 ·simp
 split
 ·split
  ·simp
  ·simp only;omega
 ·split
  ·intro h;contradiction
  ·rename_i h1
   split
   ·simp
   ·intro _
    have:=Cha (p:=p) (N:=N) (a:=a+1) (k:=l) (v:=(rcS p N (a+1) l).1) (n:=(rcS p N (a+1) l).2.1) (by
     have e:(rcS p N (a+1) l).2.2=0:=by simpa using h1
     rw[←e])
    simp only;omega
theorem Cft{p:List UInt8}{N:Nat}(h:okB p N)(a:Nat){k l:Nat}{s t:UInt64}(hd:okD k l s t):Ae4 p (N:Int) (a:Int) (k:Int) (l:Int) s t=
  some (if(dgS p N a k l).2.2≠0 then(0,0,0,0,0,0,(dgS p N a k l).2.2)else((dgS p N a k l).1,(dgS p N a k l).2.1,((kS k (Ut s (n64 (dgS p N a k l).1)):Nat):Int),((lK l t k (dgS p N a k l).1:Nat):Int),Ut s (n64 (dgS p N a k l).1),lT t k (dgS p N a k l).1,0)):=by
 obtain⟨h1,h2,h3,h4⟩:=hd
 have hd:okD k l s t:=⟨h1,h2,h3,h4⟩
 have hN:=h.1
 have hg:=Bck h a 1 (by omega)
 have hb:=Yj p a
 rw[Ae4,Ary,Wm h,Aa,if_neg (by rw[Aj];simp),Cb4 hd,Aa,if_neg (by rw[Aj];simp),Arx,Arm]
 refine Eq.trans (congrArg (fun o=>Option.bind o _) hg) ?_
 rw[Aa]
 by_cases ha:N≤a
 ·have hS:dgS p N a k l=(0,0,24):=by rw[dgS,if_pos ha]
  rw[if_pos (by omega),hS];rfl
 rw[if_neg (by omega)]
 simp only
 have e0:geq (Ni p a 1) (0:UInt64)=decide (Fv p a=0):=by
  rw[Be0,Bool.eq_iff_iff]
  simp only[beq_iff_eq,←UInt64.toNat_inj,decide_eq_true_eq,Ux p a 1 (by omega),Baq];rfl
 have e1:Ad (a:Int) 1=((a+1:Nat):Int):=by rw[Ag (by omega) (by omega)];omega
 rw[if_neg (by rw[Aj];simp),e0,e1]
 by_cases hz:Fv p a=0
 ·rw[if_pos (by simp[hz]),Bck h (a+1) k (by omega),Aa]
  by_cases h5:N<a+1+k
  ·have hS:dgS p N a k l=(0,0,24):=by rw[dgS,if_neg ha,if_pos hz,if_pos h5]
   rw[if_pos h5,hS];rfl
  ·have hS:dgS p N a k l=(UInt32.ofNat (Bk p (a+1) k),((a+1+k:Nat):Int),0):=by rw[dgS,if_neg ha,if_pos hz,if_neg h5]
   rw[if_neg h5,hS]
   simp only
   rw[if_neg (by rw[Aj];simp),Bix hd,Bap (by omega),Ag (by omega) (by omega)];rfl
 ·rw[if_neg (by simp[hz]),Cdh h (a+1) l h2,Aa]
  have hp:2^k≤2^24:=Nat.pow_le_pow_right (by omega) h1
  by_cases h5:(rcS p N (a+1) l).2.2≠0
  ·have hS:dgS p N a k l=(0,0,(rcS p N (a+1) l).2.2):=by rw[dgS,if_neg ha,if_neg hz,if_pos h5]
   rw[hS]
   generalize rcS p N (a+1) l=R at*
   obtain⟨v,n,e⟩:=R
   simp only at*
   rw[if_pos (by rw[Aj];simpa using h5),if_pos h5]
  ·have hv:=(rcS p N (a+1) l).1.toNat_lt
   have z:(GI.toZ (k:Int)).toNat=k:=rfl
   have e3:(Cm (1:UInt32) k).toNat=2^k:=by rw[Awc];show 1*2^k %_=_;rw[Nat.mod_eq_of_lt (by omega),Nat.one_mul]
   by_cases h6:4294967295<(rcS p N (a+1) l).1.toNat+2^k
   ·have hS:dgS p N a k l=(0,0,12):=by rw[dgS,if_neg ha,if_neg hz,if_neg h5,if_pos h6]
    rw[hS]
    generalize rcS p N (a+1) l=R at*
    obtain⟨v,n,e⟩:=R
    simp only at*
    rw[if_neg (by rw[Aj];simpa using h5),Ay (by rw[Cl];simp),Aa,z,if_pos (by rw[Bt2,Bf4,UInt32.toNat_add,e3];simp;omega),if_pos (by decide)]
   ·have hS:dgS p N a k l=(UInt32.ofNat ((rcS p N (a+1) l).1.toNat+2^k),(rcS p N (a+1) l).2.1,0):=by rw[dgS,if_neg ha,if_neg hz,if_neg h5,if_neg h6]
    rw[hS]
    generalize rcS p N (a+1) l=R at*
    obtain⟨v,n,e⟩:=R
    simp only at*
    have e4:Ad v (Cm (1:UInt32) k)=UInt32.ofNat (v.toNat+2^k):=by
     apply UInt32.toNat_inj.1
     rw[Bf4,UInt32.toNat_add,e3,Anf (by omega),Nat.mod_eq_of_lt (by omega)]
    rw[if_neg (by rw[Aj];simpa using h5),Ay (by rw[Cl];simp),Aa,z,if_neg (by rw[Bt2,Bf4,UInt32.toNat_add,e3];simp;omega),e4,Bix hd];rfl
theorem Cay{p:List UInt8}{N:Nat}(h:okB p N)(a:Nat)(k l:Nat)(s t:UInt64)(h1:k≤24)(h2:l≤24):Afq p (N:Int) (a:Int) (k:Int) (l:Int) s t=some (dgS p N a k l):=by
 have hN:=h.1
 have hl:=h.2.1
 have hb:=Yj p a
 rw[Afq]
 by_cases ha:N≤a
 ·rw[if_pos (by rw[Cl];simp;omega),dgS,if_pos ha]
 rw[if_neg (by rw[Cl];simp;omega),Bch p _ a (by omega) (by omega),Aa,Bc (a:=(N:Int)) (b:=(a:Int)) (by omega) (by omega),Bc (by omega) (by omega)]
 have e1:Ad (a:Int) 1=((a+1:Nat):Int):=by rw[Ag (by omega) (by omega)];omega
 rw[e1]
 by_cases hz:Fv p a=0
 ·rw[if_pos (by rw[Bb];simp[hz])]
  by_cases h5:N<a+1+k
  ·rw[if_pos (by rw[Af];simp;omega),dgS,if_neg ha,if_pos hz,if_pos h5]
  ·rw[if_neg (by rw[Af];simp;omega),Azp p _ (a+1) k (by omega) (by omega),Aa,dgS,if_neg ha,if_pos hz,if_neg h5,Bap (by omega),Ag (by omega) (by omega)];rfl
 ·rw[if_neg (by rw[Bb];simp;omega),Bzb h (a+1) l h2,Aa]
  have hp:2^k≤2^24:=Nat.pow_le_pow_right (by omega) h1
  have hv:=(rcS p N (a+1) l).1.toNat_lt
  have e2:∀x:UInt64,(Ae x:UInt32)=UInt32.ofNat x.toNat:=fun x=>by simp only[Ae,Ii,Eo]
  by_cases h5:(rcS p N (a+1) l).2.2≠0
  ·have hS:dgS p N a k l=(0,0,(rcS p N (a+1) l).2.2):=by rw[dgS,if_neg ha,if_neg hz,if_pos h5]
   rw[hS]
   generalize rcS p N (a+1) l=R at*
   obtain⟨v,n,e⟩:=R
   simp only at*
   rw[if_pos (by rw[Aj];simpa using h5)]
  ·have hsum:∀v:UInt32,(Ad (Ae v:UInt64) (UInt64.ofNat (2^k))).toNat=v.toNat+2^k:=by
    intro v
    have:=v.toNat_lt
    have:=Nat.pow_pos (n:=k) (show 0<2 by omega)
    rw[Ag2,UInt64.toNat_add,Cr,Am9 (by omega),UInt64.toNat_ofNat'];omega
   by_cases h6:4294967295<(rcS p N (a+1) l).1.toNat+2^k
   ·have hS:dgS p N a k l=(0,0,12):=by rw[dgS,if_neg ha,if_neg hz,if_neg h5,if_pos h6]
    rw[hS]
    generalize rcS p N (a+1) l=R at*
    obtain⟨v,n,e⟩:=R
    simp only at*
    rw[if_neg (by rw[Aj];simpa using h5),Ahm k (by omega),Aa,if_pos (by rw[Am4,hsum];simpa using h6)]
   ·have hS:dgS p N a k l=(UInt32.ofNat ((rcS p N (a+1) l).1.toNat+2^k),(rcS p N (a+1) l).2.1,0):=by rw[dgS,if_neg ha,if_neg hz,if_neg h5,if_neg h6]
    rw[hS]
    generalize rcS p N (a+1) l=R at*
    obtain⟨v,n,e⟩:=R
    simp only at*
    rw[if_neg (by rw[Aj];simpa using h5),Ahm k (by omega),Aa,if_neg (by rw[Am4,hsum];simpa using h6),e2,hsum]
end Go.Pl
set_option linter.unusedVariables false
set_option linter.unusedSimpArgs false
namespace Go.Pl
open Go Go.Lv
abbrev DuN:=Nat×Nat×UInt64×UInt64
def okN(d:DuN):Prop:=okD d.1 d.2.1 d.2.2.1 d.2.2.2
def nxt(d:DuN)(v:UInt32):DuN:=(kS d.1 (Ut d.2.2.1 (n64 v)),lK d.2.1 d.2.2.2 d.1 v,Ut d.2.2.1 (n64 v),lT d.2.2.2 d.1 v)
def Bl8:DuN:=(10,10,16384,16384)
theorem By7:okN Bl8:=⟨by decide,by decide,by decide,by decide⟩
theorem Cie{d:DuN}(h:okN d)(v:UInt32):okN (nxt d v):=Cbe h v
abbrev DuL:=Int×Int×UInt64×UInt64×Unit
def toI(d:DuN):DuL:=((d.1:Int),(d.2.1:Int),d.2.2.1,d.2.2.2,())
def chP(ch:Nat)(v:List UInt32)(c:Nat):Nat→DuN
 |0=>Bl8
 |m+1=>if m %ch=c then nxt (chP ch v c m) (v.getD m 0)else chP ch v c m
theorem Ava(ch:Nat)(v:List UInt32)(c:Nat):∀m,okN (chP ch v c m)
 |0=>By7
 |m+1=>by rw[chP];split;exact Cie (Ava ch v c m) _;exact Ava ch v c m
theorem Bu5(ch:Nat)(v w:List UInt32)(c:Nat):∀m,m≤v.length→chP ch (v++w) c m=chP ch v c m
 |0,_=>rfl
 |m+1,h=>by
  have e:(v++w).getD m 0=v.getD m 0:=by simp[List.getD_eq_getElem?_getD,List.getElem?_append_left (show m<v.length by omega)]
  rw[chP,chP,Bu5 ch v w c m (by omega),e]
theorem Bnk(ch:Nat)(v:List UInt32)(c:Nat):∀m,m≤c→c<ch→chP ch v c m=Bl8
 |0,_,_=>rfl
 |m+1,h,h2=>by rw[chP,if_neg (by rw[Nat.mod_eq_of_lt (by omega)];omega),Bnk ch v c m (by omega) h2]
theorem Brx(ch:Nat)(v:List UInt32)(c i:Nat)(hi:i %ch=c)(hc:c<ch):∀j,j<ch→chP ch v c (i+1+j)=chP ch v c (i+1)
 |0,_=>rfl
 |j+1,h=>by
  have hne:(i+1+j) %ch≠c:=by
   intro e
   have h1:(i+(1+j)) %ch=i %ch:=by rw[hi,←e];congr 1;omega
   have h2:(1+j) %ch=0:=by
    have h3:=Nat.sub_mod_eq_zero_of_mod_eq h1
    rwa [Nat.add_sub_cancel_left]at h3
   rw[Nat.mod_eq_of_lt (by omega)]at h2;omega
  rw[show i+1+(j+1)=(i+1+j)+1 by omega,chP,if_neg hne,Brx ch v c i hi hc j (by omega)]
theorem Cb6(ch:Nat)(v:List UInt32)(c i:Nat)(hi:i %ch=c)(hc:c<ch):chP ch v c (i+ch)=nxt (chP ch v c i) (v.getD i 0):=by
 have h:=Brx ch v c i hi hc (ch-1) (by omega)
 rw[show i+1+(ch-1)=i+ch by omega]at h
 rw[h,chP,if_pos hi]
theorem Ba1{l:List UInt32}{k:Nat}(h:k<l.length):getI l (k:Int)=some (l.getD k 0):=by
 rw[Bu h];simp[List.getD_eq_getElem?_getD,h]
theorem Ae8(a b:Nat):Ff (a:Int) (b:Int)=((a %b:Nat):Int):=by rw[Ff,Int.tmod_eq_emod_of_nonneg (by omega)];omega
theorem Bep(ch:Nat)(v:List UInt32)(hch:1≤ch)(hch6:ch≤6)(hv:v.length≤4000):∀(j i q:Nat),i %ch=v.length %ch→i≤v.length→v.length-i≤j→j<q→
  Lt (ch:Int) v q (i:Int) ((chP ch v (v.length %ch) i).1:Int) ((chP ch v (v.length %ch) i).2.1:Int) (chP ch v (v.length %ch) i).2.2.1 (chP ch v (v.length %ch) i).2.2.2=
   some (((chP ch v (v.length %ch) v.length).1:Int),((chP ch v (v.length %ch) v.length).2.1:Int),(chP ch v (v.length %ch) v.length).2.2.1,(chP ch v (v.length %ch) v.length).2.2.2)
 |j,i,q+1,hi,hl,hj,hq=>by
  have hc:v.length %ch<ch:=Nat.mod_lt _ (by omega)
  rw[Lt,Acu]
  by_cases h:i<v.length
  ·have h1:=Bx3 (Ava ch v (v.length %ch) i) (v.getD i 0)
   rw[if_pos (by rw[Af,Ac];simp;omega),Ba1 h,Aa,h1,Aa]
   have hle:i+ch≤v.length:=by
    have h2:=Nat.div_add_mod i ch
    have h3:=Nat.div_add_mod v.length ch
    rw[hi]at h2
    have h4:ch*(i/ch)<ch*(v.length/ch):=by omega
    have h5:=Nat.lt_of_mul_lt_mul_left h4
    have h6:ch*(i/ch+1)≤ch*(v.length/ch):=Nat.mul_le_mul_left _ h5
    rw[Nat.mul_add]at h6;omega
   have ih:=Bep ch v hch hch6 hv (j-ch) (i+ch) q (by rw[Nat.add_mod_right];exact hi) hle (by omega) (by omega)
   rw[Cb6 ch v _ i hi hc]at ih
   simp only
   rw[Ag (by omega) (by omega)]
   exact ih
  ·rw[if_neg (by rw[Af,Ac];simp;omega),show i=v.length by omega];rfl
theorem Bwi(ch:Nat)(v:List UInt32)(hch:1≤ch)(hch6:ch≤6)(hv:v.length≤4000):Pm (ch:Int) v=some (((chP ch v (v.length %ch) v.length).1:Int),((chP ch v (v.length %ch) v.length).2.1:Int),(chP ch v (v.length %ch) v.length).2.2.1,(chP ch v (v.length %ch) v.length).2.2.2):=by
 have hc:v.length %ch<ch:=Nat.mod_lt _ (by omega)
 have hle:v.length %ch≤v.length:=Nat.mod_le _ _
 have h:=Bep ch v hch hch6 hv v.length (v.length %ch) Al (by rw[Nat.mod_mod]) hle (by omega) (by have:=Ak;omega)
 rw[Bnk ch v _ _ (Nat.le_refl _) hc]at h
 rw[Pm,Acx,Mw,Aa]
 simp only
 rw[Ay (by rw[Aj];simp;omega),Aa,Ac,Ae8]
 exact h
def now(ch:Nat)(v:List UInt32):DuN:=chP ch v (v.length %ch) v.length
def win(N a:Nat):Nat:=min 81 (N-a)
def Lf(ch:Nat)(p:List UInt8)(N a:Nat)(out:List UInt32):UInt32×Int×Int:=dgS (Oi p a (win N a)) (win N a) 0 (now ch out).1 (now ch out).2.1
def Wq(ch:Nat)(p:List UInt8)(N:Nat):Nat→Nat→List UInt32→List UInt32×Nat×Int
 |0,a,out=>(out,a,0)
 |j+1,a,out=>if(Lf ch p N a out).2.2≠0 then(out,a,(Lf ch p N a out).2.2)else Wq ch p N j (a+(Lf ch p N a out).2.1.toNat) (out++[(Lf ch p N a out).1])
theorem Awy{ch:Nat}{p:List UInt8}{N a:Nat}{out:List UInt32}(h:(Lf ch p N a out).2.2=0):0<(Lf ch p N a out).2.1∧(Lf ch p N a out).2.1≤win N a:=by
 have:=Chm h
 exact⟨this.1,this.2⟩
theorem Bjz{ch:Nat}{p:List UInt8}{N a:Nat}{out:List UInt32}(h:(Lf ch p N a out).2.2=0):((a:Int)+(Lf ch p N a out).2.1)=((a+(Lf ch p N a out).2.1.toNat:Nat):Int):=by
 have:=Awy h;omega
def sts(ch:Nat)(v:List UInt32):List DuL:=(List.range 6).map fun c=>toI (chP ch v c v.length)
theorem Bnn{ch:Nat}{v:List UInt32}{c:Nat}(h:c<6):getI (sts ch v) (c:Int)=some (toI (chP ch v c v.length)):=by
 rw[Bu (by simp[sts];exact h)];simp[sts]
theorem Buq{ch:Nat}{v:List UInt32}{c:Nat}(x:UInt32)(h:c<6)(hc:c=v.length %ch):Ji (sts ch v) (c:Int) (toI (nxt (chP ch v c v.length) x))=some (sts ch (v++[x])):=by
 rw[Oz _ (by simp[sts];exact h)]
 congr 1
 apply List.ext_getElem (by simp[sts])
 intro i h1 h2
 rw[List.getElem_set]
 simp only[sts,List.getElem_map,List.getElem_range]
 have e:(v++[x]).getD v.length 0=x:=by simp
 rw[List.length_append,List.length_singleton,chP,e,Bu5 ch v [x] i v.length (Nat.le_refl _)]
 by_cases hi:c=i
 ·subst hi;rw[if_pos rfl,if_pos hc.symm]
 ·rw[if_neg hi,if_neg (by omega)]
theorem Cew{ch:Nat}{v:List UInt32}{c:Nat}(hc:c=v.length %ch):chP ch v c v.length=now ch v:=by rw[now,hc]
section
variable {p:List UInt8} {N ch n:Nat}
theorem Bqe(hp:okB p N)(h1:1≤ch)(h6:ch≤6)(hn:n*ch≤4000):∀(j a q:Nat) (out:List UInt32),out.length+j=n*ch→j<q→a≤N→
  Mk (ch:Int) (n:Int) p (N:Int) q (a:Int) (out.length:Int) (sts ch out) out=
   some (if(Wq ch p N j a out).2.2≠0 then([],0,(Wq ch p N j a out).2.2)else((Wq ch p N j a out).1,((Wq ch p N j a out).2.1:Int),0))
 |j,a,q+1,out,hj,hq,ha=>by
  have hN:=hp.1
  have hnn:n≤n*ch:=Nat.le_mul_of_pos_right n (by omega)
  have em:Ar (n:Int) (ch:Int)=((n*ch:Nat):Int):=by rw[Fq (by rw[←Int.natCast_mul];omega) (by rw[←Int.natCast_mul];omega),Int.natCast_mul]
  rw[Mk,Rk,em]
  cases j with
  |zero=>
   rw[if_neg (by rw[Af];simp;omega)];rfl
  |succ j=>
   have hc:out.length %ch<6:=Nat.lt_of_lt_of_le (Nat.mod_lt _ (by omega)) h6
   have ew:Dx (Ad (a:Int) 81) (N:Int)=((a+win N a:Nat):Int):=by rw[Afb,Ag (by omega) (by omega)];unfold win;omega
   have hw:a+win N a≤N:=by unfold win;omega
   have hw2:win N a≤81:=by unfold win;omega
   have hd:=Cft (Bbm p a (win N a) (by omega)) 0 (Ava ch out (out.length %ch) out.length)
   have ecode:dgS (Oi p a (win N a)) (win N a) 0 (chP ch out (out.length %ch) out.length).1 (chP ch out (out.length %ch) out.length).2.1=Lf ch p N a out:=rfl
   rw[if_pos (by rw[Af];simp;omega),ew,Cgv hp a _ hw (by omega),Aa]
   simp only
   rw[if_neg (by rw[Aj];simp),Ay (by rw[Aj];simp;omega),Aa,Ae8,Bnn hc,Aa,Aa]
   refine Eq.trans (congrArg (fun o=>Option.bind o _) hd) ?_
   rw[Aa,ecode,Wq]
   by_cases he:(Lf ch p N a out).2.2≠0
   ·rw[if_pos he,if_pos he]
    simp only
    rw[Rq,Rw,if_pos (by rw[Aj];simpa using he),if_pos he]
   ·have he0:(Lf ch p N a out).2.2=0:=by simpa using he
    have hok:=Awy he0
    have hset:=Buq (ch:=ch) (v:=out) (Lf ch p N a out).1 hc rfl
    rw[if_neg he,if_neg he]
    simp only
    rw[Rq,Rw,if_neg (by rw[Aj];simp),Ay (by rw[Aj];simp;omega),Aa,Ae8,Bnn hc,Aa]
    refine Eq.trans (congrArg (fun o=>Option.bind o _) hset) ?_
    rw[Aa,Zf,Amd,Bt (by simp;omega),Aa,Ag (by omega) (by omega),Ag (by omega) (by omega),Bjz he0]
    have ih:=Bqe hp h1 h6 hn j (a+(Lf ch p N a out).2.1.toNat) q (out++[(Lf ch p N a out).1]) (by simp;omega) (by omega) (by omega)
    rw[List.length_append,List.length_singleton]at ih
    exact ih
theorem Bt9{p:List UInt8}(hN:N=8*p.length)(hN2:N≤330000)(h1:1≤ch)(h6:ch≤6)(hn:n*ch≤4000):∀(j a q:Nat) (out:List UInt32),out.length+j=n*ch→j<q→a≤N→
  Eu (ch:Int) (n:Int) p q (a:Int) (out.length:Int) out=
   if(Wq ch p N j a out).2.2≠0 then some ((Wq ch p N j a out).1,(Wq ch p N j a out).2.2)else Tu ((Wq ch p N j a out).2.1:Int) p (Wq ch p N j a out).1
 |j,a,q+1,out,hj,hq,ha=>by
  have hnn:n≤n*ch:=Nat.le_mul_of_pos_right n (by omega)
  have em:Ar (n:Int) (ch:Int)=((n*ch:Nat):Int):=by rw[Fq (by rw[←Int.natCast_mul];omega) (by rw[←Int.natCast_mul];omega),Int.natCast_mul]
  have e8:Ar (8:Int) (Ac p)=(N:Int):=by rw[Ac,Fq (by omega) (by omega)];omega
  rw[Eu,Aes,em]
  cases j with
  |zero=>
   rw[if_neg (by rw[Af];simp;omega)];rfl
  |succ j=>
   have ew:Dx (Ad (a:Int) 81) (N:Int)=((a+win N a:Nat):Int):=by rw[Afb,Ag (by omega) (by omega)];unfold win;omega
   have hw:a+win N a≤N:=by unfold win;omega
   have hw2:win N a≤81:=by unfold win;omega
   have hpre:(Option.bind Mw fun(r_4,r_5,r_6,r_7)=>
     if(Ly (out.length:Int) (ch:Int))=true then(
     Option.bind (Pm (ch:Int) out) fun(r_8,r_9,r_10,r_11)=>
     Iu (Eu (ch:Int) (n:Int) p q) (ch:Int) (n:Int) p (a:Int) (out.length:Int) out r_8 r_9 r_10 r_11)
     else Iu (Eu (ch:Int) (n:Int) p q) (ch:Int) (n:Int) p (a:Int) (out.length:Int) out r_4 r_5 r_6 r_7)=
     Iu (Eu (ch:Int) (n:Int) p q) (ch:Int) (n:Int) p (a:Int) (out.length:Int) out ((now ch out).1:Int) ((now ch out).2.1:Int) (now ch out).2.2.1 (now ch out).2.2.2:=by
    rw[Mw,Aa]
    by_cases hc:ch≤out.length
    ·simp only
     rw[if_pos (by rw[Cl];simp;omega),Bwi ch out h1 h6 (by omega),Aa];rfl
    ·have e:now ch out=Bl8:=by rw[now,Nat.mod_eq_of_lt (by omega),Bnk ch out _ _ (Nat.le_refl _) (by omega)]
     simp only
     rw[if_neg (by rw[Cl];simp;omega),e];rfl
   have hd:=Cay (Bbm p a (win N a) (by omega)) 0 (now ch out).1 (now ch out).2.1 (now ch out).2.2.1 (now ch out).2.2.2 (Ava ch out _ _).1 (Ava ch out _ _).2.1
   have ecode:dgS (Oi p a (win N a)) (win N a) 0 (now ch out).1 (now ch out).2.1=Lf ch p N a out:=rfl
   rw[if_pos (by rw[Af];simp;omega),hpre,Iu,Aef,e8,ew,Bqd p (N:Int) a _ (by omega) (by omega) (by omega),Aa]
   simp only
   refine Eq.trans (congrArg (fun o=>Option.bind o _) hd) ?_
   rw[Aa,ecode,Wq]
   by_cases he:(Lf ch p N a out).2.2≠0
   ·rw[if_pos he,if_pos (by rw[Aj];simpa using he),if_pos he]
   ·have he0:(Lf ch p N a out).2.2=0:=by simpa using he
    have hok:=Awy he0
    have ih:=Bt9 hN hN2 h1 h6 hn j (a+(Lf ch p N a out).2.1.toNat) q (out++[(Lf ch p N a out).1]) (by simp;omega) (by omega) (by omega)
    have hx:=Bjz he0
    rw[List.length_append,List.length_singleton]at ih
    rw[if_neg he]
    generalize Lf ch p N a out=R at*
    obtain⟨v,nx,e⟩:=R
    simp only at*
    rw[if_neg (by rw[Aj];simpa using he),Bt (by simp;omega),Aa,Ag (by omega) (by omega),Ag (by omega) (by omega),hx]
    exact ih
end
theorem Bl3{ch:Nat}{p:List UInt8}{N:Nat}:∀(j a:Nat) (out:List UInt32),a≤N→(Wq ch p N j a out).2.1≤N∧(Wq ch p N j a out).1.length≤out.length+j∧((Wq ch p N j a out).2.2=0→(Wq ch p N j a out).1.length=out.length+j)
 |0,a,out,h=>⟨h,Nat.le_refl _,fun _=>rfl⟩
 |j+1,a,out,h=>by
  rw[Wq]
  split
  ·rename_i he
   exact⟨h,by simp,fun e=>absurd e he⟩
  ·rename_i he
   have hok:=Awy (ch:=ch) (p:=p) (N:=N) (a:=a) (out:=out) (by simpa using he)
   have hw:a+win N a≤N:=by unfold win;omega
   have ih:=Bl3 (ch:=ch) (p:=p) (N:=N) j (a+(Lf ch p N a out).2.1.toNat) (out++[(Lf ch p N a out).1]) (by omega)
   rw[List.length_append,List.length_singleton]at ih
   exact⟨ih.1,by omega,fun e=>by have:=ih.2.2 e;omega⟩
theorem Bpd(ch n:Int)(b:List UInt8)(N:Int):Rp ch n b N 0 (List.replicate 6 ((0:Int),(0:Int),(0:UInt64),(0:UInt64),()))=Zh ch n b N (List.replicate 6 ((10:Int),(10:Int),(16384:UInt64),(16384:UInt64),())):=by
 have e:Al=(Al-7)+1+1+1+1+1+1+1:=by have:=Ak;omega
 rw[Rp,e]
 rfl
theorem values_eq{p:List UInt8}{N ch n:Nat}(hp:okB p N)(h1:1≤ch)(h6:ch≤6)(hn:n*ch≤4000):Adq (ch:Int) (n:Int) p (N:Int)=
  some (if(Wq ch p N (n*ch) 0 []).2.2≠0 then([],0,(Wq ch p N (n*ch) 0 []).2.2)else((Wq ch p N (n*ch) 0 []).1,((Wq ch p N (n*ch) 0 []).2.1:Int),0)):=by
 have h:=Bqe hp h1 h6 hn (n*ch) 0 Al [] (by simp) (by have:=Ak;omega) (by omega)
 rw[Adq,Abg,Bpd]
 exact h
theorem Bkr(p:List UInt8)(x:List UInt32)(N:Nat)(hN:N=8*p.length)(hN2:N≤330000):∀(j a q:Nat),a+j=N→j<q→Io p x q (a:Int)=some (x,if Bk p a j=0 then 0 else 12)
 |0,a,q+1,ha,_=>by
  have e8:Ar (8:Int) (Ac p)=(N:Int):=by rw[Ac,Fq (by omega) (by omega)];omega
  rw[Io,Tp,e8,if_neg (by rw[Af];simp;omega),Bk,if_pos rfl];rfl
 |j+1,a,q+1,ha,hq=>by
  have e8:Ar (8:Int) (Ac p)=(N:Int):=by rw[Ac,Fq (by omega) (by omega)];omega
  have hb:=Yj p a
  rw[Io,Tp,e8,if_pos (by rw[Af];simp;omega),Bch p _ a (by omega) (by omega),Aa,Bk]
  by_cases h:Fv p a=0
  ·rw[if_neg (by rw[Aj];simp[h]),Ag (by omega) (by omega),h]
   have ih:=Bkr p x N hN hN2 j (a+1) q (by omega) (by omega)
   rw[show((a:Int)+1)=((a+1:Nat):Int) by omega,ih]
   congr 2
   by_cases hv:Bk p (a+1) j=0
   ·rw[if_pos hv,if_pos (by omega)]
   ·rw[if_neg hv,if_neg (by omega)]
  ·rw[if_pos (by rw[Aj];simp;omega),if_neg (by omega)]
theorem Buk{p:List UInt8}{N ch n:Nat}(hN:N=8*p.length)(hN2:N≤330000)(h1:1≤ch)(h6:ch≤6)(hn:n*ch≤4000):Abl (ch:Int) (n:Int) p=
  some (if(Wq ch p N (n*ch) 0 []).2.2≠0 then((Wq ch p N (n*ch) 0 []).1,(Wq ch p N (n*ch) 0 []).2.2)else
   ((Wq ch p N (n*ch) 0 []).1,if 7<N-(Wq ch p N (n*ch) 0 []).2.1∨Bk p (Wq ch p N (n*ch) 0 []).2.1 (N-(Wq ch p N (n*ch) 0 []).2.1)≠0 then 12 else 0)):=by
 have h:=Bt9 hN hN2 h1 h6 hn (n*ch) 0 Al [] (by simp) (by have:=Ak;omega) (by omega)
 have hat:=(Bl3 (ch:=ch) (p:=p) (N:=N) (n*ch) 0 [] (by omega)).1
 have e8:Ar (8:Int) (Ac p)=(N:Int):=by rw[Ac,Fq (by omega) (by omega)];omega
 rw[Abl,Agi]
 refine Eq.trans h ?_
 generalize Wq ch p N (n*ch) 0 []=V at*
 obtain⟨v,a,e⟩:=V
 simp only at*
 by_cases he:e≠0
 ·rw[if_pos he,if_pos he]
 ·rw[if_neg he,if_neg he,Tu,Aej,e8,Bc (by omega) (by omega)]
  by_cases h7:7<N-a
  ·rw[if_pos (by rw[Am];simp;omega),if_pos (.inl h7)]
  ·rw[if_neg (by rw[Am];simp;omega),Aei,Bkr p v N hN hN2 (N-a) a Al (by omega) (by have:=Ak;omega)]
   by_cases hv:Bk p a (N-a)=0
   ·rw[if_pos hv,if_neg (by omega)]
   ·rw[if_neg hv,if_pos (.inr hv)]
end Go.Pl
set_option linter.unusedVariables false
set_option linter.unusedSimpArgs false
namespace Go.Pl
open Go Go.Lv
theorem Bl7(n:Int):(GI.ofZ n:Int32)=Int32.ofInt n:=rfl
theorem Af7(a:Int32):GI.toZ a=a.toInt:=rfl
theorem Apl(a b:Int32):Ad a b=a+b:=by
 rw[Ad,Af7,Af7,Bl7,Int32.ofInt_add,Int32.ofInt_toInt,Int32.ofInt_toInt]
theorem Aj8(a b:Int32):Ah a b=a-b:=by
 rw[Ah,Af7,Af7,Bl7,Int32.ofInt_sub,Int32.ofInt_toInt,Int32.ofInt_toInt]
theorem Bvv(a b:Int32):geq a b=(a==b):=by
 rw[geq,Af7,Af7,Bool.eq_iff_iff];simp[Int32.toInt_inj]
theorem Cd5(a b:Int32):Be a b=(a !=b):=by
 rw[Be,Af7,Af7,Bool.eq_iff_iff];simp[Int32.toInt_inj]
def sel(p:Nat→Bool)(a b:List Int32):List Int32:=(List.range a.length).map fun k=>if p k=true then a.getD k 0 else b.getD k 0
section
variable {p q:Nat→Bool} {a b:List Int32}
theorem Af4:(sel p a b).length=a.length:=by simp[sel]
theorem Hr{k:Nat}(h:k<a.length):a.getD k 0=a[k]:=by simp[List.getD_eq_getElem?_getD,h]
theorem Ra{k:Nat}(h:k<(sel p a b).length):(sel p a b)[k]=if p k=true then a.getD k 0 else b.getD k 0:=by simp[sel]
theorem Yv{k:Nat}(h:k<a.length):getI (sel p a b) (k:Int)=some (if p k=true then a.getD k 0 else b.getD k 0):=by
 rw[Bu (by rw[Af4];exact h),Ra]
theorem Tj(h:∀k,k<a.length→p k=q k):sel p a b=sel q a b:=by
 apply List.map_congr_left
 intro k hk
 rw[h k (List.mem_range.1 hk)]
theorem Ars{k:Nat}(h:k<a.length):Ji (sel p a b) (k:Int) (a.getD k 0)=some (sel (fun j=>p j||decide (j=k)) a b):=by
 rw[Oz _ (by rw[Af4];exact h)]
 congr 1
 apply List.ext_getElem (by simp[Af4])
 intro i h1 h2
 rw[List.getElem_set,Ra,Ra]
 by_cases hi:k=i
 ·subst hi;simp
 ·have:¬i=k:=fun e=>hi e.symm
  simp[hi,this]
theorem Aw0(h:∀k,k<a.length→p k=true):sel p a b=a:=by
 apply List.ext_getElem (by simp[Af4])
 intro i h1 h2
 rw[Ra,if_pos (h i h2),Hr h2]
theorem Avk(hl:b.length=a.length)(h:∀k,k<a.length→p k=false):sel p a b=b:=by
 apply List.ext_getElem (by simp[Af4,hl])
 intro i h1 h2
 rw[Ra,h i (by omega)]
 simp[List.getD_eq_getElem?_getD,h2]
end
end Go.Pl
set_option linter.unusedVariables false
set_option linter.unusedSimpArgs false
namespace Go.Pl
open Go Go.Lv
theorem Bi5(a b:Int32):Ar a b=a*b:=by
 rw[Ar,Af7,Af7,Bl7,Int32.ofInt_mul,Int32.ofInt_toInt,Int32.ofInt_toInt]
theorem Wv(a:Int32): -2147483648≤a.toInt∧a.toInt<2147483648:=⟨a.le_toInt,a.toInt_lt⟩
theorem El(a:Int32):(Ae a:Int)=a.toInt:=by
 have:=Wv a
 show wrap64 a.toInt=_
 rw[Cc]<;>omega
theorem Ajx(n:Int):(Ae n:Int32)=Int32.ofInt n:=rfl
theorem Bwv(x:Int):Int32.ofInt (x %4294967296)=Int32.ofInt x:=by
 apply Int32.toInt_inj.1
 rw[Int32.toInt_ofInt,Int32.toInt_ofInt]
 exact Int.emod_bmod x 4294967296
theorem Be5(x:Int):Ci x=some (Int32.ofInt x):=by
 have e1:(Ae x:UInt64).toNat=(x %18446744073709551616).toNat:=by
  rw[Bof,UInt64.toNat_ofNat',Nat.mod_eq_of_lt (by omega)]
 have e2:(Ae (Ae x:UInt64):UInt32).toNat=(x %4294967296).toNat:=by
  have e:(Ae (Ae x:UInt64):UInt32)=UInt32.ofNat (Ae x:UInt64).toNat:=by simp only[Ae,Ii,Eo]
  rw[e,UInt32.toNat_ofNat',e1]
  show(x %18446744073709551616).toNat %4294967296=_
  omega
 have e3:(Ae (Ae (Ae x:UInt64):UInt32):Int32)=Int32.ofInt ((Ae (Ae x:UInt64):UInt32).toNat:Int):=rfl
 rw[Ci,e3,e2,←Bwv x]
 congr 2;omega
theorem Bbe(a b:Int32):Ci (Ad (Ae a:Int) (Ae b:Int))=some (a+b):=by
 have:=Wv a
 have:=Wv b
 rw[El,El,Ag (by omega) (by omega),Be5,Int32.ofInt_add,Int32.ofInt_toInt,Int32.ofInt_toInt]
theorem Bz8(a b:Int32):Ci (Ar (Ae a:Int) (Ae b:Int))=some (a*b):=by
 have ha:=Wv a
 have hb:=Wv b
 have h1: -9223372036854775808≤a.toInt*b.toInt∧a.toInt*b.toInt≤9223372036854775807:=by
  have h2:(a.toInt*b.toInt).natAbs≤2147483648*2147483648:=by
   rw[Int.natAbs_mul];exact Nat.mul_le_mul (by omega) (by omega)
  omega
 rw[El,El,Fq h1.1 h1.2,Be5,Int32.ofInt_mul,Int32.ofInt_toInt,Int32.ofInt_toInt]
def OkF(s:Int)(t p:List Int32):Prop:=(s=9∨s=10)∧t.length=16∧p.length=16
theorem Bcb{s:Int}{t p:List Int32}(h:OkF s t p):Afr s t p=some 0:=by
 obtain⟨rfl|rfl,_,_⟩:=h<;>rfl
theorem g32{l:List Int32}{k:Nat}(h:k<l.length):getI l (k:Int)=some (l.getD k 0):=by
 rw[Bu h];simp[List.getD_eq_getElem?_getD,h]
def Au6(t p:List Int32):Nat→Int32
 |0=>0
 |i+1=>Au6 t p i+t.getD i 0*p.getD i 0
def half(s:Int):Int32:=if s=9 then 256 else 512
def gF(s:Int)(t p:List Int32):Int32:=Int32.ofInt ((half s+Au6 t p 16).toInt.fdiv (if s=9 then 512 else 1024))
theorem Bk4{s:Int}{t p:List Int32}(h:OkF s t p):∀(j i q:Nat),i+j=16→j<q→Sy t s p q (half s+Au6 t p i) (i:Int)=some (gF s t p,0)
 |0,i,q+1,hi,_=>by
  obtain rfl:i=16:=by omega
  have hs:=h.1
  rw[Sy,Afy,if_neg (by rw[Af];simp),Aot,Ayd,Ay (by rw[Cl];simp;omega),Aa]
  obtain rfl|rfl:=hs<;>rfl
 |j+1,i,q+1,hi,hq=>by
  obtain⟨hs,ht,hp⟩:=h
  rw[Sy,Afy,if_pos (by rw[Af];simp;omega),g32 (by omega),Aa,g32 (by omega),Aa,Aa,Ag (b:=1) (by omega) (by omega),Apl,Bi5,Int32.add_assoc]
  exact Bk4 ⟨hs,ht,hp⟩ j (i+1) q (by omega) (by omega)
theorem Bqj{s:Int}{t p:List Int32}(h:OkF s t p):Al1 s t p=some (gF s t p,0):=by
 have hs:=h.1
 have h1:=Bk4 h 16 0 Al (by omega) (by have:=Ak;omega)
 have e:Cm (1:Int32) (GI.toZ (Ah s (1:Int))).toNat=half s+Au6 t p 0:=by
  obtain rfl|rfl:=hs<;>rfl
 rw[Al1,Aof,Bcb h,Aa,if_neg (by rw[Aj];simp),Ay (by rw[Cl,Bc (by omega) (by omega)];simp;omega),Aa,Ao3,e]
 exact h1
theorem Bge{s:Int}{t p:List Int32}(ht:t.length=16)(hp:p.length=16){g:Int32}(hg:Au6 t p 16=g):∀(j i q:Nat),i+j=16→j<q→Lk s t p q (Au6 t p i).toInt (i:Int)=some g
 |0,i,q+1,hi,_=>by
  obtain rfl:i=16:=by omega
  rw[Lk,Xb,if_neg (by rw[Af];simp),Ai7,Ai2,Ajx,Int32.ofInt_toInt,hg]
 |j+1,i,q+1,hi,hq=>by
  have ih:=Bge (s:=s) ht hp hg j (i+1) q (by omega) (by omega)
  rw[Au6]at ih
  rw[Lk,Xb,if_pos (by rw[Af];simp;omega),g32 (by omega),g32 (by omega),Aa,Aa,Aa,Aa,Bz8,Aa,←El (Au6 t p i),Bbe,Aa,El,Ag (by omega) (by omega)]
  exact ih
theorem Cbg{s:Int}{t p:List Int32}(h:OkF s t p):Apr s t p=some (Au6 t p 16):=
 Bge h.2.1 h.2.2 rfl 16 0 Al (by omega) (by have:=Ak;omega)
theorem Bxr(x n:Int)(hn:n=512∨n=1024∨n=16∨n=32):(if x.tmod n<0 then x.tdiv n-1 else x.tdiv n)=x.fdiv n:=by
 have hs:n.sign=1:=by obtain rfl|rfl|rfl|rfl:=hn<;>rfl
 rw[Int.tdiv_eq_ediv,Int.tmod_eq_emod,hs,Int.fdiv_eq_ediv_of_nonneg _ (by omega)]
 by_cases h:0≤x∨n∣x
 ·rw[if_pos h,if_pos h]
  obtain rfl|rfl|rfl|rfl:=hn<;>(rw[if_neg (by omega)];omega)
 ·rw[if_neg h,if_neg h]
  obtain rfl|rfl|rfl|rfl:=hn<;>(rw[if_pos (by omega)];omega)
theorem Bh3(x n:Int)(hn:n=512∨n=1024∨n=16∨n=32)(h: -1000000000000≤x)(h':x≤1000000000000): -1000000000000≤x.tdiv n∧x.tdiv n≤1000000000000:=by
 have hs:n.sign=1:=by obtain rfl|rfl|rfl|rfl:=hn<;>rfl
 rw[Int.tdiv_eq_ediv,hs]
 by_cases h:0≤x∨n∣x
 ·rw[if_pos h];obtain rfl|rfl|rfl|rfl:=hn<;>omega
 ·rw[if_neg h];obtain rfl|rfl|rfl|rfl:=hn<;>omega
theorem Cjc(x n:Int)(hn:n=512∨n=1024∨n=16∨n=32)(h: -1000000000000≤x)(h':x≤1000000000000):Bg x n=x.tdiv n:=by
 have:=Bh3 x n hn h h'
 rw[Aid,Cc (by omega) (by omega)]
theorem Bn0(x n:Int)(hn:n=512∨n=1024∨n=16∨n=32)(h: -1000000000000≤x)(h':x≤1000000000000):
  (if(Ch (Ff x n) (0:Int))=true then some (Ae (Ah (Bg x n) (1:Int)):Int32)else some (Ae (Bg x n):Int32))=some (Int32.ofInt (x.fdiv n)):=by
 have hb:=Bh3 x n hn h h'
 rw[Af,Ff,Cjc x n hn h h',Bc (by omega) (by omega),Ajx,Ajx,←Bxr x n hn]
 by_cases hx:x.tmod n<0
 ·rw[if_pos (by simpa using hx),if_pos hx]
 ·rw[if_neg (by simpa using hx),if_neg hx]
theorem Cdt{s:Int}{t p:List Int32}(h:OkF s t p):Ac8 s t p=some (gF s t p):=by
 obtain⟨hs,ht,hp⟩:=h
 have h:OkF s t p:=⟨hs,ht,hp⟩
 have hx:=Wv (Au6 t p 16+half s)
 have key:∀n:Int,(n=512∨n=1024)→(half s).toInt=n/2→gF s t p=Int32.ofInt ((half s+Au6 t p 16).toInt.fdiv n)→Vx s t p n=some (gF s t p):=by
  intro n hn hh hg
  have e2:Bg n (2:Int)=(half s).toInt:=by rw[hh];obtain rfl|rfl:=hn<;>rfl
  rw[Vx,Ag6,Cbg h,Aa,e2,←El (half s),Bbe,Aa,Ay (by rw[Aj];simp;omega),Aa,Aa,El,Bn0 _ n (by omega) (by omega) (by omega),hg,Int32.add_comm]
 rw[Ac8,Ahb]
 obtain rfl|rfl:=hs
 ·rw[if_pos (by rw[Bb];rfl)];exact key 512 (.inl rfl) rfl rfl
 ·rw[if_neg (by rw[Bb];decide)];exact key 1024 (.inr rfl) rfl rfl
def stp(i:Nat):Int32:=if i=0 then 4 else if i<4 then 2 else 1
def sg(x:Int32):Int32:=if x.toInt<0 then -1 else if 0<x.toInt then 1 else 0
def lrn(t p:List Int32)(w:Int32):List Int32:=(List.range 16).map fun i=>t.getD i 0+stp i*sg (p.getD i 0)*sg w
theorem Ab2(t p:List Int32)(w:Int32):(lrn t p w).length=16:=by simp[lrn]
theorem Bmj(t p:List Int32)(w:Int32){i:Nat}(h:i<16):(lrn t p w).getD i 0=t.getD i 0+stp i*sg (p.getD i 0)*sg w:=by
 rw[Hr (by rw[Ab2];exact h)];simp[lrn]
theorem step_eq(i:Nat):Apz (i:Int)=some (stp i):=by
 rw[Apz,stp]
 by_cases h:i=0
 ·rw[if_pos (by rw[Bb];simp[h]),if_pos h]
 ·rw[if_neg (by rw[Bb];simp;omega),if_neg h]
  by_cases h2:i<4
  ·rw[if_pos (by rw[Af];simp;omega),if_pos h2]
  ·rw[if_neg (by rw[Af];simp;omega),if_neg h2]
theorem Bwu(i:Nat):Ab0 (i:Int)=some (stp i):=by
 rw[Ab0,stp]
 by_cases h:i=0
 ·rw[if_pos (by rw[Bb];simp[h]),if_pos h]
 ·rw[if_neg (by rw[Bb];simp;omega),if_neg h]
  by_cases h2:i<4
  ·rw[if_pos (by rw[Blf];simp;omega),if_pos h2]
  ·rw[if_neg (by rw[Blf];simp;omega),if_neg h2]
theorem Bmt(a b:Int32):Ch a b=decide (a.toInt<b.toInt):=rfl
theorem Br7(a b:Int32):Ga a b=decide (b.toInt<a.toInt):=rfl
theorem sign_eq(x:Int32):Ud x=some (sg x):=by
 rw[Ud,sg,Bmt,Br7,show(0:Int32).toInt=0 from rfl]
 by_cases h:x.toInt<0
 ·rw[if_pos (by simpa using h),if_pos h]
 ·rw[if_neg (by simpa using h),if_neg h]
  by_cases h2:0<x.toInt
  ·rw[if_pos (by simpa using h2),if_pos h2]
  ·rw[if_neg (by simpa using h2),if_neg h2]
theorem Bub:sg 0=0:=rfl
theorem toInt_ne{x:Int32}(h:x≠0):x.toInt≠0:=fun e=>h (Int32.toInt_inj.1 (by rw[e];rfl))
theorem Bl5{x:Int32}(h:x.toInt<0):sg x= -1:=by rw[sg,if_pos h]
theorem Bnt{x:Int32}(h:x≠0)(h2:¬x.toInt<0):sg x=1:=by
 have:=toInt_ne h
 rw[sg,if_neg h2,if_pos (by omega)]
theorem Axc(i:Nat):stp i=4∨stp i=2∨stp i=1:=by
 unfold stp
 by_cases h:i=0
 ·rw[if_pos h];exact .inl rfl
 ·rw[if_neg h];split;exact .inr (.inl rfl);exact .inr (.inr rfl)
theorem Bwr{x w:Int32}(hx:x≠0)(hw:w≠0)(h:(x.toInt<0)=(w.toInt<0))(i:Nat):stp i*sg x*sg w=stp i:=by
 by_cases h1:x.toInt<0
 ·rw[Bl5 h1,Bl5 (by rw[←h];exact h1)]
  obtain e|e|e:=Axc i<;>rw[e]<;>decide
 ·rw[Bnt hx h1,Bnt hw (by rw[←h];exact h1)]
  obtain e|e|e:=Axc i<;>rw[e]<;>decide
theorem Bsz{x w:Int32}(hx:x≠0)(hw:w≠0)(h:¬(x.toInt<0)=(w.toInt<0))(i:Nat)(a:Int32):a+stp i*sg x*sg w=a-stp i:=by
 have key:stp i*sg x*sg w=-stp i:=by
  by_cases h1:x.toInt<0
  ·have h2:¬w.toInt<0:=fun h2=>h (propext ⟨fun _=>h2,fun _=>h1⟩)
   rw[Bl5 h1,Bnt hw h2]
   obtain e|e|e:=Axc i<;>rw[e]<;>decide
  ·have h2:w.toInt<0:=Decidable.by_contra fun h2=>h (propext ⟨fun h3=>absurd h3 h1,fun h3=>absurd h3 h2⟩)
   rw[Bnt hx h1,Bl5 h2]
   obtain e|e|e:=Axc i<;>rw[e]<;>decide
 rw[key,Int32.sub_eq_add_neg]
def Bah(i:Nat):Nat→Bool:=fun j=>decide (j<i)
theorem Bgs{a b:List Int32}{i:Nat}(h:i<a.length):Ji (sel (Bah i) a b) (i:Int) (a.getD i 0)=some (sel (Bah (i+1)) a b):=by
 rw[Ars h]
 congr 1
 apply Tj
 intro k _
 rw[Bool.eq_iff_iff]
 simp only[Bah,Bool.or_eq_true,decide_eq_true_eq];omega
theorem Bwq{a b:List Int32}{i:Nat}(e:a.getD i 0=b.getD i 0):sel (Bah i) a b=sel (Bah (i+1)) a b:=by
 apply List.map_congr_left
 intro k _
 simp only[Bah,decide_eq_true_eq]
 by_cases h1:k<i
 ·rw[if_pos h1,if_pos (by omega)]
 ·by_cases h2:k=i
  ·subst h2;rw[if_neg h1,if_pos (by omega),e]
  ·rw[if_neg h1,if_neg (by omega)]
theorem Bq5{a b:List Int32}{i:Nat}(h:i<a.length):getI (sel (Bah i) a b) (i:Int)=some (b.getD i 0):=by
 rw[Yv h,if_neg (by simp[Bah])]
theorem Bjt{s:Int}{t p:List Int32}{w:Int32}(hw:w≠0)(ht:t.length=16)(hp:p.length=16):∀(j i q:Nat),i+j=16→j<q→Tf w p s q (i:Int) (sel (Bah i) (lrn t p w) t)=some (s,lrn t p w,p,0)
 |0,i,q+1,hi,_=>by
  obtain rfl:i=16:=by omega
  rw[Tf,Afw,if_neg (by rw[Af];simp),Aw0 (fun k hk=>by rw[Ab2]at hk;simpa [Bah]using hk)];rfl
 |j+1,i,q+1,hi,hq=>by
  have hl:=Ab2 t p w
  have hg:=Bmj t p w (i:=i) (by omega)
  rw[Tf,Afw,if_pos (by rw[Af];simp;omega),g32 (by omega),Aa,Ag (b:=1) (by omega) (by omega),Bq5 (by omega),step_eq]
  simp only[Aa]
  rw[Apl,Aj8,Bvv,Bmt,Bmt,show(0:Int32).toInt=0 from rfl]
  have ih:=Bjt (s:=s) hw ht hp j (i+1) q (by omega) (by omega)
  by_cases hx:p.getD i 0=0
  ·rw[if_pos (by rw[hx];rfl),Bwq (by rw[hg,hx,Bub,Int32.mul_zero,Int32.zero_mul,Int32.add_zero])]
   exact ih
  ·rw[if_neg (by simpa using hx)]
   by_cases hs:((p.getD i 0).toInt<0)=(w.toInt<0)
   ·rw[if_pos (by rw[beq_iff_eq];simp only[hs]),show t.getD i 0+stp i=(lrn t p w).getD i 0 by rw[hg,Bwr hx hw hs],Bgs (by omega),Aa]
    exact ih
   ·rw[if_neg (by rw[beq_iff_eq,decide_eq_decide];exact fun h=>hs (propext h)),show t.getD i 0-stp i=(lrn t p w).getD i 0 by rw[hg,Bsz hx hw hs],Bgs (by omega),Aa]
    exact ih
theorem Bzl{t:List Int32}(p:List Int32)(ht:t.length=16):lrn t p 0=t:=by
 apply List.ext_getElem (by rw[Ab2,ht])
 intro i h1 h2
 have:=Bmj t p 0 (i:=i) (by omega)
 rw[Hr h1,Hr h2]at this
 rw[this,Bub,Int32.mul_zero,Int32.add_zero]
theorem Bqa{s:Int}{t p:List Int32}(h:OkF s t p)(w:Int32):Aq9 s t p w=some (s,lrn t p w,p,0):=by
 rw[Aq9,Apb,Bcb h,Aa,if_neg (by rw[Aj];simp),Bvv]
 by_cases hw:w=0
 ·rw[if_pos (by simpa using hw),hw,Bzl p h.2.1]
 ·have h1:=Bjt (s:=s) hw h.2.1 h.2.2 16 0 Al (by omega) (by have:=Ak;omega)
  rw[Avk (by rw[Ab2,h.2.1]) (fun k _=>by simp[Bah])]at h1
  rw[if_neg (by simpa using hw)]
  exact h1
theorem Bbp{s:Int}{t p:List Int32}{w:Int32}(ht:t.length=16)(hp:p.length=16):∀(j i q:Nat),i+j=16→j<q→He w s p q (i:Int) (sel (Bah i) (lrn t p w) t)=some (s,lrn t p w,p)
 |0,i,q+1,hi,_=>by
  obtain rfl:i=16:=by omega
  rw[He,Qk,if_neg (by rw[Af];simp),Aw0 (fun k hk=>by rw[Ab2]at hk;simpa [Bah]using hk)];rfl
 |j+1,i,q+1,hi,hq=>by
  have hl:=Ab2 t p w
  have hg:=Bmj t p w (i:=i) (by omega)
  rw[He,Qk,if_pos (by rw[Af];simp;omega),g32 (l:=p) (by omega),Ag (b:=1) (by omega) (by omega),Bq5 (by omega),Bwu,sign_eq w,Aa,Aa,Aa,Aa,Aa,sign_eq,Aa,Aa,Aa,Apl,Bi5,Bi5,←hg,Bgs (by omega),Aa]
  exact Bbp ht hp j (i+1) q (by omega) (by omega)
theorem Btx{s:Int}{t p:List Int32}(h:OkF s t p)(w:Int32):Ahr s t p w=some (s,lrn t p w,p):=by
 have h1:=Bbp (s:=s) (w:=w) h.2.1 h.2.2 16 0 Al (by omega) (by have:=Ak;omega)
 rw[Avk (by rw[Ab2,h.2.1]) (fun k _=>by simp[Bah])]at h1
 exact h1
theorem Ced{p:List Int32}(h:p.length=16):∃a0 a1 a2 a3 a4 a5 a6 a7 a8 a9 b0 b1 b2 b3 b4 b5,p=[a0,a1,a2,a3,a4,a5,a6,a7,a8,a9,b0,b1,b2,b3,b4,b5]:=by
 match p,h with
 |[a0,a1,a2,a3,a4,a5,a6,a7,a8,a9,b0,b1,b2,b3,b4,b5],_=>exact⟨a0,a1,a2,a3,a4,a5,a6,a7,a8,a9,b0,b1,b2,b3,b4,b5,rfl⟩
theorem Bvm{s:Int}{t p:List Int32}(h:OkF s t p)(x:Int32):Aw3 s t p x=some (s,t,x::p.take 15,0):=by
 obtain⟨hs,ht,hp⟩:=h
 rw[Aw3,Aji,Bcb ⟨hs,ht,hp⟩,Aa,if_neg (by rw[Aj];simp),show vwI (16:Int) 1 16=some ()from rfl,Aa,show vwI (16:Int) 0 16=some ()from rfl,Aa,Aq4,Az6]
 obtain⟨a0,a1,a2,a3,a4,a5,a6,a7,a8,a9,b0,b1,b2,b3,b4,b5,rfl⟩:=Ced hp
 rfl
def shf(p:List Int32)(i:Nat):List Int32:=(List.range 16).map fun k=>if k≤i then p.getD k 0 else p.getD (k-1) 0
theorem Yw(p:List Int32)(i:Nat):(shf p i).length=16:=by simp[shf]
theorem Cgb(p:List Int32)(i k:Nat)(h:k<16):(shf p i).getD k 0=if k≤i then p.getD k 0 else p.getD (k-1) 0:=by
 rw[Hr (by rw[Yw];exact h)];simp[shf]
theorem Cfd(p:List Int32)(i:Nat)(h:i+1<16):Ji (shf p (i+1)) ((i+1:Nat):Int) (p.getD i 0)=some (shf p i):=by
 rw[Oz _ (by rw[Yw];exact h)]
 congr 1
 apply List.ext_getElem (by simp[Yw])
 intro k h1 h2
 rw[Yw]at h2
 rw[List.getElem_set]
 simp only[shf,List.getElem_map,List.getElem_range]
 by_cases hk:i+1=k
 ·subst hk;rw[if_pos rfl,if_neg (by omega)];rfl
 ·rw[if_neg hk]
  by_cases h3:k≤i
  ·rw[if_pos (by omega),if_pos h3]
  ·rw[if_neg (by omega),if_neg h3]
theorem Bd8(s:Int)(t p:List Int32)(x:Int32)(hp:p.length=16):∀(i q:Nat),i<16→i<q→Hu x s t q (i:Int) (shf p i)=some (s,t,x::p.take 15)
 |0,q+1,_,_=>by
  have hg:getI (shf p 0) (0:Int)=some ((shf p 0).getD 0 0):=g32 (l:=shf p 0) (k:=0) (by rw[Yw];omega)
  have hset:Ji (shf p 0) (0:Int) x=some ((shf p 0).set 0 x):=Oz (l:=shf p 0) (n:=0) x (by rw[Yw];omega)
  rw[Hu,Rz,if_neg (by rw[Am];simp),Abb,Ab7,hg,Aa,hset,Aa]
  congr 3
  apply List.ext_getElem (by simp[Yw,hp])
  intro k h1 h2
  rw[List.length_set,Yw]at h1
  rw[List.getElem_set]
  cases k with
  |zero=>rw[if_pos rfl];rfl
  |succ k=>
   rw[if_neg (by omega)]
   simp only[shf,List.getElem_map,List.getElem_range,List.getElem_cons_succ,List.getElem_take]
   rw[if_neg (by omega),Nat.add_sub_cancel,Hr (by omega)]
 |i+1,q+1,hi,hq=>by
  have hg:=g32 (l:=shf p (i+1)) (k:=i) (by rw[Yw];omega)
  rw[Cgb p (i+1) i (by omega),if_pos (by omega)]at hg
  have e1:Ah ((i+1:Nat):Int) (1:Int)=(i:Int):=by rw[Bc (by omega) (by omega)];omega
  have hg2:=g32 (l:=shf p (i+1)) (k:=i+1) (by rw[Yw];omega)
  rw[Hu,Rz,if_pos (by rw[Am];simp),e1,hg,Aa,Aa,hg2,Aa,Cfd p i hi,Aa]
  exact Bd8 s t p x hp i q (by omega) (by omega)
theorem Bxb{s:Int}{t p:List Int32}(hp:p.length=16)(x:Int32):Ai9 s t p x=some (s,t,x::p.take 15):=by
 have h:=Bd8 s t p x hp 15 Al (by omega) (by have:=Ak;omega)
 have e:shf p 15=p:=by
  apply List.ext_getElem (by rw[Yw,hp])
  intro k h1 h2
  rw[Yw]at h1
  simp only[shf,List.getElem_map,List.getElem_range]
  rw[if_pos (by omega),Hr h2]
 rw[e]at h
 exact h
theorem Cbf{s:Int}{t p:List Int32}(h:OkF s t p)(w x:Int32):OkF s (lrn t p w) (x::p.take 15):=⟨h.1,Ab2 _ _ _,by simp[h.2.2]⟩
theorem Cf6{s:Int}{t p:List Int32}(h:OkF s t p)(y:Int32):At8 s t p y=some (y+gF s t p,s,lrn t p y,(y+gF s t p)::p.take 15,0):=by
 rw[At8,Bqj h,Aa]
 simp only
 rw[if_neg (by rw[Aj];simp),Apl,Al4,Bqa h,Aa]
 simp only
 rw[Bvm (s:=s) (t:=lrn t p y) (p:=p) ⟨h.1,Ab2 _ _ _,h.2.2⟩,Aa];rfl
theorem Byu{s:Int}{t p:List Int32}(h:OkF s t p)(y:Int32):Vh s t p y=some (y+gF s t p,s,lrn t p y,(y+gF s t p)::p.take 15):=by
 rw[Vh,Cdt h,Aa,Bbe,Aa,Btx h,Aa]
 simp only
 rw[Bxb h.2.2,Aa]
def sB(bits:Int):Int:=if bits=16 then 9 else 10
def shB(bits:Int):Int:=if bits=8 then 4 else 5
def BitsOk(bits:Int):Prop:=bits=8∨bits=16∨bits=24
def gs(sh:Int)(last:Int32):Int32:=Ae (Bl9 (Ah (Cm (Ae last:Int) sh.toNat) (Ae last)) sh.toNat)
theorem Cio(bits:Int):sB bits=9∨sB bits=10:=by unfold sB;split<;>simp
theorem Cef(bits:Int):0≤shB bits:=by unfold shB;split<;>omega
theorem Ckk{bits:Int}(h:BitsOk bits)(t:List Int32):Az1 bits t=some (sB bits,t,List.replicate 16 0,0):=by
 obtain rfl|rfl|rfl:=h<;>rfl
theorem Chp{bits:Int}(h:BitsOk bits):Au1 bits=some (shB bits,0):=by
 obtain rfl|rfl|rfl:=h<;>rfl
theorem Ch2{sh:Int}(h:0≤sh)(last:Int32):Anv sh last=some (gs sh last):=by
 rw[Anv,Ay (by rw[Cl];simpa using h),Aa,Aa];rfl
theorem Bz1{bits:Int}(h:BitsOk bits)(last:Int32):Vk bits last=some (gs (shB bits) last,0):=by
 rw[Vk,Chp h,Aa]
 simp only
 rw[if_neg (by rw[Aj];simp),Ch2 (Cef bits),Aa]
theorem Bf6{bits:Int}(h:BitsOk bits)(last:Int32)(t p:List Int32):Vu bits last (sB bits) t p=some 0:=by
 rw[Vu,Ckk h,Aa]
 simp only
 rw[if_neg (by rw[Aj,Aj];simp)]
theorem Bx1{bits:Int}(h:BitsOk bits){t p:List Int32}(hF:OkF (sB bits) t p)(last y:Int32):
  Kw bits last (sB bits) t p y=some (y+gF (sB bits) t p+gs (shB bits) last,bits,y+gF (sB bits) t p+gs (shB bits) last,sB bits,lrn t p y,(y+gF (sB bits) t p)::p.take 15,0):=by
 rw[Kw,Bf6 h,Aa,if_neg (by rw[Aj];simp),Bz1 h,Aa]
 simp only
 rw[Cf6 hF,Aa]
 simp only
 rw[Apl]
theorem Bdh(sh:Int)(hs:sh=4∨sh=5)(last:Int32):Pp sh last=some (gs sh last):=by
 have hl:=Wv last
 have key:∀n:Int,n=16∨n=32→gs sh last=Int32.ofInt (((n-1)*last.toInt).fdiv n)→Ru last n=some (gs sh last):=by
  intro n hn hg
  have e:Ar (Ah n (1:Int)) (Ae last:Int)=(n-1)*last.toInt:=by
   obtain rfl|rfl:=hn<;>(rw[El,Bc (by omega) (by omega),Fq (by omega) (by omega)])
  rw[Ru,Abk,Ay (by rw[Aj];simp;omega),Aa,Aa,e,Bn0 _ n (by omega) (by obtain rfl|rfl:=hn<;>omega) (by obtain rfl|rfl:=hn<;>omega),hg]
 rw[Pp,Abq]
 obtain rfl|rfl:=hs
 ·rw[if_neg (by rw[Bb];decide)]
  refine key 16 (.inl rfl) ?_
  have e:Cm (Ae last:Int) (4:Int).toNat=last.toInt*16:=by
   rw[El];show wrap64 (last.toInt*2^4)=_;rw[Cc]<;>omega
  rw[gs,e,El,Bc (by omega) (by omega),Ajx]
  show Int32.ofInt ((last.toInt*16-last.toInt).fdiv 16)=_
  congr 2;omega
 ·rw[if_pos (by rw[Bb];rfl)]
  refine key 32 (.inr rfl) ?_
  have e:Cm (Ae last:Int) (5:Int).toNat=last.toInt*32:=by
   rw[El];show wrap64 (last.toInt*2^5)=_;rw[Cc]<;>omega
  rw[gs,e,El,Bc (by omega) (by omega),Ajx]
  show Int32.ofInt ((last.toInt*32-last.toInt).fdiv 32)=_
  congr 2;omega
theorem Bxh{bits:Int}(h:BitsOk bits){t p:List Int32}(hF:OkF (sB bits) t p)(last y:Int32):
  Uz bits last (sB bits) t p y=some (y+gF (sB bits) t p+gs (shB bits) last,bits,y+gF (sB bits) t p+gs (shB bits) last,sB bits,lrn t p y,(y+gF (sB bits) t p)::p.take 15):=by
 have hb:Xo bits last (sB bits) t p=some (Ae (gs (shB bits) last):Int):=by
  rw[Xo]
  obtain rfl|rfl|rfl:=h
  ·rw[if_pos (by rw[Bb];rfl),Bdh 4 (.inl rfl),Aa];rfl
  ·rw[if_neg (by rw[Bb];decide),Bdh 5 (.inr rfl),Aa];rfl
  ·rw[if_neg (by rw[Bb];decide),Bdh 5 (.inr rfl),Aa];rfl
 rw[Uz,Byu hF,Aa]
 simp only
 rw[hb,Aa,Bbe,Aa]
theorem Ciw{bits:Int}(h:BitsOk bits)(t:List Int32):Ap5 bits t=some (bits,0,sB bits,t,List.replicate 16 0,0):=by
 obtain rfl|rfl|rfl:=h<;>rfl
def Aj1(n:UInt32):Int32:=if n.toNat %2=0 then Int32.ofInt ((n.toNat/2:Nat):Int)else Int32.ofInt (-((n.toNat/2:Nat):Int)-1)
theorem Bre(a b:Int32):(Pk a b).toBitVec=a.toBitVec^^^b.toBitVec:=by
 show(Int32.ofInt ((BitVec.ofInt 32 a.toBitVec.toInt^^^BitVec.ofInt 32 b.toBitVec.toInt).toNat:Int)).toBitVec=_
 rw[BitVec.ofInt_toInt,BitVec.ofInt_toInt,Int32.toBitVec_ofInt,BitVec.ofInt_natCast,BitVec.ofNat_toNat,BitVec.setWidth_eq]
theorem Cix(m:Nat)(h:m<2147483648):Pk (Int32.ofInt (m:Int)) (Int32.ofInt (-1))=Int32.ofInt (-(m:Int)-1):=by
 apply Int32.toBitVec_inj.1
 have e1:(Int32.ofInt (-1)).toBitVec=BitVec.allOnes 32:=by decide
 rw[Bre,e1,BitVec.xor_allOnes,Int32.toBitVec_ofInt,Int32.toBitVec_ofInt]
 apply BitVec.eq_of_toNat_eq
 rw[BitVec.toNat_not,BitVec.toNat_ofInt,BitVec.toNat_ofInt]
 omega
theorem Bz9(n:UInt32):Wp n=some (Aj1 n):=by
 have hn:=n.toNat_lt
 have e1:(Ae (Bo n (GI.toZ (1:UInt64)).toNat):Int32)=Int32.ofInt ((n.toNat/2:Nat):Int):=by
  show Int32.ofInt ((Bo n 1).toNat:Int)=_
  rw[Ahp]
 have e2:(Ae (Dq n (1:UInt32)):Int32)=Int32.ofInt ((n.toNat %2:Nat):Int):=by
  show Int32.ofInt ((Dq n (1:UInt32)).toNat:Int)=_
  rw[Biy,UInt32.toNat_and]
  show Int32.ofInt ((n.toNat&&&1:Nat):Int)=_
  rw[Nat.and_one_is_mod]
 rw[Wp,e1,e2,Aj1]
 congr 1
 by_cases h:n.toNat %2=0
 ·have e3:Bae (Int32.ofInt ((n.toNat %2:Nat):Int))=Int32.ofInt 0:=by rw[h];decide
  rw[if_pos h,e3]
  apply Int32.toBitVec_inj.1
  rw[Bre,show(Int32.ofInt 0).toBitVec=0#32 from rfl,BitVec.xor_zero]
 ·have e3:Bae (Int32.ofInt ((n.toNat %2:Nat):Int))=Int32.ofInt (-1):=by rw[show n.toNat %2=1 by omega];decide
  rw[if_neg h,e3,Cix _ (by omega)]
theorem Ce1(n:UInt32):Aco n=some (Aj1 n):=by
 have hn:=n.toNat_lt
 have e1:geq (Aa5 n (2:UInt32)) (0:UInt32)=decide (n.toNat %2=0):=by
  rw[Bmg,Brf,Bool.eq_iff_iff]
  simp only[beq_iff_eq,←UInt32.toNat_inj,UInt32.toNat_mod,decide_eq_true_eq];rfl
 rw[Aco,e1,Aj1]
 by_cases h:n.toNat %2=0
 ·rw[if_pos (by simpa using h),if_pos h,Bpq];rfl
 ·have e2:(Ae n:Int)=(n.toNat:Int):=Bik n
  rw[if_neg (by simpa using h),if_neg h,e2,Ag (by omega) (by omega),Bmx,Cc (by omega) (by omega),Aid,Int.tdiv_eq_ediv,Ajx]
  congr 2
  rw[if_pos (.inr (by omega)),Cc (by omega) (by omega)];omega
end Go.Pl
set_option linter.unusedVariables false
set_option linter.unusedSimpArgs false
namespace Go.Pl
open Go Go.Lv
theorem Axz{c:Prop} [Decidable c](h:c):Hm (decide c)=some ():=by rw[decide_eq_true h];rfl
def unV(f:Nat→Int32)(ch:Nat):Nat→Int32
 |0=>if 1<ch then f (ch-1)+Bg (f (ch-2)) (2:Int32)else f (ch-1)
 |j+1=>unV f ch j-f (ch-2-j)
def unm(ch:Nat)(m:List Int32):List Int32:=(List.range m.length).map fun k=>unV (fun i=>m.getD (k-k %ch+i) 0) ch (ch-1-k %ch)
theorem Aso(ch:Nat)(m:List Int32):(unm ch m).length=m.length:=by simp[unm]
theorem Bbw{ch:Nat}{m:List Int32}{a i:Nat}(ha:a %ch=0)(hi:i<ch)(h:a+i<m.length):(unm ch m).getD (a+i) 0=unV (fun i=>m.getD (a+i) 0) ch (ch-1-i):=by
 have hb:(a+i) %ch=i:=by rw[Nat.add_mod,ha,Nat.zero_add,Nat.mod_mod,Nat.mod_eq_of_lt hi]
 rw[Hr (by rw[Aso];exact h)]
 simp only[unm,List.getElem_map,List.getElem_range,hb]
 rw[show a+i-i=a by omega]
section
variable (ch:Nat) (m:List Int32)
theorem Bo0(h1:1≤ch)(h6:ch≤6)(hm:m.length %ch=0)(hl2:m.length≤4000):Apk (ch:Int) m=some 0:=by
 rw[Apk,if_neg (by simp[Af,Am];omega),if_neg (by rw[Am,Ac];simp;omega),Ay (by rw[Aj];simp;omega),Aa,if_neg]
 rw[Aj,Ff,Ac,←Int.ofNat_tmod,hm];simp
theorem Bgi(bk:Int→List Int32→Option (List Int32×Int))(at':Nat)(h1:1≤ch)(h6:ch≤6)(hm:at' %ch=0)(hl:at'+ch≤m.length)(hl2:m.length≤4000):∀(i q:Nat),i≤ch-1→i<q→
  Wk bk (ch:Int) (at':Int) q ((i:Int)-1) (sel (fun k=>decide (k<at'∨(at'+i≤k∧k<at'+ch))) (unm ch m) m)=bk ((at'+ch:Nat):Int) (sel (fun k=>decide (k<at'+ch)) (unm ch m) m)
 |0,q+1,hi,_=>by
  have e4:Ad (at':Int) (ch:Int)=((at'+ch:Nat):Int):=by rw[Ag (by omega) (by omega)];omega
  rw[Wk,Ajl,if_neg (by rw[Cl];simp),Arn,Ba3,e4]
  congr 1
  apply Tj
  intro k _
  rw[Bool.eq_iff_iff];simp;omega
 |i+1,q+1,hi,hq=>by
  have hlen:=Aso ch m
  have e2:Ad (at':Int) (ch:Int)-(at':Int)=(ch:Int):=by rw[Ag (by omega) (by omega)];omega
  have e3:Ad (i:Int) 1=((i+1:Nat):Int):=by rw[Ag (by omega) (by omega)];omega
  have hv:((unm ch m).getD (at'+(i+1)) 0-m.getD (at'+i) 0)=(unm ch m).getD (at'+i) 0:=by
   rw[Bbw hm (by omega) (by omega),Bbw hm (by omega) (by omega),show ch-1-i=(ch-1-(i+1))+1 by omega,unV,show ch-2-(ch-1-(i+1))=i by omega]
  rw[Wk,Ajl,show((i+1:Nat):Int)-1=(i:Int) by omega,if_pos (by rw[Cl];simp),e2,e3,Axz (by omega),Aa,Axz (by omega),Aa,
   show(at':Int)+((i+1:Nat):Int)=((at'+(i+1):Nat):Int) by omega,show(at':Int)+(i:Int)=((at'+i:Nat):Int) by omega,
   Yv (by omega),Aa,Yv (by omega),Aa,Aa,if_pos (by simp;omega),if_neg (by simp;omega),Aj8,hv,Ars (by omega),Aa,Bc (by omega) (by omega)]
  have ih:=Bgi bk at' h1 h6 hm hl hl2 i q (by omega) (by omega)
  rw[←ih]
  congr 1
  apply Tj
  intro k _
  rw[Bool.eq_iff_iff];simp;omega
theorem Az0{at' ch n:Nat}(ha:at' %ch=0)(hm:n %ch=0)(h:at'<n):at'+ch≤n:=by
 have d1:=Nat.div_add_mod at' ch
 have d2:=Nat.div_add_mod n ch
 rw[ha,Nat.add_zero]at d1
 rw[hm,Nat.add_zero]at d2
 have hlt:at'/ch<n/ch:=by
  rcases Nat.lt_or_ge (at'/ch) (n/ch)with h'|h'
  ·exact h'
  ·have:=Nat.mul_le_mul_left ch h';omega
 have:=Nat.mul_le_mul_left ch (show at'/ch+1≤n/ch from hlt)
 rw[Nat.mul_add]at this;omega
theorem Bkp(h1:1≤ch)(h6:ch≤6)(hm:m.length %ch=0)(hl2:m.length≤4000):∀(j at' q:Nat),at' %ch=0→at'≤m.length→m.length-at'≤j→j<q→
  Re (ch:Int) q (at':Int) (sel (fun k=>decide (k<at')) (unm ch m) m)=some (unm ch m,0)
 |j,at',q+1,ha,hle,hj,hq=>by
  have hlen:=Aso ch m
  have hl:Ac (sel (fun k=>decide (k<at')) (unm ch m) m)=(m.length:Int):=by rw[Ac,Af4,hlen]
  rw[Re,Aqv,hl]
  by_cases h:at'<m.length
  ·have hb:=Az0 ha hm h
   obtain⟨j,rfl⟩:∃k,j=k+1:=⟨j-1,by omega⟩
   have e1:Ah (Ad (at':Int) (ch:Int)-(at':Int)) 1=((ch-1:Nat):Int):=by rw[Ag (by omega) (by omega),Bc (by omega) (by omega)];omega
   have e2:Ad (at':Int) (ch:Int)-(at':Int)=(ch:Int):=by rw[Ag (by omega) (by omega)];omega
   have e4:Ad (at':Int) (ch:Int)=((at'+ch:Nat):Int):=by rw[Ag (by omega) (by omega)];omega
   have hi:=Bgi ch m (Re (ch:Int) q) at' h1 h6 ha hb hl2 (ch-1) Al (by omega) (by have:=Ak;omega)
   have hrest:=Bkp h1 h6 hm hl2 j (at'+ch) q (by rw[Nat.add_mod_right,ha]) hb (by omega) (by omega)
   have hstart:Ajp (Re (ch:Int) q) (ch:Int) (at':Int) (sel (fun k=>decide (k<at'∨(at'+(ch-1)≤k∧k<at'+ch))) (unm ch m) m)=some (unm ch m,0):=by
    have e6:Ah ((ch-1:Nat):Int) 1=((ch-1:Nat):Int)-1:=Bc (by omega) (by omega)
    rw[Ajp,Aqx,Aq8,e1,e6]
    exact Eq.trans hi hrest
   rw[if_pos (by rw[Af];simp;omega),show vwI (m.length:Int) (at':Int) (Ad (at':Int) (ch:Int))=some () by rw[e4,vwI,Axz];omega,Aa,e1,e2]
   have hlast:=Bbw (m:=m) ha (show ch-1<ch by omega) (by omega)
   rw[show ch-1-(ch-1)=0 by omega,unV]at hlast
   by_cases hc:1<ch
   ·have e5:Ah ((ch-1:Nat):Int) 1=((ch-2:Nat):Int):=by rw[Bc (by omega) (by omega)];omega
    rw[if_pos hc]at hlast
    rw[if_pos (by rw[Am];simp;omega),Axz (by omega),Aa,e5,Axz (by omega),Aa,show(at':Int)+((ch-1:Nat):Int)=((at'+(ch-1):Nat):Int) by omega,show(at':Int)+((ch-2:Nat):Int)=((at'+(ch-2):Nat):Int) by omega,
     Yv (by omega),Aa,Yv (by omega),Aa,Aa,if_neg (by simp),if_neg (by simp),Apl,←hlast,Ars (by omega),Aa]
    rw[←hstart]
    congr 1
    apply Tj
    intro k _
    rw[Bool.eq_iff_iff];simp;omega
   ·have hc1:ch=1:=by omega
    rw[if_neg (by rw[Am];simp;omega),←hstart]
    congr 1
    rw[if_neg hc]at hlast
    apply List.map_congr_left
    intro k hk
    by_cases hk2:k=at'
    ·subst hk2
     rw[if_neg (by simp),if_pos (by simp;omega)]
     rw[show k+(ch-1)=k by omega]at hlast
     exact hlast.symm
    ·by_cases hk3:k<at'
     ·rw[if_pos (by simp;omega),if_pos (by simp;omega)]
     ·rw[if_neg (by simp;omega),if_neg (by simp;omega)]
  ·rw[if_neg (by rw[Af];simp;omega),Aw0 (fun k hk=>by simp;omega)]
   rfl
theorem Cdp(h1:1≤ch)(h6:ch≤6)(hm:m.length %ch=0)(hl2:m.length≤4000):Baj (ch:Int) m=some (unm ch m,0):=by
 have hlen:=Aso ch m
 have h:=Bkp ch m h1 h6 hm hl2 m.length 0 Al (by simp) (by omega) (by omega) (by have:=Ak;omega)
 rw[Baj,Awu,Bo0 ch m h1 h6 hm hl2,Aa,if_neg (by rw[Aj];simp),Dj,Bt (by simp;omega),Aa,Aa,List.nil_append,Aqw]
 rw[Avk hlen.symm (fun k _=>by simp)]at h
 exact h
end
def Bb9(f:Nat→Int32)(ch:Nat):List Int32:=(List.range ch).map fun i=>unV f ch (ch-1-i)
theorem Ap2(f:Nat→Int32)(ch:Nat):(Bb9 f ch).length=ch:=by simp[Bb9]
theorem Bbs(f:Nat→Int32){ch i:Nat}(h:i<ch):(Bb9 f ch).getD i 0=unV f ch (ch-1-i):=by
 rw[Hr (by rw[Ap2];exact h)];simp[Bb9]
theorem Cb5(a b:Int32):Ci (Ah (Ae a:Int) (Ae b:Int))=some (a-b):=by
 have:=Wv a
 have:=Wv b
 rw[El,El,Bc (by omega) (by omega),Be5,Int32.ofInt_sub,Int32.ofInt_toInt,Int32.ofInt_toInt]
theorem Bxa(a b:Int32):Ci (Ad (Ae a:Int) (Bg (Ae b:Int) (2:Int)))=some (a+Bg b (2:Int32)):=by
 have:=Wv a
 have hb:=Wv b
 have hd: -2147483648≤b.toInt.tdiv 2∧b.toInt.tdiv 2≤2147483648:=by
  rw[Int.tdiv_eq_ediv,show Int.sign 2=1 from rfl]
  by_cases h:0≤b.toInt∨2∣b.toInt
  ·rw[if_pos h];omega
  ·rw[if_neg h];omega
 have e:Bg b (2:Int32)=Int32.ofInt (b.toInt.tdiv 2):=rfl
 rw[El,El,Aid,Cc (by omega) (by omega),Ag (by omega) (by omega),Be5,Int32.ofInt_add,Int32.ofInt_toInt,e]
theorem Bar(seg z:List Int32)(ch:Nat)(h6:ch≤6)(hs:seg.length=ch)(hz:z.length=ch):∀(i q:Nat),i+1≤ch→i<q→
  Hh seg q ((i:Int)-1) (sel (fun k=>decide (i≤k)) (Bb9 (fun i=>seg.getD i 0) ch) z)=some (Bb9 (fun i=>seg.getD i 0) ch)
 |0,q+1,hi,_=>by
  rw[Hh,Qp,if_neg (by rw[Cl];simp),Aw0 (fun k hk=>by simp)];rfl
 |i+1,q+1,hi,hq=>by
  have hlen:=Ap2 (fun i=>seg.getD i 0) ch
  have e3:Ad (i:Int) 1=((i+1:Nat):Int):=by rw[Ag (by omega) (by omega)];omega
  have hv:(Bb9 (fun i=>seg.getD i 0) ch).getD (i+1) 0-seg.getD i 0=(Bb9 (fun i=>seg.getD i 0) ch).getD i 0:=by
   rw[Bbs _ (by omega),Bbs _ (by omega),show ch-1-i=(ch-1-(i+1))+1 by omega,unV,show ch-2-(ch-1-(i+1))=i by omega]
  rw[Hh,Qp,show((i+1:Nat):Int)-1=(i:Int) by omega,if_pos (by rw[Cl];simp),e3,Yv (by omega),Aa,g32 (by omega),Aa,Aa,if_pos (by simp),Cb5,Aa,Yv (by omega),Aa,hv,Ars (by omega),Aa,Bc (by omega) (by omega)]
  have ih:=Bar seg z ch h6 hs hz i q (by omega) (by omega)
  rw[←ih]
  congr 1
  apply Tj
  intro k _
  rw[Bool.eq_iff_iff];simp;omega
theorem Brv{l:List Int32}{i:Nat}(v:Int32)(h:i<l.length):(l.set i v).getD i 0=v:=by
 rw[Hr (by rw[List.length_set];exact h)];simp
theorem Bsh(seg:List Int32)(ch:Nat)(h1:1≤ch)(h6:ch≤6)(hs:seg.length=ch):Vv seg=some (Bb9 (fun i=>seg.getD i 0) ch):=by
 have hlen:=Ap2 (fun i=>seg.getD i 0) ch
 have hzl:(List.replicate ch (0:Int32)).length=ch:=by simp
 have e1:Ah (Ac seg) 1=((ch-1:Nat):Int):=by rw[Ac,hs,Bc (by omega) (by omega)];omega
 have e2:Ah (Ac seg) 2=((ch-1:Nat):Int)-1:=by rw[Ac,hs,Bc (by omega) (by omega)];omega
 have hlast:=Bbs (fun i=>seg.getD i 0) (show ch-1<ch by omega)
 rw[show ch-1-(ch-1)=0 by omega,unV]at hlast
 have hend:∀z:List Int32,z.length=ch→z.getD (ch-1) 0=(Bb9 (fun i=>seg.getD i 0) ch).getD (ch-1) 0→Pz seg z=some (Bb9 (fun i=>seg.getD i 0) ch):=by
  intro z hz hzl
  have h:=Bar seg z ch h6 hs hz (ch-1) Al (by omega) (by have:=Ak;omega)
  have e:sel (fun k=>decide (ch-1≤k)) (Bb9 (fun i=>seg.getD i 0) ch) z=z:=by
   apply List.ext_getElem (by rw[Af4,hlen,hz])
   intro k k1 k2
   rw[Ra]
   by_cases hk:ch-1≤k
   ·obtain rfl:k=ch-1:=by omega
    rw[if_pos (by simp),←hzl,Hr k2]
   ·rw[if_neg (by simpa using hk),Hr k2]
  rw[e]at h
  rw[Pz,Aaq,e2]
  exact h
 rw[Vv,Aah,Ac,hs,Ayj (by omega) (by omega),Aa,Ay (by rw[Bb];simp),Aa]
 rw[Ac,hs]at e1
 rw[Ac,hs]at e2
 have hz1:(List.replicate (Int.toNat (ch:Int)) (0:Int32)).length=ch:=by simp
 have hs1:=g32 (l:=seg) (k:=ch-1) (by omega)
 rw[e1,hs1,Aa,g32 (by omega),Aa,Oz _ (by omega),Aa]
 by_cases hc:1<ch
 ·rw[if_pos hc]at hlast
  have e3:((ch-1:Nat):Int)-1=((ch-2:Nat):Int):=by omega
  have hs2:=g32 (l:=seg) (k:=ch-2) (by omega)
  rw[if_pos (by rw[Am];simp;omega),Aa,e2,e3,hs2,Aa,Bxa,Aa,g32 (by rw[List.length_set];omega),Aa,Oz _ (by rw[List.length_set];omega),Aa]
  refine hend _ (by simp) ?_
  rw[hlast,Brv _ (by rw[List.length_set];omega)]
 ·rw[if_neg hc]at hlast
  rw[if_neg (by rw[Am];simp;omega)]
  refine hend _ (by simp) ?_
  rw[hlast,Brv _ (by omega)]
theorem Cfn(ch:Nat)(m:List Int32)(h1:1≤ch)(h6:ch≤6)(hm:m.length %ch=0)(hl2:m.length≤4000):Sd (ch:Int) m=some 0:=by
 rw[Sd,if_neg (by simp[Af,Am];omega),if_neg (by rw[Am,Ac];simp;omega),Ay (by rw[Aj];simp;omega),Aa,if_neg]
 rw[Am,Ff,Ac,←Int.ofNat_tmod,hm];simp
theorem Bdj(ch:Nat)(m:List Int32)(h1:1≤ch)(h6:ch≤6)(hm:m.length %ch=0)(hl2:m.length≤4000):∀(j at' q:Nat),at' %ch=0→at'≤m.length→m.length-at'≤j→j<q→
  Ny (ch:Int) m q (at':Int) ((unm ch m).take at')=some (unm ch m,0)
 |j,at',q+1,ha,hle,hj,hq=>by
  have hlen:=Aso ch m
  rw[Ny,Agr]
  by_cases h:at'<m.length
  ·have hb:=Az0 ha hm h
   have e4:Ad (at':Int) (ch:Int)=((at'+ch:Nat):Int):=by rw[Ag (by omega) (by omega)];omega
   have hrest:=Bdj ch m h1 h6 hm hl2 (j-1) (at'+ch) q (by rw[Nat.add_mod_right,ha]) hb (by omega) (by omega)
   have hseg:((m.take (at'+ch)).drop at').length=ch:=by simp;omega
   have htl:((unm ch m).take at').length=at':=by simp[hlen];omega
   rw[if_pos (by rw[Af,Ac];simp;omega),e4,Ww (by omega) (by omega) (by omega),Aa,show((at'+ch:Nat):Int).toNat=at'+ch from rfl,show(at':Int).toNat=at' from rfl,Bsh _ ch h1 h6 hseg,Aa,Bt (by rw[htl,Ap2];omega),Aa]
   have e:(unm ch m).take at'++Bb9 (fun i=>((m.take (at'+ch)).drop at').getD i 0) ch=(unm ch m).take (at'+ch):=by
    apply List.ext_getElem (by rw[List.length_append,htl,Ap2,List.length_take,hlen];omega)
    intro k k1 k2
    rw[List.length_take,hlen]at k2
    rw[List.getElem_append,List.getElem_take]
    by_cases hk:k<at'
    ·rw[dif_pos (by rw[htl];exact hk),List.getElem_take]
    ·rw[dif_neg (by rw[htl];exact hk)]
     have hu:=Bbw (m:=m) ha (show k-at'<ch by omega) (by omega)
     rw[show at'+(k-at')=k by omega,Hr (by omega)]at hu
     have hx:∀n,n≤ch→unV (fun i=>((m.take (at'+ch)).drop at').getD i 0) ch n=unV (fun i=>m.getD (at'+i) 0) ch n:=by
      have hf:∀i,i<ch→((m.take (at'+ch)).drop at').getD i 0=m.getD (at'+i) 0:=by
       intro i hi
       rw[Hr (by omega),Hr (by omega)];simp
      intro n
      induction n with
      |zero=>
       intro _;rw[unV,unV,hf _ (by omega)];split
       ·rw[hf _ (by omega)]
       ·rfl
      |succ n ih=>intro hn;rw[unV,unV,ih (by omega),hf _ (by omega)]
     have hy:=Bbs (fun i=>((m.take (at'+ch)).drop at').getD i 0) (show k-at'<ch by omega)
     rw[Hr (by rw[Ap2];omega)]at hy
     rw[hu,←hx _ (by omega),←hy]
     congr 1
     rw[htl]
   rw[e]
   exact hrest
  ·rw[if_neg (by rw[Af,Ac];simp;omega),List.take_of_length_le (by omega)];rfl
theorem Byq(ch:Nat)(m:List Int32)(h1:1≤ch)(h6:ch≤6)(hm:m.length %ch=0)(hl2:m.length≤4000):Ado (ch:Int) m=some (unm ch m,0):=by
 have h:=Bdj ch m h1 h6 hm hl2 m.length 0 Al (by simp) (by omega) (by omega) (by have:=Ak;omega)
 rw[Ado,Agq,Cfn ch m h1 h6 hm hl2,Aa,if_neg (by rw[Aj];simp)]
 exact h
end Go.Pl
set_option linter.unusedVariables false
set_option linter.unusedSimpArgs false
namespace Go.Pl
open Go Go.Lv
def pre{α:Type}(ch c:Nat)(f:α→Nat→α)(a0:α):Nat→α
 |0=>a0
 |m+1=>if m %ch=c then f (pre ch c f a0 m) m else pre ch c f a0 m
theorem Bu0{α:Type}(ch c:Nat)(f:α→Nat→α)(a0:α):∀m,m≤c→c<ch→pre ch c f a0 m=a0
 |0,_,_=>rfl
 |m+1,h,h2=>by rw[pre,if_neg (by rw[Nat.mod_eq_of_lt (by omega)];omega),Bu0 ch c f a0 m (by omega) h2]
theorem Bqv{α:Type}(ch c i:Nat)(f:α→Nat→α)(a0:α)(hi:i %ch=c)(hc:c<ch):∀j,j<ch→pre ch c f a0 (i+1+j)=pre ch c f a0 (i+1)
 |0,_=>rfl
 |j+1,h=>by
  have hne:(i+1+j) %ch≠c:=by
   intro e
   have h1:(i+(1+j)) %ch=i %ch:=by rw[hi,←e];congr 1;omega
   have h2:(1+j) %ch=0:=by
    have h3:=Nat.sub_mod_eq_zero_of_mod_eq h1
    rwa [Nat.add_sub_cancel_left]at h3
   rw[Nat.mod_eq_of_lt (by omega)]at h2;omega
  rw[show i+1+(j+1)=(i+1+j)+1 by omega,pre,if_neg hne,Bqv ch c i f a0 hi hc j (by omega)]
theorem Bzm{α:Type}(ch c i:Nat)(f:α→Nat→α)(a0:α)(hi:i %ch=c)(hc:c<ch):pre ch c f a0 (i+ch)=f (pre ch c f a0 i) i:=by
 have h:=Bqv ch c i f a0 hi hc (ch-1) (by omega)
 rw[show i+1+(ch-1)=i+ch by omega]at h
 rw[h,pre,if_pos hi]
abbrev CS:=Int32×List Int32×List Int32
def Bpg(bits:Int)(s:CS)(y:Int32):Int32:=y+gF (sB bits) s.2.1 s.2.2+gs (shB bits) s.1
def Bjy(bits:Int)(s:CS)(y:Int32):CS:=(Bpg bits s y,lrn s.2.1 s.2.2 y,(y+gF (sB bits) s.2.1 s.2.2)::s.2.2.take 15)
def cst(bits:Int)(ch:Nat)(t:List Int32)(v:List UInt32)(c:Nat):Nat→CS:=pre ch c (fun s i=>Bjy bits s (Aj1 (v.getD i 0))) (0,t,List.replicate 16 0)
def OkC(bits:Int)(s:CS):Prop:=OkF (sB bits) s.2.1 s.2.2
theorem Bl0(bits:Int)(ch:Nat){t:List Int32}(ht:t.length=16)(v:List UInt32)(c:Nat):∀m,OkC bits (cst bits ch t v c m)
 |0=>⟨Cio bits,ht,by simp[cst,pre]⟩
 |m+1=>by
  have ih:=Bl0 bits ch ht v c m
  rw[cst,pre]
  split
  ·exact Cbf ih _ _
  ·exact ih
def smp(bits:Int)(ch:Nat)(t:List Int32)(v:List UInt32):List Int32:=(List.range v.length).map fun i=>Bpg bits (cst bits ch t v (i %ch) i) (Aj1 (v.getD i 0))
theorem Asf(bits:Int)(ch:Nat)(t:List Int32)(v:List UInt32):(smp bits ch t v).length=v.length:=by simp[smp]
theorem Bmn(bits:Int)(ch:Nat)(t:List Int32)(v:List UInt32){i:Nat}(h:i<v.length):(smp bits ch t v).getD i 0=Bpg bits (cst bits ch t v (i %ch) i) (Aj1 (v.getD i 0)):=by
 rw[Hr (by rw[Asf];exact h)];simp[smp]
abbrev CL:=Int×Int32×(Int×(List Int32)×(List Int32)×Unit)×Unit
def toC(bits:Int)(s:CS):CL:=(bits,s.1,(sB bits,s.2.1,s.2.2,()),())
def cts(bits:Int)(ch:Nat)(t:List Int32)(v:List UInt32)(i:Nat):List CL:=(List.range 6).map fun c=>toC bits (cst bits ch t v c i)
theorem Bu1{bits:Int}{ch:Nat}{t:List Int32}{v:List UInt32}{i c:Nat}(h:c<6):getI (cts bits ch t v i) (c:Int)=some (toC bits (cst bits ch t v c i)):=by
 rw[Bu (by simp[cts];exact h)];simp[cts]
theorem Bpb(bits:Int)(ch:Nat)(t:List Int32)(v:List UInt32)(c m:Nat):cst bits ch t v c (m+1)=if m %ch=c then Bjy bits (cst bits ch t v c m) (Aj1 (v.getD m 0))else cst bits ch t v c m:=rfl
theorem Bvz{bits:Int}{ch:Nat}{t:List Int32}{v:List UInt32}{i c:Nat}(h:c<6)(hc:i %ch=c):Ji (cts bits ch t v i) (c:Int) (toC bits (Bjy bits (cst bits ch t v c i) (Aj1 (v.getD i 0))))=some (cts bits ch t v (i+1)):=by
 rw[Oz _ (by simp[cts];exact h)]
 congr 1
 apply List.ext_getElem (by simp[cts])
 intro k h1 h2
 rw[List.getElem_set]
 simp only[cts,List.getElem_map,List.getElem_range]
 by_cases hk:c=k
 ·subst hk;rw[if_pos rfl,Bpb,if_pos hc]
 ·rw[if_neg hk,Bpb,if_neg (by omega)]
section
variable {bits:Int} {ch:Nat} {t:List Int32} {v:List UInt32}
theorem Brt(hb:BitsOk bits)(ht:t.length=16)(h1:1≤ch)(h6:ch≤6)(hv:v.length≤4000):∀(j i q:Nat),i+j=v.length→j<q→
  If v (ch:Int) bits q (i:Int) (cts bits ch t v i) ((smp bits ch t v).take i)=Lm (ch:Int) bits (smp bits ch t v)
 |0,i,q+1,hi,_=>by
  rw[If,Ln,if_neg (by rw[Af,Ac];simp;omega),List.take_of_length_le (by rw[Asf];omega)]
 |j+1,i,q+1,hi,hq=>by
  have hlen:=Asf bits ch t v
  have hc:i %ch<6:=Nat.lt_of_lt_of_le (Nat.mod_lt _ (by omega)) h6
  have hok:=Bl0 bits ch ht v (i %ch) i
  have hs:=Bvz (bits:=bits) (ch:=ch) (t:=t) (v:=v) (i:=i) hc rfl
  have hx:=Bmn bits ch t v (i:=i) (by omega)
  have hcb:=Bx1 hb hok (cst bits ch t v (i %ch) i).1 (Aj1 (v.getD i 0))
  have ih:=Brt hb ht h1 h6 hv j (i+1) q (by omega) (by omega)
  rw[Kn (by omega),←Hr (by omega),hx]at ih
  rw[If,Ln,if_pos (by rw[Af,Ac];simp;omega),Ba1 (by omega),Aa,Ay (by rw[Aj];simp;omega),Aa,Ae8,Bu1 hc,Aa,Aa,Bz9,Aa]
  refine Eq.trans (congrArg (fun o=>Option.bind o _) hcb) ?_
  rw[Aa]
  simp only
  rw[Xj,Ai3,if_neg (by rw[Aj];simp),Ae8]
  refine Eq.trans (congrArg (fun o=>Option.bind o _) hs) ?_
  rw[Aa,Bt (by simp;omega),Aa,Ag (by omega) (by omega)]
  exact ih
theorem Bwm(hb:BitsOk bits)(ht:t.length=16)(h1:1≤ch)(h6:ch≤6)(hv:v.length≤4000):So (ch:Int) bits t v=Lm (ch:Int) bits (smp bits ch t v):=by
 have h:=Brt hb ht h1 h6 hv v.length 0 Al (by omega) (by have:=Ak;omega)
 have e:Al=(Al-7)+1+1+1+1+1+1+1:=by have:=Ak;omega
 have hs:Pv v (ch:Int) bits t 0 (List.replicate 6 ((0:Int),(0:Int32),((0:Int),(List.replicate 16 (0:Int32)),(List.replicate 16 (0:Int32)),()),()))=Xh v (ch:Int) bits (cts bits ch t v 0):=by
  rw[Pv,e]
  obtain rfl|rfl|rfl:=hb<;>rfl
 rw[So,Zp,hs]
 exact h
theorem Bki(bk:Int→List Int32→Option (List Int32))(hb:BitsOk bits)(ht:t.length=16)(h1:1≤ch)(h6:ch≤6)(hv:v.length≤4000)(z:List Int32)(c:Nat)(hc:c<ch):∀(j i q:Nat),i %ch=c→v.length-i≤j→i≤5000→j<q→
  Ko bk v (ch:Int) bits t (c:Int) q (i:Int) (sel (fun k=>decide (k %ch<c∨(k %ch=c∧k<i))) (smp bits ch t v) z) bits (cst bits ch t v c i).1 (sB bits) (cst bits ch t v c i).2.1 (cst bits ch t v c i).2.2=
   bk ((c+1:Nat):Int) (sel (fun k=>decide (k %ch<c+1)) (smp bits ch t v) z)
 |j,i,q+1,hi,hj,hi5,hq=>by
  have hlen:=Asf bits ch t v
  rw[Ko,Aaf]
  by_cases h:i<v.length
  ·have hok:=Bl0 bits ch ht v c i
   have hst:=Bxh hb hok (cst bits ch t v c i).1 (Aj1 (v.getD i 0))
   have hx:=Bmn bits ch t v (i:=i) h
   rw[hi]at hx
   have ih:=Bki bk hb ht h1 h6 hv z c hc (j-1) (i+ch) q (by rw[Nat.add_mod_right];exact hi) (by omega) (by omega) (by omega)
   have Bha:cst bits ch t v c (i+ch)=Bjy bits (cst bits ch t v c i) (Aj1 (v.getD i 0)):=Bzm ch c i _ _ hi hc
   rw[Bha]at ih
   have hset:=Ars (p:=fun k=>decide (k %ch<c∨(k %ch=c∧k<i))) (a:=smp bits ch t v) (b:=z) (k:=i) (by omega)
   rw[hx]at hset
   have hcong:sel (fun j=>decide (j %ch<c∨(j %ch=c∧j<i))||decide (j=i)) (smp bits ch t v) z=sel (fun k=>decide (k %ch<c∨(k %ch=c∧k<i+ch))) (smp bits ch t v) z:=by
    apply Tj
    intro k _
    rw[Bool.eq_iff_iff]
    simp only[Bool.or_eq_true,decide_eq_true_eq]
    constructor
    ·rintro((h1|h1)|h1)
     ·exact .inl h1
     ·exact .inr ⟨h1.1,by omega⟩
     ·subst h1;exact .inr ⟨hi,by omega⟩
    ·rintro(h1|⟨h1,h2⟩)
     ·exact .inl (.inl h1)
     ·by_cases h3:k<i
      ·exact .inl (.inr ⟨h1,h3⟩)
      ·refine .inr ?_
       have h4:(i+(k-i)) %ch=i %ch:=by rw[show i+(k-i)=k by omega,h1,hi]
       have h5:=Nat.sub_mod_eq_zero_of_mod_eq h4
       rw[Nat.add_sub_cancel_left,Nat.mod_eq_of_lt (by omega)]at h5
       omega
   rw[hcong]at hset
   rw[if_pos (by rw[Af,Ac];simp;omega),Ba1 h,Aa,Ce1,Aa]
   refine Eq.trans (congrArg (fun o=>Option.bind o _) hst) ?_
   rw[Aa]
   simp only
   rw[Aap,Aaw,Yv (by omega),Aa]
   refine Eq.trans (congrArg (fun o=>Option.bind o _) hset) ?_
   rw[Aa,Aat,Aal,Ag (by omega) (by omega)]
   exact ih
  ·rw[if_neg (by rw[Af,Ac];simp;omega),Aak,Aar,Ag (by omega) (by omega)]
   have hcong:sel (fun k=>decide (k %ch<c∨(k %ch=c∧k<i))) (smp bits ch t v) z=sel (fun k=>decide (k %ch<c+1)) (smp bits ch t v) z:=by
    apply Tj
    intro k hk
    rw[Bool.eq_iff_iff]
    simp only[decide_eq_true_eq]
    omega
   rw[hcong];rfl
theorem Bj4(hb:BitsOk bits)(ht:t.length=16)(h1:1≤ch)(h6:ch≤6)(hv:v.length≤4000)(z:List Int32):∀(j c q:Nat),c+j=ch→j<q→
  Fb v (ch:Int) bits t q (c:Int) (sel (fun k=>decide (k %ch<c)) (smp bits ch t v) z)=Qu (ch:Int) bits (smp bits ch t v)
 |0,c,q+1,hc,_=>by
  rw[Fb,Qi,if_neg (by rw[Af];simp;omega),Aw0 (fun k hk=>by have:=Nat.mod_lt k (show 0<ch by omega);simp;omega)]
 |j+1,c,q+1,hc,hq=>by
  have ih:=Bj4 hb ht h1 h6 hv z j (c+1) q (by omega) (by omega)
  have hin:=Bki (Fb v (ch:Int) bits t q) hb ht h1 h6 hv z c (by omega) v.length c Al (Nat.mod_eq_of_lt (by omega)) (by omega) (by omega) (by have:=Ak;omega)
  have h0:cst bits ch t v c c=(0,t,List.replicate 16 0):=Bu0 ch c _ _ c (Nat.le_refl _) (by omega)
  rw[h0]at hin
  have hcong:sel (fun k=>decide (k %ch<c∨(k %ch=c∧k<c))) (smp bits ch t v) z=sel (fun k=>decide (k %ch<c)) (smp bits ch t v) z:=by
   apply Tj
   intro k hk
   have:=Nat.mod_le k ch
   rw[Bool.eq_iff_iff]
   simp only[decide_eq_true_eq]
   omega
  rw[hcong]at hin
  rw[Fb,Qi,if_pos (by rw[Af];simp;omega),Ciw hb,Aa]
  simp only
  rw[Aag]
  exact Eq.trans hin ih
theorem Bk3(hb:BitsOk bits)(ht:t.length=16)(h1:1≤ch)(h6:ch≤6)(hv:v.length≤4000)(hm:v.length %ch=0):Po (ch:Int) bits t v=some (unm ch (smp bits ch t v)):=by
 have hlen:=Asf bits ch t v
 have h:=Bj4 hb ht h1 h6 hv (List.replicate v.length 0) ch 0 Al (by omega) (by have:=Ak;omega)
 rw[Avk (by rw[hlen];simp) (fun k _=>by simp)]at h
 rw[Po,Ab6,Ac,Ayj (by omega) (by omega),Aa,Ay (by rw[Bb];simp),Aa,Aa0]
 refine Eq.trans h ?_
 rw[Qu,Aas,Byq ch _ h1 h6 (by rw[hlen];exact hm) (by omega),Aa]
end
def hB(bits:Int):Int:=if bits=8 then 128 else if bits=16 then 32768 else 8388608
theorem Bf7{bits:Int}(h:BitsOk bits):Oc bits=some (Int32.ofInt (-(hB bits)),Int32.ofInt (hB bits-1),0):=by
 obtain rfl|rfl|rfl:=h<;>decide
theorem Ak2{bits:Int}(h:BitsOk bits):Gg bits=some (hB bits):=by
 obtain rfl|rfl|rfl:=h<;>rfl
theorem Ah0(bits:Int):0<hB bits∧hB bits≤8388608:=by
 unfold hB;split; · omega
 ·split<;>omega
theorem Bgh{bits:Int}(h:BitsOk bits)(l:List Int32)(hl:l.length≤4000):∀(j i q:Nat),i+j=l.length→j<q→
  Qo (Int32.ofInt (-(hB bits))) (Int32.ofInt (hB bits-1)) l q (i:Int)=As l (hB bits) q (i:Int)
 |0,i,q+1,hi,_=>by
  rw[Qo,Ac4,As,Cd,if_neg (by rw[Af,Ac];simp;omega),if_neg (by rw[Af,Ac];simp;omega)];rfl
 |j+1,i,q+1,hi,hq=>by
  have hh:=Ah0 bits
  have ih:=Bgh h l hl j (i+1) q (by omega) (by omega)
  have e1:(Int32.ofInt (-(hB bits))).toInt= -(hB bits):=by rw[Int32.toInt_ofInt,Int.bmod_eq_of_le (by show -(4294967296/2:Int)≤_;omega) (by show _<(4294967296+1)/2;omega)]
  have e2:(Int32.ofInt (hB bits-1)).toInt=hB bits-1:=by rw[Int32.toInt_ofInt,Int.bmod_eq_of_le (by show -(4294967296/2:Int)≤_;omega) (by show _<(4294967296+1)/2;omega)]
  rw[Qo,Ac4,As,Cd,if_pos (by rw[Af,Ac];simp;omega),if_pos (by rw[Af,Ac];simp;omega),g32 (by omega),Aa,Aa,Aa,El,Bmx,Cc (by omega) (by omega),Ag (by omega) (by omega),Bmt,Br7,e1,e2,Af,Cl]
  generalize(l.getD i 0).toInt=X
  by_cases h1:X< -(hB bits)
  ·rw[if_pos (by simp;omega),if_pos (by simp;omega)]
  ·rw[if_neg (c:=decide (X<0-hB bits)=true) (by simp;omega)]
   by_cases h2:hB bits≤X
   ·rw[if_pos (by simp;omega),if_pos (by simp;omega)]
   ·rw[if_neg (by simp;omega),if_neg (by simp;omega)];exact ih
theorem Ark{bits:Int}(h:BitsOk bits)(l:List Int32)(hl:l.length≤4000):Vt bits l=cadenzaref18_Check bits l:=by
 have hh:=Ah0 bits
 rw[Vt,Amj,Bf7 h,Aa,cadenzaref18_Check,Cx,Ak2 h,Aa]
 simp only
 rw[if_neg (by rw[Aj];simp),if_neg (by rw[Am,Ac];simp;omega),if_neg (by rw[Bb];simp;omega),if_neg (by rw[Am,Ac];simp;omega)]
 exact Bgh h l hl l.length 0 Al (by omega) (by have:=Ak;omega)
theorem Bsm{bits:Int}(h:BitsOk bits)(l:List Int32)(hl:l.length≤4000):∃e,cadenzaref18_Check bits l=some e:=by
 have hh:=Ah0 bits
 have key:∀(j i q:Nat),i+j=l.length→j<q→∃e,As l (hB bits) q (i:Int)=some e:=by
  intro j
  induction j with
  |zero=>
   intro i q hi hq
   obtain⟨q,rfl⟩:∃k,q=k+1:=⟨q-1,by omega⟩
   rw[As,Cd,if_neg (by rw[Af,Ac];simp;omega)]
   exact⟨_,rfl⟩
  |succ j ih=>
   intro i q hi hq
   obtain⟨q,rfl⟩:∃k,q=k+1:=⟨q-1,by omega⟩
   rw[As,Cd,if_pos (by rw[Af,Ac];simp;omega),g32 (by omega),Aa,Aa,Ag (by omega) (by omega)]
   split
   ·exact⟨_,rfl⟩
   ·split
    ·exact⟨_,rfl⟩
    ·exact ih (i+1) q (by omega) (by omega)
 obtain⟨e,he⟩:=key l.length 0 Al (by omega) (by have:=Ak;omega)
 rw[cadenzaref18_Check,Cx,Ak2 h,Aa,if_neg (by rw[Bb];simp;omega),if_neg (by rw[Am,Ac];simp;omega)]
 exact⟨e,he⟩
theorem Bly{bits:Int}{ch:Nat}{t:List Int32}{v:List UInt32}(hb:BitsOk bits)(ht:t.length=16)(h1:1≤ch)(h6:ch≤6)(hv:v.length≤4000)(hm:v.length %ch=0):
  ∃l e,Po (ch:Int) bits t v=some l∧Pn (ch:Int) bits l=some (if e≠0 then([],e)else(l,0))∧So (ch:Int) bits t v=some (if e≠0 then([],e)else(l,0))∧cadenzaref18_Check bits l=some e∧l.length=v.length:=by
 have hlen:=Asf bits ch t v
 have hul:=Aso ch (smp bits ch t v)
 obtain⟨e,he⟩:=Bsm hb (unm ch (smp bits ch t v)) (by omega)
 refine⟨unm ch (smp bits ch t v),e,Bk3 hb ht h1 h6 hv hm,?_,?_,he,by omega⟩
 ·rw[Pn,he,Aa]
  by_cases h:e=0
  ·rw[if_neg (by rw[Aj];simpa using h),if_neg (by simpa using h)]
  ·rw[if_pos (by rw[Aj];simpa using h),if_pos h]
 ·rw[Bwm hb ht h1 h6 hv,Lm,Aiz,Cdp ch _ h1 h6 (by rw[hlen];exact hm) (by omega),Aa]
  simp only
  rw[if_neg (by rw[Aj];simp),Ark hb _ (by omega),he,Aa]
  by_cases h:e=0
  ·rw[if_neg (by rw[Aj];simpa using h),if_neg (by simpa using h)]
  ·rw[if_pos (by rw[Aj];simpa using h),if_pos h]
end Go.Pl
set_option linter.unusedVariables false
set_option linter.unusedSimpArgs false
namespace Go.Pl
open Go Go.Lv
def Ady(s:Nat):Nat:=(s/2)^^^ (if s %2=1 then 3988292384 else 0)
theorem Bhi{s:Nat}(h:s<4294967296):Ady s<4294967296:=by
 unfold Ady
 exact Nat.xor_lt_two_pow (n:=32) (by simp;omega) (by split<;>decide)
theorem Bq4(x y:Nat):(x^^^y)/2=(x/2)^^^ (y/2):=by
 have:=Nat.shiftRight_xor_distrib (a:=x) (b:=y) (i:=1)
 simpa [Nat.shiftRight_eq_div_pow]using this
theorem Bxg(x y:Nat):Ady (x^^^y)=Ady x^^^Ady y:=by
 have h:(x^^^y) %2=(x %2+y %2) %2:=by
  have:=Nat.xor_mod_two_eq_one (a:=x) (b:=y)
  have h1:(x^^^y) %2<2:=Nat.mod_lt _ (by omega)
  omega
 simp only[Ady,Bq4,h]
 have hx:x %2=0∨x %2=1:=by omega
 have hy:y %2=0∨y %2=1:=by omega
 rcases hx with hx|hx<;>rcases hy with hy|hy<;>simp only[hx,hy]<;>simp
 ·rw[Nat.xor_assoc]
 ·rw[Nat.xor_assoc,Nat.xor_comm (y/2),Nat.xor_assoc,Nat.xor_comm 3988292384 (y/2)]
 ·rw[Nat.xor_assoc,Nat.xor_comm 3988292384,Nat.xor_assoc,Nat.xor_self];simp
def Sr:Nat→Nat→Nat
 |0,s=>s
 |k+1,s=>Sr k (Ady s)
theorem Bjw:∀(k x y:Nat),Sr k (x^^^y)=Sr k x^^^Sr k y
 |0,_,_=>rfl
 |k+1,x,y=>by rw[Sr,Bxg,Bjw k];rfl
theorem Bkw:∀(k h:Nat),Sr k (2^k*h)=h
 |0,h=>by simp[Sr]
 |k+1,h=>by
  have:Ady (2^(k+1)*h)=2^k*h:=by
   rw[Nat.pow_succ,Nat.mul_comm (2^k) 2,Nat.mul_assoc,Ady,if_neg (by omega),Nat.mul_div_cancel_left _ (by omega)];simp
  rw[Sr,this,Bkw k]
theorem Bhu:∀(k:Nat) {s:Nat},s<4294967296→Sr k s<4294967296
 |0,_,h=>h
 |k+1,_,h=>Bhu k (Bhi h)
def Anz(s c:Nat):Nat:=Sr 8 (s^^^c)
theorem Bfv{s c:Nat}(h:s<4294967296)(hc:c<256):Anz s c<4294967296:=Bhu 8 (Nat.xor_lt_two_pow (n:=32) (by simpa using h) (by simp;omega))
theorem Bq0{s c:Nat}(hc:c<256):Anz s c=(s/256)^^^Sr 8 ((s %256)^^^c):=by
 have h:s=(2^8*(s/256))^^^ (s %256):=by
  have h1:s %256<2^8:=by simpa using Nat.mod_lt s (by omega:256>0)
  have:=Nat.two_pow_add_eq_or_of_lt h1 (s/256)
  have h2:2^8*(s/256)|||s %256=(2^8*(s/256))^^^ (s %256):=by
   apply Nat.eq_of_testBit_eq;intro i
   rw[Nat.testBit_or,Nat.testBit_xor]
   by_cases hi:i<8
   ·have:(2^8*(s/256)).testBit i=false:=by rw[Nat.testBit_two_pow_mul];simp;omega
    rw[this];simp
   ·have:(s %256).testBit i=false:=Nat.testBit_lt_two_pow (Nat.lt_of_lt_of_le h1 (Nat.pow_le_pow_right (by omega) (by omega)))
    rw[this];simp
  omega
 rw[Anz]
 conv=>lhs;rw[h]
 rw[Nat.xor_assoc,Bjw,Bkw]
def Aps(s:Nat)(l:List UInt8):Nat:=l.foldl (fun s c=>Anz s c.toNat) s
def Cp(b:List UInt8):UInt32:=4294967295-UInt32.ofNat (Aps 4294967295 b)
theorem Cer(s:UInt32)(c:Nat)(hc:c<256):Ab4 s (Ae (Aa5 (UInt8.ofNat c) (2:UInt8)):Int)=some (UInt32.ofNat (s.toNat/2^^^ (if(s.toNat^^^c) %2=1 then 3988292384 else 0))):=by
 have h1:(Ae (Aa5 (UInt8.ofNat c) (2:UInt8)):Int)=((c %2:Nat):Int):=by
  rw[Afk,Cf0,UInt8.toNat_mod,UInt8.toNat_ofNat']
  show((c %256 %2:Nat):Int)=_
  omega
 have h2:geq (Aa5 s (2:UInt32)) (1:UInt32)=decide (s.toNat %2=1):=by
  rw[Bmg,Brf,Bool.eq_iff_iff]
  simp only[beq_iff_eq,decide_eq_true_eq]
  rw[←UInt32.toNat_inj,UInt32.toNat_mod];rfl
 have h3:Bg s (2:UInt32)=UInt32.ofNat (s.toNat/2):=by
  apply UInt32.toNat_inj.1
  rw[Bpq,UInt32.toNat_div,UInt32.toNat_ofNat']
  show s.toNat/2=_
  have:=s.toNat_lt
  omega
 have h4:Pk (Bg s (2:UInt32)) (3988292384:UInt32)=UInt32.ofNat (s.toNat/2^^^3988292384):=by
  apply UInt32.toNat_inj.1
  rw[h3,Aqt,UInt32.toNat_xor,UInt32.toNat_ofNat',UInt32.toNat_ofNat']
  have:=s.toNat_lt
  rw[Nat.mod_eq_of_lt (a:=s.toNat/2) (by omega),Nat.mod_eq_of_lt]
  ·rfl
  ·exact Nat.xor_lt_two_pow (n:=32) (by omega) (by decide)
 have hx:(s.toNat^^^c) %2=(s.toNat %2+c %2) %2:=by
  have:=Nat.xor_mod_two_eq_one (a:=s.toNat) (b:=c)
  have h1:(s.toNat^^^c) %2<2:=Nat.mod_lt _ (by omega)
  omega
 have hs:s.toNat %2=0∨s.toNat %2=1:=by omega
 have hc2:c %2=0∨c %2=1:=by omega
 rw[Ab4,Ahh,h1,h2,hx]
 rcases hs with hs|hs<;>rcases hc2 with hc2|hc2<;>simp[hs,hc2,Bb,Ags,Ahe,Aqt,h3]
theorem Bed:∀(j i q:Nat) (s:UInt32) (c:Nat),i+j=8→j<q→c<2^j→Ka q s (UInt8.ofNat c) (i:Int)=some (UInt32.ofNat (Sr j (s.toNat^^^c)))
 |0,i,q+1,s,c,hi,_,hc=>by
  obtain rfl:i=8:=by omega
  obtain rfl:c=0:=by simpa using hc
  rw[Ka,Vs,if_neg (by rw[Af];simp),Agm,Ag7,Sr]
  simp
 |j+1,i,q+1,s,c,hi,hq,hc=>by
  have hc8:c<256:=Nat.lt_of_lt_of_le hc (show 2^(j+1)≤2^8 from Nat.pow_le_pow_right (by omega) (by omega))
  rw[Ka,Vs,if_pos (by rw[Af];simp;omega),Cer s c hc8,Aa,Ag (by omega) (by omega)]
  have e:Bg (UInt8.ofNat c) (2:UInt8)=UInt8.ofNat (c/2):=by
   apply UInt8.toNat_inj.1
   rw[Cc5,UInt8.toNat_div,UInt8.toNat_ofNat',UInt8.toNat_ofNat']
   show c %256/2=_
   omega
  rw[e]
  have h:=Bed j (i+1) q (UInt32.ofNat (s.toNat/2^^^ (if(s.toNat^^^c) %2=1 then 3988292384 else 0))) (c/2) (by omega) (by omega) (by rw[Nat.pow_succ]at hc;omega)
  rw[show((i:Int)+1)=((i+1:Nat):Int) by omega,h,UInt32.toNat_ofNat',Sr]
  congr 3
  have:=s.toNat_lt
  rw[Nat.mod_eq_of_lt,Ady,Bq4,Nat.xor_assoc,Nat.xor_assoc,Nat.xor_comm (c/2)]
  exact Nat.xor_lt_two_pow (n:=32) (by omega) (by split<;>decide)
theorem Cdr(s:UInt32)(c:UInt8):Anq s c=some (UInt32.ofNat (Anz s.toNat c.toNat)):=by
 have h:=Bed 8 0 Al s c.toNat (by omega) (by have:=Ak;omega) (by simpa using c.toNat_lt)
 rw[UInt8.ofNat_toNat]at h
 exact h
theorem Ax1(b:List UInt8)(hb:b.length<4611686018427387904):∀(j i q:Nat) (s:UInt32),i+j=b.length→j<q→Ia b q s (i:Int)=some (UInt32.ofNat (Aps s.toNat (b.drop i)))
 |0,i,q+1,s,hi,_=>by
  rw[Ia,Rr,if_neg (by rw[Af,Ac];simp;omega),show i=b.length by omega,List.drop_length]
  simp[Acw,Abf,Aps]
 |j+1,i,q+1,s,hi,hq=>by
  have hlt:i<b.length:=by omega
  rw[Ia,Rr,if_pos (by rw[Af,Ac];simp;omega),Bu hlt,Aa,Cdr,Aa,Ag (by omega) (by omega)]
  have h:=Ax1 b hb j (i+1) q (UInt32.ofNat (Anz s.toNat b[i].toNat)) (by omega) (by omega)
  rw[show((i:Int)+1)=((i+1:Nat):Int) by omega,h,drop_cons hlt,UInt32.toNat_ofNat',Nat.mod_eq_of_lt (Bfv s.toNat_lt b[i].toNat_lt)]
  rfl
theorem Cal(b:List UInt8)(hb:b.length<4611686018427387904):Sn b=some (Cp b):=by
 have h:=Ax1 b hb b.length 0 Al 4294967295 (by omega) (by have:=Ak;omega)
 rw[Sn,Aiu,Ab8,Adn,show((0:Int))=((0:Nat):Int)from rfl,h,Aa,Bft];rfl
theorem Cfx(c:UInt32):Pk (Bo c (GI.toZ (1:UInt64)).toNat) (Ar (3988292384:UInt32) (Dq c (1:UInt32)))=UInt32.ofNat (Ady c.toNat):=by
 apply UInt32.toNat_inj.1
 have e:(GI.toZ (1:UInt64)).toNat=1:=rfl
 have h1:(Bo c 1).toNat=c.toNat/2:=by rw[Ahp]
 have h2:(Ar (3988292384:UInt32) (Dq c (1:UInt32))).toNat=if c.toNat %2=1 then 3988292384 else 0:=by
  rw[Bzh,Biy,UInt32.toNat_mul,UInt32.toNat_and]
  show 3988292384*(c.toNat&&&1) %4294967296=_
  rw[Nat.and_one_is_mod]
  have:c.toNat %2=0∨c.toNat %2=1:=by omega
  rcases this with h|h<;>simp[h]
 rw[e,Aqt,UInt32.toNat_xor,h1,h2,UInt32.toNat_ofNat',Nat.mod_eq_of_lt (Bhi c.toNat_lt)];rfl
theorem Brb(bk16:Int→List UInt32→Option (UInt32×Int))(s:UInt32)(b:List UInt8)(x:Int)(t:List UInt32):∀(j i q:Nat) (c:UInt32),i+j=8→j<q→
  Qt bk16 s b x t q c (i:Int)=Adb bk16 s b x (UInt32.ofNat (Sr j c.toNat)) t
 |0,i,q+1,c,hi,_=>by
  obtain rfl:i=8:=by omega
  rw[Qt,Ace,if_neg (by rw[Af];simp),Sr,UInt32.ofNat_toNat]
 |j+1,i,q+1,c,hi,hq=>by
  rw[Qt,Ace,if_pos (by rw[Af];simp;omega),Cfx,Ag (by omega) (by omega),show((i:Int)+1)=((i+1:Nat):Int) by omega,Brb bk16 s b x t j (i+1) q _ (by omega) (by omega),UInt32.toNat_ofNat',Nat.mod_eq_of_lt (Bhi c.toNat_lt)];rfl
def tbl(n:Nat):List UInt32:=(List.range n).map fun i=>UInt32.ofNat (Sr 8 i)
theorem Bv2(s:UInt32)(b:List UInt8):∀(j i q:Nat),i+j=256→j<q→Mq s b q (i:Int) (tbl i++List.replicate j 0)=Acn s b (tbl 256)
 |0,i,q+1,hi,_=>by
  obtain rfl:i=256:=by omega
  rw[Mq,Ac2,if_neg (by rw[Af];simp)];simp
 |j+1,i,q+1,hi,hq=>by
  have hlen:(tbl i++List.replicate (j+1) 0).length=i+(j+1):=by simp[tbl]
  rw[Mq,Ac2,if_pos (by rw[Af];simp;omega),Ala]
  have h:=Brb (Mq s b q) s b (i:Int) (tbl i++List.replicate (j+1) 0) 8 0 Al (Ae (i:Int)) (by omega) (by have:=Ak;omega)
  rw[show((0:Int))=((0:Nat):Int)from rfl,h,Adb,Alu,Bu (by rw[hlen];omega),Aa,Oz _ (by rw[hlen];omega),Aa,Akf,Au0,Ag (by omega) (by omega)]
  have e:(Ae (i:Int):UInt32).toNat=i:=by rw[Bjr,UInt32.toNat_ofNat',Nat.mod_eq_of_lt (by omega)]
  rw[e,List.replicate_succ,Am1 (by simp[tbl])]
  have h2:=Bv2 s b j (i+1) q (by omega) (by omega)
  have h3:tbl (i+1)=tbl i++[UInt32.ofNat (Sr 8 i)]:=by simp[tbl,List.range_succ]
  rw[h3]at h2
  rw[show((i:Int)+1)=((i+1:Nat):Int) by omega,←h2]
  simp
theorem Cdc{i:Nat}(h:i<256):getI (tbl 256) (i:Int)=some (UInt32.ofNat (Sr 8 i)):=by
 rw[Bu (by simpa [tbl]using h)];simp[tbl]
theorem Bzk(s:UInt32)(c:UInt8):getI (tbl 256) (GI.toZ (Pk (Ae s:UInt8) c))=some (UInt32.ofNat (Sr 8 ((s.toNat %256)^^^c.toNat))):=by
 have e:GI.toZ (Pk (Ae s:UInt8) c)=(((s.toNat %256)^^^c.toNat:Nat):Int):=by
  rw[Zk,Bm2,UInt8.toNat_xor,Ay4,UInt8.toNat_ofNat']
 rw[e,Cdc]
 exact Nat.xor_lt_two_pow (n:=8) (by simp;omega) (by simpa using c.toNat_lt)
theorem Byt(s:UInt32)(c:UInt8):Pk (Bo s (GI.toZ (8:UInt64)).toNat) (UInt32.ofNat (Sr 8 ((s.toNat %256)^^^c.toNat)))=UInt32.ofNat (Anz s.toNat c.toNat):=by
 apply UInt32.toNat_inj.1
 have hlt:Sr 8 ((s.toNat %256)^^^c.toNat)<4294967296:=Bhu 8 (Nat.xor_lt_two_pow (n:=32) (by simp;omega) (by have:=c.toNat_lt;simp;omega))
 have e:(GI.toZ (8:UInt64)).toNat=8:=rfl
 rw[e,Aqt,UInt32.toNat_xor,Ahp,UInt32.toNat_ofNat',UInt32.toNat_ofNat',Nat.mod_eq_of_lt hlt,Nat.mod_eq_of_lt (Bfv s.toNat_lt c.toNat_lt),Bq0 c.toNat_lt]
theorem Bri(b:List UInt8)(hb:b.length<4611686018427387904):∀(j i q:Nat) (s:UInt32),i+j=b.length→j<q→Qg b (tbl 256) q s (i:Int)=some (UInt32.ofNat (Aps s.toNat (b.drop i)),0)
 |0,i,q+1,s,hi,_=>by
  rw[Qg,Ada,if_neg (by rw[Af,Ac];simp;omega),show i=b.length by omega,List.drop_length]
  simp[Aj5,Aua,Aps]
 |j+1,i,q+1,s,hi,hq=>by
  have hlt:i<b.length:=by omega
  rw[Qg,Ada,if_pos (by rw[Af,Ac];simp;omega),Bu hlt,Aa,Bzk,Aa,Aa,Byt,Ag (by omega) (by omega)]
  have h:=Bri b hb j (i+1) q (UInt32.ofNat (Anz s.toNat b[i].toNat)) (by omega) (by omega)
  rw[show((i:Int)+1)=((i+1:Nat):Int) by omega,h,drop_cons hlt,UInt32.toNat_ofNat',Nat.mod_eq_of_lt (Bfv s.toNat_lt b[i].toNat_lt)]
  rfl
theorem Cdk(s:UInt32)(b:List UInt8)(hb:b.length≤100000):Arb s b=some (UInt32.ofNat (Aps s.toNat b),0):=by
 have h:=Bv2 s b 256 0 Al (by omega) (by have:=Ak;omega)
 have h2:=Bri b (by omega) b.length 0 Al s (by omega) (by have:=Ak;omega)
 rw[Arb,Apd,if_neg (by rw[Am,Ac];simp;omega),Ak1]
 refine Eq.trans h ?_
 rw[Acn,Aj6,Akw,Ale,Aki]
 exact h2
theorem Ccb(a:UInt32):Bgc a=4294967295-a:=by
 have h:=a.toNat_lt
 have e:Bgc a=UInt32.ofNat (BitVec.ofInt 32 4294967295^^^BitVec.ofInt 32 (a.toNat:Int)).toNat:=Eo _
 apply UInt32.toNat_inj.1
 rw[e,UInt32.toNat_ofNat',UInt32.toNat_sub_of_le _ _ (by rw[UInt32.le_iff_toNat_le];show a.toNat≤4294967295;omega)]
 have h1:BitVec.ofInt 32 (a.toNat:Int)=a.toBitVec:=Bnf a
 have h2:(BitVec.ofInt 32 4294967295:BitVec 32)=BitVec.allOnes 32:=by decide
 rw[h1,h2,BitVec.allOnes_xor,BitVec.toNat_not]
 show(4294967296-1-a.toNat) %4294967296=4294967295-a.toNat
 omega
theorem Bcv(b:List UInt8)(hb:b.length≤100000):Wh b=some (Cp b,0):=by
 rw[Wh,Cdk _ _ hb,Aa]
 simp only[Aj,Ccb]
 rfl
end Go.Pl
set_option linter.unusedVariables false
set_option linter.unusedSimpArgs false
namespace Go.Pl
open Go Go.Lv
theorem Bmd:∀{l m:List UInt8},l.length=m.length→Ef l=Ef m→l=m
 |[],[],_,_=>rfl
 |x::l,y::m,h,e=>by
  simp only[Ef]at e
  have hx:=x.toNat_lt
  have hy:=y.toNat_lt
  have h1:x=y:=UInt8.toNat_inj.1 (by omega)
  rw[h1,Bmd (l:=l) (m:=m) (by simpa using h) (by omega)]
theorem Yp:∀(w n:Nat),Ef (Qv n w)=n %256^w
 |0,n=>by simp[Qv,Ef,Nat.mod_one]
 |w+1,n=>by
  rw[Qv,Ef,Yp w (n/256),UInt8.toNat_ofNat',show(256:Nat)^(w+1)=256*256^w by rw[Nat.pow_succ,Nat.mul_comm],Nat.mod_mul]
def Nj(b:List UInt8):Int:=
 if b.length<5 then 24 else if 41254<b.length then 4 else if(Cp (b.take (b.length-4))).toNat≠Ef (b.drop (b.length-4))then 22 else 0
theorem Bqr(b:List UInt8):Ac7 b=some (if Nj b≠0 then([],Nj b)else(b.take (b.length-4),0)):=by
 rw[Ac7]
 by_cases h1:b.length<5
 ·have hS:Nj b=24:=by rw[Nj,if_pos h1]
  rw[if_pos (by rw[Af,Ac];simp;omega),hS];rfl
 rw[if_neg (by rw[Af,Ac];simp;omega)]
 by_cases h2:41254<b.length
 ·have hS:Nj b=4:=by rw[Nj,if_neg h1,if_pos h2]
  rw[if_pos (by rw[Am,Ac];simp;omega),hS];rfl
 have e4:Ah (Ac b) 4=((b.length-4:Nat):Int):=by rw[Ac,Bc (by omega) (by omega)];omega
 have hd:(b.drop (b.length-4)).length=4:=by simp;omega
 rw[if_neg (by rw[Am,Ac];simp;omega),e4,Kt (by omega) (by omega),Aa,show((b.length-4:Nat):Int).toNat=b.length-4 from rfl,Bcv _ (by simp;omega),Aa]
 simp only
 rw[if_neg (by rw[Aj];simp),Qe (by omega) (by omega),Aa,show((b.length-4:Nat):Int).toNat=b.length-4 from rfl,Bov _ (by omega) (by omega),Aa]
 have hne:Be (leU (b.drop (b.length-4))) (Ae (Cp (b.take (b.length-4))):UInt64)=decide ((Cp (b.take (b.length-4))).toNat≠Ef (b.drop (b.length-4))):=by
  have hlt:=(Cp (b.take (b.length-4))).toNat_lt
  rw[Ajj,Bool.eq_iff_iff]
  simp only[bne_iff_ne,ne_eq,←UInt64.toNat_inj,decide_eq_true_eq]
  rw[Anr (by omega),Cr,UInt64.toNat_ofNat',Nat.mod_eq_of_lt (by omega)]
  exact⟨fun h e=>h e.symm,fun h e=>h e.symm⟩
 simp only
 rw[hne,Aa]
 by_cases h3:(Cp (b.take (b.length-4))).toNat≠Ef (b.drop (b.length-4))
 ·have hS:Nj b=22:=by rw[Nj,if_neg h1,if_neg h2,if_pos h3]
  rw[if_pos (by simp[h3]),hS];rfl
 ·have hS:Nj b=0:=by rw[Nj,if_neg h1,if_neg h2,if_neg h3]
  rw[if_neg (by rw[decide_eq_false h3];decide),hS];rfl
theorem Bwp(b:List UInt8)(hb:b.length≤1000000):Xk b=some (b++Qv (Cp b).toNat 4):=by
 have h:∀k:Nat,(Ae (Bo (Cp b) k):UInt8)=UInt8.ofNat ((Cp b).toNat/2^k):=by
  intro k;rw[Ay4,Ahp]
 have h0:(Ae (Cp b):UInt8)=UInt8.ofNat (Cp b).toNat:=Ay4 _
 have h1:=h 8
 have h2:=h 16
 have h3:=h 24
 rw[Xk,Cal b (by omega),Aa,Bt (by simp;omega),Aa,Bt (by simp;omega),Aa,h0,show(GI.toZ (8:UInt64)).toNat=8 from rfl,show(GI.toZ (16:UInt64)).toNat=16 from rfl,show(GI.toZ (24:UInt64)).toNat=24 from rfl,h1,h2,h3]
 simp only[Qv,Nat.div_div_eq_div_mul,List.nil_append]
theorem Ayz(b:List UInt8):Ps b=some (Nj b):=by
 rw[Ps]
 by_cases h1:b.length<5
 ·rw[if_pos (by rw[Af,Ac];simp;omega),Nj,if_pos h1]
 rw[if_neg (by rw[Af,Ac];simp;omega)]
 by_cases h2:41254<b.length
 ·rw[if_pos (by rw[Am,Ac];simp;omega),Nj,if_neg h1,if_pos h2]
 have e4:Ah (Ac b) 4=((b.length-4:Nat):Int):=by rw[Ac,Bc (by omega) (by omega)];omega
 have hd:(b.drop (b.length-4)).length=4:=by simp;omega
 rw[if_neg (by rw[Am,Ac];simp;omega),e4,Kt (by omega) (by omega),Aa,show((b.length-4:Nat):Int).toNat=b.length-4 from rfl,Bwp _ (by simp;omega),Aa]
 have hlt:=(Cp (b.take (b.length-4))).toNat_lt
 have hiff:(b.take (b.length-4)++Qv (Cp (b.take (b.length-4))).toNat 4 !=b)=decide ((Cp (b.take (b.length-4))).toNat≠Ef (b.drop (b.length-4))):=by
  rw[Bool.eq_iff_iff]
  simp only[bne_iff_ne,ne_eq,decide_eq_true_eq]
  constructor
  ·intro h e
   apply h
   have:Qv (Cp (b.take (b.length-4))).toNat 4=b.drop (b.length-4):=Bmd (by rw[Bq,hd]) (by rw[Yp,Nat.mod_eq_of_lt (by omega),e])
   rw[this,List.take_append_drop]
  ·intro h e
   apply h
   have hx:Qv (Cp (b.take (b.length-4))).toNat 4=b.drop (b.length-4):=by
    have e2:b.take (b.length-4)++Qv (Cp (b.take (b.length-4))).toNat 4=b.take (b.length-4)++b.drop (b.length-4):=by rw[e,List.take_append_drop]
    exact List.append_cancel_left e2
   rw[←hx,Yp,Nat.mod_eq_of_lt (by omega)]
 rw[hiff]
 by_cases h3:(Cp (b.take (b.length-4))).toNat≠Ef (b.drop (b.length-4))
 ·rw[if_pos (by simp[h3]),Nj,if_neg h1,if_neg h2,if_pos h3]
 ·rw[if_neg (by rw[decide_eq_false h3];decide),Nj,if_neg h1,if_neg h2,if_neg h3]
theorem Bq8{b:List UInt8}(h:Nj b=0):5≤b.length∧b.length≤41254:=by
 unfold Nj at h
 split at h
 ·simp at h
 ·split at h
  ·simp at h
  ·omega
theorem Bbd{c:Nat}(h1:1≤c)(h6:c≤6):Bg (4000:Int) (c:Int)=((4000/c:Nat):Int):=by
 have:c=1∨c=2∨c=3∨c=4∨c=5∨c=6:=by omega
 rcases this with rfl|rfl|rfl|rfl|rfl|rfl<;>rfl
theorem Cek(p:List UInt8)(h:p.length≤41250):okB p (8*p.length):=⟨by omega,by omega,fun k h1 h2=>by omega⟩
theorem Amz{bits:Int}{ch n:Nat}{t:List Int32}(b:List UInt8)(hb:BitsOk bits)(ht:t.length=16)(h1:1≤ch)(h6:ch≤6)(n1:1≤n)(n2:n≤4000/ch):
  ∃l e,deframe_Decode (ch:Int) bits t (n:Int) b=some (l,e)∧cadenzaref21_Decode (ch:Int) bits t (n:Int) b=some (l,e)∧(e=0→cadenzaref18_Check bits l=some 0∧l.length≤4000∧l.length=n*ch)∧(e≠0→l=[]):=by
 have hn:n*ch≤4000:=by
  have:=Nat.mul_le_mul_right ch n2
  have h2:=Nat.div_mul_le_self 4000 ch
  omega
 have hq4:=Bbd h1 h6
 generalize 4000/ch=mm at*
 have hck:Eg (ch:Int) bits=some 0:=by
  have hr:∃x y,Oc bits=some (x,y,0):=⟨_,_,Bf7 hb⟩
  obtain⟨x,y,hr⟩:=hr
  rw[Eg,hr,Aa]
  simp only
  rw[if_neg (by simp[Aj,Af,Am];omega)]
 have hh:=Ah0 bits
 have hasked:Cw (ch:Int) bits (n:Int)=some 0:=by
  rw[Cw,Ck,if_neg (by simp[Af,Am];omega),Ak2 hb,Aa,if_neg (by rw[Bb];simp;omega),Aa,if_neg (by simp[Aj,Af];omega),Ay (by rw[Aj];simp;omega),Aa,hq4,if_neg (by rw[Am];simp;omega)]
 rw[deframe_Decode,cadenzaref21_Decode,Lr,hck,hasked,Aa,Aa,if_neg (by rw[Aj];simp),if_neg (by rw[Af];simp;omega),Ay (by rw[Aj];simp;omega),Aa,hq4,if_neg (by rw[Am];simp;omega),if_neg (by rw[Aj];simp),Bqr,Ayz]
 by_cases hs:Nj b≠0
 ·rw[if_pos hs]
  simp only[Aa]
  rw[if_pos (by rw[Aj];simpa using hs),if_pos (by rw[Aj];simpa using hs)]
  exact⟨[],Nj b,rfl,rfl,fun e=>absurd e hs,fun _=>rfl⟩
 have hs0:Nj b=0:=by simpa using hs
 have hlen:=Bq8 hs0
 have e4:Ah (Ac b) 4=((b.length-4:Nat):Int):=by rw[Ac,Bc (by omega) (by omega)];omega
 rw[if_neg hs,hs0]
 simp only[Aa]
 rw[if_neg (by rw[Aj];simp),if_neg (by rw[Aj];simp),e4,Kt (by omega) (by omega),Aa,show((b.length-4:Nat):Int).toNat=b.length-4 from rfl]
 have hpl:(b.take (b.length-4)).length=b.length-4:=by simp
 generalize b.take (b.length-4)=p at*
 have e8:Ar (8:Int) (Ac p)=((8*p.length:Nat):Int):=by rw[Ac,Fq (by omega) (by omega)];omega
 have hp:=Cek p (by omega)
 have hv:=values_eq hp h1 h6 hn
 have hr:=Buk (N:=8*p.length) (p:=p) rfl (by omega) h1 h6 hn
 have hat:=Bl3 (ch:=ch) (p:=p) (N:=8*p.length) (n*ch) 0 [] (by omega)
 rw[Bnh,if_neg (by rw[Am,Ac];simp;omega),Ec,Bt (by simp;omega),Aa,Aa,Aa,List.nil_append,e8]
 simp only
 rw[if_neg (by rw[Aj];simp),hv,hr,Aa,Aa]
 generalize Wq ch p (8*p.length) (n*ch) 0 []=V at*
 obtain⟨v,at',e⟩:=V
 simp only at*
 by_cases he:e≠0
 ·rw[if_pos he,if_pos he]
  simp only
  rw[if_pos (by rw[Aj];simpa using he),Ls,Md,if_pos (by rw[Aj];simpa using he)]
  exact⟨[],e,rfl,rfl,fun h=>absurd h he,fun _=>rfl⟩
 have he0:e=0:=by simpa using he
 have hvl:=hat.2.2 he0
 simp only[List.length_nil,Nat.zero_add]at hvl
 rw[if_neg he,if_neg he]
 simp only
 rw[if_neg (by rw[Aj];simp),Bc (by omega) (by omega),show((8*p.length:Nat):Int)-(at':Int)=((8*p.length-at':Nat):Int) by omega,Ls,Md]
 by_cases h7:7<8*p.length-at'
 ·have hE:(if 7<8*p.length-at'∨Bk p at' (8*p.length-at')≠0 then(12:Int)else 0)=12:=if_pos (.inl h7)
  rw[if_pos (by rw[Cl];simp;omega),hE,if_pos (by decide)]
  exact⟨[],12,rfl,rfl,fun h=>absurd h (by decide),fun _=>rfl⟩
 rw[if_neg (by rw[Cl];simp;omega),Bck hp at' _ (by omega),if_neg (by omega),Aa]
 have hz:Be (Ni p at' (8*p.length-at')) (0:UInt64)=decide (Bk p at' (8*p.length-at')≠0):=by
  rw[Ajj,Bool.eq_iff_iff]
  simp only[bne_iff_ne,ne_eq,←UInt64.toNat_inj,decide_eq_true_eq]
  rw[Ux p _ _ (by omega)];rfl
 simp only
 rw[hz]
 by_cases hv0:Bk p at' (8*p.length-at')≠0
 ·have hE:(if 7<8*p.length-at'∨Bk p at' (8*p.length-at')≠0 then(12:Int)else 0)=12:=if_pos (.inr hv0)
  rw[if_pos (by simp[hv0]),hE,if_pos (by decide)]
  exact⟨[],12,rfl,rfl,fun h=>absurd h (by decide),fun _=>rfl⟩
 have hm:v.length %ch=0:=by rw[hvl];exact Nat.mul_mod_left n ch
 obtain⟨l,e,g1,g2,g3,g4,g5⟩:=Bly (v:=v) hb ht h1 h6 (by omega) hm
 have hE:(if 7<8*p.length-at'∨Bk p at' (8*p.length-at')≠0 then(12:Int)else 0)=0:=if_neg (by omega)
 rw[if_neg (by rw[decide_eq_false hv0];decide),hE,if_neg (by decide),g1,g3,Aa,Aa,g2]
 by_cases hl:e≠0
 ·rw[if_pos hl]
  exact⟨[],e,rfl,rfl,fun h=>absurd h hl,fun _=>rfl⟩
 ·rw[if_neg hl]
  have hl0:e=0:=by simpa using hl
  exact⟨l,0,rfl,rfl,fun _=>⟨by rw[g4,hl0],by omega,by omega⟩,fun e=>absurd rfl e⟩
end Go.Pl
set_option linter.unusedVariables false
set_option linter.unusedSimpArgs false
namespace Go.Pl
open Go Go.Lv
theorem Bzw(a b:Int32):a-(a-b)=b:=by
 apply Int32.toBitVec_inj.1
 simp only[Int32.toBitVec_sub]
 apply BitVec.eq_of_toNat_eq
 simp only[BitVec.toNat_sub]
 have:=a.toBitVec.isLt
 have:=b.toBitVec.isLt
 omega
theorem Anj(a b:Int32):a-b+b=a:=by
 apply Int32.toBitVec_inj.1
 simp only[Int32.toBitVec_sub,Int32.toBitVec_add]
 apply BitVec.eq_of_toNat_eq
 simp only[BitVec.toNat_sub,BitVec.toNat_add]
 have:=a.toBitVec.isLt
 have:=b.toBitVec.isLt
 omega
def mxV(f:Nat→Int32)(ch i:Nat):Int32:=if i+1<ch then f (i+1)-f i else if 1<ch then f (ch-1)-Bg (f (ch-1)-f (ch-2)) (2:Int32)else f (ch-1)
theorem Ca8{f g:Nat→Int32}{ch:Nat}(h1:1≤ch)(h:∀i,i<ch→f i=mxV g ch i):∀j,j<ch→unV f ch j=g (ch-1-j)
 |0,_=>by
  rw[unV]
  by_cases h2:1<ch
  ·rw[if_pos h2,h (ch-1) (by omega),h (ch-2) (by omega),mxV,mxV,if_neg (by omega),if_pos h2,if_pos (by omega),show ch-2+1=ch-1 by omega,Anj,Nat.sub_zero]
  ·rw[if_neg h2,h (ch-1) (by omega),mxV,if_neg (by omega),if_neg h2,Nat.sub_zero]
 |j+1,hj=>by
  rw[unV,Ca8 h1 h j (by omega),h (ch-2-j) (by omega),mxV,if_pos (by omega),show ch-2-j+1=ch-1-j by omega,Bzw]
  congr 1;omega
def mx(ch:Nat)(x:List Int32):List Int32:=(List.range x.length).map fun k=>mxV (fun i=>x.getD (k-k %ch+i) 0) ch (k %ch)
theorem Alr(ch:Nat)(x:List Int32):(mx ch x).length=x.length:=by simp[mx]
theorem Cbu{ch:Nat}{x:List Int32}{k:Nat}(h:k<x.length):(mx ch x).getD k 0=mxV (fun i=>x.getD (k-k %ch+i) 0) ch (k %ch):=by
 rw[Hr (by rw[Alr];exact h)];simp[mx]
theorem Cht{ch:Nat}{x:List Int32}(h1:1≤ch)(hm:x.length %ch=0):unm ch (mx ch x)=x:=by
 apply List.ext_getElem (by rw[Aso,Alr])
 intro k hk1 hk2
 have hr:=Nat.mod_lt k (show 0<ch by omega)
 have hle:=Nat.mod_le k ch
 have ha:(k-k %ch) %ch=0:=Nat.mod_eq_zero_of_dvd (Nat.dvd_sub_mod k)
 have hb:=Az0 ha hm (by omega)
 have e:=Bbw (m:=mx ch x) ha hr (by rw[Alr];omega)
 rw[show k-k %ch+k %ch=k by omega]at e
 rw[←Hr hk1,←Hr hk2,e]
 rw[Ca8 (g:=fun i=>x.getD (k-k %ch+i) 0) h1 (fun i hi=>?_) (ch-1-k %ch) (by omega)]
 ·congr 1;omega
 ·rw[Cbu (by omega)]
  have h2:(k-k %ch+i) %ch=i:=by rw[Nat.add_mod,ha,Nat.zero_add,Nat.mod_mod,Nat.mod_eq_of_lt hi]
  rw[h2,show k-k %ch+i-i=k-k %ch by omega]
def Av7(x:Int32):UInt32:=UInt32.ofNat (if 0≤x.toInt then 2*x.toInt.toNat else 2*(-x.toInt-1).toNat+1)
theorem Ccn(x:Int32):Aj1 (Av7 x)=x:=by
 have h:=Wv x
 have e:(Av7 x).toNat=if 0≤x.toInt then 2*x.toInt.toNat else 2*(-x.toInt-1).toNat+1:=by
  rw[Av7,UInt32.toNat_ofNat']
  split<;>exact Nat.mod_eq_of_lt (by omega)
 rw[Aj1,e]
 by_cases h0:0≤x.toInt
 ·rw[if_pos h0,if_pos (by omega),show((2*x.toInt.toNat/2:Nat):Int)=x.toInt by omega,Int32.ofInt_toInt]
 ·rw[if_neg h0,if_neg (by omega),show -(((2*(-x.toInt-1).toNat+1)/2:Nat):Int)-1=x.toInt by omega,Int32.ofInt_toInt]
theorem Bko{α:Type}(ch c:Nat)(f g:α→Nat→α)(a0:α):∀m:Nat,(∀i,i<m→∀a,f a i=g a i)→pre ch c f a0 m=pre ch c g a0 m
 |0,_=>rfl
 |m+1,h=>by
  rw[pre,pre,Bko ch c f g a0 m fun i hi=>h i (by omega),h m (by omega)]
theorem Bvd(bits:Int)(ch:Nat)(t:List Int32)(v w:List UInt32)(c i:Nat)(h:i≤v.length):cst bits ch t (v++w) c i=cst bits ch t v c i:=by
 unfold cst
 apply Bko
 intro j hj a
 have:(v++w).getD j 0=v.getD j 0:=by
  rw[List.getD_eq_getElem?_getD,List.getD_eq_getElem?_getD,List.getElem?_append_left (by omega)]
 rw[this]
def Bes(bits:Int)(s:CS)(x:Int32):Int32:=x-gs (shB bits) s.1-gF (sB bits) s.2.1 s.2.2
theorem Bk8(bits:Int)(s:CS)(x:Int32):Bpg bits s (Bes bits s x)=x:=by
 rw[Bpg,Bes,Anj,Anj]
def evl(bits:Int)(ch:Nat)(t m:List Int32):Nat→List UInt32
 |0=>[]
 |i+1=>evl bits ch t m i++[Av7 (Bes bits (cst bits ch t (evl bits ch t m i) (i %ch) i) (m.getD i 0))]
theorem Axg(bits:Int)(ch:Nat)(t m:List Int32):∀i,(evl bits ch t m i).length=i
 |0=>rfl
 |i+1=>by rw[evl,List.length_append,Axg bits ch t m i];rfl
theorem Bng(bits:Int)(ch:Nat)(t m:List Int32):∀(j i:Nat),∃w,evl bits ch t m (i+j)=evl bits ch t m i++w
 |0,i=>⟨[],by simp⟩
 |j+1,i=>by
  obtain⟨w,hw⟩:=Bng bits ch t m j i
  rw[←Nat.add_assoc,evl,hw]
  exact⟨_,List.append_assoc _ _ _⟩
theorem Cev(bits:Int)(ch:Nat)(t m:List Int32):smp bits ch t (evl bits ch t m m.length)=m:=by
 have hl:=Axg bits ch t m m.length
 apply List.ext_getElem (by rw[Asf,hl])
 intro i h1 h2
 rw[←Hr h1,←Hr h2,Bmn _ _ _ _ (by omega)]
 obtain⟨w,hw⟩:=Bng bits ch t m (m.length-(i+1)) (i+1)
 rw[show i+1+(m.length-(i+1))=m.length by omega,evl,List.append_assoc]at hw
 have hli:=Axg bits ch t m i
 rw[hw,Bvd _ _ _ _ _ _ _ (by omega)]
 have hg:(evl bits ch t m i++([Av7 (Bes bits (cst bits ch t (evl bits ch t m i) (i %ch) i) (m.getD i 0))]++w)).getD i 0=Av7 (Bes bits (cst bits ch t (evl bits ch t m i) (i %ch) i) (m.getD i 0)):=by
  rw[List.getD_eq_getElem?_getD,List.getElem?_append_right (by omega),hli,Nat.sub_self];rfl
 rw[hg,Ccn,Bk8]
end Go.Pl
set_option linter.unusedVariables false
set_option linter.unusedSimpArgs false
namespace Go.Pl
open Go Go.Lv
def tb(l:List Bool)(k:Nat):Nat:=if l.getD k false=true then 1 else 0
theorem Bug(b:Bool)(l:List Bool):tb (b::l) 0=if b=true then 1 else 0:=rfl
theorem Bv8(b:Bool)(l:List Bool)(k:Nat):tb (b::l) (k+1)=tb l k:=by simp[tb]
theorem Bwc{a b:List Bool}{k:Nat}(h:k<a.length):tb (a++b) k=tb a k:=by
 rw[tb,tb,List.getD_eq_getElem?_getD,List.getD_eq_getElem?_getD,List.getElem?_append_left h]
theorem Bnd(a b:List Bool)(k:Nat):tb (a++b) (a.length+k)=tb b k:=by
 rw[tb,tb,List.getD_eq_getElem?_getD,List.getD_eq_getElem?_getD,List.getElem?_append_right (by omega),Nat.add_sub_cancel_left]
theorem Bmc{l:List Bool}{k:Nat}(h:l.length≤k):tb l k=0:=by
 rw[tb,List.getD_eq_getElem?_getD,List.getElem?_eq_none h];rfl
def At(p:List UInt8)(a:Nat)(c:List Bool):Prop:=∀i,i<c.length→Fv p (a+i)=tb c i
theorem At.left{p:List UInt8}{a:Nat}{c d:List Bool}(h:At p a (c++d)):At p a c:=fun i hi=>by
 rw[h i (by rw[List.length_append];omega),Bwc hi]
theorem At.right{p:List UInt8}{a:Nat}{c d:List Bool}(h:At p a (c++d)):At p (a+c.length) d:=fun i hi=>by
 rw[Nat.add_assoc,h (c.length+i) (by rw[List.length_append];omega),Bnd]
theorem At.cons{p:List UInt8}{a:Nat}{b:Bool}{c:List Bool}(h:At p a (b::c)):Fv p a=(if b=true then 1 else 0)∧At p (a+1) c:=by
 have h0:=h 0 (by simp)
 rw[Nat.add_zero,Bug]at h0
 refine⟨h0,fun i hi=>?_⟩
 have:=h (i+1) (by simp;omega)
 rw[Bv8]at this
 rw[show a+1+i=a+(i+1) by omega,this]
def As0:Nat→Nat→List Bool
 |_,0=>[]
 |v,n+1=>decide (v %2=1)::As0 (v/2) n
theorem Qq:∀(v n:Nat),(As0 v n).length=n
 |_,0=>rfl
 |v,n+1=>by rw[As0,List.length_cons,Qq (v/2) n]
theorem Aew(p:List UInt8):∀(n a v:Nat),At p a (As0 v n)→Bk p a n=v %2^n
 |0,a,v,_=>by rw[Bk,Nat.pow_zero,Nat.mod_one]
 |n+1,a,v,h=>by
  rw[As0]at h
  obtain⟨h0,h1⟩:=h.cons
  rw[Bk,h0,Aew p n (a+1) (v/2) h1,Nat.pow_succ,Nat.mul_comm (2^n) 2,Nat.mod_mul]
  have:=Nat.mod_two_eq_zero_or_one v
  rcases this with e|e<;>simp[e]
theorem Bf0(p:List UInt8):∀(q m a:Nat) (c:List Bool),At p a (List.replicate q true++c)→q≤m→Fc p a m=q+Fc p (a+q) (m-q)
 |0,m,a,c,h,hm=>by simp
 |q+1,m,a,c,h,hm=>by
  rw[List.replicate_succ,List.cons_append]at h
  obtain⟨h0,h1⟩:=h.cons
  obtain⟨m,rfl⟩:∃k,m=k+1:=⟨m-1,by omega⟩
  rw[Fc,if_pos (by rw[h0];rfl),Bf0 p q m (a+1) c h1 (by omega),show a+1+q=a+(q+1) by omega,show m+1-(q+1)=m-q by omega]
  omega
theorem Cfu{p:List UInt8}{a m:Nat}(h:Fv p a=0):Fc p a m=0:=by
 cases m with
 |zero=>rfl
 |succ m=>rw[Fc,if_neg (by omega)]
def Als(l v:Nat):List Bool:=if 48≤v/2^l then List.replicate 48 true++As0 v 32 else List.replicate (v/2^l) true++(false::As0 (v %2^l) l)
theorem Bxj{l v:Nat}(hl:l≤24):1≤(Als l v).length∧(Als l v).length≤80:=by
 rw[Als]
 generalize v/2^l=q
 split
 ·rw[List.length_append,List.length_replicate,Qq];omega
 ·rw[List.length_append,List.length_replicate,List.length_cons,Qq];omega
theorem Bxi{p:List UInt8}{N a l v:Nat}(hl:l≤24)(hv:v<2^32)(h:At p a (Als l v))(hN:a+(Als l v).length≤N):rcS p N a l=(UInt32.ofNat v,((a+(Als l v).length:Nat):Int),0):=by
 rw[Als]at h hN⊢
 by_cases h48:48≤v/2^l
 ·rw[if_pos h48]at h hN⊢
  rw[List.length_append,List.length_replicate,Qq]at hN⊢
  have hm:min 48 (N-a)=48:=by omega
  have ho:=Bf0 p 48 48 a (As0 v 32) h (Nat.le_refl _)
  rw[Nat.sub_self,Fc,Nat.add_zero]at ho
  have hr:=h.right
  rw[List.length_replicate]at hr
  have hval:=Aew p 32 (a+48) v hr
  rw[Nat.mod_eq_of_lt hv]at hval
  rw[rcS,if_neg (by omega),hm,ho,if_neg (by omega),if_pos rfl,if_neg (by omega),hval,if_neg (by omega)]
 ·rw[if_neg h48]at h hN⊢
  rw[List.length_append,List.length_replicate,List.length_cons,Qq]at hN⊢
  generalize hq:v/2^l=q at*
  have hr:=h.right
  rw[List.length_replicate]at hr
  obtain⟨h0,h1⟩:=hr.cons
  have hm:q<min 48 (N-a):=by omega
  have ho:=Bf0 p q (min 48 (N-a)) a _ h (by omega)
  rw[Cfu (a:=a+q) (m:=min 48 (N-a)-q) (by rw[h0];rfl),Nat.add_zero]at ho
  have hval:=Aew p l (a+q+1) (v %2^l) h1
  rw[Nat.mod_mod]at hval
  have hdm:=Nat.div_add_mod v (2^l)
  rw[hq,Nat.mul_comm]at hdm
  rw[rcS,if_neg (by omega),ho,if_pos hm,if_neg (by omega),hval,hdm,show a+q+1+l=a+(q+(l+1)) by omega]
def Pj(k l:Nat)(v:UInt32):List Bool:=if v.toNat<2^k then false::As0 v.toNat k else true::Als l (v.toNat-2^k)
theorem Aqm{k l:Nat}(v:UInt32)(hk:k≤24)(hl:l≤24):1≤(Pj k l v).length∧(Pj k l v).length≤81:=by
 have:=Bxj (v:=v.toNat-2^k) hl
 rw[Pj]
 split
 ·rw[List.length_cons,Qq];omega
 ·rw[List.length_cons];omega
theorem Bww{p:List UInt8}{N a k l:Nat}{v:UInt32}(hk:k≤24)(hl:l≤24)(h:At p a (Pj k l v))(hN:a+(Pj k l v).length≤N):dgS p N a k l=(v,((a+(Pj k l v).length:Nat):Int),0):=by
 have hvlt:=v.toNat_lt
 have hof:UInt32.ofNat v.toNat=v:=by simp
 rw[Pj]at h hN⊢
 by_cases hs:v.toNat<2^k
 ·rw[if_pos hs]at h hN⊢
  rw[List.length_cons,Qq]at hN⊢
  obtain⟨h0,h1⟩:=h.cons
  have hval:=Aew p k (a+1) v.toNat h1
  rw[Nat.mod_eq_of_lt hs]at hval
  rw[dgS,if_neg (by omega),if_pos (by rw[h0];rfl),if_neg (by omega),hval,hof,show a+1+k=a+(k+1) by omega]
 ·rw[if_neg hs]at h hN⊢
  rw[List.length_cons]at hN⊢
  obtain⟨h0,h1⟩:=h.cons
  have hsub:=Nat.sub_le v.toNat (2^k)
  have hr:=Bxi hl (by omega:v.toNat-2^k<2^32) h1 (by omega:a+1+_≤N)
  have ht:(UInt32.ofNat (v.toNat-2^k)).toNat=v.toNat-2^k:=by rw[UInt32.toNat_ofNat'];exact Nat.mod_eq_of_lt (by omega)
  rw[dgS,if_neg (by omega),if_neg (by rw[h0];decide),hr]
  simp only
  rw[if_neg (by decide),ht,if_neg (by omega),show v.toNat-2^k+2^k=v.toNat by omega,hof,show a+1+(Als l (v.toNat-2^k)).length=a+((Als l (v.toNat-2^k)).length+1) by omega]
def bv:List Bool→Nat
 |[]=>0
 |b::r=>(if b=true then 1 else 0)+2*bv r
theorem Cgq:∀l:List Bool,bv l<2^l.length
 |[]=>by decide
 |b::r=>by
  have:=Cgq r
  rw[bv,List.length_cons,Nat.pow_succ]
  split<;>omega
theorem Ccg:∀(l:List Bool) (k:Nat),bv l/2^k %2=tb l k
 |[],k=>by simp[bv,tb]
 |b::r,0=>by
  rw[bv,Bug,Nat.pow_zero,Nat.div_one]
  split<;>omega
 |b::r,k+1=>by
  have:((if b=true then 1 else 0)+2*bv r)/2=bv r:=by split<;>omega
  rw[bv,Bv8,Nat.pow_succ,Nat.mul_comm (2^k) 2,←Nat.div_div_eq_div_mul,this,Ccg r k]
def Jq(c:List Bool):List UInt8:=(List.range ((c.length+7)/8)).map fun j=>UInt8.ofNat (bv ((c.drop (8*j)).take 8))
theorem Wc(c:List Bool):(Jq c).length=(c.length+7)/8:=by simp[Jq]
theorem Aa1(c:List Bool)(i:Nat):Fv (Jq c) i=tb c i:=by
 rw[Fv]
 by_cases h:i/8<(c.length+7)/8
 ·have hg:(Jq c).getD (i/8) 0=UInt8.ofNat (bv ((c.drop (8*(i/8))).take 8)):=by
   rw[List.getD_eq_getElem?_getD,List.getElem?_eq_getElem (by rw[Wc];exact h)]
   simp[Jq]
  have hlt:=Cgq ((c.drop (8*(i/8))).take 8)
  have hl8:((c.drop (8*(i/8))).take 8).length≤8:=by rw[List.length_take];omega
  have hp:=Nat.pow_le_pow_right (show 0<2 by omega) hl8
  have hn:(UInt8.ofNat (bv ((c.drop (8*(i/8))).take 8))).toNat=bv ((c.drop (8*(i/8))).take 8):=by
   rw[UInt8.toNat_ofNat'];exact Nat.mod_eq_of_lt (by omega)
  rw[hg,hn,Ccg,tb,tb]
  have:((c.drop (8*(i/8))).take 8).getD (i %8) false=c.getD i false:=by
   rw[List.getD_eq_getElem?_getD,List.getD_eq_getElem?_getD,List.getElem?_take,if_pos (by omega),List.getElem?_drop,show 8*(i/8)+i %8=i by omega]
  rw[this]
 ·have hg:(Jq c).getD (i/8) 0=0:=by
   rw[List.getD_eq_getElem?_getD,List.getElem?_eq_none (by rw[Wc];omega)];rfl
  rw[hg,Bmc (by omega)]
  simp
def Pd(ch:Nat)(V:List UInt32):Nat→List Bool
 |0=>[]
 |i+1=>Pd ch V i++Pj (now ch (V.take i)).1 (now ch (V.take i)).2.1 (V.getD i 0)
theorem Bmw(ch:Nat)(v:List UInt32):(now ch v).1≤24∧(now ch v).2.1≤24:=by
 have:=Ava ch v (v.length %ch) v.length
 exact⟨this.1,this.2.1⟩
theorem Boi(ch:Nat)(V:List UInt32):∀(j i:Nat),∃w,Pd ch V (i+j)=Pd ch V i++w
 |0,i=>⟨[],by simp⟩
 |j+1,i=>by
  obtain⟨w,hw⟩:=Boi ch V j i
  rw[←Nat.add_assoc,Pd,hw]
  exact⟨_,List.append_assoc _ _ _⟩
theorem Avd(ch:Nat)(V:List UInt32):∀i,(Pd ch V i).length≤81*i
 |0=>by simp[Pd]
 |i+1=>by
  have h:=Bmw ch (V.take i)
  have:=Aqm (V.getD i 0) h.1 h.2
  rw[Pd,List.length_append]
  have:=Avd ch V i
  omega
theorem Bkg(ch:Nat)(V:List UInt32)(N:Nat)(hN:(Pd ch V V.length).length≤N):∀(j i:Nat),i+j=V.length→Wq ch (Jq (Pd ch V V.length)) N j (Pd ch V i).length (V.take i)=(V,(Pd ch V V.length).length,0)
 |0,i,h=>by
  obtain rfl:i=V.length:=by omega
  rw[Wq,List.take_length]
 |j+1,i,h=>by
  obtain⟨w,hw⟩:=Boi ch V j (i+1)
  rw[show i+1+j=V.length by omega]at hw
  have hk:=Bmw ch (V.take i)
  have hcl:=Aqm (V.getD i 0) hk.1 hk.2
  have hAt:At (Jq (Pd ch V V.length)) (Pd ch V i).length (Pj (now ch (V.take i)).1 (now ch (V.take i)).2.1 (V.getD i 0)):=by
   intro m hm
   rw[Aa1,hw,Pd,List.append_assoc,Bnd,Bwc hm]
  have hlen:(Pd ch V i).length+(Pj (now ch (V.take i)).1 (now ch (V.take i)).2.1 (V.getD i 0)).length≤(Pd ch V V.length).length:=by
   rw[hw,Pd,List.length_append,List.length_append];omega
  have ih:=Bkg ch V N hN j (i+1) (by omega)
  rw[Pd,List.length_append]at ih
  generalize Jq (Pd ch V V.length)=p at*
  generalize(Pd ch V i).length=a at*
  have hw2:(Pj (now ch (V.take i)).1 (now ch (V.take i)).2.1 (V.getD i 0)).length≤win N a:=by unfold win;omega
  have hAt2:At (Oi p a (win N a)) 0 (Pj (now ch (V.take i)).1 (now ch (V.take i)).2.1 (V.getD i 0)):=by
   intro m hm
   rw[Nat.zero_add,Bbi,if_pos (by omega),hAt m hm]
  have hb:=Bww hk.1 hk.2 hAt2 (by omega:0+_≤win N a)
  have hcode:Lf ch p N a (V.take i)=(V.getD i 0,((0+(Pj (now ch (V.take i)).1 (now ch (V.take i)).2.1 (V.getD i 0)).length:Nat):Int),0):=hb
  rw[Wq,hcode]
  simp only
  rw[if_neg (by decide),Nat.zero_add,Int.toNat_natCast]
  have ht:V.take i++[V.getD i 0]=V.take (i+1):=by
   have hg:V.getD i 0=V[i]:=by rw[List.getD_eq_getElem?_getD,List.getElem?_eq_getElem (by omega)];rfl
   rw[hg,Kn (by omega)]
  rw[ht]
  exact ih
end Go.Pl
set_option linter.unusedVariables false
set_option linter.unusedSimpArgs false
namespace Go.Pl
open Go Go.Lv
def P64:Nat:=4823603603198064275
def Ah7(s:Nat):Nat:=(2*s %18446744073709551616)^^^ (s/9223372036854775808*P64)
theorem Apf{s:Nat}(h:s<18446744073709551616):Ah7 s<18446744073709551616:=by
 have h1:s/9223372036854775808=0∨s/9223372036854775808=1:=by omega
 exact Nat.xor_lt_two_pow (n:=64) (Nat.mod_lt _ (by decide)) (by rcases h1 with e|e<;>rw[e]<;>decide)
theorem Bvs(x y:Nat):(x^^^y)/9223372036854775808=(x/9223372036854775808)^^^ (y/9223372036854775808):=by
 have:=Nat.shiftRight_xor_distrib (a:=x) (b:=y) (i:=63)
 simpa [Nat.shiftRight_eq_div_pow]using this
theorem Bvi(x y:Nat):2*(x^^^y) %18446744073709551616=(2*x %18446744073709551616)^^^ (2*y %18446744073709551616):=by
 have h1:=Nat.shiftLeft_xor_distrib (a:=x) (b:=y) (i:=1)
 have h2:=Nat.xor_mod_two_pow (a:=2*x) (b:=2*y) (n:=64)
 have e:2*(x^^^y)=(2*x)^^^ (2*y):=by simpa [Nat.shiftLeft_eq,Nat.mul_comm]using h1
 rw[e];exact h2
theorem Cdd{a b:Nat}(ha:a=0∨a=1)(hb:b=0∨b=1)(p:Nat):(a^^^b)*p=(a*p)^^^ (b*p):=by
 rcases ha with rfl|rfl<;>rcases hb with rfl|rfl<;>simp
theorem Cj3(a b c d:Nat):(a^^^b)^^^ (c^^^d)=(a^^^c)^^^ (b^^^d):=by
 rw[Nat.xor_assoc,Nat.xor_assoc,←Nat.xor_assoc b c d,Nat.xor_comm b c,Nat.xor_assoc c b d]
theorem Bs9{x y:Nat}(hx:x<18446744073709551616)(hy:y<18446744073709551616):Ah7 (x^^^y)=Ah7 x^^^Ah7 y:=by
 rw[Ah7,Ah7,Ah7,Bvi,Bvs,Cdd (by omega) (by omega),Cj3]
def Nl:Nat→Nat→Nat
 |0,s=>s
 |k+1,s=>Nl k (Ah7 s)
theorem Bcu:∀(k:Nat) {s:Nat},s<18446744073709551616→Nl k s<18446744073709551616
 |0,_,h=>h
 |k+1,_,h=>Bcu k (Apf h)
theorem Bg4:∀(k:Nat) {x y:Nat},x<18446744073709551616→y<18446744073709551616→Nl k (x^^^y)=Nl k x^^^Nl k y
 |0,_,_,_,_=>rfl
 |k+1,x,y,hx,hy=>by rw[Nl,Bs9 hx hy,Bg4 k (Apf hx) (Apf hy)];rfl
theorem Bhh:∀(k h:Nat),2^k*h<18446744073709551616→Nl k h=2^k*h
 |0,h,_=>by simp[Nl]
 |k+1,h,hl=>by
  have hpos:0<2^k:=Nat.pow_pos (by omega)
  rw[Nat.pow_succ,Nat.mul_assoc]at hl
  have h2:2*h<18446744073709551616:=Nat.lt_of_le_of_lt (Nat.le_mul_of_pos_left _ hpos) hl
  have:Ah7 h=2*h:=by rw[Ah7,Nat.mod_eq_of_lt h2,show h/9223372036854775808=0 by omega];simp
  rw[Nl,this,Bhh k _ hl,Nat.pow_succ,Nat.mul_assoc]
def Awk(s c:Nat):Nat:=Nl 8 (s^^^ (c*72057594037927936))
theorem c56{c:Nat}(hc:c<256):c*72057594037927936<18446744073709551616:=by omega
theorem Bcd{s c:Nat}(h:s<18446744073709551616)(hc:c<256):Awk s c<18446744073709551616:=Bcu 8 (Nat.xor_lt_two_pow (n:=64) h (c56 hc))
theorem Cd0(s:Nat):s=(s/72057594037927936*72057594037927936)^^^ (s %72057594037927936):=by
 have h1:s %72057594037927936<2^56:=Nat.mod_lt _ (by decide)
 have:=Nat.two_pow_add_eq_or_of_lt h1 (s/72057594037927936)
 have h2:2^56*(s/72057594037927936)|||s %72057594037927936=(2^56*(s/72057594037927936))^^^ (s %72057594037927936):=by
  apply Nat.eq_of_testBit_eq;intro i
  rw[Nat.testBit_or,Nat.testBit_xor]
  by_cases hi:i<56
  ·have:(2^56*(s/72057594037927936)).testBit i=false:=by rw[Nat.testBit_two_pow_mul];simp;omega
   rw[this];simp
  ·have:(s %72057594037927936).testBit i=false:=Nat.testBit_lt_two_pow (Nat.lt_of_lt_of_le h1 (Nat.pow_le_pow_right (by omega) (by omega)))
   rw[this];simp
 rw[Nat.mul_comm (s/72057594037927936)]
 show s=(2^56*(s/72057594037927936))^^^ _
 rw[←h2,←this]
 have:=Nat.div_add_mod s 72057594037927936
 show s=72057594037927936*_+_
 omega
theorem Bxp(a c:Nat):(a^^^c)*72057594037927936=(a*72057594037927936)^^^ (c*72057594037927936):=by
 have h1:=Nat.shiftLeft_xor_distrib (a:=a) (b:=c) (i:=56)
 simpa [Nat.shiftLeft_eq]using h1
theorem Bmm{s c:Nat}(h:s<18446744073709551616)(hc:c<256):Awk s c=(256*s %18446744073709551616)^^^Nl 8 (((s/72057594037927936)^^^c)*72057594037927936):=by
 have hs:s/72057594037927936<2^8:=by show _<256;omega
 have hx:(s/72057594037927936)^^^c<256:=Nat.xor_lt_two_pow (n:=8) hs (by simpa using hc)
 have hl:s %72057594037927936<72057594037927936:=Nat.mod_lt _ (by decide)
 rw[Awk]
 conv=>lhs;rw[Cd0 s]
 rw[Nat.xor_comm (s/72057594037927936*72057594037927936),Nat.xor_assoc,←Bxp,Bg4 8 (by omega) (c56 hx),Bhh 8 _ (by show 256*_<_;omega)]
 congr 1
 show 256*(s %72057594037927936)=_
 omega
def Bg7(s:Nat)(l:List UInt8):Nat:=l.foldl (fun s c=>Awk s c.toNat) s
theorem Bji{n:Nat}(h:n<18446744073709551616):(UInt64.ofNat n).toNat=n:=by rw[UInt64.toNat_ofNat'];exact Nat.mod_eq_of_lt h
theorem Cg4(s:UInt64)(bit:Nat)(hb:bit=0∨bit=1):Ab3 s (bit:Int)=some (UInt64.ofNat ((2*s.toNat %18446744073709551616)^^^ (((s.toNat/9223372036854775808)^^^bit)*P64))):=by
 have hs:=s.toNat_lt
 have ht:s.toNat/9223372036854775808=0∨s.toNat/9223372036854775808=1:=by omega
 have e1:(Ar s (2:UInt64)).toNat=2*s.toNat %18446744073709551616:=by
  rw[Ahk,UInt64.toNat_mul];show s.toNat*2 %_=_;rw[Nat.mul_comm]
 have hlt:2*s.toNat %18446744073709551616<18446744073709551616:=Nat.mod_lt _ (by decide)
 have ey:Pk (Ar s (2:UInt64)) (4823603603198064275:UInt64)=UInt64.ofNat ((2*s.toNat %18446744073709551616)^^^P64):=by
  apply UInt64.toNat_inj.1
  rw[Bi0,UInt64.toNat_xor,e1,Bji (Nat.xor_lt_two_pow (n:=64) hlt (by decide))];rfl
 have en:Ar s (2:UInt64)=UInt64.ofNat (2*s.toNat %18446744073709551616):=by
  apply UInt64.toNat_inj.1
  rw[e1,Bji hlt]
 have eg:Ly s (9223372036854775808:UInt64)=decide (s.toNat/9223372036854775808=1):=by
  rw[Cfo,decide_eq_decide]
  show 9223372036854775808≤s.toNat↔_
  omega
 have hp:∀b:Bool,Vo s b=some (if b=true then UInt64.ofNat ((2*s.toNat %18446744073709551616)^^^P64)else UInt64.ofNat (2*s.toNat %18446744073709551616)):=by
  intro b
  rw[Vo,Ag5,ey,en];cases b<;>rfl
 rw[Ab3,Agx,hp,hp,eg]
 rcases hb with rfl|rfl<;>rcases ht with h|h<;>rw[h]<;>simp[Bb]
theorem Bej(c:UInt8):∀(j q:Nat) (s:UInt64),j≤8→j<q→Ki c q s ((2^j/2:Nat):Int)=some (UInt64.ofNat (Nl j (s.toNat^^^ (c.toNat %2^j*2^(64-j)))))
 |0,q+1,s,_,_=>by
  rw[Ki,Va,if_neg (by rw[Am];simp),Agd,Ahs]
  simp[Nl,Nat.mod_one]
 |j+1,q+1,s,hj,hq=>by
  have hc:=c.toNat_lt
  have hs:=s.toNat_lt
  have hj2:2^j≤2^7:=Nat.pow_le_pow_right (by omega) (by omega)
  have hpos:0<2^j:=Nat.pow_pos (by omega)
  have e1:2^(j+1)/2=2^j:=by rw[Nat.pow_succ];omega
  have e2:Bg ((2^j:Nat):Int) 2=((2^j/2:Nat):Int):=by
   generalize 2^j=K at*
   rw[Aid,Int.tdiv_eq_ediv_of_nonneg (by omega),Cc (by omega) (by omega)];omega
  have e3:Ff (Bg (Ae c:Int) ((2^j:Nat):Int)) (2:Int)=((c.toNat/2^j %2:Nat):Int):=by
   have hX:=Nat.div_le_self c.toNat (2^j)
   rw[Afk,Aid,←Int.ofNat_tdiv]
   generalize c.toNat/2^j=X at*
   rw[Cc (by omega) (by omega),Ff,Int.tmod_eq_emod_of_nonneg (by omega)];omega
  have hbit:c.toNat/2^j %2=0∨c.toNat/2^j %2=1:=by omega
  rw[Ki,Va,e1,if_pos (by rw[Am,decide_eq_true_eq];omega),Ay (by rw[Aj,bne_iff_ne];omega),Aa,e3,Cg4 s _ hbit,Aa,e2,Bej c j q _ (by omega) (by omega)]
  congr 2
  rw[Nl]
  congr 1
  have hx:c.toNat %2^(j+1)*2^(64-(j+1))=(c.toNat/2^j %2)*9223372036854775808+c.toNat %2^j*2^(63-j):=by
   have h63:(9223372036854775808:Nat)=2^j*2^(63-j):=by rw[←Nat.pow_add,show j+(63-j)=63 by omega]
   rw[Nat.mod_pow_succ,h63,show 64-(j+1)=63-j by omega,Nat.add_mul,Nat.add_comm,Nat.mul_assoc,Nat.mul_left_comm]
  have hr:c.toNat %2^j<2^j:=Nat.mod_lt _ hpos
  have hb63:c.toNat %2^j*2^(63-j)<9223372036854775808:=by
   have h63:(9223372036854775808:Nat)=2^j*2^(63-j):=by rw[←Nat.pow_add,show j+(63-j)=63 by omega]
   rw[h63];exact Nat.mul_lt_mul_of_pos_right hr (Nat.pow_pos (by omega))
  have h64:c.toNat %2^j*2^(64-j)=2*(c.toNat %2^j*2^(63-j)):=by
   rw[show 64-j=(63-j)+1 by omega,Nat.pow_succ,←Nat.mul_assoc,Nat.mul_comm]
  rw[hx,h64]
  generalize c.toNat %2^j*2^(63-j)=R at*
  generalize c.toNat/2^j %2=b at*
  have ht:s.toNat/9223372036854775808=0∨s.toNat/9223372036854775808=1:=by omega
  have hp:((s.toNat/9223372036854775808^^^b)*P64)<18446744073709551616:=by
   rcases ht with h|h<;>rcases hbit with h2|h2<;>rw[h,h2]<;>decide
  rw[Bji (Nat.xor_lt_two_pow (n:=64) (Nat.mod_lt _ (by decide)) hp),Ah7,Bvi,Bvs,show(b*9223372036854775808+R)/9223372036854775808=b by omega,show 2*(b*9223372036854775808+R) %18446744073709551616=2*R by omega,Nat.xor_assoc,Nat.xor_assoc,Nat.xor_comm (2*R)]
theorem Cgu(c:UInt8)(s:UInt64):Anh s c=some (UInt64.ofNat (Awk s.toNat c.toNat)):=by
 have h:=Bej c 8 Al s (Nat.le_refl _) (by have:=Ak;omega)
 have hc:=c.toNat_lt
 rw[Nat.mod_eq_of_lt (show c.toNat<2^8 by simpa using hc)]at h
 exact h
theorem Ayh(b:List UInt8)(hb:b.length<4611686018427387904):∀(j i q:Nat) (s:UInt64),i+j=b.length→j<q→Hz b q s (i:Int)=some (UInt64.ofNat (Bg7 s.toNat (b.drop i)))
 |0,i,q+1,s,hi,_=>by
  rw[Hz,Rn,if_neg (by rw[Af,Ac];simp;omega),show i=b.length by omega,List.drop_length]
  simp[Aa9,Abr,Bg7]
 |j+1,i,q+1,s,hi,hq=>by
  have hlt:i<b.length:=by omega
  have hc:=b[i].toNat_lt
  rw[Hz,Rn,if_pos (by rw[Af,Ac];simp;omega),Bu hlt,Aa,Cgu,Aa,Ag (by omega) (by omega)]
  have h:=Ayh b hb j (i+1) q (UInt64.ofNat (Awk s.toNat b[i].toNat)) (by omega) (by omega)
  rw[show((i:Int)+1)=((i+1:Nat):Int) by omega,h,drop_cons hlt,Bji (Bcd s.toNat_lt (by simpa using hc))]
  rfl
def Aaa(b:List UInt8):UInt64:=UInt64.ofNat (Bg7 0 b)
theorem Bqt(b:List UInt8)(hb:b.length≤100000):Wz 0 b=some (Aaa b):=
 Ayh b (by omega) b.length 0 Al 0 (by omega) (by have:=Ak;omega)
theorem Bs5(c:UInt64):Pk (Cm c (GI.toZ (1:UInt64)).toNat) (Ar (4823603603198064275:UInt64) (Bo c (GI.toZ (63:UInt64)).toNat))=UInt64.ofNat (Ah7 c.toNat):=by
 have hc:=c.toNat_lt
 apply UInt64.toNat_inj.1
 have h1:(Cm c (GI.toZ (1:UInt64)).toNat).toNat=2*c.toNat %18446744073709551616:=by
  rw[show(GI.toZ (1:UInt64)).toNat=1 from rfl,Ak5,Nat.mul_comm]
 have h2:(Ar (4823603603198064275:UInt64) (Bo c (GI.toZ (63:UInt64)).toNat)).toNat=c.toNat/9223372036854775808*P64:=by
  rw[show(GI.toZ (63:UInt64)).toNat=63 from rfl,Ahk,UInt64.toNat_mul,Abj]
  show 4823603603198064275*(c.toNat/9223372036854775808) %18446744073709551616=_
  have h1:c.toNat/9223372036854775808=0∨c.toNat/9223372036854775808=1:=by omega
  rcases h1 with e|e<;>rw[e]<;>decide
 rw[Bi0,UInt64.toNat_xor,h1,h2,Bji (Apf hc)];rfl
theorem Bdn(bk16:Int→List UInt64→Option (UInt64×Int))(s:UInt64)(b:List UInt8)(x:Int)(t:List UInt64):∀(j i q:Nat) (c:UInt64),i+j=8→j<q→
  Pw bk16 s b x t q c (i:Int)=Ac5 bk16 s b x (UInt64.ofNat (Nl j c.toNat)) t
 |0,i,q+1,c,hi,_=>by
  obtain rfl:i=8:=by omega
  rw[Pw,Ad2,if_neg (by rw[Af];simp),Nl,UInt64.ofNat_toNat]
 |j+1,i,q+1,c,hi,hq=>by
  rw[Pw,Ad2,if_pos (by rw[Af];simp;omega),Bs5,Ag (by omega) (by omega),show((i:Int)+1)=((i+1:Nat):Int) by omega,Bdn bk16 s b x t j (i+1) q _ (by omega) (by omega),Bji (Apf c.toNat_lt)];rfl
def Anw(n:Nat):List UInt64:=(List.range n).map fun i=>UInt64.ofNat (Nl 8 (i*72057594037927936))
theorem Bg3(s:UInt64)(b:List UInt8):∀(j i q:Nat),i+j=256→j<q→Mn s b q (i:Int) (Anw i++List.replicate j 0)=Abc s b (Anw 256)
 |0,i,q+1,hi,_=>by
  obtain rfl:i=256:=by omega
  rw[Mn,Aba,if_neg (by rw[Af];simp)];simp
 |j+1,i,q+1,hi,hq=>by
  have hlen:(Anw i++List.replicate (j+1) 0).length=i+(j+1):=by simp[Anw]
  rw[Mn,Aba,if_pos (by rw[Af];simp;omega),Akr]
  have h:=Bdn (Mn s b q) s b (i:Int) (Anw i++List.replicate (j+1) 0) 8 0 Al (Cm (Ae (i:Int):UInt64) (GI.toZ (56:UInt64)).toNat) (by omega) (by have:=Ak;omega)
  rw[show((0:Int))=((0:Nat):Int)from rfl,h,Ac5,Al7,Bu (by rw[hlen];omega),Aa,Oz _ (by rw[hlen];omega),Aa,Aku,Awb,Ag (by omega) (by omega)]
  have e:(Cm (Ae (i:Int):UInt64) (GI.toZ (56:UInt64)).toNat).toNat=i*72057594037927936:=by
   rw[Ak5,Td,Bji (by omega)]
   show i*72057594037927936 %18446744073709551616=_
   omega
  rw[e,List.replicate_succ,Am1 (by simp[Anw])]
  have h2:=Bg3 s b j (i+1) q (by omega) (by omega)
  have h3:Anw (i+1)=Anw i++[UInt64.ofNat (Nl 8 (i*72057594037927936))]:=by simp[Anw,List.range_succ]
  rw[h3]at h2
  rw[show((i:Int)+1)=((i+1:Nat):Int) by omega,←h2]
  simp
theorem Byk{i:Nat}(h:i<256):getI (Anw 256) (i:Int)=some (UInt64.ofNat (Nl 8 (i*72057594037927936))):=by
 rw[Bu (by simpa [Anw]using h)];simp[Anw]
theorem Boc(s:UInt64)(c:UInt8):getI (Anw 256) (GI.toZ (Pk (Ae (Bo s (GI.toZ (56:UInt64)).toNat):UInt8) c))=some (UInt64.ofNat (Nl 8 (((s.toNat/72057594037927936)^^^c.toNat)*72057594037927936))):=by
 have hs:=s.toNat_lt
 have e:GI.toZ (Pk (Ae (Bo s (GI.toZ (56:UInt64)).toNat):UInt8) c)=(((s.toNat/72057594037927936)^^^c.toNat:Nat):Int):=by
  have e2:((Ae (Bo s (GI.toZ (56:UInt64)).toNat):UInt8)).toNat=s.toNat/72057594037927936:=by
   rw[Aj3,UInt8.toNat_ofNat',Abj]
   show s.toNat/72057594037927936 %256=_
   omega
  rw[Zk,Bm2,UInt8.toNat_xor,e2]
 rw[e,Byk]
 exact Nat.xor_lt_two_pow (n:=8) (by show _<256;omega) (by simpa using c.toNat_lt)
theorem Bmi(s:UInt64)(c:UInt8):Pk (Cm s (GI.toZ (8:UInt64)).toNat) (UInt64.ofNat (Nl 8 (((s.toNat/72057594037927936)^^^c.toNat)*72057594037927936)))=UInt64.ofNat (Awk s.toNat c.toNat):=by
 have hs:=s.toNat_lt
 have hc:c.toNat<256:=by simpa using c.toNat_lt
 apply UInt64.toNat_inj.1
 have hlt:Nl 8 (((s.toNat/72057594037927936)^^^c.toNat)*72057594037927936)<18446744073709551616:=Bcu 8 (c56 (Nat.xor_lt_two_pow (n:=8) (by show _<256;omega) (by simpa using c.toNat_lt)))
 have e:(GI.toZ (8:UInt64)).toNat=8:=rfl
 rw[e,Bi0,UInt64.toNat_xor,Ak5,Bji hlt,Bji (Bcd hs hc),Bmm hs hc,Nat.mul_comm s.toNat]
theorem Bek(b:List UInt8)(s0:UInt64)(hb:b.length<4611686018427387904):∀(j i q:Nat) (s:UInt64),i+j=b.length→j<q→Qf b s0 (Anw 256) q s (i:Int)=some (UInt64.ofNat (Bg7 s.toNat (b.drop i)),0)
 |0,i,q+1,s,hi,_=>by
  rw[Qf,Adz,if_neg (by rw[Af,Ac];simp;omega),show i=b.length by omega,List.drop_length]
  simp[Amm,Aln,Amb,Avq,Bg7]
 |j+1,i,q+1,s,hi,hq=>by
  have hlt:i<b.length:=by omega
  have hc:=b[i].toNat_lt
  rw[Qf,Adz,if_pos (by rw[Af,Ac];simp;omega),Bu hlt,Aa,Boc,Aa,Aa,Bmi,Ag (by omega) (by omega)]
  have h:=Bek b s0 hb j (i+1) q (UInt64.ofNat (Awk s.toNat b[i].toNat)) (by omega) (by omega)
  rw[show((i:Int)+1)=((i+1:Nat):Int) by omega,h,drop_cons hlt,Bji (Bcd s.toNat_lt (by simpa using hc))]
  rfl
theorem Bob(b:List UInt8)(hb:b.length≤100000):Ap6 b=some (Aaa b,0):=by
 have h:=Bg3 0 b 256 0 Al (by omega) (by have:=Ak;omega)
 have h2:=Bek b 0 (by omega) b.length 0 Al 0 (by omega) (by have:=Ak;omega)
 have hn:Aru 0 b=some (Aaa b,0):=by
  rw[Aru,Aos,if_neg (by rw[Am,Ac];simp;omega),Amh]
  refine Eq.trans h ?_
  rw[Abc,Akn,Al5]
  exact h2
 rw[Ap6,hn,Aa]
theorem Bdc(p:List UInt8)(hp:p.length≤64):Adu p=some (Qv (Aaa p).toNat 8,0):=by
 rw[Adu,Bde,if_neg (by rw[Am,Ac];simp;omega),Bob p (by omega),Aa,Aa]
 simp only
 have h:=Alh (Aaa p) 8 (by omega) (by omega) (by simpa using(Aaa p).toNat_lt)
 rw[if_neg (by rw[Aj];simp)]
 exact congrArg (fun o=>Option.bind o fun x:List UInt8×Int=>some (x.1,x.2)) h
theorem Bxt(p:List UInt8)(hp:p.length≤64):Uv p=some (Qv (Aaa p).toNat 8):=by
 have h:=Bf2 (Aaa p) 8 (by omega)
 rw[Uv,An1,Bqt p (by omega),Aa,Aa]
 exact congrArg (fun o=>Option.bind o fun l=>some l) h
def s8(n:Nat):Int32:=Int32.ofInt (if n<128 then(n:Int)else(n:Int)-256)
def Anl(d:UInt64)(n:Nat):List Int32:=(List.range n).map fun i=>s8 (d.toNat/256^i %256)
theorem Aqe(d:UInt64)(n:Nat):(Anl d n).length=n:=by simp[Anl]
theorem Bga(d:UInt64)(n:Nat):Anl d (n+1)=Anl d n++[s8 (d.toNat/256^n %256)]:=by simp[Anl,List.range_succ]
theorem bm8(z:Nat):(z:Int).bmod Int8.size=if z %256<128 then((z %256:Nat):Int)else((z %256:Nat):Int)-256:=by
 rw[show Int8.size=256 from rfl,Int.bmod_def]
 split<;>split<;>omega
theorem Bul(d:UInt64):∀(j i q:Nat),i+j=8→j<q→Ae3 d q (i:Int) (Anl d i++List.replicate (16-i) 0)=some (Anl d 8++List.replicate 8 0)
 |0,i,q+1,hi,_=>by
  obtain rfl:i=8:=by omega
  rw[Ae3,Ar8,if_neg (by rw[Af];simp)];rfl
 |j+1,i,q+1,hi,hq=>by
  have hlen:(Anl d i++List.replicate (16-i) 0).length=16:=by simp[Aqe];omega
  have ih:=Bul d j (i+1) q (by omega) (by omega)
  have e8:Ar (8:Int) (i:Int)=((8*i:Nat):Int):=by rw[Fq (by omega) (by omega)];omega
  have ev:(Ae (Ae (Bo d (GI.toZ (((8*i:Nat):Int))).toNat):Int8):Int32)=s8 (d.toNat/256^i %256):=by
   have e1:(Bo d (GI.toZ (((8*i:Nat):Int))).toNat).toNat=d.toNat/256^i:=by
    rw[show(GI.toZ (((8*i:Nat):Int))).toNat=8*i from rfl,Abj,Nat.pow_mul]
   show Int32.ofInt (Int8.ofInt ((Bo d (GI.toZ (((8*i:Nat):Int))).toNat).toNat:Int)).toInt=_
   rw[e1,s8,Int8.toInt_ofInt,bm8]
  rw[Ae3,Ar8,if_pos (by rw[Af];simp;omega),e8,Ay (by rw[Cl];simp;omega),Aa,ev,Bu (by omega),Aa,Oz _ (by omega),Aa,Ag (by omega) (by omega),show 16-i=(15-i)+1 by omega,List.replicate_succ,Am1 (Aqe d i)]
  rw[Bga,show 16-(i+1)=15-i by omega,List.append_assoc]at ih
  exact ih
theorem Ca5(d:UInt64):∀(j i q:Nat) (e:UInt64),i+j=8→j<q→e.toNat=d.toNat/256^i→Jj q e (i:Int) (Anl d i++List.replicate (16-i) 0)=some (Anl d 8++List.replicate 8 0)
 |0,i,q+1,e,hi,_,he=>by
  obtain rfl:i=8:=by omega
  rw[Jj,Zv,if_neg (by rw[Af];simp)];rfl
 |j+1,i,q+1,e,hi,hq,he=>by
  have hlen:(Anl d i++List.replicate (16-i) 0).length=16:=by simp[Aqe];omega
  have hq2:(Bg e (256:UInt64)).toNat=d.toNat/256^(i+1):=by
   rw[Ba4,UInt64.toNat_div,he,Nat.pow_succ,←Nat.div_div_eq_div_mul];rfl
  have ih:=Ca5 d j (i+1) q (Bg e (256:UInt64)) (by omega) (by omega) hq2
  have ev:(Ae (Aa5 e (256:UInt64)):Int32)=Int32.ofInt ((d.toNat/256^i %256:Nat):Int):=by
   show Int32.ofInt ((Aa5 e (256:UInt64)).toNat:Int)=_
   rw[Bp9,UInt64.toNat_mod,he];rfl
  have hz:d.toNat/256^i %256<256:=Nat.mod_lt _ (by omega)
  have et:(Int32.ofInt ((d.toNat/256^i %256:Nat):Int)).toInt=((d.toNat/256^i %256:Nat):Int):=by
   rw[Int32.toInt_ofInt,Int.bmod_eq_of_le (by show -(4294967296/2:Int)≤_;omega) (by show _<(4294967296+1)/2;omega)]
  have hp8:∀x:Int32,x=s8 (d.toNat/256^i %256)→Zm (Jj q) e (i:Int) (Anl d i++List.replicate (16-i) 0) x=some (Anl d 8++List.replicate 8 0):=by
   intro x hx
   rw[Zm,Ak7,hx,Bu (by omega),Aa,Oz _ (by omega),Aa,Ag (by omega) (by omega),show 16-i=(15-i)+1 by omega,List.replicate_succ,Am1 (Aqe d i)]
   rw[Bga,show 16-(i+1)=15-i by omega,List.append_assoc]at ih
   exact ih
  rw[Jj,Zv,if_pos (by rw[Af];simp;omega),ev,Br7,et,show(127:Int32).toInt=127 from rfl]
  by_cases h:d.toNat/256^i %256<128
  ·rw[if_neg (by simp only[decide_eq_true_eq];omega)]
   exact hp8 _ (by rw[s8,if_pos h])
  ·rw[if_pos (by simp only[decide_eq_true_eq];omega)]
   refine hp8 _ ?_
   rw[s8,if_neg h,Aj8,Int32.ofInt_sub];rfl
def tapsOf(p:List UInt8):List Int32:=Anl (Aaa p) 8++List.replicate 8 0
theorem Ake(p:List UInt8):(tapsOf p).length=16:=by simp[tapsOf,Aqe]
theorem Bkb(p:List UInt8)(hp:p.length≤64):Aau p=some (tapsOf p,0):=by
 have h:=Bul (Aaa p) 8 0 Al (by omega) (by have:=Ak;omega)
 have h2:Bmv (Aaa p)=some (tapsOf p):=h
 rw[Aau,if_neg (by rw[Am,Ac];simp;omega),Bob p (by omega),Aa]
 simp only
 rw[if_neg (by rw[Aj];simp),h2,Aa]
theorem Bqb(p:List UInt8)(hp:p.length≤64):Abh p=some (tapsOf p,0):=by
 have h:=Ca5 (Aaa p) 8 0 Al (Aaa p) (by omega) (by have:=Ak;omega) (by simp)
 have h2:Asz (Aaa p)=some (tapsOf p):=h
 rw[Abh,if_neg (by rw[Am,Ac];simp;omega),Ap0,Anc,if_neg (by rw[Am,Ac];simp;omega),Bqt p (by omega),Aa,Aa,Aa]
 simp only
 rw[h2,Aa]
end Go.Pl
set_option linter.unusedVariables false
set_option linter.unusedSimpArgs false
namespace Go.Pl
open Go Go.Lv
def u8(z:Int):UInt8:=UInt8.ofNat (z %256).toNat
theorem Bl6(z:Int):u8 (z %256)=u8 z:=by rw[u8,u8];congr 2;omega
def wB(bits:Int):Nat:=if bits=8 then 1 else if bits=16 then 2 else 3
theorem Bb3{bits:Int}(h:BitsOk bits):Bg bits 8=(wB bits:Int):=by obtain rfl|rfl|rfl:=h<;>rfl
theorem Bd5(bits:Int):1≤wB bits∧wB bits≤3:=by
 unfold wB;split; · omega
 ·split<;>omega
def Aex(bits:Int)(x:Int):List UInt8:=if bits=8 then [u8 (x+128)]else if bits=16 then [u8 x,u8 (x/256)]else [u8 x,u8 (x/256),u8 (x/65536)]
theorem Bqo(bits x:Int):(Aex bits x).length≤3:=by
 unfold Aex;split; · simp
 ·split<;>simp
theorem Ca2(x:Int32)(k:Nat)(hk:k≤32):(Ae (Bo x k):UInt8)=u8 (x.toInt.fdiv (2^k)):=by
 have h:=Wv x
 have e:Bo x k=Int32.ofInt (x.toInt.fdiv (2^k)):=by
  show Int32.ofInt (x.toInt.fdiv (2^min k 32))=_
  rw[Nat.min_eq_left hk]
 have hb: -2147483648≤x.toInt.fdiv (2^k)∧x.toInt.fdiv (2^k)<2147483648:=by
  have hpos:(0:Int)<2^k:=Int.pow_pos (by omega)
  rw[Int.fdiv_eq_ediv_of_nonneg _ (by omega)]
  constructor
  ·refine(Int.le_ediv_iff_mul_le hpos).2 ?_
   have:(1:Int)≤2^k:=by omega
   have h2: -2147483648*(2^k:Int)≤ -2147483648*1:=Int.mul_le_mul_of_nonpos_left (by omega) this
   omega
  ·refine Int.ediv_lt_of_lt_mul hpos ?_
   have:(1:Int)≤2^k:=by omega
   have h2:(2147483648:Int)*1≤2147483648*2^k:=Int.mul_le_mul_of_nonneg_left this (by omega)
   omega
 show UInt8.ofNat ((Bo x k).toInt %256).toNat=_
 rw[e,Int32.toInt_ofInt,Int.bmod_eq_of_le (by show -(4294967296/2:Int)≤_;omega) (by show _<(4294967296+1)/2;omega)];rfl
section
variable (bk:Int→List UInt8→Option (List UInt8×Int)) (l:List Int32)
theorem Be3{bits:Int}(h:BitsOk bits)(c:Int32)(x:Int)(i q:Nat)(acc:List UInt8)(hi:i<wB bits)(ha:acc.length≤100000):
  Ih bk bits l c x (q+1) (i:Int) acc=Ih bk bits l c x q ((i+1:Nat):Int) (acc++[u8 (c.toInt.fdiv (2^(8*i)))]):=by
 have hw:=Bd5 bits
 have e8:Ar (8:Int) (i:Int)=((8*i:Nat):Int):=by rw[Fq (by omega) (by omega)];omega
 rw[Ih,Yo,Bb3 h,if_pos (by rw[Af];simp;omega),e8,Ay (by rw[Cl];simp;omega),Aa,show(GI.toZ (((8*i:Nat):Int))).toNat=8*i from rfl,Ca2 _ _ (by omega),Bt (by simp;omega),Aa,Ag (by omega) (by omega)];rfl
theorem Bs3{bits:Int}(h:BitsOk bits)(c:Int32)(x:Int)(q:Nat)(acc:List UInt8):Ih bk bits l c x (q+1) ((wB bits:Nat):Int) acc=bk (Ad x 1) acc:=by
 rw[Ih,Yo,Bb3 h,if_neg (by rw[Af];simp),Aia,As9]
theorem Chx{bits:Int}(h:BitsOk bits)(c:Int32)(x:Int)(acc:List UInt8)(ha:acc.length≤90000)(hr: -(hB bits)≤c.toInt∧c.toInt<hB bits):
  Kx bk bits l x acc (if bits=8 then Ad c (128:Int32)else c)=bk (Ad x 1) (acc++Aex bits c.toInt):=by
 have e:Al=(Al-4)+1+1+1+1:=by have:=Ak;omega
 have hc:=Wv c
 rw[Kx,Ah4,Ah8,e]
 have g0:=fun(c:Int32) q acc ha=>Be3 bk l h c x 0 q acc (by have:=Bd5 bits;omega) ha
 obtain rfl|rfl|rfl:=h
 ·have hh:hB 8=128:=rfl
  rw[hh]at hr
  have e1:(Ad c (128:Int32)).toInt=c.toInt+128:=by
   show(Int32.ofInt (c.toInt+(128:Int32).toInt)).toInt=_
   rw[show(128:Int32).toInt=128 from rfl,Int32.toInt_ofInt,Int.bmod_eq_of_le (by show -(4294967296/2:Int)≤_;omega) (by show _<(4294967296+1)/2;omega)]
  have g1:=Bs3 bk l (bits:=8) (.inl rfl) (Ad c (128:Int32)) x (Al-4+1+1)
  rw[if_pos rfl,show(0:Int)=((0:Nat):Int)from rfl,g0 _ _ _ (by omega)]
  refine Eq.trans (g1 _) ?_
  rw[e1,Aex,if_pos rfl]
  show bk _ (acc++[u8 ((c.toInt+128).fdiv 1)])=_
  rw[Int.fdiv_one]
 ·have g1:=fun q acc ha=>Be3 bk l (bits:=16) (.inr (.inl rfl)) c x 1 q acc (by decide) ha
  have g2:=Bs3 bk l (bits:=16) (.inr (.inl rfl)) c x (Al-4+1)
  rw[if_neg (by decide),show(0:Int)=((0:Nat):Int)from rfl,g0 _ _ _ (by omega),g1 _ _ (by simp;omega)]
  refine Eq.trans (g2 _) ?_
  rw[Aex,if_neg (by decide),if_pos rfl,List.append_assoc]
  show bk _ (acc++[u8 (c.toInt.fdiv 1),u8 (c.toInt.fdiv 256)])=_
  rw[Int.fdiv_one,Int.fdiv_eq_ediv_of_nonneg _ (by omega)]
 ·have g1:=fun q acc ha=>Be3 bk l (bits:=24) (.inr (.inr rfl)) c x 1 q acc (by decide) ha
  have g2:=fun q acc ha=>Be3 bk l (bits:=24) (.inr (.inr rfl)) c x 2 q acc (by decide) ha
  have g3:=Bs3 bk l (bits:=24) (.inr (.inr rfl)) c x (Al-4)
  rw[if_neg (by decide),show(0:Int)=((0:Nat):Int)from rfl,g0 _ _ _ (by omega),g1 _ _ (by simp;omega),g2 _ _ (by simp;omega)]
  refine Eq.trans (g3 _) ?_
  rw[Aex,if_neg (by decide),if_neg (by decide),List.append_assoc,List.append_assoc]
  show bk _ (acc++[u8 (c.toInt.fdiv 1),u8 (c.toInt.fdiv 256),u8 (c.toInt.fdiv 65536)])=_
  rw[Int.fdiv_one,Int.fdiv_eq_ediv_of_nonneg _ (by omega),Int.fdiv_eq_ediv_of_nonneg _ (by omega)]
end
def bytesB(bits:Int)(l:List Int32):List UInt8:=l.flatMap fun x=>Aex bits x.toInt
theorem Arr(bits:Int):∀l:List Int32,(bytesB bits l).length≤3*l.length
 |[]=>by simp[bytesB]
 |x::l=>by
  have h1:=Arr bits l
  have h2:=Bqo bits x.toInt
  simp only[bytesB,List.flatMap_cons,List.length_append,List.length_cons]at*
  omega
def inR(bits:Int)(l:List Int32):Prop:=∀x∈l, -(hB bits)≤x.toInt∧x.toInt<hB bits
theorem Bv1{bits:Int}(h:BitsOk bits)(l:List Int32)(hl:l.length≤4000)(hr:inR bits l):∀(j i q:Nat),i+j=l.length→j<q→Fu bits l q (i:Int) (bytesB bits (l.take i))=some (bytesB bits l,0)
 |0,i,q+1,hi,_=>by
  rw[Fu,Yu,if_neg (by rw[Af,Ac];simp;omega),List.take_of_length_le (by omega)];rfl
 |j+1,i,q+1,hi,hq=>by
  have hlt:i<l.length:=by omega
  have ih:=Bv1 h l hl hr j (i+1) q (by omega) (by omega)
  have hlen:=Arr bits (l.take i)
  have hx:=hr l[i] (List.getElem_mem _)
  have h1:=Chx (Fu bits l q) l h l[i] (i:Int) (bytesB bits (l.take i)) (by rw[List.length_take]at hlen;omega) hx
  rw[Fu,Yu,if_pos (by rw[Af,Ac];simp;omega),Bu hlt,Aa]
  have e:(if(geq bits (8:Int))=true then Kx (Fu bits l q) bits l (i:Int) (bytesB bits (l.take i)) (Ad l[i] (128:Int32))else Kx (Fu bits l q) bits l (i:Int) (bytesB bits (l.take i)) l[i])=Kx (Fu bits l q) bits l (i:Int) (bytesB bits (l.take i)) (if bits=8 then Ad l[i] (128:Int32)else l[i]):=by
   by_cases h8:bits=8
   ·rw[if_pos (by rw[Bb];simpa using h8),if_pos h8]
   ·rw[if_neg (by rw[Bb];simpa using h8),if_neg h8]
  rw[e,h1,Ag (by omega) (by omega)]
  rw[Kn hlt]at ih
  have e2:bytesB bits (l.take i++[l[i]])=bytesB bits (l.take i)++Aex bits l[i].toInt:=by unfold bytesB;rw[List.flatMap_append,List.flatMap_singleton]
  rw[e2]at ih
  exact ih
theorem Aw1{bits:Int}(h:BitsOk bits){l:List Int32}(hl:l.length≤4000)(hc:cadenzaref18_Check bits l=some 0):inR bits l:=by
 have hh:=Ah0 bits
 have key:∀(j i q:Nat),i+j=l.length→j<q→As l (hB bits) q (i:Int)=some 0→∀k,i≤k→(hk:k<l.length)→ -(hB bits)≤l[k].toInt∧l[k].toInt<hB bits:=by
  intro j
  induction j with
  |zero=>intro i q hi hq _ k h1 h2;omega
  |succ j ih=>
   intro i q hi hq hs k h1 h2
   obtain⟨q,rfl⟩:∃k,q=k+1:=⟨q-1,by omega⟩
   rw[As,Cd,if_pos (by rw[Af,Ac];simp;omega),Bu (by omega),Aa,Aa,El,Bmx,Cc (by omega) (by omega),Ag (by omega) (by omega),Af,Cl]at hs
   by_cases g1:l[i].toInt<0-hB bits
   ·rw[if_pos (by simpa using g1)]at hs;simp at hs
   ·rw[if_neg (by simpa using g1)]at hs
    by_cases g2:hB bits≤l[i].toInt
    ·rw[if_pos (by simpa using g2)]at hs;simp at hs
    ·rw[if_neg (by simpa using g2)]at hs
     by_cases hk:k=i
     ·subst hk;omega
     ·exact ih (i+1) q (by omega) (by omega) hs k (by omega) h2
 rw[cadenzaref18_Check,Cx,Ak2 h,Aa,if_neg (by rw[Bb];simp;omega),if_neg (by rw[Am,Ac];simp;omega)]at hc
 have:=key l.length 0 Al (by omega) (by have:=Ak;omega) hc
 intro x hx
 obtain⟨k,hk,rfl⟩:=List.getElem_of_mem hx
 exact this k (by omega) hk
theorem Biu{bits:Int}(h:BitsOk bits){l:List Int32}(hl:l.length≤4000)(hc:cadenzaref18_Check bits l=some 0):width_Bytes bits l=some (bytesB bits l,0):=by
 have h1:=Bv1 h l hl (Aw1 h hl hc) l.length 0 Al (by omega) (by have:=Ak;omega)
 rw[width_Bytes,Akb,Ark h l hl,hc,Aa,if_neg (by rw[Aj];simp)]
 exact h1
theorem Ceh{bits:Int}(h:BitsOk bits)(x:Int32)(hr: -(hB bits)≤x.toInt∧x.toInt<hB bits):Afu bits x=some (Aex bits x.toInt):=by
 have hx:=Wv x
 have gu:∀z:Int,(Ae z:UInt8)=u8 z:=fun z=>rfl
 have hq:∀n:Int,0≤n→n≤20000000→Bg n (256:Int)=n/256∧Bg n (65536:Int)=n/65536:=by
  intro n h1 h2
  constructor<;>(rw[Aid,Int.tdiv_eq_ediv_of_nonneg h1,Cc (by omega) (by omega)])
 have hm:∀n:Int,0≤n→Ff n (256:Int)=n %256:=fun n h1=>by rw[Ff,Int.tmod_eq_emod_of_nonneg h1]
 rw[Afu,Aja,El]
 obtain rfl|rfl|rfl:=h
 ·rw[if_pos (by rw[Bb];rfl),Ag (by omega) (by omega),gu,Aex,if_pos rfl]
 ·have hh:hB 16=32768:=rfl
  rw[hh]at hr
  have hp:∀n:Int,0≤n→n≤70000→u8 n=u8 x.toInt→u8 (n/256)=u8 (x.toInt/256)→Lj 16 n=some (Aex 16 x.toInt):=by
   intro n h1 h2 h3 h4
   rw[Lj,Xg,if_neg (by rw[Bb];decide),hm n h1,(hq n h1 (by omega)).1,hm _ (by omega),gu,gu,Bl6,Bl6,h3,h4,Aex,if_neg (by decide),if_pos rfl]
  rw[if_neg (by rw[Bb];decide)]
  by_cases hn:x.toInt<0
  ·rw[if_pos (by rw[Af];simpa using hn),Ak2 (.inr (.inl rfl)),Aa,hh,Fq (by omega) (by omega),Ag (by omega) (by omega)]
   refine hp _ (by omega) (by omega) ?_ ?_
   ·rw[u8,u8];congr 2;omega
   ·rw[u8,u8];congr 2;omega
  ·rw[if_neg (by rw[Af];simpa using hn)]
   exact hp _ (by omega) (by omega) rfl rfl
 ·have hh:hB 24=8388608:=rfl
  rw[hh]at hr
  have hp:∀n:Int,0≤n→n≤16777215→u8 n=u8 x.toInt→u8 (n/256)=u8 (x.toInt/256)→u8 (n/65536)=u8 (x.toInt/65536)→Lj 24 n=some (Aex 24 x.toInt):=by
   intro n h1 h2 h3 h4 h5
   rw[Lj,Xg,if_pos (by rw[Bb];rfl),hm n h1,(hq n h1 (by omega)).1,(hq n h1 (by omega)).2,hm _ (by omega),gu,gu,gu,Bl6,Bl6,h3,h4,h5,Bt (by simp),Aa,Aex,if_neg (by decide),if_neg (by decide)];rfl
  rw[if_neg (by rw[Bb];decide)]
  by_cases hn:x.toInt<0
  ·rw[if_pos (by rw[Af];simpa using hn),Ak2 (.inr (.inr rfl)),Aa,hh,Fq (by omega) (by omega),Ag (by omega) (by omega)]
   refine hp _ (by omega) (by omega) ?_ ?_ ?_
   ·rw[u8,u8];congr 2;omega
   ·rw[u8,u8];congr 2;omega
   ·rw[u8,u8];congr 2;omega
  ·rw[if_neg (by rw[Af];simpa using hn)]
   exact hp _ (by omega) (by omega) rfl rfl rfl
theorem Bue{bits:Int}(h:BitsOk bits)(l:List Int32)(hl:l.length≤4000)(hr:inR bits l):∀(j i q:Nat),i+j=l.length→j<q→Ip bits l q (i:Int) (bytesB bits (l.take i))=some (bytesB bits l,0)
 |0,i,q+1,hi,_=>by
  rw[Ip,Ts,if_neg (by rw[Af,Ac];simp;omega),List.take_of_length_le (by omega)];rfl
 |j+1,i,q+1,hi,hq=>by
  have hlt:i<l.length:=by omega
  have ih:=Bue h l hl hr j (i+1) q (by omega) (by omega)
  have hlen:=Arr bits (l.take i)
  have hol:=Bqo bits l[i].toInt
  rw[List.length_take]at hlen
  have e2:bytesB bits (l.take i++[l[i]])=bytesB bits (l.take i)++Aex bits l[i].toInt:=by unfold bytesB;rw[List.flatMap_append,List.flatMap_singleton]
  rw[Kn hlt,e2]at ih
  rw[Ip,Ts,if_pos (by rw[Af,Ac];simp;omega),Bu hlt,Aa,Ceh h _ (hr l[i] (List.getElem_mem _)),Aa,Bt (by omega),Aa,Ag (by omega) (by omega)]
  exact ih
theorem Bku{bits:Int}(h:BitsOk bits){l:List Int32}(hl:l.length≤4000)(hc:cadenzaref18_Check bits l=some 0):Zs bits l=some (bytesB bits l,0):=by
 have h1:=Bue h l hl (Aw1 h hl hc) l.length 0 Al (by omega) (by have:=Ak;omega)
 rw[Zs,Aee,hc,Aa,if_neg (by rw[Aj];simp)]
 exact h1
end Go.Pl
set_option linter.unusedVariables false
set_option linter.unusedSimpArgs false
namespace Go.Pl
open Go Go.Lv
def Aqo:List UInt8→Nat→Int×Int
 |[],n=>((n:Int),0)
 |c::r,n=>if 128≤c.toNat then(0,12)else Aqo r (128*n+c.toNat)
theorem Buw:∀(l:List UInt8) (n k:Nat),n<128^k→0≤(Aqo l n).1∧(Aqo l n).1<((128^(k+l.length):Nat):Int)
 |[],n,k,h=>by simp[Aqo];exact_mod_cast h
 |c::r,n,k,h=>by
  rw[Aqo]
  split
  ·have:0<128^(k+(c::r).length):=Nat.pow_pos (by omega)
   exact⟨Int.le_refl _,by simp only;exact_mod_cast this⟩
  ·have:=Buw r (128*n+c.toNat) (k+1) (by rw[Nat.pow_succ];omega)
   rw[List.length_cons,show k+(r.length+1)=k+1+r.length by omega]
   exact this
theorem or7(n c:Nat)(hn:n<268435456)(hc:c<128):gor (Cm (n:Int) (GI.toZ (7:UInt64)).toNat) (c:Int)=((128*n+c:Nat):Int):=by
 have e:(GI.toZ (7:UInt64)).toNat=7:=rfl
 have h1:Cm (n:Int) 7=((2^7*n:Nat):Int):=by
  have:Cm (n:Int) 7=wrap64 ((n:Int)*2^7):=rfl
  rw[this,Cc (by omega) (by omega)];omega
 rw[e,h1]
 have h2:gor ((2^7*n:Nat):Int) (c:Int)=wrap64 ((BitVec.ofInt 64 ((2^7*n:Nat):Int)|||BitVec.ofInt 64 (c:Int)).toNat:Int):=rfl
 rw[h2,BitVec.toNat_or,BitVec.toNat_ofInt,BitVec.toNat_ofInt]
 have h3:(((2^7*n:Nat):Int) %((2^64:Nat):Int)).toNat=2^7*n:=by omega
 have h4:((c:Int) %((2^64:Nat):Int)).toNat=c:=by omega
 rw[h3,h4,←Nat.two_pow_add_eq_or_of_lt (by simpa using hc),Cc (by omega) (by omega)]
theorem Buh(b:List UInt8)(hb:b.length=4):∀(j i q n:Nat),i+j=4→j<q→n<128^i→Mj b q (n:Int) (i:Int)=some (Aqo (b.drop i) n)
 |0,i,q+1,n,hi,_,_=>by
  rw[Mj,Wg,if_neg (by rw[Af,Ac];simp;omega),show b.drop i=[] by simp;omega];rfl
 |j+1,i,q+1,n,hi,hq,hn=>by
  have hlt:i<b.length:=by omega
  have hn2:n<268435456:=Nat.lt_of_lt_of_le hn (show 128^i≤128^4 from Nat.pow_le_pow_right (by omega) (by omega))
  rw[Mj,Wg,if_pos (by rw[Af,Ac];simp;omega),Bu hlt,Aa,drop_cons hlt,Aqo,Caz]
  by_cases hc:128≤b[i].toNat
  ·rw[if_pos (by simp;omega),if_pos hc]
  ·rw[if_neg (by simp;omega),if_neg hc,Afk,or7 n _ hn2 (by omega),Ag (by omega) (by omega)]
   exact Buh b hb j (i+1) q _ (by omega) (by omega) (by rw[Nat.pow_succ];omega)
theorem Ccl(b:List UInt8)(hb:b.length=4):∀(j i q n:Nat),i+j=4→j<q→n<128^i→Iw b q (n:Int) (i:Int)=some (Aqo (b.drop i) n)
 |0,i,q+1,n,hi,_,_=>by
  rw[Iw,Uc,if_neg (by rw[Af];simp;omega),show b.drop i=[] by simp;omega];rfl
 |j+1,i,q+1,n,hi,hq,hn=>by
  have hlt:i<b.length:=by omega
  have hn2:n<268435456:=Nat.lt_of_lt_of_le hn (show 128^i≤128^4 from Nat.pow_le_pow_right (by omega) (by omega))
  rw[Iw,Uc,if_pos (by rw[Af];simp;omega),Bu hlt,Aa,drop_cons hlt,Aqo,Ccu]
  have h128:(128:UInt8).toNat=128:=rfl
  by_cases hc:128≤b[i].toNat
  ·rw[if_pos (by simpa using hc),if_pos hc]
  ·have h3:=b[i].toNat_lt
   rw[if_neg (by simpa using hc),if_neg hc,Aa,Afk,Fq (by omega) (by omega),Ag (by omega) (by omega),Ag (by omega) (by omega)]
   have:=Ccl b hb j (i+1) q (128*n+b[i].toNat) (by omega) (by omega) (by rw[Nat.pow_succ];omega)
   rw[←this];rfl
theorem Bsi(b:List UInt8)(hb:b.length=4):Af9 b=some (Aqo b 0):=by
 have h:=Buh b hb 4 0 Al 0 (by omega) (by have:=Ak;omega) (by simp)
 rw[Af9,Afi,if_neg (by rw[Aj,Ac];simp;omega),Afj];exact h
theorem Byp(b:List UInt8)(hb:b.length=4):Zo b=some (Aqo b 0):=by
 have h:=Ccl b hb 4 0 Al 0 (by omega) (by have:=Ak;omega) (by simp)
 rw[Zo,Ad8,if_neg (by rw[Aj,Ac];simp;omega),Aeq];exact h
theorem Btw{b:List UInt8}(hb:b.length=4):0≤(Aqo b 0).1∧(Aqo b 0).1<268435456:=by
 have:=Buw b 0 0 (by simp)
 rw[hb]at this
 simpa using this
theorem Asi(s p:List UInt8):Ld s p=some (decide (p.length≤s.length∧s.take p.length=p)):=by
 rw[Ld]
 by_cases h:p.length≤s.length
 ·rw[if_pos (by rw[Cl,Ac,Ac];simp;omega),show Ac p=(p.length:Int)from rfl,Kt (by omega) (by omega),Aa,Hc,Aa,Int.toNat_natCast]
  congr 1
  rw[Bool.eq_iff_iff];simp[h]
 ·rw[if_neg (by rw[Cl,Ac,Ac];simp;omega)]
  simp[h]
def Ayf(b:List UInt8)(n:Int):Int×Int:=
 if 4000<n then(0,4)else if(b.length:Int)<n then(0,24)else
 if b.getD 5 0=16∧(b.take n.toNat).drop (n-10).toNat≠ [51,68,73]++part b 3 7 then(0,12)else(n,0)
def Bke(b:List UInt8)(r:Int):Int×Int:=Ayf b (r+10+(if b.getD 5 0=16 then 10 else 0))
def Am7(b:List UInt8):Int×Int:=
 if ¬(3≤b.length∧b.take 3=[73,68,51])then(0,6)else if b.length<10 then(0,24)else
 if(Aqo (part b 6 4) 0).2≠0∨b.getD 4 0≠0∨¬((b.getD 5 0=0∧2≤(b.getD 3 0).toNat∧(b.getD 3 0).toNat≤4)∨(b.getD 5 0=16∧b.getD 3 0=4))then(0,12)else
 Bke b (Aqo (part b 6 4) 0).1
theorem Azb{b:List UInt8}{i:Nat}(h:i<b.length):getI b (i:Int)=some (b.getD i 0):=by
 rw[Bu h];simp[List.getD_eq_getElem?_getD,h]
theorem Nw{b:List UInt8}(a w:Nat)(h:a+w≤b.length):Bv b (a:Int) ((a+w:Nat):Int)=some (part b a w):=by
 rw[Ww (by omega) (by omega) (by omega)];rfl
theorem Cfq(b:List UInt8)(r:Int)(h10:10≤b.length)(h0:0≤r)(h1:r<268435456):Vq b r=some (Bke b r):=by
 have g5:getI b (5:Int)=some (b.getD 5 0):=Azb (i:=5) (by omega)
 have key:∀n:Int,10≤n→n<268435500→Vn b n=some (Ayf b n):=by
  intro n hn hn2
  rw[Vn,Agj,Ayf]
  by_cases c1:4000<n
  ·rw[if_pos (by rw[Am];simpa using c1),if_pos c1]
  ·rw[if_neg (by rw[Am];simpa using c1),if_neg c1]
   by_cases c2:(b.length:Int)<n
   ·rw[if_pos (by rw[Af,Ac];simpa using c2),if_pos c2]
   ·have e3:Bv b (3:Int) (10:Int)=some (part b 3 7):=Nw 3 7 (by omega)
    rw[if_neg (by rw[Af,Ac];simpa using c2),if_neg c2,g5,Aa]
    by_cases c3:b.getD 5 0=16
    ·rw[if_pos (by rw[Asc];simpa using c3),Bc (by omega) (by omega),Ww (by omega) (by omega) (by omega),Aa,e3,Aa,Bt (by rw[Dm (by omega)];simp),Aa]
     by_cases c4:(b.take n.toNat).drop (n-10).toNat=[51,68,73]++part b 3 7
     ·rw[if_neg (by simpa using c4),if_neg (by intro h;exact h.2 c4)]
     ·rw[if_pos (by simpa using c4),if_pos ⟨c3,c4⟩]
    ·rw[if_neg (by rw[Asc];simpa using c3),if_neg (fun h=>c3 h.1)]
 rw[Vq,Ahv,g5,Aa,Bke]
 by_cases c3:b.getD 5 0=16
 ·rw[if_pos (by rw[Asc];simpa using c3),Ag (by rw[Ag]<;>omega) (by rw[Ag]<;>omega),Ag (by omega) (by omega),key _ (by omega) (by omega),if_pos c3,show 10+r+10=r+10+10 by omega]
 ·rw[if_neg (by rw[Asc];simpa using c3),Ag (by omega) (by omega),key _ (by omega) (by omega),if_neg c3,show 10+r=r+10+0 by omega]
theorem Ccd(b:List UInt8)(hb:b.length<4611686018427387904):Acr b=some (Am7 b):=by
 rw[Acr,Aha,Am7]
 by_cases h3:3≤b.length
 ·rw[if_neg (by rw[Af,Ac];simp;omega),Kt (by omega) (by omega),Aa]
  by_cases hp:b.take 3=[73,68,51]
  ·rw[if_neg (by simpa using hp),if_neg (by simp[h3,hp]),Ahd,Ahn]
   by_cases h10:b.length<10
   ·rw[if_pos (by rw[Af,Ac];simp;omega),if_pos h10]
   ·have e6:Bv b (6:Int) (10:Int)=some (part b 6 4):=Nw 6 4 (by omega)
    have g3:getI b (3:Int)=some (b.getD 3 0):=Azb (i:=3) (by omega)
    have g4:getI b (4:Int)=some (b.getD 4 0):=Azb (i:=4) (by omega)
    have g5:getI b (5:Int)=some (b.getD 5 0):=Azb (i:=5) (by omega)
    obtain⟨v1,v2⟩:=Btw (b:=part b 6 4) (Dm (by omega))
    rw[if_neg (by rw[Af,Ac];simp;omega),if_neg h10,e6,Aa,Byp _ (Dm (by omega)),Aa]
    have ht:=Cfq b (Aqo (part b 6 4) 0).1 (by omega) v1 v2
    generalize Aqo (part b 6 4) 0=v at*
    obtain⟨v,e⟩:=v
    simp only at ht v1 v2⊢
    simp only[Aa,g3,g4,g5,ht]
    generalize b.getD 3 0=x at*
    generalize b.getD 4 0=y at*
    generalize b.getD 5 0=z at*
    simp only[Bsx,Ch1,Caz,Aj]
    by_cases he:e=0<;>by_cases hy:y=0<;>by_cases hz:z=0<;>by_cases hz2:z=16<;>by_cases hx:x=4<;>by_cases hx2:x.toNat<2<;>by_cases hx4:4<x.toNat<;>simp_all<;>(rw[if_neg (by omega),if_neg (by omega)])
  ·rw[if_pos (by simpa using hp),if_pos (by simp[hp])]
 ·rw[if_pos (by rw[Af,Ac];simp;omega),if_pos (by simp[h3])]
theorem Bkj(b:List UInt8)(n:Int)(h10:10≤b.length)(hn:10≤n)(hn2:n<268435500):Yr b (b.getD 5 0) n=some (Ayf b n):=by
 rw[Yr,As1]
 by_cases c1:4000<n
 ·rw[if_pos (by rw[Am];simpa using c1),Ayf,if_pos c1]
 ·rw[if_neg (by rw[Am];simpa using c1)]
  by_cases c2:(b.length:Int)<n
  ·rw[if_pos (by rw[Af,Ac];simpa using c2),Ayf,if_neg c1,if_pos c2]
  ·have e3:Bv b (3:Int) (10:Int)=some (part b 3 7):=Nw 3 7 (by omega)
   rw[if_neg (by rw[Af,Ac];simpa using c2)]
   by_cases c3:b.getD 5 0=16
   ·have hl:((b.take n.toNat).drop (n-10).toNat).length=10:=by simp;omega
    have ht:Ayf b n=if(b.take n.toNat).drop (n-10).toNat≠ [51,68,73]++part b 3 7 then(0,12)else(n,0):=by rw[Ayf,if_neg c1,if_neg c2];simp only[c3,true_and]
    rw[if_pos (by rw[Asc];simpa using c3),Bc (by omega) (by omega),Ww (by omega) (by omega) (by omega),Aa,ht]
    generalize(b.take n.toNat).drop (n-10).toNat=f at*
    rw[Kt (by omega) (by omega),Aa,Qe (by omega) (by omega),Aa,e3,Aa,Hc,Aa]
    have hf:f=f.take 3++f.drop 3:=(List.take_append_drop 3 f).symm
    by_cases c4:f=[51,68,73]++part b 3 7
    ·subst c4
     simp
    ·by_cases c5:f.take 3=[51,68,73]
     ·have:f.drop 3≠part b 3 7:=fun h=>c4 (by rw[hf,c5,h])
      simp only[List.cons_append,List.nil_append]at c4
      simp[c4,c5,this]
     ·simp only[List.cons_append,List.nil_append]at c4
      simp[c4,c5]
   ·rw[if_neg (by rw[Asc];simpa using c3),Ayf,if_neg c1,if_neg c2,if_neg (fun h=>c3 h.1)]
theorem Cb7(b:List UInt8)(r:Int)(h10:10≤b.length)(h0:0≤r)(h1:r<268435456):Yn b r (b.getD 5 0)=some (Bke b r):=by
 rw[Yn,Ah1,Bke]
 by_cases c3:b.getD 5 0=16
 ·rw[if_pos (by rw[Asc];simpa using c3),Ag (by rw[Ag]<;>omega) (by rw[Ag]<;>omega),Ag (by omega) (by omega),Bkj b _ h10 (by omega) (by omega),if_pos c3]
 ·rw[if_neg (by rw[Asc];simpa using c3),Ag (by omega) (by omega),Bkj b _ h10 (by omega) (by omega),if_neg c3];simp
theorem Bwx(b:List UInt8)(hb:b.length<4611686018427387904):Ajm b=some (Am7 b):=by
 rw[Ajm,Yq,Asi,Aa]
 by_cases hp:3≤b.length∧b.take 3=[73,68,51]
 ·rw[if_neg (by simpa using hp)]
  by_cases h10:b.length<10
  ·rw[if_pos (by rw[Af,Ac];simp;omega),Am7,if_neg (fun h=>h hp),if_pos h10]
  ·have e6:Bv b (6:Int) (10:Int)=some (part b 6 4):=Nw 6 4 (by omega)
   have g3:getI b (3:Int)=some (b.getD 3 0):=Azb (i:=3) (by omega)
   have g4:getI b (4:Int)=some (b.getD 4 0):=Azb (i:=4) (by omega)
   have g5:getI b (5:Int)=some (b.getD 5 0):=Azb (i:=5) (by omega)
   obtain⟨v1,v2⟩:=Btw (b:=part b 6 4) (Dm (by omega))
   have ht:=Cb7 b (Aqo (part b 6 4) 0).1 (by omega) v1 v2
   rw[if_neg (by rw[Af,Ac];simp;omega),g3,Aa,g5,Aa,Ah9,Aig,e6,Aa,Bsi _ (Dm (by omega)),Aa,Am7,if_neg (fun h=>h hp),if_neg h10]
   generalize Aqo (part b 6 4) 0=v at*
   obtain⟨v,e⟩:=v
   simp only at ht v1 v2⊢
   simp only[Aa,g4,Ahy,Ait]
   generalize b.getD 3 0=x at*
   generalize b.getD 4 0=y at*
   generalize b.getD 5 0=z at*
   simp only[Bsx,Cg1,Asc,Ccu,Aj]
   have e2:(2:UInt8).toNat=2:=rfl
   have e4:(4:UInt8).toNat=4:=rfl
   by_cases he:e=0<;>by_cases hy:y=0<;>by_cases hz:z=0<;>by_cases hz2:z=16<;>by_cases hx:x=4<;>by_cases hx2:2≤x.toNat<;>by_cases hx4:x.toNat≤4<;>simp_all
 ·rw[if_pos (by rw[Bool.not_eq_true',decide_eq_false_iff_not];exact hp),Am7,if_pos hp]
theorem By5{b:List UInt8}{n:Int}(h:Am7 b=(n,0)):10≤n∧n≤b.length∧n≤4000:=by
 unfold Am7 at h
 split at h; · simp at h
 split at h; · simp at h
 split at h; · simp at h
 rename_i h10 _
 obtain⟨v1,v2⟩:=Btw (b:=part b 6 4) (Dm (by omega))
 unfold Bke at h
 generalize hm:(Aqo (part b 6 4) 0).1+10+(if b.getD 5 0=16 then 10 else 0)=m at h
 unfold Ayf at h
 split at h; · simp at h
 split at h; · simp at h
 split at h; · simp at h
 simp only[Prod.mk.injEq,and_true]at h
 subst h
 refine⟨?_,by omega,by omega⟩
 rw[←hm]
 split<;>omega
end Go.Pl
set_option linter.unusedVariables false
set_option linter.unusedSimpArgs false
namespace Go.Pl
open Go Go.Lv
def APE:List UInt8:=[65,80,69,84,65,71,69,88]
def Tq(n m fl:Nat):List UInt8:=APE++Qv 2000 4++Qv (n+32) 4++Qv m 4++Qv fl 4++List.replicate 8 0
theorem An2{n:Nat}(h:n<18446744073709551616):(UInt64.ofNat n).toNat=n:=by rw[UInt64.toNat_ofNat',Nat.mod_eq_of_lt h]
theorem Aw8(n m:Int)(fl:UInt64)(c:UInt64)(i q:Nat)(acc:List UInt8)(hi:i<6)(hc:getI ([(2000:UInt64),(Ae (Ad n (32:Int)):UInt64),(Ae m:UInt64),fl,(0:UInt64),(0:UInt64)]:List UInt64) (i:Int)=some c)(h:c.toNat<4294967296)(ha:acc.length≤1000000):
  Ze n m fl (q+1) (i:Int) acc=Ze n m fl q ((i+1:Nat):Int) (acc++Qv c.toNat 4):=by
 have hb:=Alh c 4 (by omega) (by omega) (by simpa using h)
 rw[Ze,Arf,if_pos (by rw[Af,Ac];simp;omega),hc,Aa,Aa,show((4:Int))=((4:Nat):Int)from rfl,hb,Aa]
 simp only
 rw[Bt (by rw[Bq];omega),Aa,Ag (by omega) (by omega)];rfl
theorem Bhl(n m:Nat)(fl:UInt64)(hn:n≤3000)(hm:m≤1000)(hf:fl.toNat<4294967296):Axl (n:Int) (m:Int) fl=some (Tq n m fl.toNat):=by
 have e1:(Ae (Ad (n:Int) (32:Int)):UInt64).toNat=n+32:=by rw[Ag (by omega) (by omega),show(n:Int)+32=((n+32:Nat):Int) by omega,Td,An2 (by omega)]
 have e2:(Ae (m:Int):UInt64).toNat=m:=by rw[Td,An2 (by omega)]
 have hF:Al=(Al-7)+1+1+1+1+1+1+1:=by have:=Ak;omega
 rw[Axl,Azt,Azs,hF]
 rw[show((0:Int))=((0:Nat):Int)from rfl,Aw8 n m fl 2000 0 _ _ (by omega) rfl (by decide) (by simp),Aw8 n m fl _ 1 _ _ (by omega) rfl (by rw[e1];omega) (by simp[Bq]),Aw8 n m fl _ 2 _ _ (by omega) rfl (by rw[e2];omega) (by simp[Bq]),
  Aw8 n m fl fl 3 _ _ (by omega) rfl hf (by simp[Bq]),Aw8 n m fl 0 4 _ _ (by omega) rfl (by decide) (by simp[Bq]),Aw8 n m fl 0 5 _ _ (by omega) rfl (by decide) (by simp[Bq]),e1,e2]
 rw[Ze,Arf,if_neg (by rw[Af,Ac];simp),Azh,Bgu,Tq]
 have z:Qv (0:UInt64).toNat 4++Qv (0:UInt64).toNat 4=List.replicate 8 0:=by decide
 have z2:Qv (2000:UInt64).toNat 4=Qv 2000 4:=rfl
 rw[List.append_assoc _ (Qv (0:UInt64).toNat 4),z,z2];rfl
theorem Bvl(n m:Nat)(fl:UInt64)(hn:n≤3000)(hm:m≤1000)(hf:fl.toNat<4294967296):Qr (n:Int) (m:Int) fl=some (Tq n m fl.toNat):=by
 have e1:(Ae (Ad (n:Int) (32:Int)):UInt64).toNat=n+32:=by rw[Ag (by omega) (by omega),show(n:Int)+32=((n+32:Nat):Int) by omega,Td,An2 (by omega)]
 have e2:(Ae (m:Int):UInt64).toNat=m:=by rw[Td,An2 (by omega)]
 have w:∀c:UInt64,Dw c 4=some (Qv c.toNat 4):=fun c=>Bf2 c 4 (by omega)
 have z2:Qv (2000:UInt64).toNat 4=Qv 2000 4:=rfl
 rw[Qr]
 simp only[w,e1,e2,Aa]
 rw[Bt (by simp[Bq]),Aa,Bt (by simp[Bq]),Aa,Bt (by simp[Bq]),Aa,Bt (by simp[Bq]),Aa,Ayj (by omega) (by omega),Aa,Bt (by simp[Bq]),Aa,z2];rfl
theorem Ajt{b:List UInt8}{a w k:Nat}(h:a+w≤k):part (b.take k) a w=part b a w:=by rw[part,part,List.take_take,Nat.min_eq_left h]
def Aic(b:List UInt8):Bool:=decide (Ef (part b 12 4)<32∨3032<Ef (part b 12 4)∨1000<Ef (part b 16 4))
theorem Caj(b:List UInt8)(h:20≤b.length):(((Ch (leU (part b 12 4)) (32:UInt64))||(Ga (leU (part b 12 4)) (3032:UInt64)))||(Ga (leU (part b 16 4)) (1000:UInt64)))=Aic b:=by
 rw[Be6,Am4,Am4,Anr (by rw[Dm (by omega)];omega),Anr (by rw[Dm (by omega)];omega),Aic]
 show((decide (Ef (part b 12 4)<32)||decide (3032<Ef (part b 12 4)))||decide (1000<Ef (part b 16 4)))=_
 simp[Bool.or_assoc]
theorem Bfs(b:List UInt8)(h:20≤b.length)(hb:Aic b=false):Ah (Ae (leU (part b 12 4)):Int) (32:Int)=((Ef (part b 12 4)-32:Nat):Int)∧(Ae (leU (part b 16 4)):Int)=((Ef (part b 16 4):Nat):Int)∧Ef (part b 12 4)-32≤3000∧Ef (part b 16 4)≤1000:=by
 simp only[Aic,decide_eq_false_iff_not]at hb
 refine⟨?_,Afz (by rw[Dm (by omega)];omega),by omega,by omega⟩
 rw[Afz (by rw[Dm (by omega)];omega),Bc (by omega) (by omega)];omega
theorem Arq(b:List UInt8)(fl:UInt64)(h:20≤b.length)(hl:b.length<4611686018427387904)(hf:fl.toNat<4294967296):
  Ajs b fl=some (if Aic b=true then(0,0,false)else(((Ef (part b 12 4)-32:Nat):Int),((Ef (part b 16 4):Nat):Int),b==Tq (Ef (part b 12 4)-32) (Ef (part b 16 4)) fl.toNat)):=by
 have a1:Ap3 b 12 4=some (leU (part b 12 4),0):=Bkl b 12 4 (by omega) (by omega) (by omega) hl
 have a2:Ap3 b 16 4=some (leU (part b 16 4),0):=Bkl b 16 4 (by omega) (by omega) (by omega) hl
 rw[Ajs,a1,Aa]
 simp only
 rw[a2,Aa]
 simp only
 rw[Caj b h]
 cases hb:Aic b with
 |true=>rfl
 |false=>
  obtain⟨i1,i2,i3,i4⟩:=Bfs b h hb
  rw[i1,i2,Bhl _ _ _ i3 i4 hf]
  rfl
theorem Cat(b:List UInt8)(h:20≤b.length)(hl:b.length<4611686018427387904):
  Ab1 b=some (if Aic b=true then(0,0,false)else(((Ef (part b 12 4)-32:Nat):Int),((Ef (part b 16 4):Nat):Int),true)):=by
 have a1:Bv b 12 16=some (part b 12 4):=Nw 12 4 (by omega)
 have a2:Bv b 16 20=some (part b 16 4):=Nw 16 4 (by omega)
 rw[Ab1,a1,Aa,Bp5 _ (by rw[Dm (by omega)];omega),Aa,a2,Aa,Bp5 _ (by rw[Dm (by omega)];omega),Aa,Caj b h]
 cases hb:Aic b with
 |true=>rfl
 |false=>
  obtain⟨i1,i2,i3,i4⟩:=Bfs b h hb
  rw[i1,i2];rfl
def Rj(b:List UInt8):Int×Int:=
 if ¬(8≤b.length∧b.take 8=APE)then(0,6)else if b.length<32 then(0,24)else
 if Aic b=true∨b.take 32≠Tq (Ef (part b 12 4)-32) (Ef (part b 16 4)) 2684354560 then(0,12)else
 if b.length<Ef (part b 12 4)+32 then(0,24)else
 if(b.take (Ef (part b 12 4)+32)).drop (Ef (part b 12 4))≠Tq (Ef (part b 12 4)-32) (Ef (part b 16 4)) 2147483648 then(0,12)else(((Ef (part b 12 4)+32:Nat):Int),0)
theorem Bo1(b:List UInt8):Aic (b.take 32)=Aic b:=by rw[Aic,Aic,Ajt (by omega),Ajt (by omega)]
section
variable {b:List UInt8}
theorem fa1(h:¬(8≤b.length∧b.take 8=APE)):Rj b=(0,6):=by rw[Rj,if_pos h]
theorem fa2(h:8≤b.length∧b.take 8=APE)(h2:b.length<32):Rj b=(0,24):=by rw[Rj,if_neg (fun h'=>h' h),if_pos h2]
variable (h:8≤b.length∧b.take 8=APE) (h2:¬b.length<32)
include h h2
theorem fa3(h3:Aic b=true):Rj b=(0,12):=by rw[Rj,if_neg (fun h'=>h' h),if_neg h2,if_pos (.inl h3)]
theorem fa4(h4:b.take 32≠Tq (Ef (part b 12 4)-32) (Ef (part b 16 4)) 2684354560):Rj b=(0,12):=by rw[Rj,if_neg (fun h'=>h' h),if_neg h2,if_pos (.inr h4)]
variable (h3:Aic b=false) (h4:b.take 32=Tq (Ef (part b 12 4)-32) (Ef (part b 16 4)) 2684354560)
include h3 h4
theorem fa5(h5:b.length<Ef (part b 12 4)+32):Rj b=(0,24):=by
 rw[Rj,if_neg (fun h'=>h' h),if_neg h2,if_neg (fun h'=>h'.elim (fun e=>by rw[h3]at e;cases e) fun e=>e h4),if_pos h5]
theorem fa6(h5:¬b.length<Ef (part b 12 4)+32)(h6:(b.take (Ef (part b 12 4)+32)).drop (Ef (part b 12 4))≠Tq (Ef (part b 12 4)-32) (Ef (part b 16 4)) 2147483648):Rj b=(0,12):=by
 rw[Rj,if_neg (fun h'=>h' h),if_neg h2,if_neg (fun h'=>h'.elim (fun e=>by rw[h3]at e;cases e) fun e=>e h4),if_neg h5,if_pos h6]
theorem fa7(h5:¬b.length<Ef (part b 12 4)+32)(h6:(b.take (Ef (part b 12 4)+32)).drop (Ef (part b 12 4))=Tq (Ef (part b 12 4)-32) (Ef (part b 16 4)) 2147483648):Rj b=(((Ef (part b 12 4)+32:Nat):Int),0):=by
 rw[Rj,if_neg (fun h'=>h' h),if_neg h2,if_neg (fun h'=>h'.elim (fun e=>by rw[h3]at e;cases e) fun e=>e h4),if_neg h5,if_neg (fun h'=>h' h6)]
end
theorem Bth(b:List UInt8)(hl:b.length<4611686018427387904):Aw9 b=some (Rj b):=by
 rw[Aw9,Asi,Aa]
 by_cases hp:8≤b.length∧b.take 8=APE
 ·rw[if_neg (by simpa [APE]using hp)]
  by_cases h32:b.length<32
  ·rw[if_pos (by rw[Af,Ac];simp;omega),fa2 hp h32]
  ·have t:=Arq (b.take 32) 2684354560 (by simp;omega) (by simp;omega) (by decide)
   rw[Bo1,Ajt (by omega),Ajt (by omega)]at t
   rw[if_neg (by rw[Af,Ac];simp;omega),Kt (by omega) (by omega),Aa,show(32:Int).toNat=32 from rfl,t,Aa]
   cases hb:Aic b with
   |true=>rw[fa3 hp h32 hb];simp
   |false=>
    obtain⟨i1,i2,i3,i4⟩:=Bfs b (by omega) hb
    have i5:32≤Ef (part b 12 4):=by simp only[Aic,decide_eq_false_iff_not]at hb;omega
    simp only[Bool.false_eq_true,if_false,false_or]
    by_cases c1:b.take 32=Tq (Ef (part b 12 4)-32) (Ef (part b 16 4)) 2684354560
    ·have c1':b.take 32=Tq (Ef (part b 12 4)-32) (Ef (part b 16 4)) (2684354560:UInt64).toNat:=c1
     rw[if_neg (by simpa using c1'),Ag (by omega) (by omega)]
     have e1:((Ef (part b 12 4)-32:Nat):Int)+64=((Ef (part b 12 4)+32:Nat):Int):=by omega
     rw[e1]
     by_cases c2:b.length<Ef (part b 12 4)+32
     ·rw[if_pos (by rw[Af,Ac];simp;omega),fa5 hp h32 hb c1 c2]
     ·rw[if_neg (by rw[Af,Ac];simp;omega),Bc (by omega) (by omega),Ww (by omega) (by omega) (by omega),Aa,Bhl _ _ _ i3 i4 (by decide),Aa,Hc,Aa]
      rw[show(((Ef (part b 12 4)+32:Nat):Int)).toNat=Ef (part b 12 4)+32 by omega,show(((Ef (part b 12 4)+32:Nat):Int)-32).toNat=Ef (part b 12 4) by omega]
      by_cases c3:(b.take (Ef (part b 12 4)+32)).drop (Ef (part b 12 4))=Tq (Ef (part b 12 4)-32) (Ef (part b 16 4)) 2147483648
      ·have c3':(b.take (Ef (part b 12 4)+32)).drop (Ef (part b 12 4))=Tq (Ef (part b 12 4)-32) (Ef (part b 16 4)) (2147483648:UInt64).toNat:=c3
       rw[if_neg (by simpa using c3'),fa7 hp h32 hb c1 c2 c3]
      ·have c3':¬(b.take (Ef (part b 12 4)+32)).drop (Ef (part b 12 4))=Tq (Ef (part b 12 4)-32) (Ef (part b 16 4)) (2147483648:UInt64).toNat:=c3
       rw[if_pos (by simpa using c3'),fa6 hp h32 hb c1 c2 c3]
    ·have c1':¬b.take 32=Tq (Ef (part b 12 4)-32) (Ef (part b 16 4)) (2684354560:UInt64).toNat:=c1
     rw[if_pos (by simpa using c1'),fa4 hp h32 c1]
 ·rw[if_pos (by rw[Bool.not_eq_true',decide_eq_false_iff_not];exact hp),fa1 hp]
theorem Byb(b:List UInt8)(hl:b.length<4611686018427387904):Zd b=some (Rj b):=by
 rw[Zd,Aea]
 by_cases h8:8≤b.length
 ·rw[if_neg (by rw[Af,Ac];simp;omega),Kt (by omega) (by omega),Aa,show(8:Int).toNat=8 from rfl]
  by_cases ha:b.take 8=APE
  ·have hp:=And.intro h8 ha
   rw[if_neg (by simpa [APE]using ha),Aeh,Aeu]
   by_cases h32:b.length<32
   ·rw[if_pos (by rw[Af,Ac];simp;omega),fa2 hp h32]
   ·have t:=Cat (b.take 32) (by simp;omega) (by simp;omega)
    rw[Bo1,Ajt (by omega),Ajt (by omega)]at t
    rw[if_neg (by rw[Af,Ac];simp;omega),Kt (by omega) (by omega),Aa,show(32:Int).toNat=32 from rfl,t,Aa]
    cases hb:Aic b with
    |true=>rw[fa3 hp h32 hb];simp
    |false=>
     obtain⟨i1,i2,i3,i4⟩:=Bfs b (by omega) hb
     have i5:32≤Ef (part b 12 4):=by simp only[Aic,decide_eq_false_iff_not]at hb;omega
     simp only[Bool.false_eq_true,if_false,false_or,Aa,Bool.not_true]
     rw[Ana,Bvl _ _ _ i3 i4 (by decide),Aa,Aa]
     by_cases c1:b.take 32=Tq (Ef (part b 12 4)-32) (Ef (part b 16 4)) 2684354560
     ·have c1':b.take 32=Tq (Ef (part b 12 4)-32) (Ef (part b 16 4)) (2684354560:UInt64).toNat:=c1
      rw[if_neg (by simpa using c1'),Aed,Aeb,Ag (by omega) (by omega)]
      have e1:64+((Ef (part b 12 4)-32:Nat):Int)=((Ef (part b 12 4)+32:Nat):Int):=by omega
      rw[e1]
      by_cases c2:b.length<Ef (part b 12 4)+32
      ·rw[if_pos (by rw[Af,Ac];simp;omega),fa5 hp h32 hb c1 c2]
      ·rw[if_neg (by rw[Af,Ac];simp;omega),Bc (by omega) (by omega),Ww (by omega) (by omega) (by omega),Aa,Am8,if_pos rfl,Bvl _ _ _ i3 i4 (by decide),Aa,Aa]
       rw[show(((Ef (part b 12 4)+32:Nat):Int)).toNat=Ef (part b 12 4)+32 by omega,show(((Ef (part b 12 4)+32:Nat):Int)-32).toNat=Ef (part b 12 4) by omega]
       by_cases c3:(b.take (Ef (part b 12 4)+32)).drop (Ef (part b 12 4))=Tq (Ef (part b 12 4)-32) (Ef (part b 16 4)) 2147483648
       ·have c3':(b.take (Ef (part b 12 4)+32)).drop (Ef (part b 12 4))=Tq (Ef (part b 12 4)-32) (Ef (part b 16 4)) (2147483648:UInt64).toNat:=c3
        rw[if_neg (by simpa using c3'),fa7 hp h32 hb c1 c2 c3]
       ·have c3':¬(b.take (Ef (part b 12 4)+32)).drop (Ef (part b 12 4))=Tq (Ef (part b 12 4)-32) (Ef (part b 16 4)) (2147483648:UInt64).toNat:=c3
        rw[if_pos (by simpa using c3'),fa6 hp h32 hb c1 c2 c3]
     ·have c1':¬b.take 32=Tq (Ef (part b 12 4)-32) (Ef (part b 16 4)) (2684354560:UInt64).toNat:=c1
      rw[if_pos (by simpa using c1'),fa4 hp h32 c1]
  ·rw[if_pos (by simpa [APE]using ha),fa1 (fun h=>ha h.2)]
 ·rw[if_pos (by rw[Af,Ac];simp;omega),fa1 (fun h=>h8 h.1)]
theorem Bxe{b:List UInt8}{n:Int}(h:Rj b=(n,0)):64≤n∧n≤b.length:=by
 unfold Rj at h
 split at h; · simp at h
 split at h; · simp at h
 split at h; · simp at h
 rename_i hb
 split at h; · simp at h
 split at h; · simp at h
 simp only[Prod.mk.injEq,and_true]at h
 have hb':¬Aic b=true:=fun e=>hb (.inl e)
 simp only[Aic,decide_eq_true_eq]at hb'
 omega
end Go.Pl
set_option linter.unusedVariables false
set_option linter.unusedSimpArgs false
namespace Go.Pl
open Go Go.Lv
def Ep(b:List UInt8):Int×Int:=if(Am7 b).2≠6 then Am7 b else Rj b
theorem size_eq(b:List UInt8)(hl:b.length<4611686018427387904):Vi b=some (Ep b):=by
 rw[Vi,Bwx b hl,Aa,Bth b hl]
 by_cases h:(Am7 b).2=6
 ·simp[Ep,h,Aj]
 ·simp[Ep,h,Aj]
theorem Bjc{b:List UInt8}{n:Int}(h:Ep b=(n,0)):10≤n∧n≤b.length:=by
 unfold Ep at h
 split at h
 ·have:=By5 h;omega
 ·have:=Bxe h;omega
def Df(b:List UInt8):Nat→Nat→List Int×Int
 |0,_=>([],6)
 |j+1,p=>if(Ep (b.drop p)).2=6 then([],0)else if(Ep (b.drop p)).2≠0 then([],(Ep (b.drop p)).2)else
  if 4000<(p:Int)+(Ep (b.drop p)).1 then([],4)else
  if(Df b j (p+(Ep (b.drop p)).1.toNat)).2=0 then((Ep (b.drop p)).1::(Df b j (p+(Ep (b.drop p)).1.toNat)).1,0)else([],(Df b j (p+(Ep (b.drop p)).1.toNat)).2)
theorem Bc6(b:List UInt8):∀(j p:Nat),p≤b.length→p≤4000→(Df b j p).2=0→(∀x∈(Df b j p).1,10≤x)∧(p:Int)+(Df b j p).1.sum≤b.length∧(p:Int)+(Df b j p).1.sum≤4000
 |0,p,_,_,h=>by simp[Df]at h
 |j+1,p,hp,hq,h=>by
  rw[Df]at h⊢
  split at h
  ·rename_i h6;rw[if_pos h6];simp;omega
  ·rename_i h6
   split at h
   ·rename_i h0;exact absurd h h0
   ·rename_i h0
    rw[if_neg h6,if_neg h0]
    have hz:Ep (b.drop p)=((Ep (b.drop p)).1,0):=by rw[Prod.ext_iff];exact⟨rfl,Classical.not_not.1 h0⟩
    have hs:=Bjc hz
    rw[List.length_drop]at hs
    split at h
    ·simp at h
    ·rename_i h4
     rw[if_neg h4]
     split at h
     ·rename_i h00
      rw[if_pos h00]
      obtain⟨i1,i2,i3⟩:=Bc6 b j _ (by omega) (by omega) h00
      refine⟨fun x hx=>?_,?_,?_⟩
      ·rcases List.mem_cons.1 hx with rfl|hx
       ·exact hs.1
       ·exact i1 x hx
      ·simp only[List.sum_cons];omega
      ·simp only[List.sum_cons];omega
     ·rename_i h00;exact absurd h h00
def Btt(b:List UInt8)(j p:Nat):Int×Int:=if(Df b j p).2=0 then((p:Int)+(Df b j p).1.sum,0)else(0,(Df b j p).2)
theorem Bir(b:List UInt8)(hl:b.length<4611686018427387904):∀(j p q:Nat),p≤b.length→p≤4000→b.length-p<j→j≤q→Ti b q (p:Int)=some (Btt b j p)
 |0,p,q,_,_,h,_=>by omega
 |j+1,p,q,hp,hp4,hj,hq=>by
  obtain⟨q,rfl⟩:∃k,q=k+1:=⟨q-1,by omega⟩
  rw[Ti,Qe (by omega) (by omega),Aa,Int.toNat_natCast,size_eq _ (by simp;omega),Aa,Bb,Bb,Aj,Btt]
  by_cases h6:(Ep (b.drop p)).2=6
  ·rw[if_pos (by simpa using h6)]
   have:Df b (j+1) p=([],0):=by rw[Df,if_pos h6]
   rw[this];simp
  ·rw[if_neg (by simpa using h6)]
   by_cases h0:(Ep (b.drop p)).2=0
   ·have hz:Ep (b.drop p)=((Ep (b.drop p)).1,0):=by rw[Prod.ext_iff];exact⟨rfl,h0⟩
    have hs:=Bjc hz
    rw[List.length_drop]at hs
    rw[Ag (by omega) (by omega),Am]
    by_cases h4:4000<(p:Int)+(Ep (b.drop p)).1
    ·rw[if_pos (by simp[h0];omega)]
     have:Df b (j+1) p=([],4):=by rw[Df,if_neg h6,if_neg (fun h=>h h0),if_pos h4]
     rw[this];simp
    ·rw[if_neg (by simp[h0];omega),if_neg (by simpa using h0)]
     have ih:=Bir b hl j (p+(Ep (b.drop p)).1.toNat) q (by omega) (by omega) (by omega) (by omega)
     rw[show(p:Int)+(Ep (b.drop p)).1=((p+(Ep (b.drop p)).1.toNat:Nat):Int) by omega,ih,Btt]
     have:Df b (j+1) p=if(Df b j (p+(Ep (b.drop p)).1.toNat)).2=0 then((Ep (b.drop p)).1::(Df b j (p+(Ep (b.drop p)).1.toNat)).1,0)else([],(Df b j (p+(Ep (b.drop p)).1.toNat)).2):=by
      rw[Df,if_neg h6,if_neg (fun h=>h h0),if_neg h4]
     rw[this]
     by_cases hr:(Df b j (p+(Ep (b.drop p)).1.toNat)).2=0
     ·simp only[hr,if_true,List.sum_cons];congr 2;omega
     ·simp only[hr,if_false]
   ·rw[if_neg (by simp[h0]),if_pos (by simpa using h0)]
    have:Df b (j+1) p=([],(Ep (b.drop p)).2):=by rw[Df,if_neg h6,if_pos h0]
    rw[this];simp[h0]
def Cb9(b:List UInt8)(j p:Nat)(xs:List Int):List Int×Int:=if(Df b j p).2=0 then(xs++(Df b j p).1,0)else([],(Df b j p).2)
theorem Caq(bk:Int→List Int→Option (List Int×Int))(b:List UInt8)(p:Nat)(hp:p≤b.length)(xs:List Int)(hx:xs.length≤4000)(hl:b.length<4611686018427387904):Ub (Nc bk b) b (p:Int) xs=Nc bk b (p:Int) xs (Ep (b.drop p)).1 (Ep (b.drop p)).2:=by
 have hf:=Byb (b.drop p) (by simp;omega)
 rw[Ub,Qe (by omega) (by omega),Aa,Int.toNat_natCast,Ccd _ (by simp;omega),Aa]
 by_cases h:(Am7 (b.drop p)).2=6
 ·simp[Ep,h,Bb,hf]
 ·simp[Ep,h,Bb]
theorem Bkv(b:List UInt8)(hl:b.length<4611686018427387904):∀(j p q:Nat) (xs:List Int),p≤b.length→p≤4000→b.length-p<j→j≤q→xs.length≤p→Nf b q (p:Int) xs=some (Cb9 b j p xs)
 |0,p,q,_,_,_,h,_,_=>by omega
 |j+1,p,q,xs,hp,hp4,hj,hq,hx=>by
  obtain⟨q,rfl⟩:∃k,q=k+1:=⟨q-1,by omega⟩
  rw[Nf,Caq _ b p hp xs (by omega) hl,Nc,Ad9,Bb,Aj,Cb9]
  by_cases h6:(Ep (b.drop p)).2=6
  ·rw[if_pos (by simpa using h6)]
   have:Df b (j+1) p=([],0):=by rw[Df,if_pos h6]
   rw[this];simp
  ·rw[if_neg (by simpa using h6)]
   by_cases h0:(Ep (b.drop p)).2=0
   ·have hz:Ep (b.drop p)=((Ep (b.drop p)).1,0):=by rw[Prod.ext_iff];exact⟨rfl,h0⟩
    have hs:=Bjc hz
    rw[List.length_drop]at hs
    rw[if_neg (by simpa using h0),Ag (by omega) (by omega),Am]
    by_cases h4:4000<(p:Int)+(Ep (b.drop p)).1
    ·rw[if_pos (by simp;omega)]
     have:Df b (j+1) p=([],4):=by rw[Df,if_neg h6,if_neg (fun h=>h h0),if_pos h4]
     rw[this];simp
    ·rw[if_neg (by simp;omega),Bt (by simp;omega),Aa]
     have ih:=Bkv b hl j (p+(Ep (b.drop p)).1.toNat) q (xs++[(Ep (b.drop p)).1]) (by omega) (by omega) (by omega) (by omega) (by simp;omega)
     rw[show(p:Int)+(Ep (b.drop p)).1=((p+(Ep (b.drop p)).1.toNat:Nat):Int) by omega,ih,Cb9]
     have:Df b (j+1) p=if(Df b j (p+(Ep (b.drop p)).1.toNat)).2=0 then((Ep (b.drop p)).1::(Df b j (p+(Ep (b.drop p)).1.toNat)).1,0)else([],(Df b j (p+(Ep (b.drop p)).1.toNat)).2):=by
      rw[Df,if_neg h6,if_neg (fun h=>h h0),if_neg h4]
     rw[this]
     by_cases hr:(Df b j (p+(Ep (b.drop p)).1.toNat)).2=0
     ·simp only[hr,if_true];simp
     ·simp only[hr,if_false]
   ·rw[if_pos (by simpa using h0)]
    have:Df b (j+1) p=([],(Ep (b.drop p)).2):=by rw[Df,if_neg h6,if_pos h0]
    rw[this];simp[h0]
theorem Bfg:∀{l:List Int},(∀x∈l,10≤x)→0≤l.sum∧(l.length:Int)≤l.sum
 |[],_=>by simp
 |x::l,h=>by
  have h1:=h x List.mem_cons_self
  have h2:=Bfg (l:=l) fun y hy=>h y (List.mem_cons_of_mem _ hy)
  simp only[List.sum_cons,List.length_cons];omega
theorem Bjb(r:Int)(l:List Int)(hl:l.length≤4000)(hx:∀x∈l,10≤x):∀(j i q:Nat) (n:Int),i+j=l.length→j<q→0≤n→n+(l.drop i).sum≤4000→It r l q n (i:Int)=some (n+(l.drop i).sum,r)
 |0,i,q+1,n,hi,_,_,_=>by
  rw[It,Tx,if_neg (by rw[Af,Ac];simp;omega),show i=l.length by omega,List.drop_length]
  simp[Aep,Aen]
 |j+1,i,q+1,n,hi,hq,hn,hs=>by
  have hlt:i<l.length:=by omega
  rw[drop_cons hlt,List.sum_cons]at hs⊢
  have h1:=hx l[i] (List.getElem_mem hlt)
  have h2:=Bfg (l:=l.drop (i+1)) fun y hy=>hx y (List.mem_of_mem_drop hy)
  rw[It,Tx,if_pos (by rw[Af,Ac];simp;omega),Bu hlt,Aa,Aa,Ag (by omega) (by omega),Ag (by omega) (by omega)]
  have ih:=Bjb r l hl hx j (i+1) q (n+l[i]) (by omega) (by omega) (by omega) (by omega)
  rw[show((i:Int)+1)=((i+1:Nat):Int) by omega,ih]
  congr 2;omega
def frontS(b:List UInt8):Int×Int:=Btt b (b.length+1) 0
theorem Avm(b:List UInt8)(hl:b.length<4611686018427387904):Vg b=some (frontS b):=by
 have:=Bir b hl (b.length+1) 0 Al (by omega) (by omega) (by omega) (by have:=Ak;omega)
 exact this
theorem Bma(b:List UInt8)(hl:b.length<4611686018427387904):Zl b=some (frontS b):=by
 have h:=Bkv b hl (b.length+1) 0 Al [] (by omega) (by omega) (by omega) (by have:=Ak;omega) (by simp)
 have h':Ak3 b=some (Cb9 b (b.length+1) 0 []):=h
 rw[Zl,Aec,h',Aa,frontS,Btt,Cb9]
 have ho:=Bc6 b (b.length+1) 0 (by omega) (by omega)
 by_cases h0:(Df b (b.length+1) 0).2=0
 ·obtain⟨i1,i2,i3⟩:=ho h0
  have hp:=Bfg i1
  simp only[h0,if_true,List.nil_append]
  have:=Bjb 0 (Df b (b.length+1) 0).1 (by omega) i1 (Df b (b.length+1) 0).1.length 0 Al 0 (by omega) (by have:=Ak;omega) (by omega) (by simpa using i3)
  simpa [Ty]using this
 ·simp only[h0,if_false]
  have:=Bjb (Df b (b.length+1) 0).2 [] (by simp) (by simp) 0 0 Al 0 (by simp) (by have:=Ak;omega) (by omega) (by simp)
  simpa [Ty]using this
theorem Bx6{b:List UInt8}(h:(frontS b).2=0):0≤(frontS b).1∧(frontS b).1≤b.length∧(frontS b).1≤4000:=by
 unfold frontS Btt at h⊢
 split at h
 ·rename_i h0
  rw[if_pos h0]
  obtain⟨i1,i2,i3⟩:=Bc6 b (b.length+1) 0 (by omega) (by omega) h0
  have hp:=Bfg i1
  exact⟨by simp;omega,i2,i3⟩
 ·rename_i h0;exact absurd h h0
end Go.Pl
set_option linter.unusedVariables false
set_option linter.unusedSimpArgs false
namespace Go.Pl
open Go Go.Lv
def longN(r:Nat):Nat:=max 1 (256*r/245)
theorem Ie(r:Nat):1≤longN r:=Nat.le_max_left _ _
theorem Bil{r:Nat}(h:r≤1048576):longN r≤1100000:=by unfold longN;omega
theorem Bi8{r:Nat}(h:r≤1048576):At3 (1:Int) (Bg (Ar (256:Int) (r:Int)) (245:Int))=(longN r:Int):=by
 rw[Fq (by omega) (by omega),Aid,Int.tdiv_eq_ediv_of_nonneg (by omega),Cc (by omega) (by omega),Bgx,longN];omega
def framesL(g n:Nat):List Int:=List.replicate ((n-1)/g) (g:Int)++[((n-(n-1)/g*g:Nat):Int)]
theorem Agy(g n:Nat):(framesL g n).length=(n-1)/g+1:=by simp[framesL]
theorem Ayc{g n:Nat}(h:n≤g)(h1:1≤n):framesL g n=[(n:Int)]:=by
 rw[framesL,Nat.div_eq_of_lt (by omega)];simp
theorem Bdw{g n:Nat}(hg:1≤g)(h:g<n):framesL g n=(g:Int)::framesL g (n-g):=by
 have e:(n-1)/g=(n-g-1)/g+1:=by rw[←Nat.add_div_right _ (by omega)];congr 1;omega
 rw[framesL,framesL,e,List.replicate_succ,List.cons_append]
 congr 4
 have:=Nat.div_mul_le_self (n-g-1) g
 rw[Nat.add_mul,Nat.one_mul];omega
theorem Ba6{g n:Nat}(hg:1≤g)(h1:1≤n):(n+g-1)/g=(n-1)/g+1:=by
 rw[←Nat.add_div_right _ (by omega)];congr 1;omega
theorem Bkq{r:Nat}(h1:1≤r)(h:r≤1048576):Rv (r:Int)=some ((longN r:Int),0):=by
 rw[Rv,if_neg (by simp[Af,Am];omega),Bi8 h]
theorem By4{r:Nat}(h:r≤1048576):Nz (r:Int)=some (longN r:Int):=by rw[Nz,Bi8 h]
theorem Ar4{r n:Nat}(h1:1≤r)(h:r≤1048576)(n1:1≤n)(n2:n≤4000):Ho (r:Int) (n:Int)=some (if 1000<(n-1)/longN r+1 then(0,4)else((((n-1)/longN r+1:Nat):Int),0)):=by
 have hp:=Ie r
 have hl:=Bil h
 have e:Bg (Ah (Ad (n:Int) (longN r:Int)) (1:Int)) (longN r:Int)=(((n-1)/longN r+1:Nat):Int):=by
  have:(n+longN r-1)/longN r≤n+longN r-1:=Nat.div_le_self _ _
  rw[Ag (by omega) (by omega),Bc (by omega) (by omega),Aid,Int.tdiv_eq_ediv_of_nonneg (by omega),show(n:Int)+(longN r:Int)-1=((n+longN r-1:Nat):Int) by omega,←Int.natCast_ediv,Ba6 hp n1]
  rw[Ba6 hp n1]at this
  generalize(n-1)/longN r=k at*
  exact Cc (by omega) (by omega)
 rw[Ho,Bkq h1 h,Aa]
 simp only
 rw[if_neg (by rw[Aj];simp),if_neg (by simp[Af,Am];omega),Ay (by rw[Aj];simp;omega),Aa,e]
 by_cases hk:1000<(n-1)/longN r+1
 ·rw[if_pos (by rw[Am];simp;omega),if_pos hk]
 ·rw[if_neg (by rw[Am];simp;omega),if_neg hk]
theorem Bfx{r:Nat}(h:r≤1048576):∀(j n q:Nat) (acc:List Int),n≤4000→n≤j→j<q→acc.length+n≤10000→Dn (r:Int) q (n:Int) acc=some (acc++(if n=0 then []else framesL (longN r) n))
 |0,n,q+1,acc,hn,hj,hq,ha=>by
  obtain rfl:n=0:=by omega
  rw[Dn,Gm,if_neg (by rw[Am];simp)]
  simp[Im,Na]
 |j+1,n,q+1,acc,hn,hj,hq,ha=>by
  have hp:=Ie r
  have hl:=Bil h
  by_cases h0:n=0
  ·subst h0
   rw[Dn,Gm,if_neg (by rw[Am];simp)]
   simp[Im,Na]
  ·rw[Dn,Gm,if_pos (by rw[Am];simp;omega),By4 h,Aa,Bt (by simp;omega),Aa,Aa,Bc (by omega) (by omega),Afb]
   by_cases hs:n≤longN r
   ·rw[show min (n:Int) (longN r:Int)=(n:Int) by omega,if_neg h0,Ayc hs (by omega)]
    have hz:∃k,q=k+1:=⟨q-1,by omega⟩
    obtain⟨q,rfl⟩:=hz
    rw[Dn,Gm,if_neg (by rw[Am];simp;omega)]
    simp[Im,Na]
   ·rw[show min (n:Int) (longN r:Int)=(longN r:Int) by omega,show(n:Int)-(longN r:Int)=((n-longN r:Nat):Int) by omega,Bfx h j (n-longN r) q _ (by omega) (by omega) (by omega) (by simp;omega),if_neg (by omega),if_neg h0,Bdw hp (show longN r<n by omega)]
    simp
theorem Avt{r n:Nat}(h:r≤1048576)(n1:1≤n)(n2:n≤4000):Gw (r:Int) (n:Int)=some (framesL (longN r) n):=by
 have:=Bfx h n n Al [] n2 (Nat.le_refl _) (by have:=Ak;omega) (by simp;omega)
 rw[Gw,Ua,To,this,if_neg (by omega)];rfl
theorem mul_one(m:Nat)(h:m≤100000):Af1 (1:UInt64) (UInt64.ofNat m)=some (0,UInt64.ofNat m):=by
 have y1:(UInt64.ofNat m).toNat=m:=An2 (by omega)
 have s1:Bo (1:UInt64) (GI.toZ (32:UInt64)).toNat=0:=by decide
 have s2:Bo (UInt64.ofNat m) (GI.toZ (32:UInt64)).toNat=0:=by
  apply UInt64.toNat_inj.1
  rw[Abj,y1]
  exact Nat.div_eq_of_lt (Nat.lt_of_le_of_lt h (by decide))
 have s0:Bo (0:UInt64) (GI.toZ (32:UInt64)).toNat=0:=by decide
 have a1:Dq (1:UInt64) (4294967295:UInt64)=1:=by decide
 have a0:Dq (0:UInt64) (4294967295:UInt64)=0:=by decide
 have a2:Dq (UInt64.ofNat m) (4294967295:UInt64)=UInt64.ofNat m:=by
  apply UInt64.toNat_inj.1
  rw[Biq,UInt64.toNat_and,y1]
  show m&&& (2^32-1)=m
  rw[Nat.and_two_pow_sub_one_eq_mod,Nat.mod_eq_of_lt (by omega)]
 have m1:∀x:UInt64,Ar 1 x=x:=fun x=>by rw[Ahk,UInt64.one_mul]
 have m0:∀x:UInt64,Ar 0 x=0:=fun x=>by rw[Ahk,UInt64.zero_mul]
 have p0:∀x:UInt64,Ad 0 x=x:=fun x=>by rw[Ag2,UInt64.zero_add]
 have p1:∀x:UInt64,Ad x 0=x:=fun x=>by rw[Ag2,UInt64.add_zero]
 rw[Af1,Ahz]
 simp only[s1,s2,a1,a2,m1,m0,p0,p1,s0,a0,Aa]
theorem Bd7(v:Int)(m:Nat)(hm:m≤100000):∀(j n q:Nat),1≤n→n≤m→m-n≤j→j<q→Ej q (n:Int) (List.replicate n v++List.replicate (m-n) 0)=some (List.replicate m v)
 |j,n,q+1,hn,hnm,hj,hq=>by
  have hlen:Ac (List.replicate n v++List.replicate (m-n) 0)=(m:Int):=by simp[Ac];omega
  rw[Ej,Gp,hlen]
  by_cases h:n<m
  ·obtain⟨j,rfl⟩:∃k,j=k+1:=⟨j-1,by omega⟩
   rw[if_pos (by rw[Af];simp;omega)]
   have v1:vwI (m:Int) (n:Int) (m:Int)=some ():=by rw[vwI,Ay];simp;omega
   have v2:vwI (m:Int) (0:Int) (n:Int)=some ():=by rw[vwI,Ay];simp;omega
   have e1:Amq (List.replicate n v++List.replicate (m-n) 0) (0:Int) ((n:Int)-0)=List.replicate n v:=by
    simp[Amq]
   rw[v1,Aa,v2,Aa,e1]
   have e2:Aks ((m:Int)-(n:Int)) (List.replicate n v).length=((min n (m-n):Nat):Int):=by
    rw[Aks,List.length_replicate];split<;>omega
   have e3:Tw (List.replicate n v++List.replicate (m-n) 0) (n:Int) ((m:Int)-(n:Int)) (List.replicate n v)=List.replicate (n+min n (m-n)) v++List.replicate (m-(n+min n (m-n))) 0:=by
    have t1:((m:Int)-(n:Int)).toNat=m-n:=by omega
    have t2:(List.replicate n v++List.replicate (m-n) (0:Int)).take n=List.replicate n v:=by simp
    rw[Tw,t1,Int.toNat_natCast,t2,List.take_replicate,List.length_replicate,←List.append_assoc,List.replicate_append_replicate,List.drop_append,List.length_replicate,Nat.min_comm (m-n) n]
    simp only[List.drop_replicate]
    rw[show n-(n+min n (m-n))=0 by omega,List.replicate_zero,List.nil_append,show m-n-(n+min n (m-n)-n)=m-(n+min n (m-n)) by omega]
   rw[e2,e3,Ag (by omega) (by omega),show(n:Int)+((min n (m-n):Nat):Int)=((n+min n (m-n):Nat):Int) by omega]
   exact Bd7 v m hm j (n+min n (m-n)) q (by omega) (by omega) (by omega) (by omega)
  ·rw[if_neg (by rw[Af];simp;omega)]
   obtain rfl:n=m:=by omega
   simp[Ij,Nv]
theorem Bxv(v:Int)(m:Nat)(hm:m≤100000):Nb [v] (m:Int)=some (List.replicate m v):=by
 have y1:(UInt64.ofNat m).toNat=m:=An2 (by omega)
 have c1:(Ae (Ac [v]):UInt64)=1:=by rfl
 have c2:(Ae (m:Int):UInt64)=UInt64.ofNat m:=Td m
 have c3:(Ae (UInt64.ofNat m):Int)=(m:Int):=by rw[Bc7 (by omega),y1]
 rw[Nb,Ph,if_neg (by rw[Af];simp),Oo,Om,c1,c2,mul_one m hm,Aa]
 simp only
 rw[if_neg (by rw[Am4,Am4,y1];simp;show m≤9223372036854775807;omega),Pc,Pg,c3,Ayj (by omega) (by omega),Aa,Ay (by rw[Bb];simp),Aa,Ox,Int.toNat_natCast]
 by_cases h0:m=0
 ·subst h0
  have hF:Al=(Al-1)+1:=by have:=Ak;omega
  rw[hF,Ej,Gp]
  simp[Ac,Bhp,Aks,Af,Ij,Nv]
 ·have:=Bd7 v m hm m 1 Al (by omega) (by omega) (by omega) (by have:=Ak;omega)
  have e1:Aks (Ac (List.replicate m (0:Int))) [v].length=((1:Nat):Int):=by simp[Aks,Ac];omega
  have e2:Bhp (List.replicate m (0:Int)) [v]=List.replicate 1 v++List.replicate (m-1) 0:=by
   obtain⟨k,rfl⟩:∃k,m=k+1:=⟨m-1,by omega⟩
   simp[Bhp]
  rw[e1,e2,this]
theorem Bw1(l m:List Int)(h:l.length+m.length≤1000000):Ng [l,m]=some (l++m):=by
 have hF:Al=(Al-3)+1+1+1:=by have:=Ak;omega
 rw[Ng,Ot,Pb]
 have g0:getI [l,m] (0:Int)=some l:=rfl
 have g1:getI [l,m] (1:Int)=some m:=rfl
 have l2:Ac [l,m]=2:=rfl
 have h3:Ik [l,m] []=some (l++m):=by
  rw[Ik,Nm,Np,hF,Dy,Fz,l2,if_pos (by decide),g0,Aa,Bt (by simp;omega),Aa,List.nil_append,show Ad (0:Int) 1=1 by decide,
   Dy,Fz,l2,if_pos (by decide),g1,Aa,Bt (by omega),Aa,show Ad (1:Int) 1=2 by decide,Dy,Fz,l2,if_neg (by decide)]
  rfl
 rw[hF,Ek,Gn,l2,if_pos (by decide),g0,Aa,Ag (by unfold Ac;omega) (by unfold Ac;omega),if_neg (by rw[Af,Ac];simp),show Ad (0:Int) 1=1 by decide,
  Ek,Gn,l2,if_pos (by decide),g1,Aa,Ag (by unfold Ac;omega) (by unfold Ac;omega),if_neg (by rw[Af,Ac,Ac];simp;omega),show Ad (1:Int) 1=2 by decide,
  Ek,Gn,l2,if_neg (by decide),Nu,Nq,if_neg (by rw[Af,Ac,Ac];simp;omega),Nr,Nn]
 have z:Ah (0:Int) 0=0:=by decide
 have n0:(0:Int)+Ac l+Ac m=((l.length+m.length:Nat):Int):=by simp[Ac]
 rw[z,n0,Bc (by omega) (by omega),Int.sub_zero]
 by_cases hp:0<l.length+m.length
 ·rw[if_pos (by rw[Am];simp;omega),show vwI (0:Int) 0 0=some ()from rfl,Aa,Ayj (by omega) (by omega),Aa,Bt (by simp;omega),Aa]
  rw[show vwI (Ac ([]++List.replicate ((l.length+m.length:Nat):Int).toNat (0:Int))) 0 0=some () by rw[vwI,Ay];simp[Ac];omega,Aa]
  simp only[Amq,Int.sub_self,Int.toNat_zero,List.take_zero]
  exact h3
 ·rw[if_neg (by rw[Am];simp;omega)];exact h3
theorem Bo2{r n:Nat}(h1:1≤r)(h:r≤1048576)(n1:1≤n)(n2:n≤4000)(hk:(n-1)/longN r+1≤1000):Vf (r:Int) (n:Int)=some (framesL (longN r) n,0):=by
 have hp:=Ie r
 have hl:=Bil h
 have hd:=Nat.div_mul_le_self (n-1) (longN r)
 rw[Vf,Ar4 h1 h n1 n2,if_neg (by omega),Aa]
 simp only
 rw[if_neg (by rw[Aj];simp),Bkq h1 h,Aa]
 simp only
 rw[framesL]
 generalize(n-1)/longN r=k at*
 have e1:Ah ((k+1:Nat):Int) 1=(k:Int):=by rw[Bc (by omega) (by omega)];omega
 have e2:(k:Int)*(longN r:Int)=((k*longN r:Nat):Int):=by simp
 rw[e1,Bxv _ _ (by omega),Aa,Fq (by rw[e2];omega) (by rw[e2];omega),e2,Bc (by omega) (by omega),Alv,Bw1 _ _ (by simp;omega),Aa,Aa,show(n:Int)-((k*longN r:Nat):Int)=((n-k*longN r:Nat):Int) by omega]
end Go.Pl
set_option linter.unusedVariables false
set_option linter.unusedSimpArgs false
namespace Go.Pl
open Go Go.Lv
def shapeB(f c w r n:Nat):Bool:=decide ((f=1∨f=2)∧(1≤c∧c≤6)∧(w=8∨w=16∨w=24)∧(1≤r∧r≤1048576)∧1≤n)
def fitB(c r n:Nat):Bool:=decide (n≤4000/c∧(n-1)/longN r+1≤1000)
theorem Avw(f c w r n:Nat):Yl (f:Int) (c:Int) (w:Int) (r:Int) (n:Int)=some (shapeB f c w r n):=by
 have e2:Wf (f:Int) (c:Int) (w:Int) (r:Int) (n:Int)=some (decide ((f=1∨f=2)∧(1≤c∧c≤6)∧(1≤r∧r≤1048576)∧1≤n)):=by
  rw[Wf,Ap8]
  congr 1
  rw[Bool.eq_iff_iff]
  simp only[Bb,Am,Blf,Bool.and_eq_true,Bool.or_eq_true,beq_iff_eq,decide_eq_true_eq]
  omega
 have g:∀k:Nat,geq (w:Int) (k:Int)=decide (w=k):=fun k=>by rw[Bb,Bool.eq_iff_iff];simp;omega
 have g8:geq (w:Int) (8:Int)=decide (w=8):=g 8
 have g16:geq (w:Int) (16:Int)=decide (w=16):=g 16
 have g24:geq (w:Int) (24:Int)=decide (w=24):=g 24
 rw[Yl,Ae9,e2,g8,g16,g24,shapeB]
 by_cases h8:w=8
 ·subst h8;simp
 ·by_cases h16:w=16
  ·subst h16;simp
  ·by_cases h24:w=24
   ·subst h24;simp
   ·simp[h8,h16,h24]
theorem Btv(f c w r n:Nat):Xm (f:Int) (c:Int) (w:Int) (r:Int) (n:Int)=some (shapeB f c w r n):=by
 rw[Xm,shapeB]
 simp only[Bb,Cl,Blf,Bool.and_eq_true,Bool.or_eq_true,beq_iff_eq,decide_eq_true_eq,Bool.false_and]
 split
 ·rename_i h
  congr 1
  rw[Bool.eq_iff_iff]
  simp only[Bool.and_eq_true,Bool.or_eq_true,beq_iff_eq,decide_eq_true_eq]
  omega
 ·rename_i h
  congr 1
  symm
  rw[decide_eq_false_iff_not]
  omega
theorem Cgf{c:Nat}(h:1≤c):Bg (4000:Int) (c:Int)=((4000/c:Nat):Int):=by
 have:4000/c≤4000:=Nat.div_le_self _ _
 rw[Aid,Int.tdiv_eq_ediv_of_nonneg (by omega),show(4000:Int)=((4000:Nat):Int)from rfl,←Int.natCast_ediv]
 generalize 4000/c=k at*
 exact Cc (by omega) (by omega)
theorem Bca{f c w r n:Nat}(h:shapeB f c w r n=true):Ag1 (f:Int) (c:Int) (w:Int) (r:Int) (n:Int)=some (fitB c r n):=by
 simp only[shapeB,decide_eq_true_eq]at h
 have hd:4000/c≤4000:=Nat.div_le_self _ _
 rw[Ag1,Ay (by rw[Aj];simp;omega),Aa,Cgf (by omega),fitB]
 generalize 4000/c=m at*
 by_cases h1:n≤m
 ·rw[if_neg (by rw[Am];simp;omega),Ar4 (by omega) (by omega) (by omega) (by omega),Aa]
  generalize(n-1)/longN r+1=k
  by_cases h2:1000<k
  ·rw[if_pos h2]
   simp[Bb,Blf]
   omega
  ·rw[if_neg h2]
   simp[Bb,Blf,h1]
   omega
 ·rw[if_pos (by rw[Am];simp;omega)]
  simp[h1]
theorem Cbw{f c w r n:Nat}(h:shapeB f c w r n=true):Abm (f:Int) (c:Int) (w:Int) (r:Int) (n:Int)=some (!fitB c r n):=by
 simp only[shapeB,decide_eq_true_eq]at h
 have hd:4000/c≤4000:=Nat.div_le_self _ _
 rw[Abm,Ay (by rw[Aj];simp;omega),Aa,Cgf (by omega),fitB]
 generalize 4000/c=m at*
 by_cases h1:n≤m
 ·rw[if_neg (by rw[Am];simp;omega),Avt (by omega) (by omega) (by omega),Aa,Ac,Agy]
  generalize(n-1)/longN r+1=k
  congr 1
  rw[Am,Bool.eq_iff_iff]
  simp only[decide_eq_true_eq,Bool.not_eq_true',decide_eq_false_iff_not]
  omega
 ·rw[if_pos (by rw[Am];simp;omega)]
  simp[h1]
def Oj:List UInt8:=[84,84,65,49]
def f0(b:List UInt8):Nat:=Ef (part b 4 2)
def f1(b:List UInt8):Nat:=Ef (part b 6 2)
def f2(b:List UInt8):Nat:=Ef (part b 8 2)
def f3(b:List UInt8):Nat:=Ef (part b 10 4)
def f4(b:List UInt8):Nat:=Ef (part b 14 4)
abbrev H6:=Int×Int×Int×Int×Int×Int
def readS(b:List UInt8):H6:=
 if b.take (min 4 b.length)≠Oj.take (min 4 b.length)then(0,0,0,0,0,12)else if b.length<22 then(0,0,0,0,0,24)else
 if(Cp (b.take 18)).toNat≠Ef (part b 18 4)then(0,0,0,0,0,22)else
 if shapeB (f0 b) (f1 b) (f2 b) (f3 b) (f4 b)=false then(0,0,0,0,0,12)else
 if fitB (f1 b) (f3 b) (f4 b)=false then(0,0,0,0,0,4)else((f0 b:Int),(f1 b:Int),(f2 b:Int),(f3 b:Int),(f4 b:Int),0)
section
variable {b:List UInt8}
theorem rs1(h:b.take (min 4 b.length)≠Oj.take (min 4 b.length)):readS b=(0,0,0,0,0,12):=by rw[readS,if_pos h]
variable (h:b.take (min 4 b.length)=Oj.take (min 4 b.length))
include h
theorem rs2(h2:b.length<22):readS b=(0,0,0,0,0,24):=by rw[readS,if_neg (fun e=>e h),if_pos h2]
variable (h2:¬b.length<22)
include h2
theorem rs3(h3:(Cp (b.take 18)).toNat≠Ef (part b 18 4)):readS b=(0,0,0,0,0,22):=by rw[readS,if_neg (fun e=>e h),if_neg h2,if_pos h3]
variable (h3:(Cp (b.take 18)).toNat=Ef (part b 18 4))
include h3
theorem rs4(h4:shapeB (f0 b) (f1 b) (f2 b) (f3 b) (f4 b)=false):readS b=(0,0,0,0,0,12):=by rw[readS,if_neg (fun e=>e h),if_neg h2,if_neg (fun e=>e h3),if_pos h4]
variable (h4:shapeB (f0 b) (f1 b) (f2 b) (f3 b) (f4 b)=true)
include h4
theorem rs5(h5:fitB (f1 b) (f3 b) (f4 b)=false):readS b=(0,0,0,0,0,4):=by rw[readS,if_neg (fun e=>e h),if_neg h2,if_neg (fun e=>e h3),if_neg (by rw[h4];simp),if_pos h5]
theorem rs6(h5:fitB (f1 b) (f3 b) (f4 b)=true):readS b=((f0 b:Int),(f1 b:Int),(f2 b:Int),(f3 b:Int),(f4 b:Int),0):=by rw[readS,if_neg (fun e=>e h),if_neg h2,if_neg (fun e=>e h3),if_neg (by rw[h4];simp),if_neg (by rw[h5];simp)]
end
theorem Ccr(b:List UInt8)(h2:¬b.length<22):Be (Ae (Cp (b.take 18)):UInt64) (leU (part b 18 4))=decide ((Cp (b.take 18)).toNat≠Ef (part b 18 4)):=by
 rw[Ajj,Cr,Bool.eq_iff_iff]
 simp only[bne_iff_ne,ne_eq,decide_eq_true_eq]
 rw[←UInt64.toNat_inj,An2 (by have:=(Cp (b.take 18)).toNat_lt;omega),Anr (by rw[Dm (by omega)];omega)]
theorem Aui(b:List UInt8)(a w:Nat)(i q:Nat)(l:List Int)(hi:i<5)(hl:l.length=5)(hw:getI ([2,2,2,4,4]:List Int) (i:Int)=some (w:Int))(h1:1≤w)(h4:w≤4)(ha:a+w≤b.length)(hb:b.length<4611686018427387904):
  Mm b (q+1) (a:Int) (i:Int) l=Mm b q ((a+w:Nat):Int) ((i+1:Nat):Int) (l.set i (Ef (part b a w):Int)):=by
 rw[Mm,Adp,if_pos (by rw[Af];simp;omega),hw,Aa,Bkl b a w h1 (by omega) ha hb,Aa]
 simp only
 rw[Bu (by omega),Aa,Oz _ (by omega),Aa,Afz (by rw[Dm ha];omega),Ag (by omega) (by omega),Ag (by omega) (by omega)]
 rfl
theorem Cab(b:List UInt8)(h22:¬b.length<22)(hb:b.length<4611686018427387904):Acp b 4 0 (List.replicate 5 0)=Abt [(f0 b:Int),(f1 b:Int),(f2 b:Int),(f3 b:Int),(f4 b:Int)]:=by
 have hF:Al=(Al-6)+1+1+1+1+1+1:=by have:=Ak;omega
 rw[Acp,hF,show(4:Int)=((4:Nat):Int)from rfl,show(0:Int)=((0:Nat):Int)from rfl]
 rw[Aui b 4 2 0 _ _ (by omega) (by simp) rfl (by omega) (by omega) (by omega) hb,Aui b 6 2 1 _ _ (by omega) (by simp) rfl (by omega) (by omega) (by omega) hb,Aui b 8 2 2 _ _ (by omega) (by simp) rfl (by omega) (by omega) (by omega) hb,
  Aui b 10 4 3 _ _ (by omega) (by simp) rfl (by omega) (by omega) (by omega) hb,Aui b 14 4 4 _ _ (by omega) (by simp) rfl (by omega) (by omega) (by omega) hb,Mm,Adp,if_neg (by rw[Af];simp)]
 rfl
theorem Cka(b:List UInt8):Ui [84,84,65,49] (b.take (min 4 b.length))=some (decide (b.take (min 4 b.length)=Oj.take (min 4 b.length))):=by
 have hl:(b.take (min 4 b.length)).length=min 4 b.length:=by rw[List.length_take];omega
 rw[Ui,Jo,if_pos (by rw[Cl,Ac,Ac,hl];simp;omega),Ac,hl,Kt (by omega) (by simp;omega),Aa,Aa,Int.toNat_natCast]
 congr 1
 rw[Bool.eq_iff_iff]
 rw[decide_eq_true_eq,beq_iff_eq]
 exact eq_comm
theorem Cjs(b:List UInt8):Dx (4:Int) (Ac b)=((min 4 b.length:Nat):Int):=by rw[Afb,Ac];omega
theorem Bj2(b:List UInt8)(hb:b.length<4611686018427387904):Agv b=some (readS b):=by
 rw[Agv,Akz,Cjs,Kt (by omega) (by omega),Aa,Int.toNat_natCast,Cka,Aa]
 by_cases h:b.take (min 4 b.length)=Oj.take (min 4 b.length)
 ·rw[if_neg (by simpa using h)]
  by_cases h2:b.length<22
  ·rw[if_pos (by rw[Af,Ac];simp;omega),rs2 h h2]
  ·have a1:Ap3 b 18 4=some (leU (part b 18 4),0):=Bkl b 18 4 (by omega) (by omega) (by omega) hb
   rw[if_neg (by rw[Af,Ac];simp;omega),a1,Aa]
   simp only
   rw[Kt (by omega) (by omega),Aa,show(18:Int).toNat=18 from rfl,Bcv _ (by simp;omega),Aa]
   simp only
   rw[Ccr b h2]
   by_cases h3:(Cp (b.take 18)).toNat=Ef (part b 18 4)
   ·rw[if_neg (by simpa using h3),Cab b h2 hb,Abt,Avz]
    rw[show getI [(f0 b:Int),(f1 b:Int),(f2 b:Int),(f3 b:Int),(f4 b:Int)] 0=some (f0 b:Int)from rfl,show getI [(f0 b:Int),(f1 b:Int),(f2 b:Int),(f3 b:Int),(f4 b:Int)] 1=some (f1 b:Int)from rfl,show getI [(f0 b:Int),(f1 b:Int),(f2 b:Int),(f3 b:Int),(f4 b:Int)] 2=some (f2 b:Int)from rfl,
     show getI [(f0 b:Int),(f1 b:Int),(f2 b:Int),(f3 b:Int),(f4 b:Int)] 3=some (f3 b:Int)from rfl,show getI [(f0 b:Int),(f1 b:Int),(f2 b:Int),(f3 b:Int),(f4 b:Int)] 4=some (f4 b:Int)from rfl]
    simp only[Aa,Avw]
    cases h4:shapeB (f0 b) (f1 b) (f2 b) (f3 b) (f4 b)with
    |false=>rw[rs4 h h2 h3 h4];rfl
    |true=>
     rw[Bca h4,if_neg (by simp),Aa]
     cases h5:fitB (f1 b) (f3 b) (f4 b)with
     |false=>rw[rs5 h h2 h3 h4 h5];rfl
     |true=>rw[rs6 h h2 h3 h4 h5];rfl
   ·rw[if_pos (by simpa using h3),rs3 h h2 h3]
 ·rw[if_pos (by simpa using h),rs1 h]
theorem Cb1(b:List UInt8)(hb:b.length<4611686018427387904):Adf b=some (readS b):=by
 rw[Adf,Agc,Cjs,Kt (by omega) (by omega),Aa,Int.toNat_natCast,Kt (by omega) (by simp;omega),Aa,Int.toNat_natCast]
 by_cases h:b.take (min 4 b.length)=Oj.take (min 4 b.length)
 ·rw[if_neg (by rw[h];simp[Oj]),Ag8,Ahi]
  by_cases h2:b.length<22
  ·rw[if_pos (by rw[Af,Ac];simp;omega),rs2 h h2]
  ·have a1:Bv b 18 22=some (part b 18 4):=Nw 18 4 (by omega)
   have c1:Bv b 4 6=some (part b 4 2):=Nw 4 2 (by omega)
   have c2:Bv b 6 8=some (part b 6 2):=Nw 6 2 (by omega)
   have c3:Bv b 8 10=some (part b 8 2):=Nw 8 2 (by omega)
   have c4:Bv b 10 14=some (part b 10 4):=Nw 10 4 (by omega)
   have c5:Bv b 14 18=some (part b 14 4):=Nw 14 4 (by omega)
   have hs:Be (leU (part b 18 4)) (Ae (Cp (b.take 18)):UInt64)=decide ((Cp (b.take 18)).toNat≠Ef (part b 18 4)):=by
    rw[←Ccr b h2,Ajj,Ajj,Bool.eq_iff_iff];simp only[bne_iff_ne,ne_eq];exact not_congr eq_comm
   have lp:∀a w,a+w≤b.length→Dc (part b a w)=some (leU (part b a w)):=fun a w h=>Bp5 _ (by rw[Dm h];omega)
   rw[if_neg (by rw[Af,Ac];simp;omega),a1,Aa,Kt (by omega) (by omega),Aa,show(18:Int).toNat=18 from rfl,lp _ _ (by omega),Aa,Cal _ (by simp;omega),Aa,hs]
   by_cases h3:(Cp (b.take 18)).toNat=Ef (part b 18 4)
   ·rw[if_neg (by simpa using h3),Agh,Agp,c1,Aa,c2,Aa,c3,Aa,c4,Aa,c5,Aa,lp _ _ (by omega),Aa,lp _ _ (by omega),Aa,lp _ _ (by omega),Aa,lp _ _ (by omega),Aa,lp _ _ (by omega),Aa,
     Ago,Agl,Afz (by rw[Dm (by omega)];omega),Afz (by rw[Dm (by omega)];omega),Afz (by rw[Dm (by omega)];omega),Afz (by rw[Dm (by omega)];omega),Afz (by rw[Dm (by omega)];omega)]
    rw[show Ef (part b 4 2)=f0 b from rfl,show Ef (part b 6 2)=f1 b from rfl,show Ef (part b 8 2)=f2 b from rfl,show Ef (part b 10 4)=f3 b from rfl,show Ef (part b 14 4)=f4 b from rfl,Btv,Aa]
    cases h4:shapeB (f0 b) (f1 b) (f2 b) (f3 b) (f4 b)with
    |false=>rw[rs4 h h2 h3 h4];rfl
    |true=>
     rw[Cbw h4,if_neg (by simp),Aa]
     cases h5:fitB (f1 b) (f3 b) (f4 b)with
     |false=>rw[rs5 h h2 h3 h4 h5];rfl
     |true=>rw[rs6 h h2 h3 h4 h5];rfl
   ·rw[if_pos (by simpa using h3),rs3 h h2 h3]
 ·rw[if_pos (by simpa [Oj]using h),rs1 h]
theorem Cbo{b:List UInt8}(h:(readS b).2.2.2.2.2=0):readS b=((f0 b:Int),(f1 b:Int),(f2 b:Int),(f3 b:Int),(f4 b:Int),0)∧22≤b.length∧shapeB (f0 b) (f1 b) (f2 b) (f3 b) (f4 b)=true∧fitB (f1 b) (f3 b) (f4 b)=true:=by
 unfold readS at h⊢
 split at h; · simp at h
 rename_i c1;rw[if_neg c1]
 split at h; · simp at h
 rename_i c2;rw[if_neg c2]
 split at h; · simp at h
 rename_i c3;rw[if_neg c3]
 split at h; · simp at h
 rename_i c4;rw[if_neg c4]
 split at h; · simp at h
 rename_i c5;rw[if_neg c5]
 exact⟨rfl,by omega,by simpa using c4,by simpa using c5⟩
theorem Anx{f c w r n:Nat}(h:shapeB f c w r n=true)(h2:fitB c r n=true):Me (f:Int) (c:Int) (w:Int) (r:Int) (n:Int)=some (framesL (longN r) n,0):=by
 have hc:Sa (f:Int) (c:Int) (w:Int) (r:Int) (n:Int)=some 0:=by
  rw[Sa,Avw,Aa,h,if_neg (by simp),Bca h,Aa,h2];rfl
 have hd:4000/c≤4000:=Nat.div_le_self _ _
 simp only[shapeB,decide_eq_true_eq]at h
 simp only[fitB,decide_eq_true_eq]at h2
 rw[Me,hc,Aa,if_neg (by rw[Aj];simp),Bo2 (by omega) (by omega) (by omega) (by omega) h2.2]
 rfl
end Go.Pl
set_option linter.unusedVariables false
set_option linter.unusedSimpArgs false
namespace Go.Pl
open Go Go.Lv
def okL:List Int→Int→Bool
 |[],_=>true
 |x::l,left=>decide (5≤x∧x≤left)&&okL l (left-x)
theorem Bzr:∀l:List Int,(∀x∈l,5≤x)→0≤l.sum
 |[],_=>by simp
 |x::l,h=>by
  have h1:=h x List.mem_cons_self
  have h2:=Bzr l fun y hy=>h y (List.mem_cons_of_mem _ hy)
  rw[List.sum_cons];omega
theorem Ar5:∀(l:List Int) (left:Int),0≤left→(okL l left=true↔(∀x∈l,5≤x)∧l.sum≤left)
 |[],left,h=>by simp[okL];exact h
 |x::l,left,h=>by
  rw[okL,Bool.and_eq_true,decide_eq_true_eq,List.sum_cons]
  by_cases hx:5≤x∧x≤left
  ·rw[Ar5 l (left-x) (by omega)]
   constructor
   ·rintro⟨_,h1,h2⟩
    exact⟨fun y hy=>(List.mem_cons.1 hy).elim (fun e=>e▸hx.1) (h1 y),by omega⟩
   ·rintro⟨h1,h2⟩
    exact⟨hx,fun y hy=>h1 y (List.mem_cons_of_mem _ hy),by omega⟩
  ·constructor
   ·rintro⟨h1,_⟩;exact absurd h1 hx
   ·rintro⟨h1,h2⟩
    have h3:=h1 x List.mem_cons_self
    have:0≤l.sum:=Bzr l fun y hy=>h1 y (List.mem_cons_of_mem _ hy)
    omega
theorem Bfy(l:List Int)(hl:l.length≤1000):∀(j i q:Nat) (left:Int),i+j=l.length→j<q→0≤left→left≤100000→Px l q left (i:Int)=some (if okL (l.drop i) left=true then 0 else 8)
 |0,i,q+1,left,hi,_,_,_=>by
  rw[Px,Acq,if_neg (by rw[Af,Ac];simp;omega),show i=l.length by omega,List.drop_length];rfl
 |j+1,i,q+1,left,hi,hq,h0,h1=>by
  have hlt:i<l.length:=by omega
  rw[Px,Acq,if_pos (by rw[Af,Ac];simp;omega),Bu hlt,Aa,drop_cons hlt]
  by_cases h:5≤l[i]∧l[i]≤left
  ·rw[if_neg (by simp[Af,Am];omega),Bc (by omega) (by omega),Ag (by omega) (by omega)]
   have ih:=Bfy l hl j (i+1) q (left-l[i]) (by omega) (by omega) (by omega) (by omega)
   rw[show((i:Int)+1)=((i+1:Nat):Int) by omega,ih]
   simp[okL,h]
  ·rw[if_pos (by simp[Af,Am];omega)]
   have:okL (l[i]::l.drop (i+1)) left=false:=by rw[okL,decide_eq_false h];rfl
   rw[this];rfl
def Afc(l:List Int):Bool:=decide (1≤l.length∧l.length≤1000)&&okL l 100000
theorem Bm4(l:List Int)(hl:l.length≤1000):Og l=some (if Afc l=true then 0 else 8):=by
 rw[Og,Acv,Afc]
 by_cases h:1≤l.length
 ·rw[if_neg (by rw[Bb,Am,Ac];simp;constructor;(intro e;subst e;simp at h);omega),Ak4]
  have:=Bfy l hl l.length 0 Al 100000 (by omega) (by have:=Ak;omega) (by omega) (by omega)
  rw[List.drop_zero]at this
  rw[decide_eq_true (show 1≤l.length∧l.length≤1000 from⟨h,hl⟩),Bool.true_and]
  exact this
 ·have:l=[]:=by
   cases l with
   |nil=>rfl
   |cons _ _=>simp at h
  subst this;rfl
theorem Bjo(l:List Int)(hl:l.length≤1000):∀(j i q:Nat) (s:Int),i+j=l.length→j<q→0≤s→s≤100000*(i:Int)→Iy l q s (i:Int)=some (if(∀x∈l.drop i,5≤x∧x≤100000)∧s+(l.drop i).sum≤100000 then 0 else 8)
 |0,i,q+1,s,hi,_,_,_=>by
  rw[Iy,Tm,if_neg (by rw[Af,Ac];simp;omega),show i=l.length by omega,List.drop_length,Adl,Abw]
  by_cases h:s≤100000
  ·rw[if_neg (by rw[Am];simp;omega),if_pos (by simp;omega)]
  ·rw[if_pos (by rw[Am];simp;omega),if_neg (by simp;omega)]
 |j+1,i,q+1,s,hi,hq,h0,h1=>by
  have hlt:i<l.length:=by omega
  rw[Iy,Tm,if_pos (by rw[Af,Ac];simp;omega),Bu hlt,Aa,drop_cons hlt]
  by_cases h5:l[i]<5
  ·rw[if_pos (by rw[Af];simpa using h5),if_neg (fun h=>by have:=(h.1 l[i] List.mem_cons_self).1;omega)]
  ·rw[if_neg (by rw[Af];simpa using h5),Aa]
   by_cases h6:100000<l[i]
   ·rw[if_pos (by rw[Am];simpa using h6),if_neg (fun h=>by have:=(h.1 l[i] List.mem_cons_self).2;omega)]
   ·rw[if_neg (by rw[Am];simpa using h6),Ad7,Ael,Bu hlt,Aa,Ag (by omega) (by omega),Ag (by omega) (by omega)]
    have ih:=Bjo l hl j (i+1) q (s+l[i]) (by omega) (by omega) (by omega) (by omega)
    rw[show((i:Int)+1)=((i+1:Nat):Int) by omega,ih]
    have e:((∀x∈l.drop (i+1),5≤x∧x≤100000)∧s+l[i]+(l.drop (i+1)).sum≤100000)↔((∀x∈l[i]::l.drop (i+1),5≤x∧x≤100000)∧s+(l[i]::l.drop (i+1)).sum≤100000):=by
     rw[List.sum_cons,List.forall_mem_cons,Int.add_assoc]
     constructor
     ·rintro⟨a,b⟩;exact⟨⟨by omega,a⟩,b⟩
     ·rintro⟨⟨_,a⟩,b⟩;exact⟨a,b⟩
    simp only[e]
theorem Bdb:∀{l:List Int},(∀x∈l,5≤x)→∀x∈l,x≤l.sum
 |[],_,x,hx=>by simp at hx
 |y::l,h,x,hx=>by
  have h1:=h y List.mem_cons_self
  have h2:=Bzr l fun z hz=>h z (List.mem_cons_of_mem _ hz)
  rw[List.sum_cons]
  rcases List.mem_cons.1 hx with rfl|hx
  ·omega
  ·have:=Bdb (l:=l) (fun z hz=>h z (List.mem_cons_of_mem _ hz)) x hx
   omega
theorem Brm(l:List Int)(hl:l.length≤1000):Je l=some (if Afc l=true then 0 else 8):=by
 rw[Je,Tn,Afc]
 by_cases h:1≤l.length
 ·have:=Bjo l hl l.length 0 Al 0 (by omega) (by have:=Ak;omega) (by omega) (by omega)
  rw[if_neg (by rw[Af,Am,Ac];simp;omega),Aek]
  refine Eq.trans this ?_
  rw[List.drop_zero,decide_eq_true (show 1≤l.length∧l.length≤1000 from⟨h,hl⟩),Bool.true_and]
  have e:((∀x∈l,5≤x∧x≤100000)∧0+l.sum≤100000)↔okL l 100000=true:=by
   rw[Ar5 l 100000 (by omega),Int.zero_add]
   constructor
   ·rintro⟨a,b⟩;exact⟨fun x hx=>(a x hx).1,b⟩
   ·rintro⟨a,b⟩;exact⟨fun x hx=>⟨a x hx,Int.le_trans (Bdb a x hx) b⟩,b⟩
  simp only[e]
 ·have:l=[]:=by
   cases l with
   |nil=>rfl
   |cons _ _=>simp at h
  subst this;rfl
theorem Av8(l:List Int):Og l=some (if Afc l=true then 0 else 8):=by
 by_cases hl:l.length≤1000
 ·exact Bm4 l hl
 ·rw[Og,Acv,if_pos (by rw[Am,Ac];simp;omega),Afc,decide_eq_false (by omega)];rfl
theorem Bjh(l:List Int):Je l=some (if Afc l=true then 0 else 8):=by
 by_cases hl:l.length≤1000
 ·exact Brm l hl
 ·rw[Je,Tn,if_pos (by rw[Am,Ac];simp;omega),Afc,decide_eq_false (by omega)];rfl
theorem Bhc(l:List Int)(hl:l.length≤1000)(hx:∀x∈l,0≤x∧x<4294967296):Og l=some (if Afc l=true then 0 else 8):=Av8 l
theorem Bxu(l:List Int)(hl:l.length≤1000)(hx:∀x∈l,0≤x∧x<4294967296):Je l=some (if Afc l=true then 0 else 8):=Bjh l
def Alp(b:List UInt8)(n:Nat):List Int:=(List.range n).map fun i=>(Ef (part b (4*i) 4):Int)
theorem Adc(b:List UInt8)(n:Nat):(Alp b n).length=n:=by simp[Alp]
theorem Bju(b:List UInt8)(n:Nat):Alp b (n+1)=Alp b n++[(Ef (part b (4*n) 4):Int)]:=by simp[Alp,List.range_succ]
theorem Bv7(b:List UInt8)(n:Nat)(h:4*n≤b.length):∀x∈Alp b n,0≤x∧x<4294967296:=by
 intro x hx
 simp only[Alp,List.mem_map,List.mem_range]at hx
 obtain⟨i,hi,rfl⟩:=hx
 have:=Btz (l:=part b (4*i) 4) (by rw[Dm (by omega)];omega)
 omega
def seekS(b:List UInt8)(n:Nat):List Int×Int:=
 if ¬(1≤n∧n≤1000)then([],2)else if b.length<4*n+4 then([],24)else if(Cp (b.take (4*n))).toNat≠Ef (part b (4*n) 4)then([],22)else
 if Afc (Alp b n)=true then(Alp b n,0)else([],12)
theorem Bu2{b:List UInt8}{n:Nat}(h:1≤n∧n≤1000)(h2:¬b.length<4*n+4):Be (Ae (Cp (b.take (4*n))):UInt64) (leU (part b (4*n) 4))=decide ((Cp (b.take (4*n))).toNat≠Ef (part b (4*n) 4)):=by
 rw[Ajj,Cr,Bool.eq_iff_iff]
 simp only[bne_iff_ne,ne_eq,decide_eq_true_eq]
 rw[←UInt64.toNat_inj,An2 (by have:=(Cp (b.take (4*n))).toNat_lt;omega),Anr (by rw[Dm (by omega)];omega)]
section
variable {b:List UInt8} {n:Nat}
theorem ss1(h:¬(1≤n∧n≤1000)):seekS b n=([],2):=by rw[seekS,if_pos h]
variable (h:1≤n∧n≤1000)
include h
theorem ss2(h2:b.length<4*n+4):seekS b n=([],24):=by rw[seekS,if_neg (fun e=>e h),if_pos h2]
variable (h2:¬b.length<4*n+4)
include h2
theorem ss3(h3:(Cp (b.take (4*n))).toNat≠Ef (part b (4*n) 4)):seekS b n=([],22):=by rw[seekS,if_neg (fun e=>e h),if_neg h2,if_pos h3]
theorem ss4(h3:(Cp (b.take (4*n))).toNat=Ef (part b (4*n) 4)):seekS b n=if Afc (Alp b n)=true then(Alp b n,0)else([],12):=by rw[seekS,if_neg (fun e=>e h),if_neg h2,if_neg (fun e=>e h3)]
end
theorem Blm(b:List UInt8)(l8:List Int)(n:Nat)(hn:n≤1000)(h8:l8.length=n)(hb:4*n+4≤b.length)(hb2:b.length<4611686018427387904):∀(j i q:Nat),i+j=n→j<q→Ta b l8 q (i:Int) (Alp b i++List.replicate j 0)=Agb (Alp b n)
 |0,i,q+1,hi,_=>by
  obtain rfl:i=n:=by omega
  rw[Ta,Af0,if_neg (by rw[Af,Ac];simp;omega)];simp
 |j+1,i,q+1,hi,hq=>by
  have hlen:(Alp b i++List.replicate (j+1) 0).length=i+(j+1):=by simp[Adc]
  have ha:=Bkl b (4*i) 4 (by omega) (by omega) (by omega) hb2
  rw[Ta,Af0,if_pos (by rw[Af,Ac];simp;omega),Fq (by omega) (by omega),show(4:Int)*(i:Int)=((4*i:Nat):Int) by omega,show(4:Int)=((4:Nat):Int)from rfl,ha,Aa]
  simp only
  rw[Bu (by rw[hlen];omega),Aa,Oz _ (by rw[hlen];omega),Aa,Afz (by rw[Dm (by omega)];omega),Ag (by omega) (by omega),List.replicate_succ,Am1 (Adc _ _)]
  have ih:=Blm b l8 n hn h8 hb hb2 j (i+1) q (by omega) (by omega)
  rw[Bju]at ih
  rw[show((i:Int)+1)=((i+1:Nat):Int) by omega,←ih]
  simp
theorem Bye(b:List UInt8)(n:Nat)(hb:b.length≤100100):Ama b (n:Int)=some (seekS b n):=by
 rw[Ama,Aom]
 by_cases h:1≤n∧n≤1000
 ·rw[if_neg (by simp[Af,Am];omega),Fq (by omega) (by omega),Ag (by omega) (by omega)]
  by_cases h2:b.length<4*n+4
  ·rw[if_pos (by rw[Af,Ac];simp;omega),ss2 h h2]
  ·have ha:Ap3 b (4*(n:Int)) 4=some (leU (part b (4*n) 4),0):=by
    rw[show(4:Int)*(n:Int)=((4*n:Nat):Int) by omega]
    exact Bkl b (4*n) 4 (by omega) (by omega) (by omega) (by omega)
   rw[if_neg (by rw[Af,Ac];simp;omega),ha,Aa]
   simp only
   rw[Kt (by omega) (by omega),Aa,show(4*(n:Int)).toNat=4*n by omega,Bcv _ (by simp;omega),Aa]
   simp only
   rw[Bu2 h h2]
   by_cases h3:(Cp (b.take (4*n))).toNat=Ef (part b (4*n) 4)
   ·have hlp:=Blm b (List.replicate n 0) n (by omega) (by simp) (by omega) (by omega) n 0 Al (by omega) (by have:=Ak;omega)
    rw[if_neg (by simpa using h3),Ayj (by omega) (by omega),Aa,Ay (by rw[Bb];simp),Aa,Aox,Int.toNat_natCast]
    refine Eq.trans (hlp) ?_
    rw[Agb,Ax2,Bhc _ (by rw[Adc];omega) (Bv7 b n (by omega)),Aa,ss4 h h2 h3]
    cases Afc (Alp b n)<;>rfl
   ·rw[if_pos (by simpa using h3),ss3 h h2 h3]
 ·rw[if_pos (by simp[Af,Am];omega),ss1 h]
theorem Ax8(b:List UInt8)(n:Nat)(hn:n≤1000)(hb:4*n+4≤b.length)(hb2:b.length<4611686018427387904):∀(j i q:Nat),i+j=n→j<q→Jz b (n:Int) q (i:Int) (Alp b i)=Vl (Alp b n)
 |0,i,q+1,hi,_=>by
  obtain rfl:i=n:=by omega
  rw[Jz,Vz,if_neg (by rw[Af];simp)]
 |j+1,i,q+1,hi,hq=>by
  have hc:Bv b ((4:Int)*(i:Int)) ((4:Int)*(i:Int)+4)=some (part b (4*i) 4):=by
   rw[show(4:Int)*(i:Int)=((4*i:Nat):Int) by omega]
   exact Nw (4*i) 4 (by omega)
  rw[Jz,Vz,if_pos (by rw[Af];simp;omega),Fq (by omega) (by omega),Ag (by omega) (by omega),hc,Aa,Bp5 _ (by rw[Dm (by omega)];omega),Aa,Bt (by rw[Adc];simp;omega),Aa,
   Afz (by rw[Dm (by omega)];omega),Ag (by omega) (by omega),←Bju]
  exact Ax8 b n hn hb hb2 j (i+1) q (by omega) (by omega)
theorem Bzf(b:List UInt8)(n:Nat)(hb:b.length≤100100):Acg b (n:Int)=some (seekS b n):=by
 rw[Acg,Ahl]
 by_cases h:1≤n∧n≤1000
 ·rw[if_neg (by simp[Af,Am];omega),Fq (by omega) (by omega),Ag (by omega) (by omega)]
  by_cases h2:b.length<4*n+4
  ·rw[if_pos (by rw[Af,Ac];simp;omega),ss2 h h2]
  ·have hc:Bv b ((4:Int)*(n:Int)) ((4:Int)*(n:Int)+4)=some (part b (4*n) 4):=by
    rw[show(4:Int)*(n:Int)=((4*n:Nat):Int) by omega]
    exact Nw (4*n) 4 (by omega)
   have hs:Be (leU (part b (4*n) 4)) (Ae (Cp (b.take (4*n))):UInt64)=decide ((Cp (b.take (4*n))).toNat≠Ef (part b (4*n) 4)):=by
    rw[←Bu2 h h2,Ajj,Ajj,Bool.eq_iff_iff];simp only[bne_iff_ne,ne_eq];exact not_congr eq_comm
   rw[if_neg (by rw[Af,Ac];simp;omega),hc,Aa,Kt (by omega) (by omega),Aa,show(4*(n:Int)).toNat=4*n by omega,Bp5 _ (by rw[Dm (by omega)];omega),Aa,Cal _ (by simp;omega),Aa,hs]
   by_cases h3:(Cp (b.take (4*n))).toNat=Ef (part b (4*n) 4)
   ·have hlp:=Ax8 b n (by omega) (by omega) (by omega) n 0 Al (by omega) (by have:=Ak;omega)
    rw[if_neg (by simpa using h3),Ag9,Ahg,Agn]
    refine Eq.trans hlp ?_
    rw[Vl,Ahq,Bxu _ (by rw[Adc];omega) (Bv7 b n (by omega)),Aa,ss4 h h2 h3]
    cases Afc (Alp b n)<;>rfl
   ·rw[if_pos (by simpa using h3),ss3 h h2 h3]
 ·rw[if_pos (by simp[Af,Am];omega),ss1 h]
theorem Bf3{b:List UInt8}{n:Nat}(h:(seekS b n).2=0):seekS b n=(Alp b n,0)∧1≤n∧n≤1000∧4*n+4≤b.length∧(∀x∈Alp b n,5≤x)∧(Alp b n).sum≤100000:=by
 unfold seekS at h⊢
 split at h; · simp at h
 rename_i c1;rw[if_neg c1]
 split at h; · simp at h
 rename_i c2;rw[if_neg c2]
 split at h; · simp at h
 rename_i c3;rw[if_neg c3]
 split at h
 ·rename_i c4
  rw[if_pos c4]
  have c4':=c4
  rw[Afc,Bool.and_eq_true,Ar5 _ _ (by omega)]at c4'
  exact⟨rfl,by omega,by omega,by omega,c4'.2.1,c4'.2.2⟩
 ·simp at h
end Go.Pl
set_option linter.unusedVariables false
set_option linter.unusedSimpArgs false
namespace Go.Pl
open Go Go.Lv
def hdr(b:List UInt8):List UInt8:=b.drop (frontS b).1.toNat
abbrev Op8:=Int×Int×Int×Int×Int×Int×(List Int)×Int
def Boo(e:Int):Op8:=(0,0,0,0,0,0,[],e)
theorem Ccw(A K:Nat)(h:A≤200000)(hk:K≤1000):Ad (Ad (A:Int) (Ar 4 (K:Int))) 4=((A+4*K+4:Nat):Int):=by
 rw[Fq (by omega) (by omega),Ag (a:=(A:Int)) (by omega) (by omega),Ag (by omega) (by omega)];omega
theorem Blc{f c w r n:Nat}(h1:shapeB f c w r n=true)(h2:fitB c r n=true)(b:List UInt8)(hb:b.length≤100100)(A:Nat)(hA:A≤b.length):
  Ql b (f:Int) (c:Int) (w:Int) (r:Int) (n:Int) (A:Int)=
   some (if(seekS (b.drop A) (framesL (longN r) n).length).2≠0 then Boo (seekS (b.drop A) (framesL (longN r) n).length).2 else((f:Int),(c:Int),(w:Int),(r:Int),(n:Int),((A+4*(framesL (longN r) n).length+4:Nat):Int),(seekS (b.drop A) (framesL (longN r) n).length).1,0)):=by
 rw[Ql,Av2,Anx h1 h2,Aa]
 simp only
 rw[if_neg (by rw[Aj];simp),Qe (by omega) (by omega),Aa,Ac,show(A:Int).toNat=A from rfl,Bye _ _ (by simp;omega),Aa]
 by_cases h:(seekS (b.drop A) (framesL (longN r) n).length).2≠0
 ·rw[if_pos h,if_pos (by rw[Aj];simpa using h)];rfl
 ·have h0:(seekS (b.drop A) (framesL (longN r) n).length).2=0:=by simpa using h
  obtain⟨g1,g2,g3,g4,g5,g6⟩:=Bf3 h0
  have gl:(seekS (b.drop A) (framesL (longN r) n).length).1.length=(framesL (longN r) n).length:=by rw[g1];exact Adc _ _
  rw[if_neg h,if_neg (by rw[Aj];simpa using h),Ac,gl,Ccw _ _ (by omega) (by omega)]
theorem Ca6{f c w r n:Nat}(h1:shapeB f c w r n=true)(h2:fitB c r n=true)(b:List UInt8)(hb:b.length≤100100)(A:Nat)(hA:A≤b.length):
  Lz b (f:Int) (c:Int) (w:Int) (r:Int) (n:Int) (A:Int)=
   some (if(seekS (b.drop A) (framesL (longN r) n).length).2≠0 then Boo (seekS (b.drop A) (framesL (longN r) n).length).2 else((f:Int),(c:Int),(w:Int),(r:Int),(n:Int),((A+4*(framesL (longN r) n).length+4:Nat):Int),(seekS (b.drop A) (framesL (longN r) n).length).1,0)):=by
 have hs:(1≤r∧r≤1048576)∧1≤n∧1≤c:=by
  simp only[shapeB,decide_eq_true_eq]at h1;omega
 have hf:n≤4000:=by
  simp only[fitB,decide_eq_true_eq]at h2
  have:=Nat.div_le_self 4000 c
  omega
 rw[Lz,Acy,Qe (by omega) (by omega),Aa,Avt hs.1.2 hs.2.1 hf,Aa,Ac,show(A:Int).toNat=A from rfl,Bzf _ _ (by simp;omega),Aa]
 simp only
 rw[Adt,Ad0]
 by_cases h:(seekS (b.drop A) (framesL (longN r) n).length).2≠0
 ·rw[if_pos h,if_pos (by rw[Aj];simpa using h)];rfl
 ·have h0:(seekS (b.drop A) (framesL (longN r) n).length).2=0:=by simpa using h
  obtain⟨g1,g2,g3,g4,g5,g6⟩:=Bf3 h0
  have gl:(seekS (b.drop A) (framesL (longN r) n).length).1.length=(framesL (longN r) n).length:=by rw[g1];exact Adc _ _
  rw[if_neg h,if_neg (by rw[Aj];simpa using h),Ac,gl,Ccw _ _ (by omega) (by omega)]
structure Opn (b p:List UInt8) (f c w r n A:Nat) (l:List Int):Prop where
 prog:seekto_Open b p=some ((f:Int),(c:Int),(w:Int),(r:Int),(n:Int),(A:Int),l,0)
 ref:cadenzaref40_Opened b p=some ((f:Int),(c:Int),(w:Int),(r:Int),(n:Int),(A:Int),l,0)
 pass:p.length≤64
 file:b.length≤100000
 shape:shapeB f c w r n=true
 fit:fitB c r n=true
 len:l.length=(framesL (longN r) n).length
 some1:1≤l.length∧l.length≤1000
 five:∀x∈l,5≤x
 sum:l.sum≤100000
 at':A≤b.length
 tag:(frontS b).2=0
 head:readS (hdr b)=((f:Int),(c:Int),(w:Int),(r:Int),(n:Int),0)
 tab:seekS (b.drop ((frontS b).1.toNat+22+(if f=2 then 8 else 0))) l.length=(l,0)
 pos:A=(frontS b).1.toNat+22+(if f=2 then 8 else 0)+4*l.length+4
theorem Cc7(b p:List UInt8)(hb:b.length≤100100)(hp:p.length≤64):
  (∃e:Int,e≠0∧seekto_Open b p=some (Boo e)∧cadenzaref40_Opened b p=some (Boo e))∨(∃f c w r n A l,Opn b p f c w r n A l):=by
 by_cases h1:100000<b.length
 ·refine .inl ⟨4,by omega,?_,?_⟩
  ·rw[seekto_Open,Vy,if_neg (by rw[Am,Ac];simp;omega),if_pos (by rw[Am,Ac];simp;omega)];rfl
  ·rw[cadenzaref40_Opened,Se,if_pos (by rw[Am,Ac];simp;omega)];rfl
 have hP:seekto_Open b p=seekto_Open b p:=rfl
 have hR:cadenzaref40_Opened b p=cadenzaref40_Opened b p:=rfl
 conv at hP=>rhs;rw[seekto_Open,Vy,if_neg (by rw[Am,Ac];simp;omega),if_neg (by rw[Am,Ac];simp;omega),Avm b (by omega),Aa]
 conv at hR=>rhs;rw[cadenzaref40_Opened,Se,if_neg (by rw[Am,Ac];simp;omega),Bma b (by omega),Aa]
 by_cases h2:(frontS b).2=0
 ·obtain⟨p0,p1,p2⟩:=Bx6 h2
  have hc:=Qe (l:=b) p0 p1
  simp only[h2]at hP hR
  rw[if_neg (by rw[Aj];simp),hc,Aa,show b.drop (frontS b).1.toNat=hdr b from rfl,Bj2 _ (by simp[hdr];omega),Aa]at hP
  rw[if_neg (by rw[Aj];simp),hc,Aa,show b.drop (frontS b).1.toNat=hdr b from rfl,Cb1 _ (by simp[hdr];omega),Aa]at hR
  by_cases h3:(readS (hdr b)).2.2.2.2.2=0
  ·obtain⟨g1,g2,g3,g4⟩:=Cbo h3
   have hlen:(hdr b).length=b.length-(frontS b).1.toNat:=by simp[hdr]
   generalize hF:(frontS b).1.toNat=F at*
   have hF':(frontS b).1=(F:Int):=by omega
   rw[g1,hF']at hP hR
   simp only at hP hR
   generalize f0 (hdr b)=f at*
   generalize f1 (hdr b)=c at*
   generalize f2 (hdr b)=w at*
   generalize f3 (hdr b)=r at*
   generalize f4 (hdr b)=n at*
   have t22:Ad (F:Int) 22=((F+22:Nat):Int):=by rw[Ag (by omega) (by omega)];omega
   have t30:Ad ((F+22:Nat):Int) 8=((F+30:Nat):Int):=by rw[Ag (by omega) (by omega)];omega
   have hf12:f=1∨f=2:=by simp only[shapeB,decide_eq_true_eq]at g3;omega
   rw[if_neg (by rw[Aj];simp),t22,t30]at hP hR
   have hend:∀A:Nat,A≤b.length→A=F+22+(if f=2 then 8 else 0)→seekto_Open b p=Ql b (f:Int) (c:Int) (w:Int) (r:Int) (n:Int) (A:Int)→cadenzaref40_Opened b p=Lz b (f:Int) (c:Int) (w:Int) (r:Int) (n:Int) (A:Int)→
     (∃e:Int,e≠0∧seekto_Open b p=some (Boo e)∧cadenzaref40_Opened b p=some (Boo e))∨(∃f c w r n A l,Opn b p f c w r n A l):=by
    intro A hA hA2 e1 e2
    rw[Blc g3 g4 b hb A hA]at e1
    rw[Ca6 g3 g4 b hb A hA]at e2
    by_cases h:(seekS (b.drop A) (framesL (longN r) n).length).2≠0
    ·rw[if_pos h]at e1 e2
     exact .inl ⟨_,h,e1,e2⟩
    ·have h0:(seekS (b.drop A) (framesL (longN r) n).length).2=0:=by simpa using h
     obtain⟨k1,k2,k3,k4,k5,k6⟩:=Bf3 h0
     have gl:(seekS (b.drop A) (framesL (longN r) n).length).1.length=(framesL (longN r) n).length:=by rw[k1];exact Adc _ _
     rw[if_neg h]at e1 e2
     rw[List.length_drop]at k4
     refine .inr ⟨f,c,w,r,n,_,_,⟨e1,e2,hp,by omega,g3,g4,gl,by omega,by rw[k1];exact k5,by rw[k1];exact k6,by omega,h2,g1,by rw[gl,hF,←hA2];exact Prod.ext rfl h0,by rw[gl,hF,←hA2]⟩⟩
   by_cases hpass:((p==([]:List UInt8)) !=(geq (f:Int) (1:Int)))=true
   ·rw[if_pos hpass]at hP hR
    exact .inl ⟨26,by omega,hP,hR⟩
   ·rw[if_neg hpass]at hP hR
    have hpf:(p=[]↔f=1):=by
     rw[Bb]at hpass
     have h5:(p==([]:List UInt8))=((f:Int)==1):=by simpa using hpass
     have h6:(p==([]:List UInt8))=true↔((f:Int)==1)=true:=by rw[h5]
     rw[beq_iff_eq,beq_iff_eq]at h6
     rw[h6];omega
    by_cases h5:f=2
    ·have hpne:p≠ []:=fun e=>by have:=hpf.1 e;omega
     have h64:(p !=([]:List UInt8))=true:=by simpa using hpne
     rw[if_pos h64]at hP
     rw[if_pos (by rw[Bb,h5];rfl),Bc (by rw[Ac];omega) (by rw[Ac];omega)]at hR
     by_cases h6:b.length<F+30
     ·rw[if_pos (by rw[Af,Ac];simp;omega)]at hP hR
      exact .inl ⟨24,by omega,hP,hR⟩
     ·have hseg:((b.take (F+30)).drop (F+22)).length=8:=by simp;omega
      rw[if_neg (by rw[Af,Ac];simp;omega),Ww (by omega) (by omega) (by omega),Aa]at hP hR
      rw[Wl,Bdc p hp,Aa]at hP
      rw[Bxt p hp,Aa]at hR
      simp only at hP
      rw[if_neg (by rw[Aj,Aj,Ac,Ac,Bq,show((F+30:Nat):Int).toNat=F+30 from rfl,show((F+22:Nat):Int).toNat=F+22 from rfl,hseg];simp),Hc,Aa,Aa]at hP
      simp only at hP
      rw[if_neg (by rw[Aj];simp)]at hP
      generalize(b.take ((F+30:Nat):Int).toNat).drop ((F+22:Nat):Int).toNat=seg at*
      by_cases h7:seg=Qv (Aaa p).toNat 8
      ·rw[if_neg (by simp[h7])]at hP
       rw[if_neg (by simp[h7])]at hR
       exact hend (F+30) (by omega) (by rw[if_pos h5]) hP hR
      ·rw[if_pos (by simpa using h7)]at hP
       rw[if_pos (by simpa using h7)]at hR
       exact .inl ⟨26,by omega,hP,hR⟩
    ·have hpe:p=[]:=hpf.2 (by omega)
     rw[if_neg (by rw[hpe];simp)]at hP
     rw[if_neg (by rw[Bb];simp;omega)]at hR
     exact hend (F+22) (by omega) (by rw[if_neg h5]) hP hR
  ·generalize readS (hdr b)=v at*
   obtain⟨v1,v2,v3,v4,v5,v6⟩:=v
   simp only at h3 hP hR
   rw[if_pos (by rw[Aj];simpa using h3)]at hP hR
   exact .inl ⟨v6,h3,hP,hR⟩
 ·generalize frontS b=v at*
  obtain⟨v,e⟩:=v
  simp only at h2 hP hR
  rw[if_pos (by rw[Aj];simpa using h2)]at hP hR
  exact .inl ⟨e,h2,hP,hR⟩
end Go.Pl
set_option linter.unusedVariables false
set_option linter.unusedSimpArgs false
namespace Go.Pl
open Go Go.Lv
theorem Bj9(l:List Int)(i:Nat):(l.take i).sum+(l.drop i).sum=l.sum:=by
 conv=>rhs;rw[←List.take_append_drop i l,List.sum_append]
theorem Mr{l:List Int}(h5:∀x∈l,5≤x)(i:Nat):0≤(l.take i).sum∧(l.take i).sum≤l.sum:=by
 have h1:=Bzr (l.take i) fun x hx=>h5 x (List.mem_of_mem_take hx)
 have h2:=Bzr (l.drop i) fun x hx=>h5 x (List.mem_of_mem_drop hx)
 have:=Bj9 l i
 omega
theorem Hn{l:List Int}{i:Nat}(h:i<l.length):(l.take (i+1)).sum=(l.take i).sum+l[i]:=by
 rw[Kn h,List.sum_append];simp
def Beq(l:List Int)(n:Nat):List Int:=(List.range n).map fun i=>(l.take i).sum
theorem Bou(l:List Int)(n:Nat):(Beq l n).length=n:=by simp[Beq]
theorem Byi(l:List Int)(n:Nat):Beq l (n+1)=Beq l n++[(l.take n).sum]:=by simp[Beq,List.range_succ]
theorem Bib(l:List Int){n i:Nat}(h:i<n):getI (Beq l n) (i:Int)=some ((l.take i).sum):=by
 rw[Bu (by rw[Bou];exact h)];simp[Beq]
section
variable {l:List Int} (hl:l.length≤1000) (h5:∀x∈l,5≤x) (hs:l.sum≤100000)
include hl h5 hs
theorem Blh:∀(j i q:Nat),i+j=l.length→j<q→Mh l q (i:Int) ((l.take i).sum) (Beq l (i+1))=some (Beq l (l.length+1),0)
 |0,i,q+1,hi,_=>by
  rw[Mh,Wn,if_neg (by rw[Af,Ac];simp;omega),show i=l.length by omega];rfl
 |j+1,i,q+1,hi,hq=>by
  have hlt:i<l.length:=by omega
  have ih:=Blh j (i+1) q (by omega) (by omega)
  have b1:=Mr h5 i
  have b2:=Mr h5 (i+1)
  have e:=Hn hlt
  rw[Byi l (i+1),e]at ih
  rw[Mh,Wn,if_pos (by rw[Af,Ac];simp;omega),Bu hlt,Aa,Ag (by omega) (by omega),Bt (by simp[Bou];omega),Aa,Aev,Apm,Ag (by omega) (by omega),Ag (by omega) (by omega)]
  exact ih
theorem Cfz(h1:1≤l.length):Afx l=some (Beq l (l.length+1),0):=by
 have h:=Blh hl h5 hs l.length 0 Al (by omega) (by have:=Ak;omega)
 have hx:∀x∈l,0≤x∧x<4294967296:=fun x hx=>by
  have:=Bdb h5 x hx
  have:=h5 x hx
  omega
 have ht:Afc l=true:=by
  rw[Afc,Bool.and_eq_true]
  exact⟨by simpa using⟨h1,hl⟩,(Ar5 l 100000 (by omega)).2 ⟨h5,hs⟩⟩
 rw[Afx,Afn,Bhc l hl hx,Aa,if_pos ht,if_neg (by rw[Aj];simp)]
 exact h
theorem Bhn(f c w r n A:Int)(hA:0≤A)(hA2:A≤200000)(k:Nat)(hk:k≤l.length):∀(j i q:Nat),i+j=k→j<q→Iq (k:Int) f c w r n A l q (A+(l.take i).sum) (i:Int)=some (A+(l.take k).sum)
 |0,i,q+1,hi,_=>by
  rw[Iq,Tt,if_neg (by rw[Af];simp;omega),show i=k by omega];rfl
 |j+1,i,q+1,hi,hq=>by
  have hlt:i<l.length:=by omega
  have ih:=Bhn f c w r n A hA hA2 k hk j (i+1) q (by omega) (by omega)
  have b1:=Mr h5 i
  have b2:=Mr h5 (i+1)
  have e:=Hn hlt
  rw[e,←Int.add_assoc]at ih
  rw[Iq,Tt,if_pos (by rw[Af];simp;omega),Bu hlt,Aa,Ag (by omega) (by omega),Ag (by omega) (by omega)]
  exact ih
theorem Ble(f c w r n A:Int)(hA:0≤A)(hA2:A≤200000)(k:Nat)(hk:k≤l.length):Alz f c w r n A l (k:Int)=some (A+(l.take k).sum):=by
 have h:=Bhn hl h5 hs f c w r n A hA hA2 k hk k 0 Al (by omega) (by have:=Ak;omega)
 rw[List.take_zero,List.sum_nil,Int.add_zero]at h
 exact h
end
theorem Bhx{g n:Nat}(hg:1≤g)(hn:1≤n){x:Int}(h:x∈framesL g n):∃m:Nat,x=m∧1≤m∧m≤n:=by
 have hmul:=Nat.div_mul_le_self (n-1) g
 rw[framesL,List.mem_append]at h
 rcases h with h|h
 ·rw[List.mem_replicate]at h
  have h1:1≤(n-1)/g:=Nat.pos_of_ne_zero h.1
  have:=Nat.mul_le_mul_right g h1
  exact⟨g,h.2,hg,by omega⟩
 ·rw[List.mem_singleton]at h
  exact⟨_,h,by omega,by omega⟩
theorem Alg{f c w r n:Nat}(h:shapeB f c w r n=true):(1≤c∧c≤6)∧BitsOk (w:Int)∧(1≤r∧r≤1048576)∧1≤n∧(f=1∨f=2):=by
 simp only[shapeB,decide_eq_true_eq]at h
 refine⟨h.2.1,?_,h.2.2.2.1,h.2.2.2.2,h.1⟩
 rcases h.2.2.1 with rfl|rfl|rfl
 ·exact .inl rfl
 ·exact .inr (.inl rfl)
 ·exact .inr (.inr rfl)
theorem Bwl{b p:List UInt8}{f c w r n A:Nat}{l:List Int}(o:Opn b p f c w r n A l)(k:Nat)(hk:k<l.length):
  ∃y:List UInt8×Int,Sk (k:Int) (framesL (longN r) n) (f:Int) (c:Int) (w:Int) (r:Int) (n:Int) (A:Int) b (tapsOf p) l (Beq l (l.length+1))=some y∧
   cadenzaref40_Got b p (f:Int) (c:Int) (w:Int) (r:Int) (n:Int) (A:Int) l (k:Int)=some y:=by
 obtain⟨hc,hw,hr,hn,_⟩:=Alg o.shape
 have hfit:n≤4000/c:=by have:=o.fit;simp only[fitB,decide_eq_true_eq]at this;exact this.1
 have hn4:n≤4000:=by have:=Nat.div_le_self 4000 c;omega
 have hA:=o.at'
 have hfile:=o.file
 have hlen:=o.len
 have b1:=Mr o.five k
 have b2:=Mr o.five (k+1)
 have e:=Hn hk
 have h5:=o.five l[k] (List.getElem_mem _)
 have hsum:=o.sum
 have hs1:=o.some1
 have hkf:k<(framesL (longN r) n).length:=by omega
 obtain⟨m,hm,m1,m2⟩:=Bhx (Ie r) hn (List.getElem_mem hkf)
 have e1:Ad (k:Int) 1=((k+1:Nat):Int):=by rw[Ag (by omega) (by omega)];omega
 rw[Sk,Ah6,if_neg (by rw[Aj];simp),if_neg (by simp[Af,Cl,Ac];omega),e1,Bib l (by omega),Bib l (by omega),Aa,Aa,Aa,Aa,Aie,Ah2,Ag (a:=(A:Int)) (b:=(l.take (k+1)).sum) (by omega) (by omega),Ag (by omega) (by omega)]
 rw[cadenzaref40_Got,Xq,Ble hs1.2 o.five o.sum _ _ _ _ _ (A:Int) (by omega) (by omega) k (by omega),Aa,Bu hk,Aa,Bc (by rw[Ac];omega) (by rw[Ac];omega)]
 by_cases hto:(b.length:Int)<(A:Int)+(l.take (k+1)).sum
 ·rw[if_pos (by rw[Am,Ac,decide_eq_true_eq];omega),if_pos (by rw[Af,Ac,decide_eq_true_eq];omega)]
  exact⟨_,rfl,rfl⟩
 ·rw[if_neg (by rw[Am,Ac,decide_eq_true_eq];omega),if_neg (by rw[Af,Ac,decide_eq_true_eq];omega),Bqb p o.pass,Avt hr.2 hn hn4]
  simp only[Aa]
  rw[Ag (a:=(A:Int)+(l.take k).sum) (b:=l[k]) (by omega) (by omega),Int.add_assoc,←e,Bu hkf,hm]
  simp only[Aa]
  rw[Ww (by omega) (by omega) (by omega),Aa,Aa]
  obtain⟨x,er,g1,g2,g3,_⟩:=Amz (ch:=c) (n:=m) (t:=tapsOf p) ((b.take ((A:Int)+(l.take (k+1)).sum).toNat).drop ((A:Int)+(l.take k).sum).toNat) hw (Ake p) hc.1 hc.2 m1 (by omega)
  rw[g1,g2,Aa,Aa]
  simp only
  rw[Aib,Ain,Xf,Xl]
  by_cases her:er=0
  ·obtain⟨g4,g5,_⟩:=g3 her
   rw[if_neg (by rw[Aj];simpa using her),if_neg (by rw[Aj];simpa using her),Biu hw g5 g4,Bku hw g5 g4,Aa,Aa]
   exact⟨_,rfl,rfl⟩
  ·rw[if_pos (by rw[Aj];simpa using her),if_pos (by rw[Aj];simpa using her)]
   exact⟨_,rfl,rfl⟩
theorem Box{b p:List UInt8}{f c w r n A:Nat}{l:List Int}(o:Opn b p f c w r n A l)(k:Int):Wj b p k=Sk k (framesL (longN r) n) (f:Int) (c:Int) (w:Int) (r:Int) (n:Int) (A:Int) b (tapsOf p) l (Beq l (l.length+1)):=by
 have hs1:=o.some1
 rw[Wj,Ail,o.prog,Aa]
 simp only
 rw[if_neg (by rw[Aj];simp),Anx o.shape o.fit,Aa]
 simp only
 rw[if_neg (by rw[Aj];simp),Cfz hs1.2 o.five o.sum hs1.1,Aa]
 simp only
 rw[if_neg (by rw[Aj];simp),Bkb p o.pass,Aa]
 simp only
 rw[if_neg (by rw[Aj];simp),Ac,←o.len,Bib l (by omega),Aa,Aa]
theorem Aym(l:List Int)(hl:l.length≤100000):∀(j i q:Nat),i+j=l.length→j<q→Ei l l q (i:Int)=some true
 |0,i,q+1,hi,_=>by
  rw[Ei,Jr,if_neg (by rw[Af,Ac];simp;omega)];rfl
 |j+1,i,q+1,hi,hq=>by
  rw[Ei,Jr,if_pos (by rw[Af,Ac];simp;omega),Bu (by omega),Aa,Aa,if_neg (by rw[Aj];simp),Ag (by omega) (by omega)]
  exact Aym l hl j (i+1) q (by omega) (by omega)
theorem Bp6(l:List Int)(hl:l.length≤100000):Ap l l=some true:=by
 rw[Ap,Ou,if_neg (by rw[Aj];simp)]
 exact Aym l hl l.length 0 Al (by omega) (by have:=Ak;omega)
end Go.Pl
