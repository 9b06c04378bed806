/- A part of the proof of a statement of this seat (see the text that ends in Proof): LwBase, LwBitB, LwLe, LwBits, LwRef02, LwCut, LwUn, LwRice, LwDual, LwVal, LwI32, LwFil, LwUnm, LwSam, LwCrc, LwFrm, LwC64, LwWby, LwId, LwApe, LwStrip, LwLen, LwHead, LwSeek, LwOpen, LwFrame, LwBack, LwGot, LwWs, LwGoes, LwPol, LwRt, LwClip, LwPts, LwTrc, LwPd, LwDt, LwDu. No conditions of its own. -/
import Derived.Test.YtfcmocdmhnafcaaGreatDoorPtBA
import Derived.Test.YtfcmocdmhnafcaaGreatDoorPtPA
set_option linter.unusedVariables false
set_option linter.unusedSimpArgs false
namespace Go.Lv
theorem Ah{a b:Int}(h: -9223372036854775808≤a+b)(h':a+b≤9223372036854775807):Ae a b=a+b:=by rw[Cfr,Cg h h']
theorem Bw{a b:Int}(h: -9223372036854775808≤a-b)(h':a-b≤9223372036854775807):Aj a b=a-b:=by rw[Cf0,Cg h h']
theorem Jl{a b:Int}(h: -9223372036854775808≤a*b)(h':a*b≤9223372036854775807):Bj a b=a*b:=by rw[Bx0,Cg h h']
theorem Aka(c:UInt8):(Ad c:Int)=(c.toNat:Int):=by rw[Bxt,Cg]<;>have:=c.toNat_lt<;>omega
theorem Bqq(c:UInt32):(Ad c:Int)=(c.toNat:Int):=by rw[Bwu,Cg]<;>have:=c.toNat_lt<;>omega
theorem Aw9(c:UInt8):(Ad c:UInt64)=UInt64.ofNat c.toNat:=by simp only[Ad,Ab4,Hw]
theorem Ji(c:UInt32):(Ad c:UInt64)=UInt64.ofNat c.toNat:=by simp only[Ad,Zv,Hw]
theorem Arj(c:UInt64):(Ad c:UInt8)=UInt8.ofNat c.toNat:=by simp only[Ad,Jn,Nk]
theorem Axv(c:UInt32):(Ad c:UInt8)=UInt8.ofNat c.toNat:=by simp only[Ad,Zv,Nk]
theorem Acz(n:Nat):(Ad (n:Int):UInt64)=UInt64.ofNat n:=by simp only[Ad];exact Hw n
theorem Bj0(n:Nat):(Ad (n:Int):UInt32)=UInt32.ofNat n:=by simp only[Ad];exact Ep n
theorem Bw8(n:Nat):(Ad (n:Int):UInt8)=UInt8.ofNat n:=by simp only[Ad];exact Nk n
theorem Bab{c:UInt64}(h:c.toNat<9223372036854775808):(Ad c:Int)=(c.toNat:Int):=by rw[Bvj,Cg]<;>omega
theorem Bs3:LIM=17179869184:=by decide
theorem Ap:36893488147419103231<FUEL:=by decide
theorem Cl{α:Type}{l:List α}{n:Nat}(h:n<l.length):getI l (n:Int)=some l[n]:=by simp[getI,h]
theorem Aav{α:Type}{l:List α}{n:Nat}(x:α)(h:n<l.length):Mn l (n:Int) x=some (l.set n x):=by simp[Mn,h]
theorem Aes{α:Type}{l:List α}{a b:Int}(h:0≤a)(h1:a≤b)(h2:b≤l.length):Az l a b=some ((l.take b.toNat).drop a.toNat):=by rw[Az,if_pos ⟨h,h1,h2⟩]
theorem Cw{α:Type}{l:List α}{a:Int}(h:0≤a)(h1:a≤l.length):Az l a (Ac l)=some (l.drop a.toNat):=by
 unfold Ac;rw[Aes h h1 (Int.le_refl _),Int.toNat_natCast,List.take_length]
theorem Cv{α:Type}{l:List α}{b:Int}(h:0≤b)(h1:b≤l.length):Az l 0 b=some (l.take b.toNat):=by rw[Aes (Int.le_refl _) h h1];rfl
theorem Cs{α:Type}{l m:List α}(h:l.length+m.length≤17179869184):Cx l m=some (l++m):=by rw[Cx,Bs3,if_pos h]
theorem Bef{α:Type}{n:Int}{z:α}(h:0≤n)(h':n≤17179869184):mkI n z=some (List.replicate n.toNat z):=by rw[mkI,Bs3,if_pos ⟨h,h'⟩]
theorem Dc{b:Bool}(h:b=true):Kj b=some ():=by rw[h];rfl
theorem Aa{α β:Type}(a:α)(f:α→Option β):Option.bind (some a) f=f a:=rfl
theorem drop_cons{α:Type}{l:List α}{n:Nat}(h:n<l.length):l.drop n=l[n]::l.drop (n+1):=List.drop_eq_getElem_cons h
theorem Akc{α:Type}{l:List α}{n:Nat}(h:n<l.length):l.take (n+1)=l.take n++[l[n]]:=by rw[List.take_add_one,List.getElem?_eq_getElem h];rfl
def Eg:List UInt8→Nat
 |[]=>0
 |x::r=>x.toNat+256*Eg r
theorem Bkw:∀l:List UInt8,Eg l<256^l.length
 |[]=>by simp[Eg]
 |x::r=>by
  have h:=Bkw r
  have:=x.toNat_lt
  simp only[Eg,List.length_cons,Nat.pow_succ]
  omega
theorem Bd6:∀l m:List UInt8,Eg (l++m)=Eg l+256^l.length*Eg m
 |[],m=>by simp[Eg]
 |x::r,m=>by
  simp only[Eg,List.cons_append,Bd6 r m,List.length_cons,Nat.pow_succ,Nat.mul_add]
  rw[Nat.mul_comm (256^r.length) 256,Nat.mul_assoc];omega
def leU(l:List UInt8):UInt64:=UInt64.ofNat (Eg l)
theorem Cc8{l:List UInt8}(h:l.length≤8):Eg l<18446744073709551616:=by
 have h1:=Bkw l
 have h2:256^l.length≤256^8:=Nat.pow_le_pow_right (by omega) h
 exact Nat.lt_of_lt_of_le h1 (by simpa using h2)
theorem Bsl{l:List UInt8}(h:l.length≤4):Eg l<4294967296:=by
 have h1:=Bkw l
 have h2:256^l.length≤256^4:=Nat.pow_le_pow_right (by omega) h
 exact Nat.lt_of_lt_of_le h1 (by simpa using h2)
theorem Ani{l:List UInt8}(h:l.length≤8):(leU l).toNat=Eg l:=by
 rw[leU,UInt64.toNat_ofNat',Nat.mod_eq_of_lt (Cc8 h)]
theorem Aha{l:List UInt8}(h:l.length≤4):(Ad (leU l):Int)=(Eg l:Int):=by
 have:=Bsl h
 rw[Bab]<;>rw[Ani (by omega)];omega
def leB(n:Nat):Nat→List UInt8
 |0=>[]
 |w+1=>UInt8.ofNat n::leB (n/256) w
theorem Ru:∀(w n:Nat),(leB n w).length=w
 |0,_=>rfl
 |w+1,n=>by simp[leB,Ru w]
theorem Boc:∀(w n:Nat),leB n (w+1)=leB n w++[UInt8.ofNat (n/256^w)]
 |0,n=>by simp[leB]
 |w+1,n=>by
  rw[leB,Boc w (n/256),leB]
  simp[Nat.div_div_eq_div_mul,Nat.pow_succ,Nat.mul_comm]
end Go.Lv
set_option linter.unusedVariables false
set_option linter.unusedSimpArgs false
namespace Go.Lv
def Lh(p:List UInt8)(i:Nat):Nat:=(p.getD (i/8) 0).toNat/2^(i %8) %2
theorem Abb(p:List UInt8)(i:Nat):Lh p i<2:=Nat.mod_lt _ (by omega)
def Ck(p:List UInt8):Nat→Nat→Nat
 |_,0=>0
 |a,n+1=>Lh p a+2*Ck p (a+1) n
theorem Uw(p:List UInt8):∀(n a:Nat),Ck p a n<2^n
 |0,_=>by simp[Ck]
 |n+1,a=>by
  have:=Uw p n (a+1)
  have:=Abb p a
  rw[Ck,Nat.pow_succ];omega
theorem Ak0(p:List UInt8):∀(m n a:Nat),Ck p a (m+n)=Ck p a m+2^m*Ck p (a+m) n
 |0,n,a=>by simp[Ck]
 |m+1,n,a=>by
  rw[show m+1+n=(m+n)+1 by omega,Ck,Ck,Ak0 p m n (a+1),show a+1+m=a+(m+1) by omega,Nat.pow_succ,Nat.mul_add,Nat.mul_comm (2^m) 2,Nat.mul_assoc];omega
theorem Bob(p:List UInt8)(a:Nat):Ck p a 1=Lh p a:=by simp[Ck]
theorem Bir(p:List UInt8)(a n:Nat):Ck p a (n+1)=Ck p a n+2^n*Lh p (a+n):=by rw[Ak0 p n 1 a,Bob]
theorem Bas(p:List UInt8)(a:Nat):∀t:Nat,a %8+t≤8→Ck p a t=(p.getD (a/8) 0).toNat/2^(a %8) %2^t
 |0,_=>by simp[Ck,Nat.mod_one]
 |t+1,h=>by
  have h1:(a+t)/8=a/8:=by omega
  have h2:(a+t) %8=a %8+t:=by omega
  rw[Bir,Bas p a t (by omega),Lh,h1,h2,Nat.mod_pow_succ,Nat.pow_add,Nat.div_div_eq_div_mul]
theorem Bjo{p:List UInt8}:∀(n a:Nat),(∀k,k<n→Lh p (a+k)=0)→Ck p a n=0
 |0,_,_=>rfl
 |n+1,a,h=>by
  have h0:=h 0 (by omega)
  rw[Ck,Bjo n (a+1) fun k hk=>by have:=h (k+1) (by omega);rwa [show a+1+k=a+(k+1) by omega]]
  rw[Nat.add_zero]at h0;omega
def okB(p:List UInt8)(n:Nat):Prop:=n≤330000∧p.length=(n+7)/8∧∀k,n≤k→k<8*p.length→Lh p k=0
def Agk(p:List UInt8)(a n:Nat):List UInt8:=(List.range ((n+7)/8)).map fun j=>UInt8.ofNat (Ck p (a+8*j) (min 8 (n-8*j)))
theorem Pz(p:List UInt8)(a n:Nat):(Agk p a n).length=(n+7)/8:=by simp[Agk]
theorem Bnd(p:List UInt8):∀(n a k:Nat),k<n→Ck p a n/2^k %2=Lh p (a+k)
 |n+1,a,0,_=>by have:=Abb p a;rw[Ck];simp;omega
 |n+1,a,k+1,h=>by
  have hb:=Abb p a
  have e:(Lh p a+2*Ck p (a+1) n)/2=Ck p (a+1) n:=by omega
  rw[Ck,Nat.pow_succ,Nat.mul_comm (2^k) 2,←Nat.div_div_eq_div_mul,e,Bnd p n (a+1) k (by omega),show a+1+k=a+(k+1) by omega]
theorem Buy(p:List UInt8)(n a k:Nat)(h:n≤k):Ck p a n/2^k %2=0:=by
 have:=Uw p n a
 rw[Nat.div_eq_of_lt (Nat.lt_of_lt_of_le this (Nat.pow_le_pow_right (by omega) h))]
theorem Cav(p:List UInt8)(a n k:Nat):Lh (Agk p a n) k=if k<n then Lh p (a+k)else 0:=by
 rw[Lh]
 by_cases hj:k/8<(n+7)/8
 ·have e:(Agk p a n).getD (k/8) 0=UInt8.ofNat (Ck p (a+8*(k/8)) (min 8 (n-8*(k/8)))):=by
   rw[List.getD_eq_getElem?_getD,List.getElem?_eq_getElem (by rw[Pz];exact hj)];simp[Agk]
  have hlt:Ck p (a+8*(k/8)) (min 8 (n-8*(k/8)))<256:=by
   have:=Uw p (min 8 (n-8*(k/8))) (a+8*(k/8))
   have h2:2^(min 8 (n-8*(k/8)))≤2^8:=Nat.pow_le_pow_right (by omega) (by omega)
   omega
  have hu:(UInt8.ofNat (Ck p (a+8*(k/8)) (min 8 (n-8*(k/8))))).toNat=Ck p (a+8*(k/8)) (min 8 (n-8*(k/8))):=by
   rw[UInt8.toNat_ofNat'];exact Nat.mod_eq_of_lt hlt
  rw[e,hu]
  by_cases hk:k<n
  ·rw[if_pos hk,Bnd p _ _ _ (by omega),show a+8*(k/8)+k %8=a+k by omega]
  ·rw[if_neg hk,Buy p _ _ _ (by omega)]
 ·have e:(Agk p a n).getD (k/8) 0=0:=by
   rw[List.getD_eq_getElem?_getD,List.getElem?_eq_none (by rw[Pz];omega)];rfl
  rw[e,if_neg (by omega)];simp
theorem Bsc(p:List UInt8)(a n:Nat)(h:n≤330000):okB (Agk p a n) n:=⟨h,Pz p a n,fun k hk _=>by rw[Cav,if_neg (by omega)]⟩
end Go.Lv
set_option linter.unusedVariables false
set_option linter.unusedSimpArgs false
namespace Go.Pl
open Go Go.Lv
theorem Bzn(b:List UInt8)(hb:b.length<4611686018427387904):∀(j q:Nat),j≤b.length→j<q→Kk b q (leU (b.drop j)) ((j:Int)-1)=some (leU b)
 |0,q+1,_,_=>by
  rw[Kk,Tv,if_neg (by rw[Ef];simp)]
  simp[Ab3,Alr]
 |j+1,q+1,hj,hq=>by
  rw[Kk,Tv,if_pos (by rw[Ef];simp),show((j+1:Nat):Int)-1=(j:Int) by omega,Cl (by omega),Aa,Bw (by omega) (by omega)]
  have h:Ae (Bj (256:UInt64) (leU (b.drop (j+1)))) (Ad b[j]:UInt64)=leU (b.drop j):=by
   rw[Aih,Aht,Aw9,drop_cons (n:=j) (by omega),leU,leU,Eg,UInt64.ofNat_add,UInt64.ofNat_mul]
   exact UInt64.add_comm _ _
  rw[h]
  exact Bzn b hb j q (by omega) (by omega)
theorem Bmq(b:List UInt8)(hb:b.length<4611686018427387904):Am b=some (leU b):=by
 have h:=Bzn b hb b.length FUEL (Nat.le_refl _) (by have:=Ap;omega)
 rw[Am,Abz,Ab7]
 have e:Aj (Ac b) 1=(b.length:Int)-1:=Bw (by unfold Ac;omega) (by unfold Ac;omega)
 rw[e,←h,List.drop_length];rfl
theorem Byh{n c:UInt64}{i:Nat}(hn:n.toNat<2^i)(hc:c.toNat*2^i<18446744073709551616):gor n (Dt c i)=UInt64.ofNat (n.toNat+c.toNat*2^i):=by
 rw[Cca];apply UInt64.toNat_inj.1
 rw[UInt64.toNat_or,Apt,Nat.mod_eq_of_lt hc,Nat.mul_comm,Nat.or_comm,←Nat.two_pow_add_eq_or_of_lt hn,UInt64.toNat_ofNat',Nat.mod_eq_of_lt,Nat.add_comm,Nat.mul_comm]
 have h:=Nat.two_pow_add_eq_or_of_lt hn c.toNat
 have h2:2^i*c.toNat+n.toNat<2^64:=by
  rw[h]
  exact Nat.or_lt_two_pow (by rw[Nat.mul_comm];simpa using hc) n.toNat_lt
 rw[Nat.add_comm];first|exact h2|(rw[Nat.mul_comm];exact h2)
theorem Bji(b:List UInt8)(hb:b.length≤8):∀(j i q:Nat),i+j=b.length→j<q→Ac8 b q (leU (b.take i)) (i:Int)=some (leU b,0)
 |0,i,q+1,hi,_=>by
  rw[Ac8,Amy,if_neg (by rw[Af,Ac];simp;omega),show i=b.length by omega,List.take_length];rfl
 |j+1,i,q+1,hi,hq=>by
  have hlt:i<b.length:=by omega
  rw[Ac8,Amy,if_pos (by rw[Af,Ac];simp;omega),Cl hlt,Aa,Jl (by omega) (by omega),Dc (by rw[Ef];simp;omega),Aa,Ah (by omega) (by omega)]
  have h:gor (leU (b.take i)) (Dt (Ad b[i]:UInt64) (GI.toZ ((8:Int)*(i:Int))).toNat)=leU (b.take (i+1)):=by
   have e:(GI.toZ ((8:Int)*(i:Int))).toNat=8*i:=by show((8:Int)*(i:Int)).toNat=_;omega
   have e2:(2:Nat)^(8*i)=256^i:=by rw[Nat.pow_mul]
   have h1:=Bkw (b.take i)
   rw[List.length_take,Nat.min_eq_left (by omega)]at h1
   have h3:=b[i].toNat_lt
   have hle:(256:Nat)^(i+1)≤256^8:=Nat.pow_le_pow_right (by omega) (by omega)
   rw[Nat.pow_succ]at hle
   have h4:(Ad b[i]:UInt64).toNat=b[i].toNat:=by rw[Aw9,UInt64.toNat_ofNat'];omega
   have h5:b[i].toNat*256^i<18446744073709551616:=by
    have:b[i].toNat*256^i<256*256^i:=Nat.mul_lt_mul_of_pos_right (by simpa using h3) (Nat.pow_pos (by omega))
    simp at hle;omega
   rw[e,Byh (by rw[Ani (by simp;omega),e2];exact h1) (by rw[h4,e2];exact h5),Ani (by simp;omega),h4,e2,Akc hlt]
   rw[leU,Bd6]
   simp only[Eg,List.length_take,Nat.min_eq_left (Nat.le_of_lt hlt),Nat.mul_zero,Nat.add_zero]
   rw[Nat.mul_comm]
  rw[h]
  exact Bji b hb j (i+1) q (by omega) (by omega)
theorem Bn8(b:List UInt8)(h1:1≤b.length)(h2:b.length≤8):Aur b=some (leU b,0):=by
 have h:=Bji b h2 b.length 0 FUEL (by omega) (by have:=Ap;omega)
 rw[Aur,Aua,if_neg (by simp[Af,As,Ac];omega),Aue]
 exact h
def part(b:List UInt8)(at' w:Nat):List UInt8:=(b.take (at'+w)).drop at'
theorem Dj{b:List UInt8}{a w:Nat}(h:a+w≤b.length):(part b a w).length=w:=by simp[part];omega
theorem Big(b:List UInt8)(a w:Nat)(h1:1≤w)(h2:w≤8)(h3:a+w≤b.length)(hb:b.length<4611686018427387904):Apn b (a:Int) (w:Int)=some (leU (part b a w),0):=by
 rw[Apn,if_neg (by simp[Af,As];omega),if_neg (by rw[As,Bw (by unfold Ac;omega) (by unfold Ac;omega),Ac];simp;omega),Ah (by omega) (by omega),Aes (by omega) (by omega) (by omega),Aa]
 rw[show((a:Int)+(w:Int)).toNat=a+w by omega,show(a:Int).toNat=a by omega]
 rw[Bn8 _ (by rw[show((b.take (a+w)).drop a).length=_ from Dj h3];exact h1) (by rw[show((b.take (a+w)).drop a).length=_ from Dj h3];exact h2),Aa];rfl
theorem Bce(w:Nat)(hw:w≤1000):∀(j i q:Nat) (n:UInt64) (acc:List UInt8),i+j=w→j<q→acc.length+j≤1000000→Fb (w:Int) q n (i:Int) acc=some (acc++leB n.toNat j)
 |0,i,q+1,n,acc,hi,_,_=>by
  rw[Fb,Lu,if_neg (by rw[Af];simp;omega)]
  simp[Sm,Ac2,leB]
 |j+1,i,q+1,n,acc,hi,hq,ha=>by
  rw[Fb,Lu,if_pos (by rw[Af];simp;omega)]
  have e:(Ad (Ada n (256:UInt64)):UInt8)=UInt8.ofNat n.toNat:=by
   rw[Arj,Boi];apply UInt8.toNat_inj.1
   rw[UInt8.toNat_ofNat',UInt8.toNat_ofNat',UInt64.toNat_mod]
   show n.toNat %256 %256=_
   omega
  have e2:(Cp n (256:UInt64)).toNat=n.toNat/256:=by rw[Ayg,UInt64.toNat_div];rfl
  rw[Cs (by simp;omega),Aa,Ah (by omega) (by omega),e]
  have h:=Bce w hw j (i+1) q (Cp n 256) (acc++[UInt8.ofNat n.toNat]) (by omega) (by omega) (by simp;omega)
  rw[e2]at h
  rw[show((i:Int)+1)=((i+1:Nat):Int) by omega,h,leB];simp
theorem Bho(n:UInt64)(w:Nat)(hw:w≤1000):De n (w:Int)=some (leB n.toNat w):=by
 rw[De,Th,Ry]
 have h:=Bce w hw w 0 FUEL n [] (by omega) (by have:=Ap;omega) (by simp;omega)
 simpa using h
theorem Avw{α:Type}{l m:List α}{x y:α}{i:Nat}(h:l.length=i):(l++x::m).set i y=l++y::m:=by subst h;simp
theorem Bi0(n:UInt64)(l4:List UInt8)(w:Nat)(hl:l4.length=w)(hw:w≤8):∀(j i q:Nat),i+j=w→j<q→Ac0 n l4 q (i:Int) (leB n.toNat i++List.replicate j 0)=some (leB n.toNat w,0)
 |0,i,q+1,hi,_=>by
  rw[Ac0,Anp,if_neg (by rw[Af,Ac];simp;omega)]
  obtain rfl:i=w:=by omega
  simp[Atr,Bcx]
 |j+1,i,q+1,hi,hq=>by
  have hlen:(leB n.toNat i++List.replicate (j+1) 0).length=i+(j+1):=by simp[Ru]
  rw[Ac0,Anp,if_pos (by rw[Af,Ac];simp;omega),Jl (by omega) (by omega),Dc (by rw[Ef];simp;omega),Aa,Cl (by rw[hlen];omega),Aa,Aav _ (by rw[hlen];omega),Aa,Ah (by omega) (by omega)]
  have e:(Ad (Ca n (GI.toZ ((8:Int)*(i:Int))).toNat):UInt8)=UInt8.ofNat (n.toNat/256^i):=by
   have e:(GI.toZ ((8:Int)*(i:Int))).toNat=8*i:=by show((8:Int)*(i:Int)).toNat=_;omega
   rw[e,Arj,Ahz,Nat.pow_mul]
  rw[e,List.replicate_succ,Avw (Ru _ _)]
  have h:=Bi0 n l4 w hl hw j (i+1) q (by omega) (by omega)
  rw[Boc]at h
  simpa using h
theorem Cc9(n:UInt64)(w:Nat)(h1:1≤w)(h2:w≤8)(h:n.toNat<256^w):Bdt n (w:Int)=some true:=by
 rw[Bdt]
 by_cases h8:w=8
 ·subst h8;rw[if_pos (by rw[Aq];rfl)]
 ·rw[if_neg (by rw[Aq];simp;omega),Jl (by omega) (by omega),Dc (by rw[Ef];simp;omega),Aa]
  have e:(GI.toZ ((8:Int)*(w:Int))).toNat=8*w:=by show((8:Int)*(w:Int)).toNat=_;omega
  rw[e,Bdm]
  have:Ca n (8*w)=0:=by
   apply UInt64.toNat_inj.1
   rw[Ahz,Nat.pow_mul]
   exact Nat.div_eq_of_lt h
  rw[this];rfl
theorem Bm7(n:UInt64)(w:Nat)(h1:1≤w)(h2:w≤8)(h:n.toNat<256^w):Abk n (w:Int)=some (leB n.toNat w,0):=by
 rw[Abk,Ats,if_neg (by simp[Af,As];omega),Cc9 n w h1 h2 h,Aa,if_neg (by simp),Bef (by omega) (by omega),Aa,Dc (by rw[Aq];simp),Aa,Auk]
 have h:=Bi0 n (List.replicate (w:Int).toNat 0) w (by simp) h2 w 0 FUEL (by omega) (by have:=Ap;omega)
 simpa [leB]using h
end Go.Pl
set_option linter.unusedVariables false
set_option linter.unusedSimpArgs false
namespace Go.Pl
open Go Go.Lv
theorem Bmz(n:Nat)(h:n<4611686018427387904):Dy (n:Int) (7:Int)=((n %8:Nat):Int):=by
 have e:Dy (n:Int) (7:Int)=wrap64 ((BitVec.ofInt 64 (n:Int)&&&BitVec.ofInt 64 7).toNat:Int):=rfl
 rw[e,BitVec.toNat_and,BitVec.toNat_ofInt,BitVec.toNat_ofInt]
 have h1:((n:Int) %((2^64:Nat):Int)).toNat=n:=by omega
 have h2:((7:Int) %((2^64:Nat):Int)).toNat=2^3-1:=by decide
 rw[h1,h2,Nat.and_two_pow_sub_one_eq_mod,Cg (by omega) (by omega)]
theorem Ch5(n:Nat):Bk8 (n:Int) (GI.toZ (3:UInt64)).toNat=((n/8:Nat):Int):=by
 have e:Bk8 (n:Int) (GI.toZ (3:UInt64)).toNat=(n:Int).fdiv 8:=rfl
 rw[e,Int.fdiv_eq_ediv_of_nonneg _ (by omega)];omega
theorem Chn{t:Nat}(h:t≤8):Aj (Dt (1:UInt8) t) (1:UInt8)=UInt8.ofNat (2^t-1):=by
 have:t=0∨t=1∨t=2∨t=3∨t=4∨t=5∨t=6∨t=7∨t=8:=by omega
 rcases this with rfl|rfl|rfl|rfl|rfl|rfl|rfl|rfl|rfl<;>decide
theorem bitsOf(c:UInt8)(off t:Nat)(h:t≤8):(Dy (Ca c off) (Aj (Dt (1:UInt8) t) (1:UInt8))).toNat=c.toNat/2^off %2^t:=by
 have hp:2^t≤2^8:=Nat.pow_le_pow_right (by omega) h
 rw[Chn h,Ccu,UInt8.toNat_and,Btx,UInt8.toNat_ofNat',Nat.mod_eq_of_lt (by have:=Nat.pow_pos (n:=t) (show 0<2 by omega);omega),Nat.and_two_pow_sub_one_eq_mod]
theorem Bgl{p:List UInt8}{k:Nat}(h:k<p.length):getI p (k:Int)=some (p.getD k 0):=by
 rw[Cl h];simp[List.getD_eq_getElem?_getD,h]
def Yy(p:List UInt8)(a n:Nat):UInt64:=UInt64.ofNat (Ck p a n)
theorem Ad2(p:List UInt8)(a n:Nat)(h:n≤64):(Yy p a n).toNat=Ck p a n:=by
 have h1:=Uw p n a
 have h2:2^n≤2^64:=Nat.pow_le_pow_right (by omega) h
 rw[Yy,UInt64.toNat_ofNat',Nat.mod_eq_of_lt (by omega)]
theorem Bo1(p:List UInt8)(N:Int)(a n:Nat)(hn:n≤64)(ha:a+n≤8*p.length)(hp:p.length≤1000000):∀(j h q:Nat),h+j=n→j<q→Ah5 (a:Int) (n:Int) p N q (Yy p a h) (h:Int)=some (Yy p a n)
 |j,h,q+1,hj,hq=>by
  rw[Ah5,Aut]
  by_cases hlt:h<n
  ·have e1:Ae (a:Int) (h:Int)=((a+h:Nat):Int):=by rw[Ah (by omega) (by omega)];omega
   have e2:Eh (Aj (n:Int) (h:Int)) (Aj (8:Int) (((a+h) %8:Nat):Int))=((min (n-h) (8-(a+h) %8):Nat):Int):=by
    rw[An1,Bw (by omega) (by omega),Bw (by omega) (by omega)];omega
   have hm:(a+h)/8<p.length:=by omega
   rw[if_pos (by rw[Af];simp;omega),e1,Ch5,Bgl hm,Aa,Bmz _ (by omega),Dc (by rw[Ef];simp;omega),Aa,e2,Dc (by rw[Ef];simp),Aa,Dc (by rw[Ef];simp),Aa]
   generalize hT:min (n-h) (8-(a+h) %8)=T
   have hT8:T≤8:=by omega
   have hT1:1≤T:=by omega
   have hb:(a+h) %8+T≤8:=by omega
   have hv:=Bas p (a+h) T hb
   have z1:(GI.toZ (((a+h) %8:Nat):Int)).toNat=(a+h) %8:=rfl
   have z2:(GI.toZ ((T:Nat):Int)).toNat=T:=rfl
   have z3:(GI.toZ ((h:Nat):Int)).toNat=h:=rfl
   rw[z1,z2,z3]
   have hx:(Ad (Dy (Ca (p.getD ((a+h)/8) 0) ((a+h) %8)) (Aj (Dt (1:UInt8) T) (1:UInt8))):UInt64).toNat=Ck p (a+h) T:=by
    rw[Aw9,UInt64.toNat_ofNat',bitsOf _ _ _ hT8,←hv]
    have:=Uw p T (a+h)
    have h2:2^T≤2^8:=Nat.pow_le_pow_right (by omega) hT8
    omega
   have hlt2:=Uw p (h+T) a
   rw[Ak0]at hlt2
   have h64:2^(h+T)≤2^64:=Nat.pow_le_pow_right (by omega) (by omega)
   have hor:gor (Yy p a h) (Dt (Ad (Dy (Ca (p.getD ((a+h)/8) 0) ((a+h) %8)) (Aj (Dt (1:UInt8) T) (1:UInt8))):UInt64) h)=Yy p a (h+T):=by
    rw[Byh (by rw[Ad2 p a h (by omega)];exact Uw p h a) (by rw[hx,Nat.mul_comm];omega),hx,Ad2 p a h (by omega),Yy,Ak0,Nat.mul_comm (2^h)]
   rw[hor,Ah (by omega) (by omega),show(h:Int)+((T:Nat):Int)=((h+T:Nat):Int) by omega]
   exact Bo1 p N a n hn ha hp (j-T) (h+T) q (by omega) (by omega)
  ·rw[if_neg (by rw[Af];simp;omega),show h=n by omega];rfl
theorem get_eq(p:List UInt8)(N:Int)(a n:Nat)(hn:n≤64)(ha:a+n≤8*p.length)(hp:p.length≤1000000):Az1 p N (a:Int) (n:Int)=some (Yy p a n):=by
 have:=Bo1 p N a n hn ha hp n 0 FUEL (by omega) (by have:=Ap;omega)
 exact this
theorem Akd{p:List UInt8}{n:Nat}(h:okB p n):Km p (n:Int)=some 0:=by
 obtain⟨h1,h2,h3⟩:=h
 have e7:Ae (n:Int) 7=((n+7:Nat):Int):=by rw[Ah (by omega) (by omega)];omega
 rw[Km,e7,Ch5,if_neg (by simp[Af,As,Ak,Ac,h2];omega),Bmz _ (by omega)]
 by_cases hz:n %8=0
 ·rw[if_neg (by rw[As];simp;omega)]
 ·have el:Aj (Ac p) 1=((p.length-1:Nat):Int):=by rw[Ac,Bw (by omega) (by omega)];omega
  rw[if_pos (by rw[As];simp;omega),el,Bgl (by omega),Aa,Dc (by rw[Ef];simp;omega),Aa]
  have z:(GI.toZ ((n %8:Nat):Int)).toNat=n %8:=rfl
  have hs:Ca (p.getD (p.length-1) 0) (n %8)=0:=by
   apply UInt8.toNat_inj.1
   rw[Btx]
   have hv:=Bas p n (8-n %8) (by omega)
   have h0:Ck p n (8-n %8)=0:=Bjo _ _ fun k hk=>h3 _ (by omega) (by omega)
   rw[h0,show n/8=p.length-1 by omega]at hv
   have hlt:(p.getD (p.length-1) 0).toNat/2^(n %8)<2^(8-n %8):=by
    have:=(p.getD (p.length-1) 0).toNat_lt
    rw[Nat.div_lt_iff_lt_mul (Nat.pow_pos (by omega)),←Nat.pow_add,show 8-n %8+n %8=8 by omega];simpa using this
   rw[Nat.mod_eq_of_lt hlt]at hv
   exact hv.symm
  rw[z,hs,if_neg (by rw[Bre];simp)]
theorem Bbh{p:List UInt8}{N:Nat}(h:okB p N)(a n:Nat)(hn:n≤64):Aex p (N:Int) (a:Int) (n:Int)=some (if N<a+n then(0,24)else(Yy p a n,0)):=by
 obtain⟨h1,h2,h3⟩:=h
 rw[Aex,Akd ⟨h1,h2,h3⟩,Aa,if_neg (by rw[Ak];simp),if_neg (by simp[Af,As];omega),Bw (by omega) (by omega)]
 by_cases hl:N<a+n
 ·rw[if_pos (by rw[As];simp;omega),if_pos hl]
 ·rw[if_neg (by rw[As];simp;omega),get_eq p N a n hn (by omega) (by omega),Aa,if_neg hl]
end Go.Pl
set_option linter.unusedVariables false
set_option linter.unusedSimpArgs false
namespace Go.Pl
open Go Go.Lv
theorem Cip(c:Nat)(h:c<4611686018427387904):Cp (c:Int) (2:Int)=((c/2:Nat):Int):=by
 rw[Aiy,Int.tdiv_eq_ediv_of_nonneg (by omega),Cg (by omega) (by omega)];omega
theorem Chs(c:Nat)(h:c<4611686018427387904):Cp (c:Int) (8:Int)=((c/8:Nat):Int):=by
 rw[Aiy,Int.tdiv_eq_ediv_of_nonneg (by omega),Cg (by omega) (by omega)];omega
theorem Bxh(c:Nat):Ho (c:Int) (8:Int)=((c %8:Nat):Int):=by rw[Ho,Int.tmod_eq_emod_of_nonneg (by omega)];omega
theorem Cid(c:Nat):Ho (c:Int) (2:Int)=((c %2:Nat):Int):=by rw[Ho,Int.tmod_eq_emod_of_nonneg (by omega)];omega
theorem Bsm(i c:Nat)(hc:c<256):∀(j k q:Nat),k+j=i %8→j<q→Kb (i:Int) q ((c/2^k:Nat):Int) (k:Int)=some (((c/2^(i %8) %2:Nat):Int))
 |0,k,q+1,hk,_=>by
  rw[Kb,Um,Bxh,if_neg (by rw[Af];simp;omega),Abv,Amg,Cid,show k=i %8 by omega]
 |j+1,k,q+1,hk,hq=>by
  have hle:c/2^k≤c:=Nat.div_le_self _ _
  rw[Kb,Um,Bxh,if_pos (by rw[Af];simp;omega),Cip _ (by omega),Ah (by omega) (by omega),Nat.div_div_eq_div_mul,←Nat.pow_succ]
  exact Bsm i c hc j (k+1) q (by omega) (by omega)
theorem Bae(p:List UInt8)(N:Int)(i:Nat)(h:i/8<p.length)(hi:i<4611686018427387904):Je p N (i:Int)=some ((Lh p i:Nat):Int):=by
 have hc:=(p.getD (i/8) 0).toNat_lt
 have:=Bsm i (p.getD (i/8) 0).toNat (by simpa using hc) (i %8) 0 FUEL (by omega) (by have:=Ap;omega)
 rw[Je,Aca,Chs _ hi,Bgl h,Aa,Aka,Acd]
 simpa [Lh]using this
theorem Bfg(p:List UInt8)(N:Int)(a n:Nat)(ha:a+n≤8*p.length)(hp:p.length≤1000000):∀(j q:Nat),j≤n→j<q→Gs (a:Int) p N q (Yy p (a+j) (n-j)) ((j:Int)-1)=some (Yy p a n)
 |0,q+1,_,_=>by
  rw[Gs,Oo,if_neg (by rw[Ef];simp)];rfl
 |j+1,q+1,hj,hq=>by
  have hb:=Abb p (a+j)
  rw[Gs,Oo,show((j+1:Nat):Int)-1=(j:Int) by omega,if_pos (by rw[Ef];simp),Ah (a:=(a:Int)) (by omega) (by omega),show(a:Int)+(j:Int)=((a+j:Nat):Int) by omega,Bae p N (a+j) (by omega) (by omega),Aa,Bw (by omega) (by omega)]
  have e:Ae (Bj (2:UInt64) (Yy p (a+(j+1)) (n-(j+1)))) (Ad ((Lh p (a+j):Nat):Int):UInt64)=Yy p (a+j) (n-j):=by
   rw[Aih,Aht,Acz,Yy,Yy,show n-j=(n-(j+1))+1 by omega,Ck,show a+j+1=a+(j+1) by omega,UInt64.ofNat_add,UInt64.ofNat_mul]
   exact UInt64.add_comm _ _
  rw[e]
  exact Bfg p N a n ha hp j q (by omega) (by omega)
theorem Ax0(p:List UInt8)(N:Int)(a n:Nat)(ha:a+n≤8*p.length)(hp:p.length≤1000000):Nj p N (a:Int) (n:Int)=some (Yy p a n):=by
 have:=Bfg p N a n ha hp n FUEL (Nat.le_refl _) (by have:=Ap;omega)
 have hz:Yy p (a+n) (n-n)=0:=by rw[Nat.sub_self];rfl
 rw[hz]at this
 rw[Nj,Wa,Wl,Bw (by omega) (by omega)]
 exact this
theorem Btd(bit:Int)(N:Nat)(l:List UInt8):∀(j k q:Nat),k+j=N %8→j<q→Jd bit (N:Int) l q ((2^k:Nat):Int) (k:Int)=Ri bit ((2^(N %8):Nat):Int) (N:Int) l
 |0,k,q+1,hk,_=>by
  rw[Jd,Rn,Bxh,if_neg (by rw[Af];simp;omega),show k=N %8 by omega]
 |j+1,k,q+1,hk,hq=>by
  have hp:2^k≤2^8:=Nat.pow_le_pow_right (by omega) (by omega)
  have e:Bj ((2^k:Nat):Int) 2=((2^(k+1):Nat):Int):=by
   rw[Nat.pow_succ]
   generalize 2^k=K at*
   rw[Jl (by omega) (by omega)];omega
  rw[Jd,Rn,Bxh,if_pos (by rw[Af];simp;omega),e,Ah (by omega) (by omega)]
  exact Btd bit N l j (k+1) q (by omega) (by omega)
theorem Bg4(p:List UInt8)(a n j:Nat)(h:j<(n+7)/8):(Agk p a n)[j]'(by rw[Pz];exact h)=UInt8.ofNat (Ck p (a+8*j) (min 8 (n-8*j))):=by simp[Agk]
theorem Bmn(p:List UInt8)(a t:Nat)(h:t≤8):Ck p a t<256:=by
 have h1:=Uw p t a
 have h2:2^t≤2^8:=Nat.pow_le_pow_right (by omega) h
 omega
def room(p:List UInt8)(a n:Nat):List UInt8:=if n %8=0 then Agk p a n++[0]else Agk p a n
theorem Abi(p:List UInt8)(a n:Nat):(room p a n).length=n/8+1:=by
 rw[room];split<;>simp[Pz]<;>omega
theorem Bn5(p:List UInt8)(a n j:Nat)(h:j<n/8+1):(room p a n)[j]'(by rw[Abi];exact h)=UInt8.ofNat (Ck p (a+8*j) (min 8 (n-8*j))):=by
 have h0:(room p a n)[j]? =some (UInt8.ofNat (Ck p (a+8*j) (min 8 (n-8*j)))):=by
  rw[room]
  split
  ·by_cases hj:j<(n+7)/8
   ·rw[List.getElem?_append_left (by rw[Pz];exact hj),List.getElem?_eq_getElem (by rw[Pz];exact hj),Bg4 p a n j hj]
   ·rw[List.getElem?_append_right (by rw[Pz];omega),Pz,show j-(n+7)/8=0 by omega,show n-8*j=0 by omega];rfl
  ·rw[List.getElem?_eq_getElem (by rw[Pz];omega),Bg4 p a n j (by omega)]
 rw[List.getElem?_eq_getElem (by rw[Abi];exact h)]at h0
 exact Option.some.inj h0
theorem Bmb(p:List UInt8)(a n T:Nat)(h1:1≤T)(h:n %8+T≤8):(room p a n).set (n/8) (UInt8.ofNat (Ck p (a+8*(n/8)) (n %8+T)))=Agk p a (n+T):=by
 apply List.ext_getElem (by rw[List.length_set,Abi,Pz];omega)
 intro j g1 g2
 rw[List.length_set,Abi]at g1
 rw[List.getElem_set,Bg4 p a (n+T) j (by rw[Pz]at g2;exact g2)]
 split
 ·rename_i e;subst e;rw[show min 8 (n+T-8*(n/8))=n %8+T by omega]
 ·rw[Bn5 p a n j g1,show min 8 (n-8*j)=8 by omega,show min 8 (n+T-8*j)=8 by omega]
theorem Biu(p:List UInt8)(a n:Nat):(room p a n)[n/8]'(by rw[Abi];omega)=UInt8.ofNat (Ck p (a+8*(n/8)) (n %8)):=by
 rw[Bn5 p a n _ (by omega),show min 8 (n-8*(n/8))=n %8 by omega]
theorem Cam(p:List UInt8)(a n:Nat)(hn:n≤400000):Tf (Agk p a n) (n:Int) ((Lh p (a+n):Nat):Int)=some (Agk p a (n+1),((n+1:Nat):Int)):=by
 have hb:=Abb p (a+n)
 have hp:2^(n %8)≤2^7:=Nat.pow_le_pow_right (by omega) (by omega)
 have hroom:Tf (Agk p a n) (n:Int) ((Lh p (a+n):Nat):Int)=Rp ((Lh p (a+n):Nat):Int) (n:Int) (room p a n):=by
  rw[Tf,Aaq,Bxh,room]
  by_cases h0:n %8=0
  ·rw[if_pos (by rw[Aq,h0];rfl),Cs (by rw[Pz];simp;omega),Aa,if_pos h0]
  ·rw[if_neg (by rw[Aq];simp;omega),if_neg h0]
 have hl:=Btd ((Lh p (a+n):Nat):Int) n (room p a n) (n %8) 0 FUEL (by omega) (by have:=Ap;omega)
 rw[hroom,Rp,Aa1,Aa0]
 refine Eq.trans hl ?_
 have hg:getI (room p a n) ((n/8:Nat):Int)=some (UInt8.ofNat (Ck p (a+8*(n/8)) (n %8))):=by
  rw[Cl (by rw[Abi];omega),Biu]
 have hlt:=Bmn p (a+8*(n/8)) (n %8+1) (by omega)
 have hsn:=Bir p (a+8*(n/8)) (n %8)
 rw[show a+8*(n/8)+n %8=a+n by omega]at hsn
 have hm:Bj ((Lh p (a+n):Nat):Int) ((2^(n %8):Nat):Int)=((2^(n %8)*Lh p (a+n):Nat):Int):=by
  have hle:2^(n %8)*Lh p (a+n)≤2^7*1:=Nat.mul_le_mul hp (by omega)
  rw[Bx0,←Int.natCast_mul,Cg (by omega) (by rw[Nat.mul_comm];omega),Nat.mul_comm]
 have hx:Ae (UInt8.ofNat (Ck p (a+8*(n/8)) (n %8))) (Ad (((2^(n %8)*Lh p (a+n):Nat):Int)):UInt8)=UInt8.ofNat (Ck p (a+8*(n/8)) (n %8+1)):=by
  rw[Cd0,Bw8,hsn,UInt8.ofNat_add]
 rw[Ri,Ajn,Chs _ (by omega),hg,Aa,Aa,Aa,hm,hx,Aav _ (by rw[Abi];omega),Aa,Bmb p a n 1 (by omega) (by omega),Ah (by omega) (by omega)];rfl
theorem Azw(p:List UInt8)(N:Int)(a n:Nat)(ha:a+n≤8*p.length)(hp:p.length≤1000000)(hn:n≤300000):∀(j m q:Nat),m+j=n→j<q→Ez ((a+n:Nat):Int) p N q ((a+m:Nat):Int) (m:Int) (Agk p a m)=some (Agk p a n,(n:Int))
 |0,m,q+1,hm,_=>by
  rw[Ez,Ln,if_neg (by rw[Af];simp;omega),show m=n by omega];rfl
 |j+1,m,q+1,hm,hq=>by
  rw[Ez,Ln,if_pos (by rw[Af];simp;omega),Bae p N (a+m) (by omega) (by omega),Aa,Cam p a m (by omega),Aa]
  simp only
  rw[Ah (by omega) (by omega)]
  exact Azw p N a n ha hp hn j (m+1) q (by omega) (by omega)
theorem Bpl(p:List UInt8)(N:Int)(a n:Nat)(ha:a+n≤8*p.length)(hp:p.length≤1000000)(hn:n≤300000):Yp p N (a:Int) ((a+n:Nat):Int)=some (Agk p a n,(n:Int)):=by
 have:=Azw p N a n ha hp hn n 0 FUEL (by omega) (by have:=Ap;omega)
 exact this
end Go.Pl
set_option linter.unusedVariables false
set_option linter.unusedSimpArgs false
namespace Go.Pl
open Go Go.Lv
theorem Ce4{t:Nat}(h:t≤8):Aj (Dt (1:UInt64) t) (1:UInt64)=UInt64.ofNat (2^t-1):=by
 have:t=0∨t=1∨t=2∨t=3∨t=4∨t=5∨t=6∨t=7∨t=8:=by omega
 rcases this with rfl|rfl|rfl|rfl|rfl|rfl|rfl|rfl|rfl<;>decide
theorem Cih(v:UInt64){t:Nat}(h:t≤8):(Dy v (Aj (Dt (1:UInt64) t) (1:UInt64))).toNat=v.toNat %2^t:=by
 have hp:2^t≤2^8:=Nat.pow_le_pow_right (by omega) h
 rw[Ce4 h,Bfp,UInt64.toNat_and,UInt64.toNat_ofNat',Nat.mod_eq_of_lt (by have:=Nat.pow_pos (n:=t) (show 0<2 by omega);omega),Nat.and_two_pow_sub_one_eq_mod]
theorem or8{v w i:Nat}(hv:v<2^i)(hw:w*2^i<256)(hi:i<8):gor (UInt8.ofNat v) (Dt (UInt8.ofNat w) i)=UInt8.ofNat (v+w*2^i):=by
 have hp:2^i≤2^8:=Nat.pow_le_pow_right (by omega) (by omega)
 have hpos:0<2^i:=Nat.pow_pos (by omega)
 have hw2:w<256:=Nat.lt_of_le_of_lt (Nat.le_mul_of_pos_right w hpos) hw
 rw[Ce9];apply UInt8.toNat_inj.1
 have e1:(UInt8.ofNat v).toNat=v:=by rw[UInt8.toNat_ofNat',Nat.mod_eq_of_lt (by omega)]
 have e2:(UInt8.ofNat w).toNat=w:=by rw[UInt8.toNat_ofNat',Nat.mod_eq_of_lt (by omega)]
 rw[UInt8.toNat_or,Cc3,e1,e2,Nat.mod_eq_of_lt hw,Nat.mul_comm w,Nat.or_comm,←Nat.two_pow_add_eq_or_of_lt hv,UInt8.toNat_ofNat',Nat.add_comm v]
 rw[Nat.mul_comm]at hw
 have hb:2^i*w+v<256:=by
  rw[Nat.two_pow_add_eq_or_of_lt hv]
  exact Nat.or_lt_two_pow (n:=8) hw (by omega)
 rw[Nat.mod_eq_of_lt hb]
theorem Bzt(p:List UInt8)(a n T:Nat)(h:T≤n)(hn:n≤64):Ca (Yy p a n) T=Yy p (a+T) (n-T):=by
 apply UInt64.toNat_inj.1
 rw[Ahz,Ad2 p a n hn,Ad2 p (a+T) (n-T) (by omega)]
 have:=Uw p T a
 conv=>lhs;rw[show n=T+(n-T) by omega,Ak0,Nat.add_mul_div_left _ _ (Nat.pow_pos (by omega)),Nat.div_eq_of_lt this,Nat.zero_add]
theorem Bxw(p:List UInt8)(a n T:Nat)(h:T≤n)(hn:n≤64):(Yy p a n).toNat %2^T=Ck p a T:=by
 have:=Uw p T a
 rw[Ad2 p a n hn]
 conv=>lhs;rw[show n=T+(n-T) by omega,Ak0,Nat.add_mul_mod_self_left,Nat.mod_eq_of_lt this]
theorem Bgm(bk:Int→Int→List UInt8→Option (List UInt8×Int×Int))(to':Int)(p:List UInt8)(N fr:Int)(r6:UInt64)(a:Nat):∀(j m q:Nat),m+j≤300000→j≤64→j<q→
  Po bk to' p N fr r6 q (Yy p (a+m) j) (j:Int) (m:Int) (Agk p a m)=Aj0 bk to' p N fr ((m+j:Nat):Int) (Agk p a (m+j))
 |0,m,q+1,_,_,_=>by
  rw[Po,Aj5,if_neg (by rw[As];simp)];rfl
 |j+1,m,q+1,hm,hj,hq=>by
  have hroom:Po bk to' p N fr r6 (q+1) (Yy p (a+m) (j+1)) ((j+1:Nat):Int) (m:Int) (Agk p a m)=Aju (Po bk to' p N fr r6 q) to' fr p N r6 (Yy p (a+m) (j+1)) ((j+1:Nat):Int) (m:Int) (room p a m):=by
   rw[Po,Aj5,if_pos (by rw[As];simp),Bmz m (by omega),room]
   by_cases h0:m %8=0
   ·rw[if_pos (by rw[Aq,h0];rfl),Cs (by rw[Pz];simp;omega),Aa,if_pos h0]
   ·rw[if_neg (by rw[Aq];simp;omega),if_neg h0]
  have hl:Aj (Ac (room p a m)) 1=((m/8:Nat):Int):=by
   rw[Ac,Abi,Bw (by omega) (by omega)];omega
  have e2:Eh ((j+1:Nat):Int) (Aj (8:Int) ((m %8:Nat):Int))=((min (j+1) (8-m %8):Nat):Int):=by
   rw[An1,Bw (by omega) (by omega)];omega
  rw[hroom,Aju,Ard,Bmz m (by omega),e2,hl]
  generalize hT:min (j+1) (8-m %8)=T
  have hT1:1≤T:=by omega
  have hT8:m %8+T≤8:=by omega
  have hg:getI (room p a m) ((m/8:Nat):Int)=some (UInt8.ofNat (Ck p (a+8*(m/8)) (m %8))):=by
   rw[Cl (by rw[Abi];omega),Biu]
  have z1:(GI.toZ ((m %8:Nat):Int)).toNat=m %8:=rfl
  have z2:(GI.toZ ((T:Nat):Int)).toNat=T:=rfl
  have hlt:=Bmn p (a+8*(m/8)) (m %8+T) (by omega)
  have hadd:=Ak0 p (m %8) T (a+8*(m/8))
  rw[show a+8*(m/8)+m %8=a+m by omega]at hadd
  have hbyte:(Ad (Dy (Yy p (a+m) (j+1)) (Aj (Dt (1:UInt64) T) (1:UInt64))):UInt8)=UInt8.ofNat (Ck p (a+m) T):=by
   rw[Arj,Cih _ (by omega),Bxw p (a+m) (j+1) T (by omega) hj]
  have hnew:gor (UInt8.ofNat (Ck p (a+8*(m/8)) (m %8))) (Dt (UInt8.ofNat (Ck p (a+m) T)) (m %8))=UInt8.ofNat (Ck p (a+8*(m/8)) (m %8+T)):=by
   rw[or8 (Uw _ _ _) (by rw[Nat.mul_comm];omega) (by omega),hadd,Nat.mul_comm (2^(m %8))]
  rw[hg,z1,z2,hbyte]
  simp only[Aa]
  rw[Dc (by rw[Ef];simp),Aa,Dc (by rw[Ef];simp;omega),Aa,hnew,Aav _ (by rw[Abi];omega),Aa,Bmb p a m T hT1 hT8,Aqp,Ay8,Bmz m (by omega),e2,hT,Dc (by rw[Ef];simp),Aa,z2,Bzt p (a+m) (j+1) T (by omega) hj,Bw (by omega) (by omega),Ah (by omega) (by omega)]
  have ih:=Bgm bk to' p N fr r6 a (j+1-T) (m+T) q (by omega) (by omega) (by omega)
  rw[show m+T+(j+1-T)=m+(j+1) by omega]at ih
  rw[←ih,show a+m+T=a+(m+T) by omega,show((j+1:Nat):Int)-((T:Nat):Int)=((j+1-T:Nat):Int) by omega,show(m:Int)+((T:Nat):Int)=((m+T:Nat):Int) by omega]
theorem Bo6(p:List UInt8)(N:Int)(a n:Nat)(ha:a+n≤8*p.length)(hp:p.length≤1000000)(hn:n≤300000):∀(j m f q:Nat),(f=m∨n≤f∧m=n)→m+j=n→f≤n+64→j<q→Aac ((a+n:Nat):Int) p N q ((a+f:Nat):Int) (m:Int) (Agk p a m)=some (Agk p a n,(n:Int),0)
 |j,m,f,q+1,hf,hm,hf2,hq=>by
  rw[Aac,Aqx]
  by_cases hlt:f<n
  ·obtain rfl:f=m:=by omega
   have e1:Eh (64:Int) (Aj ((a+n:Nat):Int) ((a+f:Nat):Int))=((min 64 (n-f):Nat):Int):=by
    rw[An1,Bw (by omega) (by omega)];omega
   rw[if_pos (by rw[Af];simp;omega),e1,get_eq p N (a+f) _ (by omega) (by omega) hp,Aa,Ara]
   have h1:=Bgm (Aac ((a+n:Nat):Int) p N q) ((a+n:Nat):Int) p N ((a+f:Nat):Int) (Yy p (a+f) (min 64 (n-f))) a (min 64 (n-f)) f FUEL (by omega) (by omega) (by have:=Ap;omega)
   refine Eq.trans h1 ?_
   rw[Aj0,Azy,Ah (by omega) (by omega),show((a+f:Nat):Int)+64=((a+(f+64):Nat):Int) by omega]
   exact Bo6 p N a n ha hp hn (j-min 64 (n-f)) (f+min 64 (n-f)) (f+64) q (by omega) (by omega) (by omega) (by omega)
  ·rw[if_neg (by rw[Af];simp;omega),Are,Ayo,show m=n by omega]
theorem Cfn{p:List UInt8}{N:Nat}(h:okB p N)(a n:Nat)(ha:a+n≤N)(hn:n≤300000):Auy p (N:Int) (a:Int) ((a+n:Nat):Int)=some (Agk p a n,(n:Int),0):=by
 obtain⟨h1,h2,h3⟩:=h
 have:=Bo6 p N a n (by omega) (by omega) hn n 0 0 FUEL (by omega) (by omega) (by omega) (by have:=Ap;omega)
 rw[Auy,Atk,Akd ⟨h1,h2,h3⟩,Aa,if_neg (by rw[Ak];simp),if_neg (by simp[Af,As];omega),Aqj]
 exact this
end Go.Pl
set_option linter.unusedVariables false
set_option linter.unusedSimpArgs false
namespace Go.Pl
open Go Go.Lv
def Gp(p:List UInt8):Nat→Nat→Nat
 |_,0=>0
 |a,m+1=>if Lh p a=1 then 1+Gp p (a+1) m else 0
theorem Anl(p:List UInt8):∀(m a:Nat),Gp p a m≤m
 |0,_=>Nat.le_refl _
 |m+1,a=>by rw[Gp];split<;>have:=Anl p m (a+1)<;>omega
theorem Boe(p:List UInt8):∀(m a:Nat),∃s,Ck p a m+1=2^(Gp p a m+1)*s+2^Gp p a m∧(Gp p a m=m→s=0)
 |0,a=>⟨0,by simp[Ck,Gp],fun _=>rfl⟩
 |m+1,a=>by
  have hb:=Abb p a
  obtain⟨s,h1,h2⟩:=Boe p m (a+1)
  by_cases h:Lh p a=1
  ·refine⟨s,?_,fun e=>h2 ?_⟩
   ·rw[Gp,if_pos h,Ck,h,show 1+Gp p (a+1) m+1=(Gp p (a+1) m+1)+1 by omega,show 1+Gp p (a+1) m=Gp p (a+1) m+1 by omega,Nat.pow_succ,Nat.pow_succ (n:=2) (m:=Gp p (a+1) m)]
    rw[Nat.pow_succ]at h1
    generalize Ck p (a+1) m=V at*
    generalize 2^Gp p (a+1) m=W at*
    have e1:W*2*2*s=2*(W*2*s):=by rw[Nat.mul_right_comm (W*2) 2 s,Nat.mul_comm]
    omega
   ·rw[Gp,if_pos h]at e;omega
  ·refine⟨Ck p (a+1) m,?_,fun e=>?_⟩
   ·rw[Gp,if_neg h,Ck];simp;omega
   ·rw[Gp,if_neg h]at e;omega
theorem Cbr{n t s:Nat}(h:2^(t+1)*s+2^t≤2^n)(ht:t<n)(x:Nat)(hx:x=2^n-(2^(t+1)*s+2^t)):x&&& (2^(t+1)*s+2^t)=2^t:=by
 have hpos:0<2^t:=Nat.pow_pos (by omega)
 have hlt:2^t<2^(t+1):=by rw[Nat.pow_succ];omega
 have e:x=2^n-((2^(t+1)*s+(2^t-1))+1):=by rw[hx];congr 1;omega
 apply Nat.eq_of_testBit_eq
 intro i
 rw[Nat.testBit_and,e,Nat.testBit_two_pow_sub_succ (by omega),Nat.testBit_two_pow_mul_add _ (by omega),Nat.testBit_two_pow_mul_add _ hlt]
 by_cases hi:i<t+1
 ·rw[if_pos hi,if_pos hi,Nat.testBit_two_pow_sub_one,Nat.testBit_two_pow]
  by_cases hit:t=i
  ·subst hit;simp;exact ht
  ·have:¬i=t:=fun e=>hit e.symm
   simp[hit]
 ·rw[if_neg hi,if_neg hi,Nat.testBit_two_pow]
  have:¬t=i:=by omega
  simp[this]
theorem Bzk(a:UInt64):(Bfx a).toNat=18446744073709551615-a.toNat:=by
 have h:=a.toNat_lt
 have e:Bfx a=UInt64.ofNat (BitVec.ofInt 64 18446744073709551615^^^BitVec.ofInt 64 (a.toNat:Int)).toNat:=Hw _
 have h1:BitVec.ofInt 64 (a.toNat:Int)=a.toBitVec:=Blo a
 have h2:(BitVec.ofInt 64 18446744073709551615:BitVec 64)=BitVec.allOnes 64:=by decide
 rw[e,UInt64.toNat_ofNat',h1,h2,BitVec.allOnes_xor,BitVec.toNat_not]
 show(18446744073709551616-1-a.toNat) %18446744073709551616=18446744073709551615-a.toNat
 omega
theorem Bz2(a:UInt64):(Ayf a).toNat=(18446744073709551616-a.toNat) %18446744073709551616:=by
 have h:=a.toNat_lt
 have e:Ayf a=UInt64.ofNat ((0-(a.toNat:Int)) %18446744073709551616).toNat:=Blz _
 rw[e,UInt64.toNat_ofNat']
 show((0-(a.toNat:Int)) %18446744073709551616).toNat %18446744073709551616=_
 omega
def Ch1:List UInt8:=[0,1,56,2,57,49,28,3,61,58,42,50,38,29,17,4,62,47,59,36,45,43,51,22,53,39,33,30,24,18,12,5,63,55,48,27,60,41,37,16,46,35,44,21,52,32,23,11,54,26,40,15,34,20,31,10,25,14,19,9,13,8,7,6]
theorem Buv:∀t:Fin 64,getI Ch1 (GI.toZ (Ca (Bj (UInt64.ofNat (2^t.val)) (285870213051353865:UInt64)) (GI.toZ (58:UInt64)).toNat))=some (UInt8.ofNat t.val):=by decide +kernel
theorem Chy(x:UInt64)(t s:Nat)(ht:t<64)(h:x.toNat+(2^(t+1)*s+2^t)=18446744073709551616):Ge x=some (t:Int):=by
 have hpos:0<2^t:=Nat.pow_pos (by omega)
 have hx:x.toNat=2^64-(2^(t+1)*s+2^t):=by show x.toNat=18446744073709551616-_;omega
 have hle:2^t≤2^63:=Nat.pow_le_pow_right (by omega) (by omega)
 have hne:x≠0:=by
  intro e
  rw[e]at h
  have h':2^t*(2*s+1)=2^64:=by
   rw[Nat.mul_add,Nat.mul_one,←Nat.mul_assoc,←Nat.pow_succ]
   show _=18446744073709551616
   simpa using h
  have h2:2^64=2^t*2^(64-t):=by rw[←Nat.pow_add];congr 1;omega
  rw[h2]at h'
  have h3:=Nat.eq_of_mul_eq_mul_left hpos h'
  rw[show 64-t=(63-t)+1 by omega,Nat.pow_succ]at h3
  omega
 have hx0:x.toNat≠0:=fun e=>hne (UInt64.toNat_inj.1 e)
 have hl:Dy x (Ayf x)=UInt64.ofNat (2^t):=by
  apply UInt64.toNat_inj.1
  rw[Bfp,UInt64.toNat_and,Bz2,show(18446744073709551616-x.toNat) %18446744073709551616=2^(t+1)*s+2^t by omega,Cbr (n:=64) (by show _≤18446744073709551616;omega) ht _ hx,UInt64.toNat_ofNat',Nat.mod_eq_of_lt]
  exact Nat.lt_of_le_of_lt hle (by decide)
 have hb:=Buv ⟨t,ht⟩
 rw[Ge,if_neg (by rw[Bdm];simpa using hne),hl]
 refine Eq.trans (congrArg (fun o=>Option.bind o fun c=>some (Ad c:Int)) hb) ?_
 rw[Aa,Aka,UInt8.toNat_ofNat',Nat.mod_eq_of_lt (by show t<256;omega)]
theorem Cck(p:List UInt8)(a m:Nat)(hm:m≤48):Ge (Bfx (Yy p a m))=some ((Gp p a m:Nat):Int):=by
 obtain⟨s,h1,h2⟩:=Boe p m a
 have hle:=Anl p m a
 have hlt:=Uw p m a
 have h48:2^m≤2^48:=Nat.pow_le_pow_right (by omega) hm
 have hn:(Bfx (Yy p a m)).toNat=18446744073709551615-Ck p a m:=by rw[Bzk,Ad2 p a m (by omega)]
 have h3:(281474976710656:Nat)=2^48:=rfl
 refine Chy _ (Gp p a m) s (by omega) ?_
 rw[hn];omega
def unS(p:List UInt8)(N a:Nat):Int×Int×Int:=
 if Gp p a (min 48 (N-a))<min 48 (N-a)then((Gp p a (min 48 (N-a)):Nat),((a+Gp p a (min 48 (N-a))+1:Nat):Int),0)else
 if Gp p a (min 48 (N-a))=48 then(48,((a+48:Nat):Int),0)else(0,0,24)
theorem Bze{p:List UInt8}{N:Nat}(h:okB p N)(a:Nat)(ha:a<N):Agd p (N:Int) (a:Int)=some (unS p N a):=by
 have hN:=h.1
 have e1:Eh (48:Int) (Aj (N:Int) (a:Int))=((min 48 (N-a):Nat):Int):=by rw[An1,Bw (by omega) (by omega)];omega
 have hle:=Anl p (min 48 (N-a)) a
 rw[Agd,Aa6,Akd h,Aa,if_neg (by rw[Ak];simp),if_neg (by rw[Af];simp),if_neg (by rw[Ef];simp;omega),e1,Bbh h a _ (by omega),if_neg (by omega),Aa]
 simp only
 rw[Aop,Anx,if_neg (by rw[Ak];simp),Cck p a _ (by omega),Aa,An3,An8,e1,unS]
 by_cases h1:Gp p a (min 48 (N-a))<min 48 (N-a)
 ·rw[if_pos (by rw[Af];simp;omega),if_pos h1,Ah (a:=(a:Int)) (by omega) (by omega),show Ae (0:Int) 1=1 by decide,Ah (by omega) (by omega)]
  congr 3;omega
 ·rw[if_neg (by rw[Af];simp;omega),if_neg h1,An7,Aoj]
  by_cases h2:Gp p a (min 48 (N-a))=48
  ·rw[if_pos (by rw[Aq,h2];rfl),if_pos h2,h2,Ah (a:=(a:Int)) (by omega) (by omega),Ah (by omega) (by omega)]
   congr 3;omega
  ·rw[if_neg (by rw[Aq];simp;omega),if_neg h2];rfl
theorem Biz(p:List UInt8):∀(m a:Nat),Gp p a m<m→Lh p (a+Gp p a m)≠1
 |0,_,h=>by simp[Gp]at h
 |m+1,a,h=>by
  by_cases hb:Lh p a=1
  ·rw[Gp,if_pos hb]at h⊢
   have:=Biz p m (a+1) (by omega)
   rwa [show a+(1+Gp p (a+1) m)=a+1+Gp p (a+1) m by omega]
  ·rw[Gp,if_neg hb];exact hb
theorem Biw(p:List UInt8):∀(m a k:Nat),k<Gp p a m→Lh p (a+k)=1
 |0,a,k,h=>by simp[Gp]at h
 |m+1,a,k,h=>by
  by_cases hb:Lh p a=1
  ·rw[Gp,if_pos hb]at h
   cases k with
   |zero=>exact hb
   |succ k=>
    have:=Biw p m (a+1) k (by omega)
    rwa [show a+(k+1)=a+1+k by omega]
  ·rw[Gp,if_neg hb]at h;omega
def unR(p:List UInt8)(N a:Nat):Int×Int:=if(unS p N a).2.2=0 then((unS p N a).1,(unS p N a).2.1)else(-1,0)
theorem Bhi{p:List UInt8}{N:Nat}(h:okB p N)(a:Nat)(ha:a<N):∀(j k q:Nat),k+j=Gp p a (min 48 (N-a))→j<q→Ja (a:Int) p (N:Int) q (k:Int)=some (unR p N a)
 |0,k,q+1,hk,_=>by
  obtain⟨hN,hl,hz⟩:=h
  have hle:=Anl p (min 48 (N-a)) a
  have hk':k=Gp p a (min 48 (N-a)):=by omega
  have e1:Ae (a:Int) (k:Int)=((a+k:Nat):Int):=by rw[Ah (by omega) (by omega)];omega
  have hend:Rq (a:Int) (k:Int) p (N:Int)=some (unR p N a):=by
   rw[Rq,Aja,e1]
   by_cases h48:k=48
   ·have hu:unS p N a=(48,((a+48:Nat):Int),0):=by rw[unS,←hk',if_neg (by omega),if_pos h48]
    rw[if_pos (by rw[Aq,h48];rfl),unR,hu,h48];rfl
   ·rw[if_neg (by rw[Aq];simp;omega)]
    by_cases hN2:N≤a+k
    ·have hu:unS p N a=(0,0,24):=by rw[unS,←hk',if_neg (by omega),if_neg h48]
     rw[if_pos (by rw[Ef];simp;omega),unR,hu];rfl
    ·have hu:unS p N a=(((k:Nat):Int),((a+k+1:Nat):Int),0):=by rw[unS,←hk',if_pos (by omega)]
     rw[if_neg (by rw[Ef];simp;omega),unR,hu,Ah (by omega) (by omega)];rfl
  rw[Ja,Rw,e1]
  by_cases hc:a+k<N∧k<48
  ·have hb:=Abb p (a+k)
   have hs:=Biz p (min 48 (N-a)) a (by omega)
   rw[←hk']at hs
   rw[if_pos (by simp[Af];omega),Bae p _ (a+k) (by omega) (by omega),Aa,if_neg (by rw[Aq];simp;omega),hend]
  ·rw[if_neg (by simp[Af];omega),hend]
 |j+1,k,q+1,hk,hq=>by
  obtain⟨hN,hl,hz⟩:=h
  have hle:=Anl p (min 48 (N-a)) a
  have hb:=Biw p (min 48 (N-a)) a k (by omega)
  have e1:Ae (a:Int) (k:Int)=((a+k:Nat):Int):=by rw[Ah (by omega) (by omega)];omega
  rw[Ja,Rw,e1,if_pos (by simp[Af];omega),Bae p _ (a+k) (by omega) (by omega),Aa,hb,if_pos (by decide),Ah (by omega) (by omega)]
  exact Bhi ⟨hN,hl,hz⟩ a ha j (k+1) q (by omega) (by omega)
theorem Cau{p:List UInt8}{N:Nat}(h:okB p N)(a:Nat)(ha:a<N):Agp p (N:Int) (a:Int)=some (unR p N a):=by
 have hle:=Anl p (min 48 (N-a)) a
 have:=Bhi h a ha (Gp p a (min 48 (N-a))) 0 FUEL (by omega) (by have:=Ap;omega)
 exact this
end Go.Pl
set_option linter.unusedVariables false
set_option linter.unusedSimpArgs false
namespace Go.Pl
open Go Go.Lv
theorem Byt{p:List UInt8}{N a:Nat}(h:Gp p a (min 48 (N-a))<min 48 (N-a)):unS p N a=(((Gp p a (min 48 (N-a)):Nat):Int),((a+Gp p a (min 48 (N-a))+1:Nat):Int),0):=by rw[unS,if_pos h]
theorem Cat{p:List UInt8}{N a:Nat}(h:¬Gp p a (min 48 (N-a))<min 48 (N-a))(h2:Gp p a (min 48 (N-a))=48):unS p N a=(48,((a+48:Nat):Int),0):=by rw[unS,if_neg h,if_pos h2]
theorem Cae{p:List UInt8}{N a:Nat}(h:¬Gp p a (min 48 (N-a))<min 48 (N-a))(h2:¬Gp p a (min 48 (N-a))=48):unS p N a=(0,0,24):=by rw[unS,if_neg h,if_neg h2]
theorem Bvk{p:List UInt8}{N:Nat}(h:okB p N)(a:Nat)(ha:N≤a):Agd p (N:Int) (a:Int)=some (0,0,24):=by
 rw[Agd,Aa6,Akd h,Aa,if_neg (by rw[Ak];simp),if_neg (by rw[Af];simp),if_pos (by rw[Ef];simp;omega)]
def rcS(p:List UInt8)(N a k:Nat):UInt32×Int×Int:=
 if N≤a then(0,0,24)else
 if Gp p a (min 48 (N-a))<min 48 (N-a)then
  (if N<a+Gp p a (min 48 (N-a))+1+k then(0,0,24)else(UInt32.ofNat (Gp p a (min 48 (N-a))*2^k+Ck p (a+Gp p a (min 48 (N-a))+1) k),((a+Gp p a (min 48 (N-a))+1+k:Nat):Int),0))
 else if Gp p a (min 48 (N-a))=48 then
  (if N<a+48+32 then(0,0,24)else if Ck p (a+48) 32/2^k<48 then(0,0,12)else(UInt32.ofNat (Ck p (a+48) 32),((a+48+32:Nat):Int),0))
 else(0,0,24)
theorem Azf{p:List UInt8}{a n:Nat}(h:n≤32):(Ad (Yy p a n):UInt32)=UInt32.ofNat (Ck p a n):=by
 have e:(Ad (Yy p a n):UInt32)=UInt32.ofNat (Yy p a n).toNat:=by simp only[Ad,Jn,Ep]
 rw[e,Ad2 p a n (by omega)]
theorem Apx{n:Nat}(h:n<4294967296):(UInt32.ofNat n).toNat=n:=by rw[UInt32.toNat_ofNat'];exact Nat.mod_eq_of_lt h
theorem Bov(p:List UInt8)(a:Nat){n:Nat}(h:n≤32):Ck p a n<4294967296:=by
 have h1:=Uw p n a
 have h2:2^n≤2^32:=Nat.pow_le_pow_right (by omega) h
 omega
theorem Cgk{q v k:Nat}(hq:q<48)(hv:v<2^k)(hk:k≤24):gor (Dt (Ad (q:Int):UInt32) k) (UInt32.ofNat v)=UInt32.ofNat (q*2^k+v):=by
 have hp:2^k≤2^24:=Nat.pow_le_pow_right (by omega) hk
 have h1:q*2^k≤47*2^24:=Nat.mul_le_mul (by omega) hp
 rw[Cbj];apply UInt32.toNat_inj.1
 rw[UInt32.toNat_or,Bd1,Bj0,Apx (by omega),Apx (n:=v) (by omega),Nat.mod_eq_of_lt (by omega),Nat.mul_comm q,←Nat.two_pow_add_eq_or_of_lt hv,Apx (by rw[Nat.mul_comm];omega)]
theorem Cb7{p:List UInt8}{N:Nat}(h:okB p N)(a k:Nat)(hk:k≤24):Ava p (N:Int) (a:Int) (k:Int)=some (rcS p N a k):=by
 have hN:=h.1
 rw[Ava,Ap9,Akd h,Aa,if_neg (by rw[Ak];simp),if_neg (by simp[Af,As];omega)]
 by_cases ha:N≤a
 ·rw[Bvk h a ha,Aa,rcS,if_pos ha];rfl
 have hle:=Anl p (min 48 (N-a)) a
 rw[Bze h a (by omega),Aa]
 by_cases h1:Gp p a (min 48 (N-a))<min 48 (N-a)
 ·have hS:rcS p N a k=if N<a+Gp p a (min 48 (N-a))+1+k then(0,0,24)else(UInt32.ofNat (Gp p a (min 48 (N-a))*2^k+Ck p (a+Gp p a (min 48 (N-a))+1) k),((a+Gp p a (min 48 (N-a))+1+k:Nat):Int),0):=by rw[rcS,if_neg ha,if_pos h1]
  rw[Byt h1,hS]
  generalize Gp p a (min 48 (N-a))=q at*
  simp only
  rw[if_neg (by rw[Ak];simp),if_neg (by rw[Aq];simp;omega),Ajv,Ari,Bbh h _ k (by omega),Aa]
  by_cases h2:N<a+q+1+k
  ·rw[if_pos h2,if_pos h2];rfl
  ·rw[if_neg h2,if_neg h2]
   simp only
   have z:(GI.toZ (k:Int)).toNat=k:=rfl
   rw[if_neg (by rw[Ak];simp),if_pos (by rw[Af];simp;omega),Dc (by rw[Ef];simp),Aa,z,Azf (by omega),Cgk (by omega) (Uw _ _ _) hk,Ah (by omega) (by omega)];rfl
 ·by_cases h2:Gp p a (min 48 (N-a))=48
  ·have hS:rcS p N a k=if N<a+48+32 then(0,0,24)else if Ck p (a+48) 32/2^k<48 then(0,0,12)else(UInt32.ofNat (Ck p (a+48) 32),((a+48+32:Nat):Int),0):=by rw[rcS,if_neg ha,if_neg h1,if_pos h2]
   have hg:=Bbh h (a+48) 32 (by omega)
   rw[Cat h1 h2,hS]
   simp only
   rw[if_neg (by rw[Ak];simp),if_pos (by rw[Aq];rfl),Ajv,Ari]
   refine Eq.trans (congrArg (fun o=>Option.bind o _) hg) ?_
   rw[Aa]
   by_cases h3:N<a+48+32
   ·rw[if_pos h3,if_pos h3];rfl
   ·rw[if_neg h3,if_neg h3]
    simp only
    have z:(GI.toZ (k:Int)).toNat=k:=rfl
    have hv:=Bov p (a+48) (n:=32) (by omega)
    rw[if_neg (by rw[Ak];simp),if_neg (by rw[Af];simp),Ajz,Dc (by rw[Ef];simp),Aa,Aa,z,Azf (by omega),Cdw]
    have e:(decide ((48:UInt32).toNat≤(Ca (UInt32.ofNat (Ck p (a+48) 32)) k).toNat))=decide (¬Ck p (a+48) 32/2^k<48):=by
     rw[Apr,Apx hv];simp
    rw[e]
    by_cases h4:Ck p (a+48) 32/2^k<48
    ·rw[if_pos (by simp[h4]),if_pos h4]
    ·rw[if_neg (by simp;omega),if_neg h4,Ah (by omega) (by omega)];rfl
  ·rw[Cae h1 h2,rcS,if_neg ha,if_neg h1,if_neg h2];rfl
theorem Bh0(k:Nat)(hk:k≤63):∀(j i q:Nat),i+j=k→j<q→Ha (k:Int) q (UInt64.ofNat (2^i)) (i:Int)=some (UInt64.ofNat (2^k))
 |0,i,q+1,hi,_=>by
  rw[Ha,Nz,if_neg (by rw[Af];simp;omega),show i=k by omega];rfl
 |j+1,i,q+1,hi,hq=>by
  have e:Bj (UInt64.ofNat (2^i)) (2:UInt64)=UInt64.ofNat (2^(i+1)):=by
   rw[Aht,Nat.pow_succ,UInt64.ofNat_mul];rfl
  rw[Ha,Nz,if_pos (by rw[Af];simp;omega),Ah (by omega) (by omega),e]
  exact Bh0 k hk j (i+1) q (by omega) (by omega)
theorem Ahu(k:Nat)(hk:k≤63):Eb (k:Int)=some (UInt64.ofNat (2^k)):=
 Bh0 k hk k 0 FUEL (by omega) (by have:=Ap;omega)
theorem Anj{k:Nat}(hk:k≤63):(UInt64.ofNat (2^k)).toNat=2^k:=by
 have hp:2^k≤2^63:=Nat.pow_le_pow_right (by omega) hk
 rw[UInt64.toNat_ofNat',Nat.mod_eq_of_lt (by omega)]
theorem Cbb(v:UInt32)(k:Nat)(hk:k≤24):Xt v (k:Int)=some ((min 48 (v.toNat/2^k):Nat):Int):=by
 have hpos:0<2^k:=Nat.pow_pos (by omega)
 have hv:=v.toNat_lt
 rw[Xt,Ahu k (by omega),Aa,Dc (by rw[Ajr];simp only[bne_iff_ne,ne_eq,←UInt64.toNat_inj,Anj (show k≤63 by omega)];simp),Aa]
 have e:(Cp (Ad v:UInt64) (UInt64.ofNat (2^k))).toNat=v.toNat/2^k:=by
  rw[Ayg,UInt64.toNat_div,Ji,Anj (by omega),UInt64.toNat_ofNat',Nat.mod_eq_of_lt (by omega)]
 have hle:v.toNat/2^k≤v.toNat:=Nat.div_le_self _ _
 have e2:Eh (48:UInt64) (Cp (Ad v:UInt64) (UInt64.ofNat (2^k)))=UInt64.ofNat (min 48 (v.toNat/2^k)):=by
  apply UInt64.toNat_inj.1
  rw[UInt64.toNat_ofNat',Nat.mod_eq_of_lt (by omega)]
  show(if _ then _ else _:UInt64).toNat=_
  rw[show(GI.toZ (Cp (Ad v:UInt64) (UInt64.ofNat (2^k))))=((v.toNat/2^k:Nat):Int) by rw[Jn,e],show GI.toZ (48:UInt64)=48 from rfl]
  split
  ·rw[e];omega
  ·show 48=_;omega
 rw[e2,Bab (by rw[UInt64.toNat_ofNat',Nat.mod_eq_of_lt]<;>omega),UInt64.toNat_ofNat',Nat.mod_eq_of_lt (by omega)]
theorem Byo{p:List UInt8}{N:Nat}(h:okB p N)(a k:Nat)(hk:k≤24):Zs p (N:Int) (a:Int) (k:Int)=some (rcS p N a k):=by
 obtain⟨hN,hl,hz⟩:=h
 have h:okB p N:=⟨hN,hl,hz⟩
 rw[Zs,Aa4]
 by_cases ha:N≤a
 ·rw[if_pos (by rw[Ef];simp;omega),rcS,if_pos ha]
 have hle:=Anl p (min 48 (N-a)) a
 rw[if_neg (by rw[Ef];simp;omega),Cau h a (by omega),Aa,unR]
 by_cases h1:Gp p a (min 48 (N-a))<min 48 (N-a)
 ·have hS:rcS p N a k=if N<a+Gp p a (min 48 (N-a))+1+k then(0,0,24)else(UInt32.ofNat (Gp p a (min 48 (N-a))*2^k+Ck p (a+Gp p a (min 48 (N-a))+1) k),((a+Gp p a (min 48 (N-a))+1+k:Nat):Int),0):=by rw[rcS,if_neg ha,if_pos h1]
  rw[Byt h1,hS]
  generalize Gp p a (min 48 (N-a))=q at*
  rw[if_pos rfl]
  simp only
  rw[if_neg (by rw[Aq];simp;omega),Rj,Aau,Bw (by omega) (by omega)]
  by_cases h2:N<a+q+1+k
  ·rw[if_pos (by simp[Af];omega),if_pos h2]
  ·have hp:2^k≤2^24:=Nat.pow_le_pow_right (by omega) hk
   have hm:q*2^k≤47*2^24:=Nat.mul_le_mul (by omega) hp
   have hv:=Uw p k (a+q+1)
   have e:(Ad (Ae (Bj (Ad (q:Int):UInt64) (UInt64.ofNat (2^k))) (Yy p (a+q+1) k)):UInt32)=UInt32.ofNat (q*2^k+Ck p (a+q+1) k):=by
    have e1:Ae (Bj (Ad (q:Int):UInt64) (UInt64.ofNat (2^k))) (Yy p (a+q+1) k)=UInt64.ofNat (q*2^k+Ck p (a+q+1) k):=by
     rw[Aih,Aht,Acz,Yy,UInt64.ofNat_add,UInt64.ofNat_mul]
    rw[e1]
    have e2:∀x:UInt64,(Ad x:UInt32)=UInt32.ofNat x.toNat:=fun x=>by simp only[Ad,Jn,Ep]
    rw[e2,UInt64.toNat_ofNat',Nat.mod_eq_of_lt (by omega)]
   rw[if_neg (by simp[Af];omega),if_neg h2,Ax0 p _ _ k (by omega) (by omega),Aa,if_pos (by rw[Af];simp;omega),Ahu k (by omega),Aa,e,Ah (by omega) (by omega)];rfl
 ·by_cases h2:Gp p a (min 48 (N-a))=48
  ·have hS:rcS p N a k=if N<a+48+32 then(0,0,24)else if Ck p (a+48) 32/2^k<48 then(0,0,12)else(UInt32.ofNat (Ck p (a+48) 32),((a+48+32:Nat):Int),0):=by rw[rcS,if_neg ha,if_neg h1,if_pos h2]
   rw[Cat h1 h2,hS,if_pos rfl]
   simp only
   rw[if_pos (by rw[Aq];rfl),Rj,Aau,Bw (by omega) (by omega)]
   by_cases h3:N<a+48+32
   ·rw[if_pos (by simp[Af];omega),if_pos h3]
   ·have hg:=Ax0 p (N:Int) (a+48) 32 (by omega) (by omega)
    have hv:=Bov p (a+48) (n:=32) (by omega)
    rw[if_neg (by simp[Af];omega),if_neg h3]
    refine Eq.trans (congrArg (fun o=>Option.bind o _) hg) ?_
    rw[Aa,if_neg (by rw[Af];simp),Azf (by omega),Cbb _ k hk,Aa,Apx hv]
    by_cases h4:Ck p (a+48) 32/2^k<48
    ·rw[if_pos (by rw[Af];simp;omega),if_pos h4]
    ·rw[if_neg (by rw[Af];simp;omega),if_neg h4,Ah (by omega) (by omega)];rfl
  ·rw[Cae h1 h2,rcS,if_neg ha,if_neg h1,if_neg h2]
   have e:(if((0:Int),(0:Int),(24:Int)).2.2=0 then(((0:Int),(0:Int),(24:Int)).1,((0:Int),(0:Int),(24:Int)).2.1)else((-1:Int),(0:Int)))=(-1,0):=by decide
   rw[e];rfl
theorem Cfo{p:List UInt8}{N a k:Nat}{v:UInt32}{n:Int}(h:rcS p N a k=(v,n,0)):(a:Int)<n∧n≤N:=by
 unfold rcS at h
 split at h
 ·simp at h
 split at h
 ·split at h
  ·simp at h
  ·simp only[Prod.mk.injEq]at h;omega
 ·split at h
  ·split at h
   ·simp at h
   ·split at h
    ·simp at h
    ·simp only[Prod.mk.injEq]at h;omega
  ·simp at h
end Go.Pl
set_option linter.unusedVariables false
set_option linter.unusedSimpArgs false
namespace Go.Pl
open Go Go.Lv
def okD(k l:Nat)(s t:UInt64):Prop:=k≤24∧l≤24∧s.toNat≤68719476735∧t.toNat≤68719476735
theorem Bmp(a b:UInt64)(h:a.toNat≤b.toNat):Eh a b=a:=by
 show(if _ then _ else _)=_
 rw[Jn,Jn,if_neg (by omega)]
theorem Ay5(a:UInt64):geq a a=true:=by rw[Bdm];simp
theorem Cfk{k l:Nat}{s t:UInt64}(h:okD k l s t):Akn (k:Int) (l:Int) s t=some 0:=by
 obtain⟨h1,h2,h3,h4⟩:=h
 have e1:Eh (Av5 (k:Int) 0) 24=(k:Int):=by rw[An1,Bqt];omega
 have e2:Eh (Av5 (l:Int) 0) 24=(l:Int):=by rw[An1,Bqt];omega
 have e3:Eh s (68719476735:UInt64)=s:=Bmp _ _ (by simpa using h3)
 have e4:Eh t (68719476735:UInt64)=t:=Bmp _ _ (by simpa using h4)
 have e5:∀a:Int,geq a a=true:=fun a=>by rw[Aq];simp
 rw[Akn,Ag1,Anu,Ag5,Anr,Awr,e1,e2,e3,e4,e5,e5,Ay5,Ay5];rfl
def Ad5(s n:UInt64):UInt64:=s+n-s/16
def kS(k:Nat)(s:UInt64):Nat:=if 0<k∧s.toNat<2^(k+4)then k-1 else if k<24∧2^(k+5)<s.toNat then k+1 else k
theorem Ces{k:Nat}(h:k≤24)(s:UInt64):kS k s≤24:=by
 unfold kS
 by_cases h1:0<k∧s.toNat<2^(k+4)
 ·rw[if_pos h1];omega
 ·rw[if_neg h1];split<;>omega
theorem Btj{k:Nat}{s:UInt64}(h:¬(0<k∧s.toNat<2^(k+4))):(if k<24∧2^(k+5)<s.toNat then((k+1:Nat):Int)else(k:Int))=((kS k s:Nat):Int):=by
 rw[kS,if_neg h];split<;>rfl
theorem Bss{s n:UInt64}(h:s.toNat≤68719476735)(hn:n.toNat≤4294967295):(Ad5 s n).toNat≤68719476735:=by
 have h1:=s.toNat_lt
 have e:(s+n).toNat=s.toNat+n.toNat:=by rw[UInt64.toNat_add];omega
 have e2:(s/16).toNat=s.toNat/16:=by rw[UInt64.toNat_div];rfl
 rw[Ad5,UInt64.toNat_sub_of_le _ _ (by rw[UInt64.le_iff_toNat_le,e,e2];omega),e,e2];omega
theorem Bd8(s n:UInt64):Ae s (Aj n (Ca s (GI.toZ (4:UInt64)).toNat))=Ad5 s n:=by
 have e:Ca s (GI.toZ (4:UInt64)).toNat=s/16:=by
  apply UInt64.toNat_inj.1
  rw[Ahz,UInt64.toNat_div];rfl
 rw[e,Aih,Bhh,Ad5,UInt64.sub_eq_add_neg,UInt64.sub_eq_add_neg,UInt64.add_assoc]
theorem Bs6(s n:UInt64):Aj (Ae s n) (Cp s (16:UInt64))=Ad5 s n:=by rw[Aih,Bhh,Ayg,Ad5]
theorem Chb{k:Nat}(h:k≤24):(Dt (16:UInt64) k).toNat=2^(k+4):=by
 have hp:2^k≤2^24:=Nat.pow_le_pow_right (by omega) h
 rw[Apt,Nat.pow_add]
 show 16*2^k %_=2^k*16
 rw[Nat.mod_eq_of_lt (by omega),Nat.mul_comm]
theorem Ce5{k:Nat}(h:k≤24):(Dt (32:UInt64) k).toNat=2^(k+5):=by
 have hp:2^k≤2^24:=Nat.pow_le_pow_right (by omega) h
 rw[Apt,Nat.pow_add]
 show 32*2^k %_=2^k*32
 rw[Nat.mod_eq_of_lt (by omega),Nat.mul_comm]
theorem Cet{k:Nat}{s:UInt64}(h:0<k)(h2:s.toNat<2^(k+4)):kS k s=k-1:=by rw[kS,if_pos ⟨h,h2⟩]
theorem Ceg{k:Nat}{s:UInt64}(h:¬(0<k∧s.toNat<2^(k+4)))(h2:k<24)(h3:2^(k+5)<s.toNat):kS k s=k+1:=by rw[kS,if_neg h,if_pos ⟨h2,h3⟩]
theorem Bsq{k:Nat}{s:UInt64}(h:¬(0<k∧s.toNat<2^(k+4)))(h2:¬(k<24∧2^(k+5)<s.toNat)):kS k s=k:=by rw[kS,if_neg h,if_neg h2]
theorem Cej{α:Type}(k:Nat)(hk:k≤24)(s:UInt64)(f:Int→Option α):
  (if(Ee (k:Int) (0:Int))=true then(
   Option.bind (Kj (Ni (k:Int) (0:Int))) fun _=>
   if(Cc s (Dt (16:UInt64) (GI.toZ (k:Int)).toNat))=true then f (Aj (k:Int) (1:Int))
   else(if(Cc (k:Int) (24:Int))=true then(
    Option.bind (Kj (Ni (k:Int) (0:Int))) fun _=>
    if(Ee s (Dt (32:UInt64) (GI.toZ (k:Int)).toNat))=true then f (Ae (k:Int) (1:Int))else f (k:Int))
    else f (k:Int)))
  else(if(Cc (k:Int) (24:Int))=true then(
    Option.bind (Kj (Ni (k:Int) (0:Int))) fun _=>
    if(Ee s (Dt (32:UInt64) (GI.toZ (k:Int)).toNat))=true then f (Ae (k:Int) (1:Int))else f (k:Int))
    else f (k:Int)))=f ((kS k s:Nat):Int):=by
 have z:(GI.toZ (k:Int)).toNat=k:=rfl
 rw[z,Dc (by rw[Ef];simp)]
 simp only[Aa]
 rw[Bdc,Amz,Chb hk,Ce5 hk]
 by_cases h0:0<k
 ·rw[if_pos (by rw[As];simp;omega)]
  by_cases h1:s.toNat<2^(k+4)
  ·rw[if_pos (by simp[h1]),Cet h0 h1,Bw (by omega) (by omega)];congr 1;omega
  ·rw[if_neg (by simp;omega)]
   by_cases h2:k<24
   ·rw[if_pos (by rw[Af];simp;omega)]
    by_cases h3:2^(k+5)<s.toNat
    ·rw[if_pos (by simp[h3]),Ceg (fun h=>h1 h.2) h2 h3,Ah (by omega) (by omega)];rfl
    ·rw[if_neg (by simp;omega),Bsq (fun h=>h1 h.2) (fun h=>h3 h.2)]
   ·rw[if_neg (by rw[Af];simp;omega),Bsq (fun h=>h1 h.2) (fun h=>h2 h.1)]
 ·rw[if_neg (by rw[As];simp;omega)]
  by_cases h2:k<24
  ·rw[if_pos (by rw[Af];simp;omega)]
   by_cases h3:2^(k+5)<s.toNat
   ·rw[if_pos (by simp[h3]),Ceg (fun h=>h0 h.1) h2 h3,Ah (by omega) (by omega)];rfl
   ·rw[if_neg (by simp;omega),Bsq (fun h=>h0 h.1) (fun h=>h3 h.2)]
  ·rw[if_neg (by rw[Af];simp;omega),Bsq (fun h=>h0 h.1) (fun h=>h2 h.1)]
theorem Bth(k:Nat)(hk:k≤24)(s n:UInt64):Io (k:Int) s n=some (((kS k (Ad5 s n):Nat):Int),Ad5 s n):=by
 have g1:Ae (k:Int) 4=((k+4:Nat):Int):=by rw[Ah (by omega) (by omega)];omega
 have g2:Ae (k:Int) 5=((k+5:Nat):Int):=by rw[Ah (by omega) (by omega)];omega
 have hp:Qi (k:Int) s n=some (if k<24∧2^(k+5)<(Ad5 s n).toNat then((k+1:Nat):Int)else(k:Int),Ad5 s n):=by
  rw[Qi,Aig,g2,Ahu _ (by omega),Aa,Bs6,Amz,Anj (by omega)]
  by_cases h2:k<24
  ·rw[if_pos (by rw[Af];simp;omega)]
   by_cases h3:2^(k+5)<(Ad5 s n).toNat
   ·rw[if_pos (by simp[h3]),if_pos ⟨h2,h3⟩,Ah (by omega) (by omega)];rfl
   ·rw[if_neg (by simp;omega),if_neg (fun h=>h3 h.2)]
  ·rw[if_neg (by rw[Af];simp;omega),if_neg (fun h=>h2 h.1)]
 rw[Io,Za,g1,Ahu _ (by omega),Aa,Bs6,Bdc,Anj (by omega),hp]
 by_cases h0:0<k
 ·rw[if_pos (by rw[As];simp;omega)]
  by_cases h1:(Ad5 s n).toNat<2^(k+4)
  ·rw[if_pos (by simp[h1]),Cet h0 h1,Bw (by omega) (by omega)];congr 2;omega
  ·rw[if_neg (by simp;omega),Btj (fun h=>h1 h.2)]
 ·rw[if_neg (by rw[As];simp;omega),Btj (fun h=>h0 h.1)]
def n64(v:UInt32):UInt64:=UInt64.ofNat v.toNat
theorem Caa(v:UInt32):(n64 v).toNat≤4294967295:=by have:=v.toNat_lt;rw[n64,UInt64.toNat_ofNat',Nat.mod_eq_of_lt (by omega)];omega
def Bcc(k:Nat)(v:UInt32):UInt32:=UInt32.ofNat (v.toNat-2^k)
def lK(l:Nat)(t:UInt64)(k:Nat)(v:UInt32):Nat:=if v.toNat<2^k then l else kS l (Ad5 t (n64 (Bcc k v)))
def lT(t:UInt64)(k:Nat)(v:UInt32):UInt64:=if v.toNat<2^k then t else Ad5 t (n64 (Bcc k v))
theorem By8{k l:Nat}{s t:UInt64}(h:okD k l s t)(v:UInt32):okD (kS k (Ad5 s (n64 v))) (lK l t k v) (Ad5 s (n64 v)) (lT t k v):=by
 obtain⟨h1,h2,h3,h4⟩:=h
 refine⟨Ces h1 _,?_,Bss h3 (Caa v),?_⟩
 ·unfold lK;split; · exact h2
  exact Ces h2 _
 ·unfold lT;split; · exact h4
  exact Bss h4 (Caa _)
theorem Cfb(k l:Nat)(s t:UInt64)(hk:k≤24)(v:UInt32):Sg (k:Int) (l:Int) s t v=some (decide (v.toNat<2^k)):=by
 have:=v.toNat_lt
 rw[Sg,Ahu k (by omega),Aa,Bdc,Anj (by omega),Ji,UInt64.toNat_ofNat',Nat.mod_eq_of_lt (by omega)]
theorem left_eq(k l:Nat)(s t:UInt64)(hk:k≤24)(v:UInt32)(h:¬v.toNat<2^k):Ls (k:Int) (l:Int) s t v=some (Bcc k v):=by
 have:=v.toNat_lt
 have e2:∀x:UInt64,(Ad x:UInt32)=UInt32.ofNat x.toNat:=fun x=>by simp only[Ad,Jn,Ep]
 have e3:(UInt64.ofNat v.toNat).toNat=v.toNat:=by rw[UInt64.toNat_ofNat',Nat.mod_eq_of_lt (by omega)]
 rw[Ls,Ahu k (by omega),Aa,e2,Bhh,Ji,UInt64.toNat_sub_of_le _ _ (by rw[UInt64.le_iff_toNat_le,Anj (by omega),e3];omega),Anj (by omega),e3,Bcc]
theorem Bwp{k l:Nat}{s t:UInt64}(h:okD k l s t)(v:UInt32):Ro (k:Int) (l:Int) s t v=some (((kS k (Ad5 s (n64 v)):Nat):Int),((lK l t k v:Nat):Int),Ad5 s (n64 v),lT t k v):=by
 obtain⟨h1,h2,h3,h4⟩:=h
 have hp:∀(r1:Int) (r2:UInt64),Mp v (k:Int) (l:Int) s t r1 r2=some (((kS k (Ad5 s (n64 v)):Nat):Int),r1,Ad5 s (n64 v),r2):=by
  intro r1 r2
  rw[Mp,Adl,Ji,Bth k h1,Aa];rfl
 rw[Ro,Mw,Cfb k l s t h1,Aa]
 by_cases hv:v.toNat<2^k
 ·rw[if_neg (by simp[hv]),hp,lK,if_pos hv,lT,if_pos hv]
 ·rw[if_pos (by simp;omega),left_eq k l s t h1 v hv,Aa,Ji,Bth l h2,Aa]
  simp only
  rw[hp,lK,if_neg hv,lT,if_neg hv];rfl
theorem Bxq(k l:Nat)(s t:UInt64)(hk:k≤24)(v:UInt32):Af3 (k:Int) (l:Int) s t v=some (if v.toNat<2^k then(0,v)else(1,Bcc k v)):=by
 have hp:2^k≤2^24:=Nat.pow_le_pow_right (by omega) hk
 have hpos:0<2^k:=Nat.pow_pos (by omega)
 have hl:=v.toNat_lt
 have z:(GI.toZ (k:Int)).toNat=k:=rfl
 have e1:geq (Ca v k) (0:UInt32)=decide (v.toNat<2^k):=by
  rw[Bl6,Bool.eq_iff_iff]
  simp only[beq_iff_eq,←UInt32.toNat_inj,Apr,decide_eq_true_eq]
  show _/_=0↔_
  rw[Nat.div_eq_zero_iff];omega
 have e2:¬v.toNat<2^k→Aj v (Dt (1:UInt32) k)=Bcc k v:=by
  intro h
  have e3:(Dt (1:UInt32) k).toNat=2^k:=by rw[Bd1];show 1*2^k %_=_;rw[Nat.mod_eq_of_lt (by omega),Nat.one_mul]
  apply UInt32.toNat_inj.1
  rw[Bop,UInt32.toNat_sub_of_le _ _ (by rw[UInt32.le_iff_toNat_le,e3];omega),e3,Bcc,Apx (by omega)]
 rw[Af3,Dc (by rw[Ef];simp),Aa,Aa,z,e1]
 by_cases h:v.toNat<2^k
 ·rw[if_pos (by simp[h]),if_pos h]
 ·rw[if_neg (by simp;omega),if_neg h,e2 h]
abbrev Rd:=UInt32×Int×Int×Int×UInt64×UInt64×Int
theorem Bdu{k l:Nat}{s t:UInt64}(h:okD k l s t)(v:UInt32)(r:Int):Aj4 (k:Int) (l:Int) s t v r=some (v,r,((kS k (Ad5 s (n64 v)):Nat):Int),((lK l t k v:Nat):Int),Ad5 s (n64 v),lT t k v,0):=by
 obtain⟨h1,h2,h3,h4⟩:=h
 have hp:∀(x:Int) (y:UInt64),Adg v r (k:Int) s x y=some (v,r,((kS k (Ad5 s (n64 v)):Nat):Int),x,Ad5 s (n64 v),y,0):=by
  intro x y
  rw[Adg,Arc,Ji,Bd8,Cej k h1]
  rw[Ap4,Aq6,Aoa,Awj,Ji,Bd8];rfl
 rw[Aj4,Aqy,Bxq k l s t h1,Aa]
 by_cases hv:v.toNat<2^k
 ·rw[if_pos hv]
  simp only
  rw[if_neg (by rw[Aq];simp),hp,lK,if_pos hv,lT,if_pos hv]
 ·rw[if_neg hv]
  simp only
  rw[if_pos (by rw[Aq];rfl),Ji,Bd8,Cej l h2 _ (fun x=>Adg v r (k:Int) s x (Ad5 t (UInt64.ofNat (Bcc k v).toNat))),hp,lK,if_neg hv,lT,if_neg hv];rfl
def dgS(p:List UInt8)(N a k l:Nat):UInt32×Int×Int:=
 if N≤a then(0,0,24)else
 if Lh p a=0 then(if N<a+1+k then(0,0,24)else(UInt32.ofNat (Ck p (a+1) k),((a+1+k:Nat):Int),0))else
 if(rcS p N (a+1) l).2.2≠0 then(0,0,(rcS p N (a+1) l).2.2)else
 if 4294967295<(rcS p N (a+1) l).1.toNat+2^k then(0,0,12)else(UInt32.ofNat ((rcS p N (a+1) l).1.toNat+2^k),(rcS p N (a+1) l).2.1,0)
theorem Cfi{p:List UInt8}{N a k l:Nat}(h:(dgS p N a k l).2.2=0):(a:Int)<(dgS p N a k l).2.1∧(dgS p N a k l).2.1≤N:=by
 revert h
 unfold dgS
 split
 ·simp
 split
 ·split
  ·simp
  ·simp only;omega
 ·split
  ·intro h;contradiction
  ·rename_i h1
   split
   ·simp
   ·intro _
    have:=Cfo (p:=p) (N:=N) (a:=a+1) (k:=l) (v:=(rcS p N (a+1) l).1) (n:=(rcS p N (a+1) l).2.1) (by
     have e:(rcS p N (a+1) l).2.2=0:=by simpa using h1
     rw[←e])
    simp only;omega
theorem Cdo{p:List UInt8}{N:Nat}(h:okB p N)(a:Nat){k l:Nat}{s t:UInt64}(hd:okD k l s t):Agj p (N:Int) (a:Int) (k:Int) (l:Int) s t=
  some (if(dgS p N a k l).2.2≠0 then(0,0,0,0,0,0,(dgS p N a k l).2.2)else((dgS p N a k l).1,(dgS p N a k l).2.1,((kS k (Ad5 s (n64 (dgS p N a k l).1)):Nat):Int),((lK l t k (dgS p N a k l).1:Nat):Int),Ad5 s (n64 (dgS p N a k l).1),lT t k (dgS p N a k l).1,0)):=by
 obtain⟨h1,h2,h3,h4⟩:=hd
 have hd:okD k l s t:=⟨h1,h2,h3,h4⟩
 have hN:=h.1
 have hg:=Bbh h a 1 (by omega)
 have hb:=Abb p a
 rw[Agj,Arn,Akd h,Aa,if_neg (by rw[Ak];simp),Cfk hd,Aa,if_neg (by rw[Ak];simp),Aq1,Aqc]
 refine Eq.trans (congrArg (fun o=>Option.bind o _) hg) ?_
 rw[Aa]
 by_cases ha:N≤a
 ·have hS:dgS p N a k l=(0,0,24):=by rw[dgS,if_pos ha]
  rw[if_pos (by omega),hS];rfl
 rw[if_neg (by omega)]
 simp only
 have e0:geq (Yy p a 1) (0:UInt64)=decide (Lh p a=0):=by
  rw[Bdm,Bool.eq_iff_iff]
  simp only[beq_iff_eq,←UInt64.toNat_inj,decide_eq_true_eq,Ad2 p a 1 (by omega),Bob];rfl
 have e1:Ae (a:Int) 1=((a+1:Nat):Int):=by rw[Ah (by omega) (by omega)];omega
 rw[if_neg (by rw[Ak];simp),e0,e1]
 by_cases hz:Lh p a=0
 ·rw[if_pos (by simp[hz]),Bbh h (a+1) k (by omega),Aa]
  by_cases h5:N<a+1+k
  ·have hS:dgS p N a k l=(0,0,24):=by rw[dgS,if_neg ha,if_pos hz,if_pos h5]
   rw[if_pos h5,hS];rfl
  ·have hS:dgS p N a k l=(UInt32.ofNat (Ck p (a+1) k),((a+1+k:Nat):Int),0):=by rw[dgS,if_neg ha,if_pos hz,if_neg h5]
   rw[if_neg h5,hS]
   simp only
   rw[if_neg (by rw[Ak];simp),Bdu hd,Azf (by omega),Ah (by omega) (by omega)];rfl
 ·rw[if_neg (by simp[hz]),Cb7 h (a+1) l h2,Aa]
  have hp:2^k≤2^24:=Nat.pow_le_pow_right (by omega) h1
  by_cases h5:(rcS p N (a+1) l).2.2≠0
  ·have hS:dgS p N a k l=(0,0,(rcS p N (a+1) l).2.2):=by rw[dgS,if_neg ha,if_neg hz,if_pos h5]
   rw[hS]
   generalize rcS p N (a+1) l=R at*
   obtain⟨v,n,e⟩:=R
   simp only at*
   rw[if_pos (by rw[Ak];simpa using h5),if_pos h5]
  ·have hv:=(rcS p N (a+1) l).1.toNat_lt
   have z:(GI.toZ (k:Int)).toNat=k:=rfl
   have e3:(Dt (1:UInt32) k).toNat=2^k:=by rw[Bd1];show 1*2^k %_=_;rw[Nat.mod_eq_of_lt (by omega),Nat.one_mul]
   by_cases h6:4294967295<(rcS p N (a+1) l).1.toNat+2^k
   ·have hS:dgS p N a k l=(0,0,12):=by rw[dgS,if_neg ha,if_neg hz,if_neg h5,if_pos h6]
    rw[hS]
    generalize rcS p N (a+1) l=R at*
    obtain⟨v,n,e⟩:=R
    simp only at*
    rw[if_neg (by rw[Ak];simpa using h5),Dc (by rw[Ef];simp),Aa,z,if_pos (by rw[Bt3,Bhr,UInt32.toNat_add,e3];simp;omega),if_pos (by decide)]
   ·have hS:dgS p N a k l=(UInt32.ofNat ((rcS p N (a+1) l).1.toNat+2^k),(rcS p N (a+1) l).2.1,0):=by rw[dgS,if_neg ha,if_neg hz,if_neg h5,if_neg h6]
    rw[hS]
    generalize rcS p N (a+1) l=R at*
    obtain⟨v,n,e⟩:=R
    simp only at*
    have e4:Ae v (Dt (1:UInt32) k)=UInt32.ofNat (v.toNat+2^k):=by
     apply UInt32.toNat_inj.1
     rw[Bhr,UInt32.toNat_add,e3,Apx (by omega),Nat.mod_eq_of_lt (by omega)]
    rw[if_neg (by rw[Ak];simpa using h5),Dc (by rw[Ef];simp),Aa,z,if_neg (by rw[Bt3,Bhr,UInt32.toNat_add,e3];simp;omega),e4,Bdu hd];rfl
theorem Bzf{p:List UInt8}{N:Nat}(h:okB p N)(a:Nat)(k l:Nat)(s t:UInt64)(h1:k≤24)(h2:l≤24):Aaa p (N:Int) (a:Int) (k:Int) (l:Int) s t=some (dgS p N a k l):=by
 have hN:=h.1
 have hl:=h.2.1
 have hb:=Abb p a
 rw[Aaa]
 by_cases ha:N≤a
 ·rw[if_pos (by rw[Ef];simp;omega),dgS,if_pos ha]
 rw[if_neg (by rw[Ef];simp;omega),Bae p _ a (by omega) (by omega),Aa,Bw (a:=(N:Int)) (b:=(a:Int)) (by omega) (by omega),Bw (by omega) (by omega)]
 have e1:Ae (a:Int) 1=((a+1:Nat):Int):=by rw[Ah (by omega) (by omega)];omega
 rw[e1]
 by_cases hz:Lh p a=0
 ·rw[if_pos (by rw[Aq];simp[hz])]
  by_cases h5:N<a+1+k
  ·rw[if_pos (by rw[Af];simp;omega),dgS,if_neg ha,if_pos hz,if_pos h5]
  ·rw[if_neg (by rw[Af];simp;omega),Ax0 p _ (a+1) k (by omega) (by omega),Aa,dgS,if_neg ha,if_pos hz,if_neg h5,Azf (by omega),Ah (by omega) (by omega)];rfl
 ·rw[if_neg (by rw[Aq];simp;omega),Byo h (a+1) l h2,Aa]
  have hp:2^k≤2^24:=Nat.pow_le_pow_right (by omega) h1
  have hv:=(rcS p N (a+1) l).1.toNat_lt
  have e2:∀x:UInt64,(Ad x:UInt32)=UInt32.ofNat x.toNat:=fun x=>by simp only[Ad,Jn,Ep]
  by_cases h5:(rcS p N (a+1) l).2.2≠0
  ·have hS:dgS p N a k l=(0,0,(rcS p N (a+1) l).2.2):=by rw[dgS,if_neg ha,if_neg hz,if_pos h5]
   rw[hS]
   generalize rcS p N (a+1) l=R at*
   obtain⟨v,n,e⟩:=R
   simp only at*
   rw[if_pos (by rw[Ak];simpa using h5)]
  ·have hsum:∀v:UInt32,(Ae (Ad v:UInt64) (UInt64.ofNat (2^k))).toNat=v.toNat+2^k:=by
    intro v
    have:=v.toNat_lt
    have:=Nat.pow_pos (n:=k) (show 0<2 by omega)
    rw[Aih,UInt64.toNat_add,Ji,Anj (by omega),UInt64.toNat_ofNat'];omega
   by_cases h6:4294967295<(rcS p N (a+1) l).1.toNat+2^k
   ·have hS:dgS p N a k l=(0,0,12):=by rw[dgS,if_neg ha,if_neg hz,if_neg h5,if_pos h6]
    rw[hS]
    generalize rcS p N (a+1) l=R at*
    obtain⟨v,n,e⟩:=R
    simp only at*
    rw[if_neg (by rw[Ak];simpa using h5),Ahu k (by omega),Aa,if_pos (by rw[Amz,hsum];simpa using h6)]
   ·have hS:dgS p N a k l=(UInt32.ofNat ((rcS p N (a+1) l).1.toNat+2^k),(rcS p N (a+1) l).2.1,0):=by rw[dgS,if_neg ha,if_neg hz,if_neg h5,if_neg h6]
    rw[hS]
    generalize rcS p N (a+1) l=R at*
    obtain⟨v,n,e⟩:=R
    simp only at*
    rw[if_neg (by rw[Ak];simpa using h5),Ahu k (by omega),Aa,if_neg (by rw[Amz,hsum];simpa using h6),e2,hsum]
end Go.Pl
set_option linter.unusedVariables false
set_option linter.unusedSimpArgs false
namespace Go.Pl
open Go Go.Lv
abbrev DuN:=Nat×Nat×UInt64×UInt64
def okN(d:DuN):Prop:=okD d.1 d.2.1 d.2.2.1 d.2.2.2
def nxt(d:DuN)(v:UInt32):DuN:=(kS d.1 (Ad5 d.2.2.1 (n64 v)),lK d.2.1 d.2.2.2 d.1 v,Ad5 d.2.2.1 (n64 v),lT d.2.2.2 d.1 v)
def Bkp:DuN:=(10,10,16384,16384)
theorem Cab:okN Bkp:=⟨by decide,by decide,by decide,by decide⟩
theorem Cf8{d:DuN}(h:okN d)(v:UInt32):okN (nxt d v):=By8 h v
abbrev DuL:=Int×Int×UInt64×UInt64×Unit
def toI(d:DuN):DuL:=((d.1:Int),(d.2.1:Int),d.2.2.1,d.2.2.2,())
def chP(ch:Nat)(v:List UInt32)(c:Nat):Nat→DuN
 |0=>Bkp
 |m+1=>if m %ch=c then nxt (chP ch v c m) (v.getD m 0)else chP ch v c m
theorem Ba3(ch:Nat)(v:List UInt32)(c:Nat):∀m,okN (chP ch v c m)
 |0=>Cab
 |m+1=>by rw[chP];split;exact Cf8 (Ba3 ch v c m) _;exact Ba3 ch v c m
theorem Bsk(ch:Nat)(v w:List UInt32)(c:Nat):∀m,m≤v.length→chP ch (v++w) c m=chP ch v c m
 |0,_=>rfl
 |m+1,h=>by
  have e:(v++w).getD m 0=v.getD m 0:=by simp[List.getD_eq_getElem?_getD,List.getElem?_append_left (show m<v.length by omega)]
  rw[chP,chP,Bsk ch v w c m (by omega),e]
theorem Blj(ch:Nat)(v:List UInt32)(c:Nat):∀m,m≤c→c<ch→chP ch v c m=Bkp
 |0,_,_=>rfl
 |m+1,h,h2=>by rw[chP,if_neg (by rw[Nat.mod_eq_of_lt (by omega)];omega),Blj ch v c m (by omega) h2]
theorem Bpa(ch:Nat)(v:List UInt32)(c i:Nat)(hi:i %ch=c)(hc:c<ch):∀j,j<ch→chP ch v c (i+1+j)=chP ch v c (i+1)
 |0,_=>rfl
 |j+1,h=>by
  have hne:(i+1+j) %ch≠c:=by
   intro e
   have h1:(i+(1+j)) %ch=i %ch:=by rw[hi,←e];congr 1;omega
   have h2:(1+j) %ch=0:=by
    have h3:=Nat.sub_mod_eq_zero_of_mod_eq h1
    rwa [Nat.add_sub_cancel_left]at h3
   rw[Nat.mod_eq_of_lt (by omega)]at h2;omega
  rw[show i+1+(j+1)=(i+1+j)+1 by omega,chP,if_neg hne,Bpa ch v c i hi hc j (by omega)]
theorem Bz4(ch:Nat)(v:List UInt32)(c i:Nat)(hi:i %ch=c)(hc:c<ch):chP ch v c (i+ch)=nxt (chP ch v c i) (v.getD i 0):=by
 have h:=Bpa ch v c i hi hc (ch-1) (by omega)
 rw[show i+1+(ch-1)=i+ch by omega]at h
 rw[h,chP,if_pos hi]
theorem Bhb{l:List UInt32}{k:Nat}(h:k<l.length):getI l (k:Int)=some (l.getD k 0):=by
 rw[Cl h];simp[List.getD_eq_getElem?_getD,h]
theorem Bhg(a b:Nat):Ho (a:Int) (b:Int)=((a %b:Nat):Int):=by rw[Ho,Int.tmod_eq_emod_of_nonneg (by omega)];omega
theorem Bbv(ch:Nat)(v:List UInt32)(hch:1≤ch)(hch6:ch≤6)(hv:v.length≤4000):∀(j i q:Nat),i %ch=v.length %ch→i≤v.length→v.length-i≤j→j<q→
  Ir (ch:Int) v q (i:Int) ((chP ch v (v.length %ch) i).1:Int) ((chP ch v (v.length %ch) i).2.1:Int) (chP ch v (v.length %ch) i).2.2.1 (chP ch v (v.length %ch) i).2.2.2=
   some (((chP ch v (v.length %ch) v.length).1:Int),((chP ch v (v.length %ch) v.length).2.1:Int),(chP ch v (v.length %ch) v.length).2.2.1,(chP ch v (v.length %ch) v.length).2.2.2)
 |j,i,q+1,hi,hl,hj,hq=>by
  have hc:v.length %ch<ch:=Nat.mod_lt _ (by omega)
  rw[Ir,Ty]
  by_cases h:i<v.length
  ·have h1:=Bwp (Ba3 ch v (v.length %ch) i) (v.getD i 0)
   rw[if_pos (by rw[Af,Ac];simp;omega),Bhb h,Aa,h1,Aa]
   have hle:i+ch≤v.length:=by
    have h2:=Nat.div_add_mod i ch
    have h3:=Nat.div_add_mod v.length ch
    rw[hi]at h2
    have h4:ch*(i/ch)<ch*(v.length/ch):=by omega
    have h5:=Nat.lt_of_mul_lt_mul_left h4
    have h6:ch*(i/ch+1)≤ch*(v.length/ch):=Nat.mul_le_mul_left _ h5
    rw[Nat.mul_add]at h6;omega
   have ih:=Bbv ch v hch hch6 hv (j-ch) (i+ch) q (by rw[Nat.add_mod_right];exact hi) hle (by omega) (by omega)
   rw[Bz4 ch v _ i hi hc]at ih
   simp only
   rw[Ah (by omega) (by omega)]
   exact ih
  ·rw[if_neg (by rw[Af,Ac];simp;omega),show i=v.length by omega];rfl
theorem Buo(ch:Nat)(v:List UInt32)(hch:1≤ch)(hch6:ch≤6)(hv:v.length≤4000):Mj (ch:Int) v=some (((chP ch v (v.length %ch) v.length).1:Int),((chP ch v (v.length %ch) v.length).2.1:Int),(chP ch v (v.length %ch) v.length).2.2.1,(chP ch v (v.length %ch) v.length).2.2.2):=by
 have hc:v.length %ch<ch:=Nat.mod_lt _ (by omega)
 have hle:v.length %ch≤v.length:=Nat.mod_le _ _
 have h:=Bbv ch v hch hch6 hv v.length (v.length %ch) FUEL (by rw[Nat.mod_mod]) hle (by omega) (by have:=Ap;omega)
 rw[Blj ch v _ _ (Nat.le_refl _) hc]at h
 rw[Mj,Uz,Kf,Aa]
 simp only
 rw[Dc (by rw[Ak];simp;omega),Aa,Ac,Bhg]
 exact h
def now(ch:Nat)(v:List UInt32):DuN:=chP ch v (v.length %ch) v.length
def win(N a:Nat):Nat:=min 81 (N-a)
def Mt(ch:Nat)(p:List UInt8)(N a:Nat)(out:List UInt32):UInt32×Int×Int:=dgS (Agk p a (win N a)) (win N a) 0 (now ch out).1 (now ch out).2.1
def Aab(ch:Nat)(p:List UInt8)(N:Nat):Nat→Nat→List UInt32→List UInt32×Nat×Int
 |0,a,out=>(out,a,0)
 |j+1,a,out=>if(Mt ch p N a out).2.2≠0 then(out,a,(Mt ch p N a out).2.2)else Aab ch p N j (a+(Mt ch p N a out).2.1.toNat) (out++[(Mt ch p N a out).1])
theorem Avr{ch:Nat}{p:List UInt8}{N a:Nat}{out:List UInt32}(h:(Mt ch p N a out).2.2=0):0<(Mt ch p N a out).2.1∧(Mt ch p N a out).2.1≤win N a:=by
 have:=Cfi h
 exact⟨this.1,this.2⟩
theorem Bih{ch:Nat}{p:List UInt8}{N a:Nat}{out:List UInt32}(h:(Mt ch p N a out).2.2=0):((a:Int)+(Mt ch p N a out).2.1)=((a+(Mt ch p N a out).2.1.toNat:Nat):Int):=by
 have:=Avr h;omega
def sts(ch:Nat)(v:List UInt32):List DuL:=(List.range 6).map fun c=>toI (chP ch v c v.length)
theorem Bsj{ch:Nat}{v:List UInt32}{c:Nat}(h:c<6):getI (sts ch v) (c:Int)=some (toI (chP ch v c v.length)):=by
 rw[Cl (by simp[sts];exact h)];simp[sts]
theorem Cds{ch:Nat}{v:List UInt32}{c:Nat}(x:UInt32)(h:c<6)(hc:c=v.length %ch):Mn (sts ch v) (c:Int) (toI (nxt (chP ch v c v.length) x))=some (sts ch (v++[x])):=by
 rw[Aav _ (by simp[sts];exact h)]
 congr 1
 apply List.ext_getElem (by simp[sts])
 intro i h1 h2
 rw[List.getElem_set]
 simp only[sts,List.getElem_map,List.getElem_range]
 have e:(v++[x]).getD v.length 0=x:=by simp
 rw[List.length_append,List.length_singleton,chP,e,Bsk ch v [x] i v.length (Nat.le_refl _)]
 by_cases hi:c=i
 ·subst hi;rw[if_pos rfl,if_pos hc.symm]
 ·rw[if_neg hi,if_neg (by omega)]
section
variable {p:List UInt8} {N ch n:Nat}
theorem Boj(hp:okB p N)(h1:1≤ch)(h6:ch≤6)(hn:n*ch≤4000):∀(j a q:Nat) (out:List UInt32),out.length+j=n*ch→j<q→a≤N→
  Nl (ch:Int) (n:Int) p (N:Int) q (a:Int) (out.length:Int) (sts ch out) out=
   some (if(Aab ch p N j a out).2.2≠0 then([],0,(Aab ch p N j a out).2.2)else((Aab ch p N j a out).1,((Aab ch p N j a out).2.1:Int),0))
 |j,a,q+1,out,hj,hq,ha=>by
  have hN:=hp.1
  have hnn:n≤n*ch:=Nat.le_mul_of_pos_right n (by omega)
  have em:Bj (n:Int) (ch:Int)=((n*ch:Nat):Int):=by rw[Jl (by rw[←Int.natCast_mul];omega) (by rw[←Int.natCast_mul];omega),Int.natCast_mul]
  rw[Nl,Uk,em]
  cases j with
  |zero=>
   rw[if_neg (by rw[Af];simp;omega)];rfl
  |succ j=>
   have hc:out.length %ch<6:=Nat.lt_of_lt_of_le (Nat.mod_lt _ (by omega)) h6
   have ew:Eh (Ae (a:Int) 81) (N:Int)=((a+win N a:Nat):Int):=by rw[An1,Ah (by omega) (by omega)];unfold win;omega
   have hw:a+win N a≤N:=by unfold win;omega
   have hw2:win N a≤81:=by unfold win;omega
   have hd:=Cdo (Bsc p a (win N a) (by omega)) 0 (Ba3 ch out (out.length %ch) out.length)
   have ecode:dgS (Agk p a (win N a)) (win N a) 0 (chP ch out (out.length %ch) out.length).1 (chP ch out (out.length %ch) out.length).2.1=Mt ch p N a out:=rfl
   rw[if_pos (by rw[Af];simp;omega),ew,Cfn hp a _ hw (by omega),Aa]
   simp only
   rw[if_neg (by rw[Ak];simp),Dc (by rw[Ak];simp;omega),Aa,Bhg,Bsj hc,Aa,Aa]
   refine Eq.trans (congrArg (fun o=>Option.bind o _) hd) ?_
   rw[Aa,ecode,Aab]
   by_cases he:(Mt ch p N a out).2.2≠0
   ·rw[if_pos he,if_pos he]
    simp only
    rw[Tt,Tu,if_pos (by rw[Ak];simpa using he),if_pos he]
   ·have he0:(Mt ch p N a out).2.2=0:=by simpa using he
    have hok:=Avr he0
    have hset:=Cds (ch:=ch) (v:=out) (Mt ch p N a out).1 hc rfl
    rw[if_neg he,if_neg he]
    simp only
    rw[Tt,Tu,if_neg (by rw[Ak];simp),Dc (by rw[Ak];simp;omega),Aa,Bhg,Bsj hc,Aa]
    refine Eq.trans (congrArg (fun o=>Option.bind o _) hset) ?_
    rw[Aa,Ach,Aly,Cs (by simp;omega),Aa,Ah (by omega) (by omega),Ah (by omega) (by omega),Bih he0]
    have ih:=Boj hp h1 h6 hn j (a+(Mt ch p N a out).2.1.toNat) q (out++[(Mt ch p N a out).1]) (by simp;omega) (by omega) (by omega)
    rw[List.length_append,List.length_singleton]at ih
    exact ih
theorem Bs1{p:List UInt8}(hN:N=8*p.length)(hN2:N≤330000)(h1:1≤ch)(h6:ch≤6)(hn:n*ch≤4000):∀(j a q:Nat) (out:List UInt32),out.length+j=n*ch→j<q→a≤N→
  Dm (ch:Int) (n:Int) p q (a:Int) (out.length:Int) out=
   if(Aab ch p N j a out).2.2≠0 then some ((Aab ch p N j a out).1,(Aab ch p N j a out).2.2)else Oa ((Aab ch p N j a out).2.1:Int) p (Aab ch p N j a out).1
 |j,a,q+1,out,hj,hq,ha=>by
  have hnn:n≤n*ch:=Nat.le_mul_of_pos_right n (by omega)
  have em:Bj (n:Int) (ch:Int)=((n*ch:Nat):Int):=by rw[Jl (by rw[←Int.natCast_mul];omega) (by rw[←Int.natCast_mul];omega),Int.natCast_mul]
  have e8:Bj (8:Int) (Ac p)=(N:Int):=by rw[Ac,Jl (by omega) (by omega)];omega
  rw[Dm,Vz,em]
  cases j with
  |zero=>
   rw[if_neg (by rw[Af];simp;omega)];rfl
  |succ j=>
   have ew:Eh (Ae (a:Int) 81) (N:Int)=((a+win N a:Nat):Int):=by rw[An1,Ah (by omega) (by omega)];unfold win;omega
   have hw:a+win N a≤N:=by unfold win;omega
   have hw2:win N a≤81:=by unfold win;omega
   have hpre:(Option.bind Kf fun(r_4,r_5,r_6,r_7)=>
     if(Ni (out.length:Int) (ch:Int))=true then(
     Option.bind (Mj (ch:Int) out) fun(r_8,r_9,r_10,r_11)=>
     Gq (Dm (ch:Int) (n:Int) p q) (ch:Int) (n:Int) p (a:Int) (out.length:Int) out r_8 r_9 r_10 r_11)
     else Gq (Dm (ch:Int) (n:Int) p q) (ch:Int) (n:Int) p (a:Int) (out.length:Int) out r_4 r_5 r_6 r_7)=
     Gq (Dm (ch:Int) (n:Int) p q) (ch:Int) (n:Int) p (a:Int) (out.length:Int) out ((now ch out).1:Int) ((now ch out).2.1:Int) (now ch out).2.2.1 (now ch out).2.2.2:=by
    rw[Kf,Aa]
    by_cases hc:ch≤out.length
    ·simp only
     rw[if_pos (by rw[Ef];simp;omega),Buo ch out h1 h6 (by omega),Aa];rfl
    ·have e:now ch out=Bkp:=by rw[now,Nat.mod_eq_of_lt (by omega),Blj ch out _ _ (Nat.le_refl _) (by omega)]
     simp only
     rw[if_neg (by rw[Ef];simp;omega),e];rfl
   have hd:=Bzf (Bsc p a (win N a) (by omega)) 0 (now ch out).1 (now ch out).2.1 (now ch out).2.2.1 (now ch out).2.2.2 (Ba3 ch out _ _).1 (Ba3 ch out _ _).2.1
   have ecode:dgS (Agk p a (win N a)) (win N a) 0 (now ch out).1 (now ch out).2.1=Mt ch p N a out:=rfl
   rw[if_pos (by rw[Af];simp;omega),hpre,Gq,Afl,e8,ew,Bpl p (N:Int) a _ (by omega) (by omega) (by omega),Aa]
   simp only
   refine Eq.trans (congrArg (fun o=>Option.bind o _) hd) ?_
   rw[Aa,ecode,Aab]
   by_cases he:(Mt ch p N a out).2.2≠0
   ·rw[if_pos he,if_pos (by rw[Ak];simpa using he),if_pos he]
   ·have he0:(Mt ch p N a out).2.2=0:=by simpa using he
    have hok:=Avr he0
    have ih:=Bs1 hN hN2 h1 h6 hn j (a+(Mt ch p N a out).2.1.toNat) q (out++[(Mt ch p N a out).1]) (by simp;omega) (by omega) (by omega)
    have hx:=Bih he0
    rw[List.length_append,List.length_singleton]at ih
    rw[if_neg he]
    generalize Mt ch p N a out=R at*
    obtain⟨v,nx,e⟩:=R
    simp only at*
    rw[if_neg (by rw[Ak];simpa using he),Cs (by simp;omega),Aa,Ah (by omega) (by omega),Ah (by omega) (by omega),hx]
    exact ih
end
theorem Bdf{ch:Nat}{p:List UInt8}{N:Nat}:∀(j a:Nat) (out:List UInt32),a≤N→(Aab ch p N j a out).2.1≤N∧(Aab ch p N j a out).1.length≤out.length+j∧((Aab ch p N j a out).2.2=0→(Aab ch p N j a out).1.length=out.length+j)
 |0,a,out,h=>⟨h,Nat.le_refl _,fun _=>rfl⟩
 |j+1,a,out,h=>by
  rw[Aab]
  split
  ·rename_i he
   exact⟨h,by simp,fun e=>absurd e he⟩
  ·rename_i he
   have hok:=Avr (ch:=ch) (p:=p) (N:=N) (a:=a) (out:=out) (by simpa using he)
   have hw:a+win N a≤N:=by unfold win;omega
   have ih:=Bdf (ch:=ch) (p:=p) (N:=N) j (a+(Mt ch p N a out).2.1.toNat) (out++[(Mt ch p N a out).1]) (by omega)
   rw[List.length_append,List.length_singleton]at ih
   exact⟨ih.1,by omega,fun e=>by have:=ih.2.2 e;omega⟩
theorem Bn6(ch n:Int)(b:List UInt8)(N:Int):Uh ch n b N 0 (List.replicate 6 ((0:Int),(0:Int),(0:UInt64),(0:UInt64),()))=Acg ch n b N (List.replicate 6 ((10:Int),(10:Int),(16384:UInt64),(16384:UInt64),())):=by
 have e:FUEL=(FUEL-7)+1+1+1+1+1+1+1:=by have:=Ap;omega
 rw[Uh,e]
 rfl
theorem values_eq{p:List UInt8}{N ch n:Nat}(hp:okB p N)(h1:1≤ch)(h6:ch≤6)(hn:n*ch≤4000):Afd (ch:Int) (n:Int) p (N:Int)=
  some (if(Aab ch p N (n*ch) 0 []).2.2≠0 then([],0,(Aab ch p N (n*ch) 0 []).2.2)else((Aab ch p N (n*ch) 0 []).1,((Aab ch p N (n*ch) 0 []).2.1:Int),0)):=by
 have h:=Boj hp h1 h6 hn (n*ch) 0 FUEL [] (by simp) (by have:=Ap;omega) (by omega)
 rw[Afd,Ae5,Bn6]
 exact h
theorem Bj9(p:List UInt8)(x:List UInt32)(N:Nat)(hN:N=8*p.length)(hN2:N≤330000):∀(j a q:Nat),a+j=N→j<q→Gu p x q (a:Int)=some (x,if Ck p a j=0 then 0 else 12)
 |0,a,q+1,ha,_=>by
  have e8:Bj (8:Int) (Ac p)=(N:Int):=by rw[Ac,Jl (by omega) (by omega)];omega
  rw[Gu,On,e8,if_neg (by rw[Af];simp;omega),Ck,if_pos rfl];rfl
 |j+1,a,q+1,ha,hq=>by
  have e8:Bj (8:Int) (Ac p)=(N:Int):=by rw[Ac,Jl (by omega) (by omega)];omega
  have hb:=Abb p a
  rw[Gu,On,e8,if_pos (by rw[Af];simp;omega),Bae p _ a (by omega) (by omega),Aa,Ck]
  by_cases h:Lh p a=0
  ·rw[if_neg (by rw[Ak];simp[h]),Ah (by omega) (by omega),h]
   have ih:=Bj9 p x N hN hN2 j (a+1) q (by omega) (by omega)
   rw[show((a:Int)+1)=((a+1:Nat):Int) by omega,ih]
   congr 2
   by_cases hv:Ck p (a+1) j=0
   ·rw[if_pos hv,if_pos (by omega)]
   ·rw[if_neg hv,if_neg (by omega)]
  ·rw[if_pos (by rw[Ak];simp;omega),if_neg (by omega)]
theorem Bsi{p:List UInt8}{N ch n:Nat}(hN:N=8*p.length)(hN2:N≤330000)(h1:1≤ch)(h6:ch≤6)(hn:n*ch≤4000):Wy (ch:Int) (n:Int) p=
  some (if(Aab ch p N (n*ch) 0 []).2.2≠0 then((Aab ch p N (n*ch) 0 []).1,(Aab ch p N (n*ch) 0 []).2.2)else
   ((Aab ch p N (n*ch) 0 []).1,if 7<N-(Aab ch p N (n*ch) 0 []).2.1∨Ck p (Aab ch p N (n*ch) 0 []).2.1 (N-(Aab ch p N (n*ch) 0 []).2.1)≠0 then 12 else 0)):=by
 have h:=Bs1 hN hN2 h1 h6 hn (n*ch) 0 FUEL [] (by simp) (by have:=Ap;omega) (by omega)
 have hat:=(Bdf (ch:=ch) (p:=p) (N:=N) (n*ch) 0 [] (by omega)).1
 have e8:Bj (8:Int) (Ac p)=(N:Int):=by rw[Ac,Jl (by omega) (by omega)];omega
 rw[Wy,Zb]
 refine Eq.trans h ?_
 generalize Aab ch p N (n*ch) 0 []=V at*
 obtain⟨v,a,e⟩:=V
 simp only at*
 by_cases he:e≠0
 ·rw[if_pos he,if_pos he]
 ·rw[if_neg he,if_neg he,Oa,We,e8,Bw (by omega) (by omega)]
  by_cases h7:7<N-a
  ·rw[if_pos (by rw[As];simp;omega),if_pos (.inl h7)]
  ·rw[if_neg (by rw[As];simp;omega),Ws,Bj9 p v N hN hN2 (N-a) a FUEL (by omega) (by have:=Ap;omega)]
   by_cases hv:Ck p a (N-a)=0
   ·rw[if_pos hv,if_neg (by omega)]
   ·rw[if_neg hv,if_pos (.inr hv)]
end Go.Pl
set_option linter.unusedVariables false
set_option linter.unusedSimpArgs false
namespace Go.Pl
open Go Go.Lv
theorem Bk3(n:Int):(GI.ofZ n:Int32)=Int32.ofInt n:=rfl
theorem Anh(a:Int32):GI.toZ a=a.toInt:=rfl
theorem Apq(a b:Int32):Ae a b=a+b:=by
 rw[Ae,Anh,Anh,Bk3,Int32.ofInt_add,Int32.ofInt_toInt,Int32.ofInt_toInt]
theorem Bhf(a b:Int32):Aj a b=a-b:=by
 rw[Aj,Anh,Anh,Bk3,Int32.ofInt_sub,Int32.ofInt_toInt,Int32.ofInt_toInt]
theorem Bt2(a b:Int32):geq a b=(a==b):=by
 rw[geq,Anh,Anh,Bool.eq_iff_iff];simp[Int32.toInt_inj]
def sel(p:Nat→Bool)(a b:List Int32):List Int32:=(List.range a.length).map fun k=>if p k=true then a.getD k 0 else b.getD k 0
section
variable {p q:Nat→Bool} {a b:List Int32}
theorem Aqo:(sel p a b).length=a.length:=by simp[sel]
theorem Om{k:Nat}(h:k<a.length):a.getD k 0=a[k]:=by simp[List.getD_eq_getElem?_getD,h]
theorem Ac3{k:Nat}(h:k<(sel p a b).length):(sel p a b)[k]=if p k=true then a.getD k 0 else b.getD k 0:=by simp[sel]
theorem Amx{k:Nat}(h:k<a.length):getI (sel p a b) (k:Int)=some (if p k=true then a.getD k 0 else b.getD k 0):=by
 rw[Cl (by rw[Aqo];exact h),Ac3]
theorem Acw(h:∀k,k<a.length→p k=q k):sel p a b=sel q a b:=by
 apply List.map_congr_left
 intro k hk
 rw[h k (List.mem_range.1 hk)]
theorem Azs{k:Nat}(h:k<a.length):Mn (sel p a b) (k:Int) (a.getD k 0)=some (sel (fun j=>p j||decide (j=k)) a b):=by
 rw[Aav _ (by rw[Aqo];exact h)]
 congr 1
 apply List.ext_getElem (by simp[Aqo])
 intro i h1 h2
 rw[List.getElem_set,Ac3,Ac3]
 by_cases hi:k=i
 ·subst hi;simp
 ·have:¬i=k:=fun e=>hi e.symm
  simp[hi,this]
theorem Az5(h:∀k,k<a.length→p k=true):sel p a b=a:=by
 apply List.ext_getElem (by simp[Aqo])
 intro i h1 h2
 rw[Ac3,if_pos (h i h2),Om h2]
theorem Ayj(hl:b.length=a.length)(h:∀k,k<a.length→p k=false):sel p a b=b:=by
 apply List.ext_getElem (by simp[Aqo,hl])
 intro i h1 h2
 rw[Ac3,h i (by omega)]
 simp[List.getD_eq_getElem?_getD,h2]
end
end Go.Pl
set_option linter.unusedVariables false
set_option linter.unusedSimpArgs false
namespace Go.Pl
open Go Go.Lv
theorem Bdv(a b:Int32):Bj a b=a*b:=by
 rw[Bj,Anh,Anh,Bk3,Int32.ofInt_mul,Int32.ofInt_toInt,Int32.ofInt_toInt]
theorem Adw(a:Int32): -2147483648≤a.toInt∧a.toInt<2147483648:=⟨a.le_toInt,a.toInt_lt⟩
theorem Ey(a:Int32):(Ad a:Int)=a.toInt:=by
 have:=Adw a
 show wrap64 a.toInt=_
 rw[Cg]<;>omega
theorem Akb(n:Int):(Ad n:Int32)=Int32.ofInt n:=rfl
theorem Bvn(x:Int):Int32.ofInt (x %4294967296)=Int32.ofInt x:=by
 apply Int32.toInt_inj.1
 rw[Int32.toInt_ofInt,Int32.toInt_ofInt]
 exact Int.emod_bmod x 4294967296
theorem Bdl(x:Int):Cf x=some (Int32.ofInt x):=by
 have e1:(Ad x:UInt64).toNat=(x %18446744073709551616).toNat:=by
  rw[Bog,UInt64.toNat_ofNat',Nat.mod_eq_of_lt (by omega)]
 have e2:(Ad (Ad x:UInt64):UInt32).toNat=(x %4294967296).toNat:=by
  have e:(Ad (Ad x:UInt64):UInt32)=UInt32.ofNat (Ad x:UInt64).toNat:=by simp only[Ad,Jn,Ep]
  rw[e,UInt32.toNat_ofNat',e1]
  show(x %18446744073709551616).toNat %4294967296=_
  omega
 have e3:(Ad (Ad (Ad x:UInt64):UInt32):Int32)=Int32.ofInt ((Ad (Ad x:UInt64):UInt32).toNat:Int):=rfl
 rw[Cf,e3,e2,←Bvn x]
 congr 2;omega
theorem Azm(a b:Int32):Cf (Ae (Ad a:Int) (Ad b:Int))=some (a+b):=by
 have:=Adw a
 have:=Adw b
 rw[Ey,Ey,Ah (by omega) (by omega),Bdl,Int32.ofInt_add,Int32.ofInt_toInt,Int32.ofInt_toInt]
theorem Bxe(a b:Int32):Cf (Bj (Ad a:Int) (Ad b:Int))=some (a*b):=by
 have ha:=Adw a
 have hb:=Adw b
 have h1: -9223372036854775808≤a.toInt*b.toInt∧a.toInt*b.toInt≤9223372036854775807:=by
  have h2:(a.toInt*b.toInt).natAbs≤2147483648*2147483648:=by
   rw[Int.natAbs_mul];exact Nat.mul_le_mul (by omega) (by omega)
  omega
 rw[Ey,Ey,Jl h1.1 h1.2,Bdl,Int32.ofInt_mul,Int32.ofInt_toInt,Int32.ofInt_toInt]
def OkF(s:Int)(t p:List Int32):Prop:=(s=9∨s=10)∧t.length=16∧p.length=16
theorem Baz{s:Int}{t p:List Int32}(h:OkF s t p):Af9 s t p=some 0:=by
 obtain⟨rfl|rfl,_,_⟩:=h<;>rfl
theorem g32{l:List Int32}{k:Nat}(h:k<l.length):getI l (k:Int)=some (l.getD k 0):=by
 rw[Cl h];simp[List.getD_eq_getElem?_getD,h]
def Aty(t p:List Int32):Nat→Int32
 |0=>0
 |i+1=>Aty t p i+t.getD i 0*p.getD i 0
def half(s:Int):Int32:=if s=9 then 256 else 512
def gF(s:Int)(t p:List Int32):Int32:=Int32.ofInt ((half s+Aty t p 16).toInt.fdiv (if s=9 then 512 else 1024))
theorem Bjk{s:Int}{t p:List Int32}(h:OkF s t p):∀(j i q:Nat),i+j=16→j<q→Vm t s p q (half s+Aty t p i) (i:Int)=some (gF s t p,0)
 |0,i,q+1,hi,_=>by
  obtain rfl:i=16:=by omega
  have hs:=h.1
  rw[Vm,Ahd,if_neg (by rw[Af];simp),Aoo,Awf,Dc (by rw[Ef];simp;omega),Aa]
  obtain rfl|rfl:=hs<;>rfl
 |j+1,i,q+1,hi,hq=>by
  obtain⟨hs,ht,hp⟩:=h
  rw[Vm,Ahd,if_pos (by rw[Af];simp;omega),g32 (by omega),Aa,g32 (by omega),Aa,Aa,Ah (b:=1) (by omega) (by omega),Apq,Bdv,Int32.add_assoc]
  exact Bjk ⟨hs,ht,hp⟩ j (i+1) q (by omega) (by omega)
theorem Byb{s:Int}{t p:List Int32}(h:OkF s t p):Amh s t p=some (gF s t p,0):=by
 have hs:=h.1
 have h1:=Bjk h 16 0 FUEL (by omega) (by have:=Ap;omega)
 have e:Dt (1:Int32) (GI.toZ (Aj s (1:Int))).toNat=half s+Aty t p 0:=by
  obtain rfl|rfl:=hs<;>rfl
 rw[Amh,Ant,Baz h,Aa,if_neg (by rw[Ak];simp),Dc (by rw[Ef,Bw (by omega) (by omega)];simp;omega),Aa,Anq,e]
 exact h1
theorem Be3{s:Int}{t p:List Int32}(ht:t.length=16)(hp:p.length=16){g:Int32}(hg:Aty t p 16=g):∀(j i q:Nat),i+j=16→j<q→Jb s t p q (Aty t p i).toInt (i:Int)=some g
 |0,i,q+1,hi,_=>by
  obtain rfl:i=16:=by omega
  rw[Jb,Rk,if_neg (by rw[Af];simp),Aas,Ajh,Akb,Int32.ofInt_toInt,hg]
 |j+1,i,q+1,hi,hq=>by
  have ih:=Be3 (s:=s) ht hp hg j (i+1) q (by omega) (by omega)
  rw[Aty]at ih
  rw[Jb,Rk,if_pos (by rw[Af];simp;omega),g32 (by omega),g32 (by omega),Aa,Aa,Aa,Aa,Bxe,Aa,←Ey (Aty t p i),Azm,Aa,Ey,Ah (by omega) (by omega)]
  exact ih
theorem Bzy{s:Int}{t p:List Int32}(h:OkF s t p):Agw s t p=some (Aty t p 16):=
 Be3 h.2.1 h.2.2 rfl 16 0 FUEL (by omega) (by have:=Ap;omega)
theorem Bwm(x n:Int)(hn:n=512∨n=1024∨n=16∨n=32):(if x.tmod n<0 then x.tdiv n-1 else x.tdiv n)=x.fdiv n:=by
 have hs:n.sign=1:=by obtain rfl|rfl|rfl|rfl:=hn<;>rfl
 rw[Int.tdiv_eq_ediv,Int.tmod_eq_emod,hs,Int.fdiv_eq_ediv_of_nonneg _ (by omega)]
 by_cases h:0≤x∨n∣x
 ·rw[if_pos h,if_pos h]
  obtain rfl|rfl|rfl|rfl:=hn<;>(rw[if_neg (by omega)];omega)
 ·rw[if_neg h,if_neg h]
  obtain rfl|rfl|rfl|rfl:=hn<;>(rw[if_pos (by omega)];omega)
theorem Bfo(x n:Int)(hn:n=512∨n=1024∨n=16∨n=32)(h: -1000000000000≤x)(h':x≤1000000000000): -1000000000000≤x.tdiv n∧x.tdiv n≤1000000000000:=by
 have hs:n.sign=1:=by obtain rfl|rfl|rfl|rfl:=hn<;>rfl
 rw[Int.tdiv_eq_ediv,hs]
 by_cases h:0≤x∨n∣x
 ·rw[if_pos h];obtain rfl|rfl|rfl|rfl:=hn<;>omega
 ·rw[if_neg h];obtain rfl|rfl|rfl|rfl:=hn<;>omega
theorem Cg4(x n:Int)(hn:n=512∨n=1024∨n=16∨n=32)(h: -1000000000000≤x)(h':x≤1000000000000):Cp x n=x.tdiv n:=by
 have:=Bfo x n hn h h'
 rw[Aiy,Cg (by omega) (by omega)]
theorem Bnu(x n:Int)(hn:n=512∨n=1024∨n=16∨n=32)(h: -1000000000000≤x)(h':x≤1000000000000):
  (if(Cc (Ho x n) (0:Int))=true then some (Ad (Aj (Cp x n) (1:Int)):Int32)else some (Ad (Cp x n):Int32))=some (Int32.ofInt (x.fdiv n)):=by
 have hb:=Bfo x n hn h h'
 rw[Af,Ho,Cg4 x n hn h h',Bw (by omega) (by omega),Akb,Akb,←Bwm x n hn]
 by_cases hx:x.tmod n<0
 ·rw[if_pos (by simpa using hx),if_pos hx]
 ·rw[if_neg (by simpa using hx),if_neg hx]
theorem Cdy{s:Int}{t p:List Int32}(h:OkF s t p):Xh s t p=some (gF s t p):=by
 obtain⟨hs,ht,hp⟩:=h
 have h:OkF s t p:=⟨hs,ht,hp⟩
 have hx:=Adw (Aty t p 16+half s)
 have key:∀n:Int,(n=512∨n=1024)→(half s).toInt=n/2→gF s t p=Int32.ofInt ((half s+Aty t p 16).toInt.fdiv n)→Pw s t p n=some (gF s t p):=by
  intro n hn hh hg
  have e2:Cp n (2:Int)=(half s).toInt:=by rw[hh];obtain rfl|rfl:=hn<;>rfl
  rw[Pw,Aif,Bzy h,Aa,e2,←Ey (half s),Azm,Aa,Dc (by rw[Ak];simp;omega),Aa,Aa,Ey,Bnu _ n (by omega) (by omega) (by omega),hg,Int32.add_comm]
 rw[Xh,Yo]
 obtain rfl|rfl:=hs
 ·rw[if_pos (by rw[Aq];rfl)];exact key 512 (.inl rfl) rfl rfl
 ·rw[if_neg (by rw[Aq];decide)];exact key 1024 (.inr rfl) rfl rfl
def stp(i:Nat):Int32:=if i=0 then 4 else if i<4 then 2 else 1
def sg(x:Int32):Int32:=if x.toInt<0 then -1 else if 0<x.toInt then 1 else 0
def lrn(t p:List Int32)(w:Int32):List Int32:=(List.range 16).map fun i=>t.getD i 0+stp i*sg (p.getD i 0)*sg w
theorem Ahc(t p:List Int32)(w:Int32):(lrn t p w).length=16:=by simp[lrn]
theorem Bls(t p:List Int32)(w:Int32){i:Nat}(h:i<16):(lrn t p w).getD i 0=t.getD i 0+stp i*sg (p.getD i 0)*sg w:=by
 rw[Om (by rw[Ahc];exact h)];simp[lrn]
theorem step_eq(i:Nat):Aow (i:Int)=some (stp i):=by
 rw[Aow,stp]
 by_cases h:i=0
 ·rw[if_pos (by rw[Aq];simp[h]),if_pos h]
 ·rw[if_neg (by rw[Aq];simp;omega),if_neg h]
  by_cases h2:i<4
  ·rw[if_pos (by rw[Af];simp;omega),if_pos h2]
  ·rw[if_neg (by rw[Af];simp;omega),if_neg h2]
theorem Bwq(i:Nat):Ww (i:Int)=some (stp i):=by
 rw[Ww,stp]
 by_cases h:i=0
 ·rw[if_pos (by rw[Aq];simp[h]),if_pos h]
 ·rw[if_neg (by rw[Aq];simp;omega),if_neg h]
  by_cases h2:i<4
  ·rw[if_pos (by rw[Aro];simp;omega),if_pos h2]
  ·rw[if_neg (by rw[Aro];simp;omega),if_neg h2]
theorem Blq(a b:Int32):Cc a b=decide (a.toInt<b.toInt):=rfl
theorem Bq2(a b:Int32):Ee a b=decide (b.toInt<a.toInt):=rfl
theorem sign_eq(x:Int32):Pp x=some (sg x):=by
 rw[Pp,sg,Blq,Bq2,show(0:Int32).toInt=0 from rfl]
 by_cases h:x.toInt<0
 ·rw[if_pos (by simpa using h),if_pos h]
 ·rw[if_neg (by simpa using h),if_neg h]
  by_cases h2:0<x.toInt
  ·rw[if_pos (by simpa using h2),if_pos h2]
  ·rw[if_neg (by simpa using h2),if_neg h2]
theorem Bto:sg 0=0:=rfl
theorem toInt_ne{x:Int32}(h:x≠0):x.toInt≠0:=fun e=>h (Int32.toInt_inj.1 (by rw[e];rfl))
theorem Blg{x:Int32}(h:x.toInt<0):sg x= -1:=by rw[sg,if_pos h]
theorem Blr{x:Int32}(h:x≠0)(h2:¬x.toInt<0):sg x=1:=by
 have:=toInt_ne h
 rw[sg,if_neg h2,if_pos (by omega)]
theorem Avm(i:Nat):stp i=4∨stp i=2∨stp i=1:=by
 unfold stp
 by_cases h:i=0
 ·rw[if_pos h];exact .inl rfl
 ·rw[if_neg h];split;exact .inr (.inl rfl);exact .inr (.inr rfl)
theorem Bvz{x w:Int32}(hx:x≠0)(hw:w≠0)(h:(x.toInt<0)=(w.toInt<0))(i:Nat):stp i*sg x*sg w=stp i:=by
 by_cases h1:x.toInt<0
 ·rw[Blg h1,Blg (by rw[←h];exact h1)]
  obtain e|e|e:=Avm i<;>rw[e]<;>decide
 ·rw[Blr hx h1,Blr hw (by rw[←h];exact h1)]
  obtain e|e|e:=Avm i<;>rw[e]<;>decide
theorem Bqz{x w:Int32}(hx:x≠0)(hw:w≠0)(h:¬(x.toInt<0)=(w.toInt<0))(i:Nat)(a:Int32):a+stp i*sg x*sg w=a-stp i:=by
 have key:stp i*sg x*sg w=-stp i:=by
  by_cases h1:x.toInt<0
  ·have h2:¬w.toInt<0:=fun h2=>h (propext ⟨fun _=>h2,fun _=>h1⟩)
   rw[Blg h1,Blr hw h2]
   obtain e|e|e:=Avm i<;>rw[e]<;>decide
  ·have h2:w.toInt<0:=Decidable.by_contra fun h2=>h (propext ⟨fun h3=>absurd h3 h1,fun h3=>absurd h3 h2⟩)
   rw[Blr hx h1,Blg h2]
   obtain e|e|e:=Avm i<;>rw[e]<;>decide
 rw[key,Int32.sub_eq_add_neg]
def Ay7(i:Nat):Nat→Bool:=fun j=>decide (j<i)
theorem Bha{a b:List Int32}{i:Nat}(h:i<a.length):Mn (sel (Ay7 i) a b) (i:Int) (a.getD i 0)=some (sel (Ay7 (i+1)) a b):=by
 rw[Azs h]
 congr 1
 apply Acw
 intro k _
 rw[Bool.eq_iff_iff]
 simp only[Ay7,Bool.or_eq_true,decide_eq_true_eq];omega
theorem Bwx{a b:List Int32}{i:Nat}(e:a.getD i 0=b.getD i 0):sel (Ay7 i) a b=sel (Ay7 (i+1)) a b:=by
 apply List.map_congr_left
 intro k _
 simp only[Ay7,decide_eq_true_eq]
 by_cases h1:k<i
 ·rw[if_pos h1,if_pos (by omega)]
 ·by_cases h2:k=i
  ·subst h2;rw[if_neg h1,if_pos (by omega),e]
  ·rw[if_neg h1,if_neg (by omega)]
theorem Bnv{a b:List Int32}{i:Nat}(h:i<a.length):getI (sel (Ay7 i) a b) (i:Int)=some (b.getD i 0):=by
 rw[Amx h,if_neg (by simp[Ay7])]
theorem Biv{s:Int}{t p:List Int32}{w:Int32}(hw:w≠0)(ht:t.length=16)(hp:p.length=16):∀(j i q:Nat),i+j=16→j<q→Vq w p s q (i:Int) (sel (Ay7 i) (lrn t p w) t)=some (s,lrn t p w,p,0)
 |0,i,q+1,hi,_=>by
  obtain rfl:i=16:=by omega
  rw[Vq,Ag8,if_neg (by rw[Af];simp),Az5 (fun k hk=>by rw[Ahc]at hk;simpa [Ay7]using hk)];rfl
 |j+1,i,q+1,hi,hq=>by
  have hl:=Ahc t p w
  have hg:=Bls t p w (i:=i) (by omega)
  rw[Vq,Ag8,if_pos (by rw[Af];simp;omega),g32 (by omega),Aa,Ah (b:=1) (by omega) (by omega),Bnv (by omega),step_eq]
  simp only[Aa]
  rw[Apq,Bhf,Bt2,Blq,Blq,show(0:Int32).toInt=0 from rfl]
  have ih:=Biv (s:=s) hw ht hp j (i+1) q (by omega) (by omega)
  by_cases hx:p.getD i 0=0
  ·rw[if_pos (by rw[hx];rfl),Bwx (by rw[hg,hx,Bto,Int32.mul_zero,Int32.zero_mul,Int32.add_zero])]
   exact ih
  ·rw[if_neg (by simpa using hx)]
   by_cases hs:((p.getD i 0).toInt<0)=(w.toInt<0)
   ·rw[if_pos (by rw[beq_iff_eq];simp only[hs]),show t.getD i 0+stp i=(lrn t p w).getD i 0 by rw[hg,Bvz hx hw hs],Bha (by omega),Aa]
    exact ih
   ·rw[if_neg (by rw[beq_iff_eq,decide_eq_decide];exact fun h=>hs (propext h)),show t.getD i 0-stp i=(lrn t p w).getD i 0 by rw[hg,Bqz hx hw hs],Bha (by omega),Aa]
    exact ih
theorem Bxb{t:List Int32}(p:List Int32)(ht:t.length=16):lrn t p 0=t:=by
 apply List.ext_getElem (by rw[Ahc,ht])
 intro i h1 h2
 have:=Bls t p 0 (i:=i) (by omega)
 rw[Om h1,Om h2]at this
 rw[this,Bto,Int32.mul_zero,Int32.add_zero]
theorem Bxy{s:Int}{t p:List Int32}(h:OkF s t p)(w:Int32):Aqf s t p w=some (s,lrn t p w,p,0):=by
 rw[Aqf,Anv,Baz h,Aa,if_neg (by rw[Ak];simp),Bt2]
 by_cases hw:w=0
 ·rw[if_pos (by simpa using hw),hw,Bxb p h.2.1]
 ·have h1:=Biv (s:=s) hw h.2.1 h.2.2 16 0 FUEL (by omega) (by have:=Ap;omega)
  rw[Ayj (by rw[Ahc,h.2.1]) (fun k _=>by simp[Ay7])]at h1
  rw[if_neg (by simpa using hw)]
  exact h1
theorem Ayi{s:Int}{t p:List Int32}{w:Int32}(ht:t.length=16)(hp:p.length=16):∀(j i q:Nat),i+j=16→j<q→Fc w s p q (i:Int) (sel (Ay7 i) (lrn t p w) t)=some (s,lrn t p w,p)
 |0,i,q+1,hi,_=>by
  obtain rfl:i=16:=by omega
  rw[Fc,Lr,if_neg (by rw[Af];simp),Az5 (fun k hk=>by rw[Ahc]at hk;simpa [Ay7]using hk)];rfl
 |j+1,i,q+1,hi,hq=>by
  have hl:=Ahc t p w
  have hg:=Bls t p w (i:=i) (by omega)
  rw[Fc,Lr,if_pos (by rw[Af];simp;omega),g32 (l:=p) (by omega),Ah (b:=1) (by omega) (by omega),Bnv (by omega),Bwq,sign_eq w,Aa,Aa,Aa,Aa,Aa,sign_eq,Aa,Aa,Aa,Apq,Bdv,Bdv,←hg,Bha (by omega),Aa]
  exact Ayi ht hp j (i+1) q (by omega) (by omega)
theorem Brj{s:Int}{t p:List Int32}(h:OkF s t p)(w:Int32):Yv s t p w=some (s,lrn t p w,p):=by
 have h1:=Ayi (s:=s) (w:=w) h.2.1 h.2.2 16 0 FUEL (by omega) (by have:=Ap;omega)
 rw[Ayj (by rw[Ahc,h.2.1]) (fun k _=>by simp[Ay7])]at h1
 exact h1
theorem Ca6{p:List Int32}(h:p.length=16):∃a0 a1 a2 a3 a4 a5 a6 a7 a8 a9 b0 b1 b2 b3 b4 b5,p=[a0,a1,a2,a3,a4,a5,a6,a7,a8,a9,b0,b1,b2,b3,b4,b5]:=by
 match p,h with
 |[a0,a1,a2,a3,a4,a5,a6,a7,a8,a9,b0,b1,b2,b3,b4,b5],_=>exact⟨a0,a1,a2,a3,a4,a5,a6,a7,a8,a9,b0,b1,b2,b3,b4,b5,rfl⟩
theorem Ccl{s:Int}{t p:List Int32}(h:OkF s t p)(x:Int32):Ave s t p x=some (s,t,x::p.take 15,0):=by
 obtain⟨hs,ht,hp⟩:=h
 rw[Ave,Ajs,Baz ⟨hs,ht,hp⟩,Aa,if_neg (by rw[Ak];simp),show vwI (16:Int) 1 16=some ()from rfl,Aa,show vwI (16:Int) 0 16=some ()from rfl,Aa,Aqm,Az7]
 obtain⟨a0,a1,a2,a3,a4,a5,a6,a7,a8,a9,b0,b1,b2,b3,b4,b5,rfl⟩:=Ca6 hp
 rfl
def shf(p:List Int32)(i:Nat):List Int32:=(List.range 16).map fun k=>if k≤i then p.getD k 0 else p.getD (k-1) 0
theorem Abq(p:List Int32)(i:Nat):(shf p i).length=16:=by simp[shf]
theorem Cbd(p:List Int32)(i k:Nat)(h:k<16):(shf p i).getD k 0=if k≤i then p.getD k 0 else p.getD (k-1) 0:=by
 rw[Om (by rw[Abq];exact h)];simp[shf]
theorem Cbp(p:List Int32)(i:Nat)(h:i+1<16):Mn (shf p (i+1)) ((i+1:Nat):Int) (p.getD i 0)=some (shf p i):=by
 rw[Aav _ (by rw[Abq];exact h)]
 congr 1
 apply List.ext_getElem (by simp[Abq])
 intro k h1 h2
 rw[Abq]at h2
 rw[List.getElem_set]
 simp only[shf,List.getElem_map,List.getElem_range]
 by_cases hk:i+1=k
 ·subst hk;rw[if_pos rfl,if_neg (by omega)];rfl
 ·rw[if_neg hk]
  by_cases h3:k≤i
  ·rw[if_pos (by omega),if_pos h3]
  ·rw[if_neg (by omega),if_neg h3]
theorem Bcs(s:Int)(t p:List Int32)(x:Int32)(hp:p.length=16):∀(i q:Nat),i<16→i<q→Fz x s t q (i:Int) (shf p i)=some (s,t,x::p.take 15)
 |0,q+1,_,_=>by
  have hg:getI (shf p 0) (0:Int)=some ((shf p 0).getD 0 0):=g32 (l:=shf p 0) (k:=0) (by rw[Abq];omega)
  have hset:Mn (shf p 0) (0:Int) x=some ((shf p 0).set 0 x):=Aav (l:=shf p 0) (n:=0) x (by rw[Abq];omega)
  rw[Fz,Mu,if_neg (by rw[As];simp),Uf,Aek,hg,Aa,hset,Aa]
  congr 3
  apply List.ext_getElem (by simp[Abq,hp])
  intro k h1 h2
  rw[List.length_set,Abq]at h1
  rw[List.getElem_set]
  cases k with
  |zero=>rw[if_pos rfl];rfl
  |succ k=>
   rw[if_neg (by omega)]
   simp only[shf,List.getElem_map,List.getElem_range,List.getElem_cons_succ,List.getElem_take]
   rw[if_neg (by omega),Nat.add_sub_cancel,Om (by omega)]
 |i+1,q+1,hi,hq=>by
  have hg:=g32 (l:=shf p (i+1)) (k:=i) (by rw[Abq];omega)
  rw[Cbd p (i+1) i (by omega),if_pos (by omega)]at hg
  have e1:Aj ((i+1:Nat):Int) (1:Int)=(i:Int):=by rw[Bw (by omega) (by omega)];omega
  have hg2:=g32 (l:=shf p (i+1)) (k:=i+1) (by rw[Abq];omega)
  rw[Fz,Mu,if_pos (by rw[As];simp),e1,hg,Aa,Aa,hg2,Aa,Cbp p i hi,Aa]
  exact Bcs s t p x hp i q (by omega) (by omega)
theorem Bum{s:Int}{t p:List Int32}(hp:p.length=16)(x:Int32):Aao s t p x=some (s,t,x::p.take 15):=by
 have h:=Bcs s t p x hp 15 FUEL (by omega) (by have:=Ap;omega)
 have e:shf p 15=p:=by
  apply List.ext_getElem (by rw[Abq,hp])
  intro k h1 h2
  rw[Abq]at h1
  simp only[shf,List.getElem_map,List.getElem_range]
  rw[if_pos (by omega),Om h2]
 rw[e]at h
 exact h
theorem Caw{s:Int}{t p:List Int32}(h:OkF s t p)(w x:Int32):OkF s (lrn t p w) (x::p.take 15):=⟨h.1,Ahc _ _ _,by simp[h.2.2]⟩
theorem Cbm{s:Int}{t p:List Int32}(h:OkF s t p)(y:Int32):Atn s t p y=some (y+gF s t p,s,lrn t p y,(y+gF s t p)::p.take 15,0):=by
 rw[Atn,Byb h,Aa]
 simp only
 rw[if_neg (by rw[Ak];simp),Apq,Aqs,Bxy h,Aa]
 simp only
 rw[Ccl (s:=s) (t:=lrn t p y) (p:=p) ⟨h.1,Ahc _ _ _,h.2.2⟩,Aa];rfl
theorem Bvo{s:Int}{t p:List Int32}(h:OkF s t p)(y:Int32):Pr s t p y=some (y+gF s t p,s,lrn t p y,(y+gF s t p)::p.take 15):=by
 rw[Pr,Cdy h,Aa,Azm,Aa,Brj h,Aa]
 simp only
 rw[Bum h.2.2,Aa]
def sB(bits:Int):Int:=if bits=16 then 9 else 10
def shB(bits:Int):Int:=if bits=8 then 4 else 5
def Cm(bits:Int):Prop:=bits=8∨bits=16∨bits=24
def gs(sh:Int)(last:Int32):Int32:=Ad (Bk8 (Aj (Dt (Ad last:Int) sh.toNat) (Ad last)) sh.toNat)
theorem Chq(bits:Int):sB bits=9∨sB bits=10:=by unfold sB;split<;>simp
theorem Cbt(bits:Int):0≤shB bits:=by unfold shB;split<;>omega
theorem Cii{bits:Int}(h:Cm bits)(t:List Int32):Ayu bits t=some (sB bits,t,List.replicate 16 0,0):=by
 obtain rfl|rfl|rfl:=h<;>rfl
theorem Cfq{bits:Int}(h:Cm bits):Aup bits=some (shB bits,0):=by
 obtain rfl|rfl|rfl:=h<;>rfl
theorem Cfa{sh:Int}(h:0≤sh)(last:Int32):Am3 sh last=some (gs sh last):=by
 rw[Am3,Dc (by rw[Ef];simpa using h),Aa,Aa];rfl
theorem Cf5{bits:Int}(h:Cm bits)(last:Int32):Yf bits last=some (gs (shB bits) last,0):=by
 rw[Yf,Cfq h,Aa]
 simp only
 rw[if_neg (by rw[Ak];simp),Cfa (Cbt bits),Aa]
theorem Br3{bits:Int}(h:Cm bits)(last:Int32)(t p:List Int32):Zi bits last (sB bits) t p=some 0:=by
 rw[Zi,Cii h,Aa]
 simp only
 rw[if_neg (by rw[Ak,Ak];simp)]
theorem Bvg{bits:Int}(h:Cm bits){t p:List Int32}(hF:OkF (sB bits) t p)(last y:Int32):
  Ly bits last (sB bits) t p y=some (y+gF (sB bits) t p+gs (shB bits) last,bits,y+gF (sB bits) t p+gs (shB bits) last,sB bits,lrn t p y,(y+gF (sB bits) t p)::p.take 15,0):=by
 rw[Ly,Br3 h,Aa,if_neg (by rw[Ak];simp),Cf5 h,Aa]
 simp only
 rw[Cbm hF,Aa]
 simp only
 rw[Apq]
theorem Ba7(sh:Int)(hs:sh=4∨sh=5)(last:Int32):Mf sh last=some (gs sh last):=by
 have hl:=Adw last
 have key:∀n:Int,n=16∨n=32→gs sh last=Int32.ofInt (((n-1)*last.toInt).fdiv n)→My last n=some (gs sh last):=by
  intro n hn hg
  have e:Bj (Aj n (1:Int)) (Ad last:Int)=(n-1)*last.toInt:=by
   obtain rfl|rfl:=hn<;>(rw[Ey,Bw (by omega) (by omega),Jl (by omega) (by omega)])
  rw[My,Ad3,Dc (by rw[Ak];simp;omega),Aa,Aa,e,Bnu _ n (by omega) (by obtain rfl|rfl:=hn<;>omega) (by obtain rfl|rfl:=hn<;>omega),hg]
 rw[Mf,Ub]
 obtain rfl|rfl:=hs
 ·rw[if_neg (by rw[Aq];decide)]
  refine key 16 (.inl rfl) ?_
  have e:Dt (Ad last:Int) (4:Int).toNat=last.toInt*16:=by
   rw[Ey];show wrap64 (last.toInt*2^4)=_;rw[Cg]<;>omega
  rw[gs,e,Ey,Bw (by omega) (by omega),Akb]
  show Int32.ofInt ((last.toInt*16-last.toInt).fdiv 16)=_
  congr 2;omega
 ·rw[if_pos (by rw[Aq];rfl)]
  refine key 32 (.inr rfl) ?_
  have e:Dt (Ad last:Int) (5:Int).toNat=last.toInt*32:=by
   rw[Ey];show wrap64 (last.toInt*2^5)=_;rw[Cg]<;>omega
  rw[gs,e,Ey,Bw (by omega) (by omega),Akb]
  show Int32.ofInt ((last.toInt*32-last.toInt).fdiv 32)=_
  congr 2;omega
theorem Bu2{bits:Int}(h:Cm bits){t p:List Int32}(hF:OkF (sB bits) t p)(last y:Int32):
  Ia bits last (sB bits) t p y=some (y+gF (sB bits) t p+gs (shB bits) last,bits,y+gF (sB bits) t p+gs (shB bits) last,sB bits,lrn t p y,(y+gF (sB bits) t p)::p.take 15):=by
 have hb:Rv bits last (sB bits) t p=some (Ad (gs (shB bits) last):Int):=by
  rw[Rv]
  obtain rfl|rfl|rfl:=h
  ·rw[if_pos (by rw[Aq];rfl),Ba7 4 (.inl rfl),Aa];rfl
  ·rw[if_neg (by rw[Aq];decide),Ba7 5 (.inr rfl),Aa];rfl
  ·rw[if_neg (by rw[Aq];decide),Ba7 5 (.inr rfl),Aa];rfl
 rw[Ia,Bvo hF,Aa]
 simp only
 rw[hb,Aa,Azm,Aa]
theorem Cg9{bits:Int}(h:Cm bits)(t:List Int32):Ags bits t=some (bits,0,sB bits,t,List.replicate 16 0,0):=by
 obtain rfl|rfl|rfl:=h<;>rfl
def Ar6(n:UInt32):Int32:=if n.toNat %2=0 then Int32.ofInt ((n.toNat/2:Nat):Int)else Int32.ofInt (-((n.toNat/2:Nat):Int)-1)
theorem Bme(a b:Int32):(Aa5 a b).toBitVec=a.toBitVec^^^b.toBitVec:=by
 show(Int32.ofInt ((BitVec.ofInt 32 a.toBitVec.toInt^^^BitVec.ofInt 32 b.toBitVec.toInt).toNat:Int)).toBitVec=_
 rw[BitVec.ofInt_toInt,BitVec.ofInt_toInt,Int32.toBitVec_ofInt,BitVec.ofInt_natCast,BitVec.ofNat_toNat,BitVec.setWidth_eq]
theorem Cg7(m:Nat)(h:m<2147483648):Aa5 (Int32.ofInt (m:Int)) (Int32.ofInt (-1))=Int32.ofInt (-(m:Int)-1):=by
 apply Int32.toBitVec_inj.1
 have e1:(Int32.ofInt (-1)).toBitVec=BitVec.allOnes 32:=by decide
 rw[Bme,e1,BitVec.xor_allOnes,Int32.toBitVec_ofInt,Int32.toBitVec_ofInt]
 apply BitVec.eq_of_toNat_eq
 rw[BitVec.toNat_not,BitVec.toNat_ofInt,BitVec.toNat_ofInt]
 omega
theorem Cah(n:UInt32):Zz n=some (Ar6 n):=by
 have hn:=n.toNat_lt
 have e1:(Ad (Ca n (GI.toZ (1:UInt64)).toNat):Int32)=Int32.ofInt ((n.toNat/2:Nat):Int):=by
  show Int32.ofInt ((Ca n 1).toNat:Int)=_
  rw[Apr]
 have e2:(Ad (Dy n (1:UInt32)):Int32)=Int32.ofInt ((n.toNat %2:Nat):Int):=by
  show Int32.ofInt ((Dy n (1:UInt32)).toNat:Int)=_
  rw[Bnq,UInt32.toNat_and]
  show Int32.ofInt ((n.toNat&&&1:Nat):Int)=_
  rw[Nat.and_one_is_mod]
 rw[Zz,e1,e2,Ar6]
 congr 1
 by_cases h:n.toNat %2=0
 ·have e3:Ayf (Int32.ofInt ((n.toNat %2:Nat):Int))=Int32.ofInt 0:=by rw[h];decide
  rw[if_pos h,e3]
  apply Int32.toBitVec_inj.1
  rw[Bme,show(Int32.ofInt 0).toBitVec=0#32 from rfl,BitVec.xor_zero]
 ·have e3:Ayf (Int32.ofInt ((n.toNat %2:Nat):Int))=Int32.ofInt (-1):=by rw[show n.toNat %2=1 by omega];decide
  rw[if_neg h,e3,Cg7 _ (by omega)]
theorem Cch(n:UInt32):Lf n=some (Ar6 n):=by
 have hn:=n.toNat_lt
 have e1:geq (Ada n (2:UInt32)) (0:UInt32)=decide (n.toNat %2=0):=by
  rw[Bl6,Bmo,Bool.eq_iff_iff]
  simp only[beq_iff_eq,←UInt32.toNat_inj,UInt32.toNat_mod,decide_eq_true_eq];rfl
 rw[Lf,e1,Ar6]
 by_cases h:n.toNat %2=0
 ·rw[if_pos (by simpa using h),if_pos h,Bof];rfl
 ·have e2:(Ad n:Int)=(n.toNat:Int):=Bqq n
  rw[if_neg (by simpa using h),if_neg h,e2,Ah (by omega) (by omega),Bp5,Cg (by omega) (by omega),Aiy,Int.tdiv_eq_ediv,Akb]
  congr 2
  rw[if_pos (.inr (by omega)),Cg (by omega) (by omega)];omega
end Go.Pl
set_option linter.unusedVariables false
set_option linter.unusedSimpArgs false
namespace Go.Pl
open Go Go.Lv
theorem Bmh{c:Prop} [Decidable c](h:c):Kj (decide c)=some ():=by rw[decide_eq_true h];rfl
def unV(f:Nat→Int32)(ch:Nat):Nat→Int32
 |0=>if 1<ch then f (ch-1)+Cp (f (ch-2)) (2:Int32)else f (ch-1)
 |j+1=>unV f ch j-f (ch-2-j)
def unm(ch:Nat)(m:List Int32):List Int32:=(List.range m.length).map fun k=>unV (fun i=>m.getD (k-k %ch+i) 0) ch (ch-1-k %ch)
theorem Avx(ch:Nat)(m:List Int32):(unm ch m).length=m.length:=by simp[unm]
theorem Bdk{ch:Nat}{m:List Int32}{a i:Nat}(ha:a %ch=0)(hi:i<ch)(h:a+i<m.length):(unm ch m).getD (a+i) 0=unV (fun i=>m.getD (a+i) 0) ch (ch-1-i):=by
 have hb:(a+i) %ch=i:=by rw[Nat.add_mod,ha,Nat.zero_add,Nat.mod_mod,Nat.mod_eq_of_lt hi]
 rw[Om (by rw[Avx];exact h)]
 simp only[unm,List.getElem_map,List.getElem_range,hb]
 rw[show a+i-i=a by omega]
section
variable (ch:Nat) (m:List Int32)
theorem Caf(h1:1≤ch)(h6:ch≤6)(hm:m.length %ch=0)(hl2:m.length≤4000):Apk (ch:Int) m=some 0:=by
 rw[Apk,if_neg (by simp[Af,As];omega),if_neg (by rw[As,Ac];simp;omega),Dc (by rw[Ak];simp;omega),Aa,if_neg]
 rw[Ak,Ho,Ac,←Int.ofNat_tmod,hm];simp
theorem Beu(bk:Int→List Int32→Option (List Int32×Int))(at':Nat)(h1:1≤ch)(h6:ch≤6)(hm:at' %ch=0)(hl:at'+ch≤m.length)(hl2:m.length≤4000):∀(i q:Nat),i≤ch-1→i<q→
  Aad bk (ch:Int) (at':Int) q ((i:Int)-1) (sel (fun k=>decide (k<at'∨(at'+i≤k∧k<at'+ch))) (unm ch m) m)=bk ((at'+ch:Nat):Int) (sel (fun k=>decide (k<at'+ch)) (unm ch m) m)
 |0,q+1,hi,_=>by
  have e4:Ae (at':Int) (ch:Int)=((at'+ch:Nat):Int):=by rw[Ah (by omega) (by omega)];omega
  rw[Aad,Aj2,if_neg (by rw[Ef];simp),Aqu,Ayl,e4]
  congr 1
  apply Acw
  intro k _
  rw[Bool.eq_iff_iff];simp;omega
 |i+1,q+1,hi,hq=>by
  have hlen:=Avx ch m
  have e2:Ae (at':Int) (ch:Int)-(at':Int)=(ch:Int):=by rw[Ah (by omega) (by omega)];omega
  have e3:Ae (i:Int) 1=((i+1:Nat):Int):=by rw[Ah (by omega) (by omega)];omega
  have hv:((unm ch m).getD (at'+(i+1)) 0-m.getD (at'+i) 0)=(unm ch m).getD (at'+i) 0:=by
   rw[Bdk hm (by omega) (by omega),Bdk hm (by omega) (by omega),show ch-1-i=(ch-1-(i+1))+1 by omega,unV,show ch-2-(ch-1-(i+1))=i by omega]
  rw[Aad,Aj2,show((i+1:Nat):Int)-1=(i:Int) by omega,if_pos (by rw[Ef];simp),e2,e3,Bmh (by omega),Aa,Bmh (by omega),Aa,
   show(at':Int)+((i+1:Nat):Int)=((at'+(i+1):Nat):Int) by omega,show(at':Int)+(i:Int)=((at'+i:Nat):Int) by omega,
   Amx (by omega),Aa,Amx (by omega),Aa,Aa,if_pos (by simp;omega),if_neg (by simp;omega),Bhf,hv,Azs (by omega),Aa,Bw (by omega) (by omega)]
  have ih:=Beu bk at' h1 h6 hm hl hl2 i q (by omega) (by omega)
  rw[←ih]
  congr 1
  apply Acw
  intro k _
  rw[Bool.eq_iff_iff];simp;omega
theorem Bpq{at' ch n:Nat}(ha:at' %ch=0)(hm:n %ch=0)(h:at'<n):at'+ch≤n:=by
 have d1:=Nat.div_add_mod at' ch
 have d2:=Nat.div_add_mod n ch
 rw[ha,Nat.add_zero]at d1
 rw[hm,Nat.add_zero]at d2
 have hlt:at'/ch<n/ch:=by
  rcases Nat.lt_or_ge (at'/ch) (n/ch)with h'|h'
  ·exact h'
  ·have:=Nat.mul_le_mul_left ch h';omega
 have:=Nat.mul_le_mul_left ch (show at'/ch+1≤n/ch from hlt)
 rw[Nat.mul_add]at this;omega
theorem Bim(h1:1≤ch)(h6:ch≤6)(hm:m.length %ch=0)(hl2:m.length≤4000):∀(j at' q:Nat),at' %ch=0→at'≤m.length→m.length-at'≤j→j<q→
  Uo (ch:Int) q (at':Int) (sel (fun k=>decide (k<at')) (unm ch m) m)=some (unm ch m,0)
 |j,at',q+1,ha,hle,hj,hq=>by
  have hlen:=Avx ch m
  have hl:Ac (sel (fun k=>decide (k<at')) (unm ch m) m)=(m.length:Int):=by rw[Ac,Aqo,hlen]
  rw[Uo,Aq3,hl]
  by_cases h:at'<m.length
  ·have hb:=Bpq ha hm h
   obtain⟨j,rfl⟩:∃k,j=k+1:=⟨j-1,by omega⟩
   have e1:Aj (Ae (at':Int) (ch:Int)-(at':Int)) 1=((ch-1:Nat):Int):=by rw[Ah (by omega) (by omega),Bw (by omega) (by omega)];omega
   have e2:Ae (at':Int) (ch:Int)-(at':Int)=(ch:Int):=by rw[Ah (by omega) (by omega)];omega
   have e4:Ae (at':Int) (ch:Int)=((at'+ch:Nat):Int):=by rw[Ah (by omega) (by omega)];omega
   have hi:=Beu ch m (Uo (ch:Int) q) at' h1 h6 ha hb hl2 (ch-1) FUEL (by omega) (by have:=Ap;omega)
   have hrest:=Bim h1 h6 hm hl2 j (at'+ch) q (by rw[Nat.add_mod_right,ha]) hb (by omega) (by omega)
   have hstart:Aj1 (Uo (ch:Int) q) (ch:Int) (at':Int) (sel (fun k=>decide (k<at'∨(at'+(ch-1)≤k∧k<at'+ch))) (unm ch m) m)=some (unm ch m,0):=by
    have e6:Aj ((ch-1:Nat):Int) 1=((ch-1:Nat):Int)-1:=Bw (by omega) (by omega)
    rw[Aj1,Aq2,Ap2,e1,e6]
    exact Eq.trans hi hrest
   rw[if_pos (by rw[Af];simp;omega),show vwI (m.length:Int) (at':Int) (Ae (at':Int) (ch:Int))=some () by rw[e4,vwI,Bmh];omega,Aa,e1,e2]
   have hlast:=Bdk (m:=m) ha (show ch-1<ch by omega) (by omega)
   rw[show ch-1-(ch-1)=0 by omega,unV]at hlast
   by_cases hc:1<ch
   ·have e5:Aj ((ch-1:Nat):Int) 1=((ch-2:Nat):Int):=by rw[Bw (by omega) (by omega)];omega
    rw[if_pos hc]at hlast
    rw[if_pos (by rw[As];simp;omega),Bmh (by omega),Aa,e5,Bmh (by omega),Aa,show(at':Int)+((ch-1:Nat):Int)=((at'+(ch-1):Nat):Int) by omega,show(at':Int)+((ch-2:Nat):Int)=((at'+(ch-2):Nat):Int) by omega,
     Amx (by omega),Aa,Amx (by omega),Aa,Aa,if_neg (by simp),if_neg (by simp),Apq,←hlast,Azs (by omega),Aa]
    rw[←hstart]
    congr 1
    apply Acw
    intro k _
    rw[Bool.eq_iff_iff];simp;omega
   ·have hc1:ch=1:=by omega
    rw[if_neg (by rw[As];simp;omega),←hstart]
    congr 1
    rw[if_neg hc]at hlast
    apply List.map_congr_left
    intro k hk
    by_cases hk2:k=at'
    ·subst hk2
     rw[if_neg (by simp),if_pos (by simp;omega)]
     rw[show k+(ch-1)=k by omega]at hlast
     exact hlast.symm
    ·by_cases hk3:k<at'
     ·rw[if_pos (by simp;omega),if_pos (by simp;omega)]
     ·rw[if_neg (by simp;omega),if_neg (by simp;omega)]
  ·rw[if_neg (by rw[Af];simp;omega),Az5 (fun k hk=>by simp;omega)]
   rfl
theorem Cbi(h1:1≤ch)(h6:ch≤6)(hm:m.length %ch=0)(hl2:m.length≤4000):Ay1 (ch:Int) m=some (unm ch m,0):=by
 have hlen:=Avx ch m
 have h:=Bim ch m h1 h6 hm hl2 m.length 0 FUEL (by simp) (by omega) (by omega) (by have:=Ap;omega)
 rw[Ay1,Ass,Caf ch m h1 h6 hm hl2,Aa,if_neg (by rw[Ak];simp),Ei,Cs (by simp;omega),Aa,Aa,List.nil_append,Aqr]
 rw[Ayj hlen.symm (fun k _=>by simp)]at h
 exact h
end
def Ba9(f:Nat→Int32)(ch:Nat):List Int32:=(List.range ch).map fun i=>unV f ch (ch-1-i)
theorem Aou(f:Nat→Int32)(ch:Nat):(Ba9 f ch).length=ch:=by simp[Ba9]
theorem Ayq(f:Nat→Int32){ch i:Nat}(h:i<ch):(Ba9 f ch).getD i 0=unV f ch (ch-1-i):=by
 rw[Om (by rw[Aou];exact h)];simp[Ba9]
theorem Bzo(a b:Int32):Cf (Aj (Ad a:Int) (Ad b:Int))=some (a-b):=by
 have:=Adw a
 have:=Adw b
 rw[Ey,Ey,Bw (by omega) (by omega),Bdl,Int32.ofInt_sub,Int32.ofInt_toInt,Int32.ofInt_toInt]
theorem Bu6(a b:Int32):Cf (Ae (Ad a:Int) (Cp (Ad b:Int) (2:Int)))=some (a+Cp b (2:Int32)):=by
 have:=Adw a
 have hb:=Adw b
 have hd: -2147483648≤b.toInt.tdiv 2∧b.toInt.tdiv 2≤2147483648:=by
  rw[Int.tdiv_eq_ediv,show Int.sign 2=1 from rfl]
  by_cases h:0≤b.toInt∨2∣b.toInt
  ·rw[if_pos h];omega
  ·rw[if_neg h];omega
 have e:Cp b (2:Int32)=Int32.ofInt (b.toInt.tdiv 2):=rfl
 rw[Ey,Ey,Aiy,Cg (by omega) (by omega),Ah (by omega) (by omega),Bdl,Int32.ofInt_add,Int32.ofInt_toInt,e]
theorem Ayw(seg z:List Int32)(ch:Nat)(h6:ch≤6)(hs:seg.length=ch)(hz:z.length=ch):∀(i q:Nat),i+1≤ch→i<q→
  Fa seg q ((i:Int)-1) (sel (fun k=>decide (i≤k)) (Ba9 (fun i=>seg.getD i 0) ch) z)=some (Ba9 (fun i=>seg.getD i 0) ch)
 |0,q+1,hi,_=>by
  rw[Fa,Lg,if_neg (by rw[Ef];simp),Az5 (fun k hk=>by simp)];rfl
 |i+1,q+1,hi,hq=>by
  have hlen:=Aou (fun i=>seg.getD i 0) ch
  have e3:Ae (i:Int) 1=((i+1:Nat):Int):=by rw[Ah (by omega) (by omega)];omega
  have hv:(Ba9 (fun i=>seg.getD i 0) ch).getD (i+1) 0-seg.getD i 0=(Ba9 (fun i=>seg.getD i 0) ch).getD i 0:=by
   rw[Ayq _ (by omega),Ayq _ (by omega),show ch-1-i=(ch-1-(i+1))+1 by omega,unV,show ch-2-(ch-1-(i+1))=i by omega]
  rw[Fa,Lg,show((i+1:Nat):Int)-1=(i:Int) by omega,if_pos (by rw[Ef];simp),e3,Amx (by omega),Aa,g32 (by omega),Aa,Aa,if_pos (by simp),Bzo,Aa,Amx (by omega),Aa,hv,Azs (by omega),Aa,Bw (by omega) (by omega)]
  have ih:=Ayw seg z ch h6 hs hz i q (by omega) (by omega)
  rw[←ih]
  congr 1
  apply Acw
  intro k _
  rw[Bool.eq_iff_iff];simp;omega
theorem Bm2{l:List Int32}{i:Nat}(v:Int32)(h:i<l.length):(l.set i v).getD i 0=v:=by
 rw[Om (by rw[List.length_set];exact h)];simp
theorem Brv(seg:List Int32)(ch:Nat)(h1:1≤ch)(h6:ch≤6)(hs:seg.length=ch):Qf seg=some (Ba9 (fun i=>seg.getD i 0) ch):=by
 have hlen:=Aou (fun i=>seg.getD i 0) ch
 have hzl:(List.replicate ch (0:Int32)).length=ch:=by simp
 have e1:Aj (Ac seg) 1=((ch-1:Nat):Int):=by rw[Ac,hs,Bw (by omega) (by omega)];omega
 have e2:Aj (Ac seg) 2=((ch-1:Nat):Int)-1:=by rw[Ac,hs,Bw (by omega) (by omega)];omega
 have hlast:=Ayq (fun i=>seg.getD i 0) (show ch-1<ch by omega)
 rw[show ch-1-(ch-1)=0 by omega,unV]at hlast
 have hend:∀z:List Int32,z.length=ch→z.getD (ch-1) 0=(Ba9 (fun i=>seg.getD i 0) ch).getD (ch-1) 0→Lk seg z=some (Ba9 (fun i=>seg.getD i 0) ch):=by
  intro z hz hzl
  have h:=Ayw seg z ch h6 hs hz (ch-1) FUEL (by omega) (by have:=Ap;omega)
  have e:sel (fun k=>decide (ch-1≤k)) (Ba9 (fun i=>seg.getD i 0) ch) z=z:=by
   apply List.ext_getElem (by rw[Aqo,hlen,hz])
   intro k k1 k2
   rw[Ac3]
   by_cases hk:ch-1≤k
   ·obtain rfl:k=ch-1:=by omega
    rw[if_pos (by simp),←hzl,Om k2]
   ·rw[if_neg (by simpa using hk),Om k2]
  rw[e]at h
  rw[Lk,Ti,e2]
  exact h
 rw[Qf,Sa,Ac,hs,Bef (by omega) (by omega),Aa,Dc (by rw[Aq];simp),Aa]
 rw[Ac,hs]at e1
 rw[Ac,hs]at e2
 have hz1:(List.replicate (Int.toNat (ch:Int)) (0:Int32)).length=ch:=by simp
 have hs1:=g32 (l:=seg) (k:=ch-1) (by omega)
 rw[e1,hs1,Aa,g32 (by omega),Aa,Aav _ (by omega),Aa]
 by_cases hc:1<ch
 ·rw[if_pos hc]at hlast
  have e3:((ch-1:Nat):Int)-1=((ch-2:Nat):Int):=by omega
  have hs2:=g32 (l:=seg) (k:=ch-2) (by omega)
  rw[if_pos (by rw[As];simp;omega),Aa,e2,e3,hs2,Aa,Bu6,Aa,g32 (by rw[List.length_set];omega),Aa,Aav _ (by rw[List.length_set];omega),Aa]
  refine hend _ (by simp) ?_
  rw[hlast,Bm2 _ (by rw[List.length_set];omega)]
 ·rw[if_neg hc]at hlast
  rw[if_neg (by rw[As];simp;omega)]
  refine hend _ (by simp) ?_
  rw[hlast,Bm2 _ (by omega)]
theorem Ccj(ch:Nat)(m:List Int32)(h1:1≤ch)(h6:ch≤6)(hm:m.length %ch=0)(hl2:m.length≤4000):Nw (ch:Int) m=some 0:=by
 rw[Nw,if_neg (by simp[Af,As];omega),if_neg (by rw[As,Ac];simp;omega),Dc (by rw[Ak];simp;omega),Aa,if_neg]
 rw[As,Ho,Ac,←Int.ofNat_tmod,hm];simp
theorem Bbx(ch:Nat)(m:List Int32)(h1:1≤ch)(h6:ch≤6)(hm:m.length %ch=0)(hl2:m.length≤4000):∀(j at' q:Nat),at' %ch=0→at'≤m.length→m.length-at'≤j→j<q→
  Ku (ch:Int) m q (at':Int) ((unm ch m).take at')=some (unm ch m,0)
 |j,at',q+1,ha,hle,hj,hq=>by
  have hlen:=Avx ch m
  rw[Ku,Yq]
  by_cases h:at'<m.length
  ·have hb:=Bpq ha hm h
   have e4:Ae (at':Int) (ch:Int)=((at'+ch:Nat):Int):=by rw[Ah (by omega) (by omega)];omega
   have hrest:=Bbx ch m h1 h6 hm hl2 (j-1) (at'+ch) q (by rw[Nat.add_mod_right,ha]) hb (by omega) (by omega)
   have hseg:((m.take (at'+ch)).drop at').length=ch:=by simp;omega
   have htl:((unm ch m).take at').length=at':=by simp[hlen];omega
   rw[if_pos (by rw[Af,Ac];simp;omega),e4,Aes (by omega) (by omega) (by omega),Aa,show((at'+ch:Nat):Int).toNat=at'+ch from rfl,show(at':Int).toNat=at' from rfl,Brv _ ch h1 h6 hseg,Aa,Cs (by rw[htl,Aou];omega),Aa]
   have e:(unm ch m).take at'++Ba9 (fun i=>((m.take (at'+ch)).drop at').getD i 0) ch=(unm ch m).take (at'+ch):=by
    apply List.ext_getElem (by rw[List.length_append,htl,Aou,List.length_take,hlen];omega)
    intro k k1 k2
    rw[List.length_take,hlen]at k2
    rw[List.getElem_append,List.getElem_take]
    by_cases hk:k<at'
    ·rw[dif_pos (by rw[htl];exact hk),List.getElem_take]
    ·rw[dif_neg (by rw[htl];exact hk)]
     have hu:=Bdk (m:=m) ha (show k-at'<ch by omega) (by omega)
     rw[show at'+(k-at')=k by omega,Om (by omega)]at hu
     have hx:∀n,n≤ch→unV (fun i=>((m.take (at'+ch)).drop at').getD i 0) ch n=unV (fun i=>m.getD (at'+i) 0) ch n:=by
      have hf:∀i,i<ch→((m.take (at'+ch)).drop at').getD i 0=m.getD (at'+i) 0:=by
       intro i hi
       rw[Om (by omega),Om (by omega)];simp
      intro n
      induction n with
      |zero=>
       intro _;rw[unV,unV,hf _ (by omega)];split
       ·rw[hf _ (by omega)]
       ·rfl
      |succ n ih=>intro hn;rw[unV,unV,ih (by omega),hf _ (by omega)]
     have hy:=Ayq (fun i=>((m.take (at'+ch)).drop at').getD i 0) (show k-at'<ch by omega)
     rw[Om (by rw[Aou];omega)]at hy
     rw[hu,←hx _ (by omega),←hy]
     congr 1
     rw[htl]
   rw[e]
   exact hrest
  ·rw[if_neg (by rw[Af,Ac];simp;omega),List.take_of_length_le (by omega)];rfl
theorem Bv1(ch:Nat)(m:List Int32)(h1:1≤ch)(h6:ch≤6)(hm:m.length %ch=0)(hl2:m.length≤4000):Xa (ch:Int) m=some (unm ch m,0):=by
 have h:=Bbx ch m h1 h6 hm hl2 m.length 0 FUEL (by simp) (by omega) (by omega) (by have:=Ap;omega)
 rw[Xa,Zo,Ccj ch m h1 h6 hm hl2,Aa,if_neg (by rw[Ak];simp)]
 exact h
end Go.Pl
set_option linter.unusedVariables false
set_option linter.unusedSimpArgs false
namespace Go.Pl
open Go Go.Lv
def pre{α:Type}(ch c:Nat)(f:α→Nat→α)(a0:α):Nat→α
 |0=>a0
 |m+1=>if m %ch=c then f (pre ch c f a0 m) m else pre ch c f a0 m
theorem Br7{α:Type}(ch c:Nat)(f:α→Nat→α)(a0:α):∀m,m≤c→c<ch→pre ch c f a0 m=a0
 |0,_,_=>rfl
 |m+1,h,h2=>by rw[pre,if_neg (by rw[Nat.mod_eq_of_lt (by omega)];omega),Br7 ch c f a0 m (by omega) h2]
theorem Bor{α:Type}(ch c i:Nat)(f:α→Nat→α)(a0:α)(hi:i %ch=c)(hc:c<ch):∀j,j<ch→pre ch c f a0 (i+1+j)=pre ch c f a0 (i+1)
 |0,_=>rfl
 |j+1,h=>by
  have hne:(i+1+j) %ch≠c:=by
   intro e
   have h1:(i+(1+j)) %ch=i %ch:=by rw[hi,←e];congr 1;omega
   have h2:(1+j) %ch=0:=by
    have h3:=Nat.sub_mod_eq_zero_of_mod_eq h1
    rwa [Nat.add_sub_cancel_left]at h3
   rw[Nat.mod_eq_of_lt (by omega)]at h2;omega
  rw[show i+1+(j+1)=(i+1+j)+1 by omega,pre,if_neg hne,Bor ch c i f a0 hi hc j (by omega)]
theorem Byd{α:Type}(ch c i:Nat)(f:α→Nat→α)(a0:α)(hi:i %ch=c)(hc:c<ch):pre ch c f a0 (i+ch)=f (pre ch c f a0 i) i:=by
 have h:=Bor ch c i f a0 hi hc (ch-1) (by omega)
 rw[show i+1+(ch-1)=i+ch by omega]at h
 rw[h,pre,if_pos hi]
abbrev CS:=Int32×List Int32×List Int32
def Byc(bits:Int)(s:CS)(y:Int32):Int32:=y+gF (sB bits) s.2.1 s.2.2+gs (shB bits) s.1
def Bt4(bits:Int)(s:CS)(y:Int32):CS:=(Byc bits s y,lrn s.2.1 s.2.2 y,(y+gF (sB bits) s.2.1 s.2.2)::s.2.2.take 15)
def cst(bits:Int)(ch:Nat)(t:List Int32)(v:List UInt32)(c:Nat):Nat→CS:=pre ch c (fun s i=>Bt4 bits s (Ar6 (v.getD i 0))) (0,t,List.replicate 16 0)
def OkC(bits:Int)(s:CS):Prop:=OkF (sB bits) s.2.1 s.2.2
theorem Brz(bits:Int)(ch:Nat){t:List Int32}(ht:t.length=16)(v:List UInt32)(c:Nat):∀m,OkC bits (cst bits ch t v c m)
 |0=>⟨Chq bits,ht,by simp[cst,pre]⟩
 |m+1=>by
  have ih:=Brz bits ch ht v c m
  rw[cst,pre]
  split
  ·exact Caw ih _ _
  ·exact ih
def smp(bits:Int)(ch:Nat)(t:List Int32)(v:List UInt32):List Int32:=(List.range v.length).map fun i=>Byc bits (cst bits ch t v (i %ch) i) (Ar6 (v.getD i 0))
theorem Avi(bits:Int)(ch:Nat)(t:List Int32)(v:List UInt32):(smp bits ch t v).length=v.length:=by simp[smp]
theorem Bt0(bits:Int)(ch:Nat)(t:List Int32)(v:List UInt32){i:Nat}(h:i<v.length):(smp bits ch t v).getD i 0=Byc bits (cst bits ch t v (i %ch) i) (Ar6 (v.getD i 0)):=by
 rw[Om (by rw[Avi];exact h)];simp[smp]
abbrev CL:=Int×Int32×(Int×(List Int32)×(List Int32)×Unit)×Unit
def toC(bits:Int)(s:CS):CL:=(bits,s.1,(sB bits,s.2.1,s.2.2,()),())
def cts(bits:Int)(ch:Nat)(t:List Int32)(v:List UInt32)(i:Nat):List CL:=(List.range 6).map fun c=>toC bits (cst bits ch t v c i)
theorem Cea{bits:Int}{ch:Nat}{t:List Int32}{v:List UInt32}{i c:Nat}(h:c<6):getI (cts bits ch t v i) (c:Int)=some (toC bits (cst bits ch t v c i)):=by
 rw[Cl (by simp[cts];exact h)];simp[cts]
theorem Boz(bits:Int)(ch:Nat)(t:List Int32)(v:List UInt32)(c m:Nat):cst bits ch t v c (m+1)=if m %ch=c then Bt4 bits (cst bits ch t v c m) (Ar6 (v.getD m 0))else cst bits ch t v c m:=rfl
theorem Ccv{bits:Int}{ch:Nat}{t:List Int32}{v:List UInt32}{i c:Nat}(h:c<6)(hc:i %ch=c):Mn (cts bits ch t v i) (c:Int) (toC bits (Bt4 bits (cst bits ch t v c i) (Ar6 (v.getD i 0))))=some (cts bits ch t v (i+1)):=by
 rw[Aav _ (by simp[cts];exact h)]
 congr 1
 apply List.ext_getElem (by simp[cts])
 intro k h1 h2
 rw[List.getElem_set]
 simp only[cts,List.getElem_map,List.getElem_range]
 by_cases hk:c=k
 ·subst hk;rw[if_pos rfl,Boz,if_pos hc]
 ·rw[if_neg hk,Boz,if_neg (by omega)]
section
variable {bits:Int} {ch:Nat} {t:List Int32} {v:List UInt32}
theorem Bol(hb:Cm bits)(ht:t.length=16)(h1:1≤ch)(h6:ch≤6)(hv:v.length≤4000):∀(j i q:Nat),i+j=v.length→j<q→
  Iy v (ch:Int) bits q (i:Int) (cts bits ch t v i) ((smp bits ch t v).take i)=Mg (ch:Int) bits (smp bits ch t v)
 |0,i,q+1,hi,_=>by
  rw[Iy,Mi,if_neg (by rw[Af,Ac];simp;omega),List.take_of_length_le (by rw[Avi];omega)]
 |j+1,i,q+1,hi,hq=>by
  have hlen:=Avi bits ch t v
  have hc:i %ch<6:=Nat.lt_of_lt_of_le (Nat.mod_lt _ (by omega)) h6
  have hok:=Brz bits ch ht v (i %ch) i
  have hs:=Ccv (bits:=bits) (ch:=ch) (t:=t) (v:=v) (i:=i) hc rfl
  have hx:=Bt0 bits ch t v (i:=i) (by omega)
  have hcb:=Bvg hb hok (cst bits ch t v (i %ch) i).1 (Ar6 (v.getD i 0))
  have ih:=Bol hb ht h1 h6 hv j (i+1) q (by omega) (by omega)
  rw[Akc (by omega),←Om (by omega),hx]at ih
  rw[Iy,Mi,if_pos (by rw[Af,Ac];simp;omega),Bhb (by omega),Aa,Dc (by rw[Ak];simp;omega),Aa,Bhg,Cea hc,Aa,Aa,Cah,Aa]
  refine Eq.trans (congrArg (fun o=>Option.bind o _) hcb) ?_
  rw[Aa]
  simp only
  rw[Aan,Ajo,if_neg (by rw[Ak];simp),Bhg]
  refine Eq.trans (congrArg (fun o=>Option.bind o _) hs) ?_
  rw[Aa,Cs (by simp;omega),Aa,Ah (by omega) (by omega)]
  exact ih
theorem Bwo(hb:Cm bits)(ht:t.length=16)(h1:1≤ch)(h6:ch≤6)(hv:v.length≤4000):Vh (ch:Int) bits t v=Mg (ch:Int) bits (smp bits ch t v):=by
 have h:=Bol hb ht h1 h6 hv v.length 0 FUEL (by omega) (by have:=Ap;omega)
 have e:FUEL=(FUEL-7)+1+1+1+1+1+1+1:=by have:=Ap;omega
 have hs:Rs v (ch:Int) bits t 0 (List.replicate 6 ((0:Int),(0:Int32),((0:Int),(List.replicate 16 (0:Int32)),(List.replicate 16 (0:Int32)),()),()))=Aaz v (ch:Int) bits (cts bits ch t v 0):=by
  rw[Rs,e]
  obtain rfl|rfl|rfl:=hb<;>rfl
 rw[Vh,Abu,hs]
 exact h
theorem Bii(bk:Int→List Int32→Option (List Int32))(hb:Cm bits)(ht:t.length=16)(h1:1≤ch)(h6:ch≤6)(hv:v.length≤4000)(z:List Int32)(c:Nat)(hc:c<ch):∀(j i q:Nat),i %ch=c→v.length-i≤j→i≤5000→j<q→
  Hy bk v (ch:Int) bits t (c:Int) q (i:Int) (sel (fun k=>decide (k %ch<c∨(k %ch=c∧k<i))) (smp bits ch t v) z) bits (cst bits ch t v c i).1 (sB bits) (cst bits ch t v c i).2.1 (cst bits ch t v c i).2.2=
   bk ((c+1:Nat):Int) (sel (fun k=>decide (k %ch<c+1)) (smp bits ch t v) z)
 |j,i,q+1,hi,hj,hi5,hq=>by
  have hlen:=Avi bits ch t v
  rw[Hy,Lt]
  by_cases h:i<v.length
  ·have hok:=Brz bits ch ht v c i
   have hst:=Bu2 hb hok (cst bits ch t v c i).1 (Ar6 (v.getD i 0))
   have hx:=Bt0 bits ch t v (i:=i) h
   rw[hi]at hx
   have ih:=Bii bk hb ht h1 h6 hv z c hc (j-1) (i+ch) q (by rw[Nat.add_mod_right];exact hi) (by omega) (by omega) (by omega)
   have hstep:cst bits ch t v c (i+ch)=Bt4 bits (cst bits ch t v c i) (Ar6 (v.getD i 0)):=Byd ch c i _ _ hi hc
   rw[hstep]at ih
   have hset:=Azs (p:=fun k=>decide (k %ch<c∨(k %ch=c∧k<i))) (a:=smp bits ch t v) (b:=z) (k:=i) (by omega)
   rw[hx]at hset
   have hcong:sel (fun j=>decide (j %ch<c∨(j %ch=c∧j<i))||decide (j=i)) (smp bits ch t v) z=sel (fun k=>decide (k %ch<c∨(k %ch=c∧k<i+ch))) (smp bits ch t v) z:=by
    apply Acw
    intro k _
    rw[Bool.eq_iff_iff]
    simp only[Bool.or_eq_true,decide_eq_true_eq]
    constructor
    ·rintro((h1|h1)|h1)
     ·exact .inl h1
     ·exact .inr ⟨h1.1,by omega⟩
     ·subst h1;exact .inr ⟨hi,by omega⟩
    ·rintro(h1|⟨h1,h2⟩)
     ·exact .inl (.inl h1)
     ·by_cases h3:k<i
      ·exact .inl (.inr ⟨h1,h3⟩)
      ·refine .inr ?_
       have h4:(i+(k-i)) %ch=i %ch:=by rw[show i+(k-i)=k by omega,h1,hi]
       have h5:=Nat.sub_mod_eq_zero_of_mod_eq h4
       rw[Nat.add_sub_cancel_left,Nat.mod_eq_of_lt (by omega)]at h5
       omega
   rw[hcong]at hset
   rw[if_pos (by rw[Af,Ac];simp;omega),Bhb h,Aa,Cch,Aa]
   refine Eq.trans (congrArg (fun o=>Option.bind o _) hst) ?_
   rw[Aa]
   simp only
   rw[Sp,Tk,Amx (by omega),Aa]
   refine Eq.trans (congrArg (fun o=>Option.bind o _) hset) ?_
   rw[Aa,Tg,Acs,Ah (by omega) (by omega)]
   exact ih
  ·rw[if_neg (by rw[Af,Ac];simp;omega),Tp,Acr,Ah (by omega) (by omega)]
   have hcong:sel (fun k=>decide (k %ch<c∨(k %ch=c∧k<i))) (smp bits ch t v) z=sel (fun k=>decide (k %ch<c+1)) (smp bits ch t v) z:=by
    apply Acw
    intro k hk
    rw[Bool.eq_iff_iff]
    simp only[decide_eq_true_eq]
    omega
   rw[hcong];rfl
theorem Bkd(hb:Cm bits)(ht:t.length=16)(h1:1≤ch)(h6:ch≤6)(hv:v.length≤4000)(z:List Int32):∀(j c q:Nat),c+j=ch→j<q→
  Dp v (ch:Int) bits t q (c:Int) (sel (fun k=>decide (k %ch<c)) (smp bits ch t v) z)=Lj (ch:Int) bits (smp bits ch t v)
 |0,c,q+1,hc,_=>by
  rw[Dp,Lq,if_neg (by rw[Af];simp;omega),Az5 (fun k hk=>by have:=Nat.mod_lt k (show 0<ch by omega);simp;omega)]
 |j+1,c,q+1,hc,hq=>by
  have ih:=Bkd hb ht h1 h6 hv z j (c+1) q (by omega) (by omega)
  have hin:=Bii (Dp v (ch:Int) bits t q) hb ht h1 h6 hv z c (by omega) v.length c FUEL (Nat.mod_eq_of_lt (by omega)) (by omega) (by omega) (by have:=Ap;omega)
  have h0:cst bits ch t v c c=(0,t,List.replicate 16 0):=Br7 ch c _ _ c (Nat.le_refl _) (by omega)
  rw[h0]at hin
  have hcong:sel (fun k=>decide (k %ch<c∨(k %ch=c∧k<c))) (smp bits ch t v) z=sel (fun k=>decide (k %ch<c)) (smp bits ch t v) z:=by
   apply Acw
   intro k hk
   have:=Nat.mod_le k ch
   rw[Bool.eq_iff_iff]
   simp only[decide_eq_true_eq]
   omega
  rw[hcong]at hin
  rw[Dp,Lq,if_pos (by rw[Af];simp;omega),Cg9 hb,Aa]
  simp only
  rw[Sr]
  exact Eq.trans hin ih
theorem Buj(hb:Cm bits)(ht:t.length=16)(h1:1≤ch)(h6:ch≤6)(hv:v.length≤4000)(hm:v.length %ch=0):Iz (ch:Int) bits t v=some (unm ch (smp bits ch t v)):=by
 have hlen:=Avi bits ch t v
 have h:=Bkd hb ht h1 h6 hv (List.replicate v.length 0) ch 0 FUEL (by omega) (by have:=Ap;omega)
 rw[Ayj (by rw[hlen];simp) (fun k _=>by simp)]at h
 rw[Iz,Ur,Ac,Bef (by omega) (by omega),Aa,Dc (by rw[Aq];simp),Aa,To]
 refine Eq.trans h ?_
 rw[Lj,Acu,Bv1 ch _ h1 h6 (by rw[hlen];exact hm) (by omega),Aa]
end
def hB(bits:Int):Int:=if bits=8 then 128 else if bits=16 then 32768 else 8388608
theorem Byq{bits:Int}(h:Cm bits):Ah3 bits=some (Int32.ofInt (-(hB bits)),Int32.ofInt (hB bits-1),0):=by
 obtain rfl|rfl|rfl:=h<;>decide
theorem Bbo{bits:Int}(h:Cm bits):Qg bits=some (hB bits):=by
 obtain rfl|rfl|rfl:=h<;>rfl
theorem Axx(bits:Int):0<hB bits∧hB bits≤8388608:=by
 unfold hB;split; · omega
 ·split<;>omega
theorem Bg0{bits:Int}(h:Cm bits)(l:List Int32)(hl:l.length≤4000):∀(j i q:Nat),i+j=l.length→j<q→
  Sk (Int32.ofInt (-(hB bits))) (Int32.ofInt (hB bits-1)) l q (i:Int)=Bc l (hB bits) q (i:Int)
 |0,i,q+1,hi,_=>by
  rw[Sk,Aen,Bc,Dk,if_neg (by rw[Af,Ac];simp;omega),if_neg (by rw[Af,Ac];simp;omega)];rfl
 |j+1,i,q+1,hi,hq=>by
  have hh:=Axx bits
  have ih:=Bg0 h l hl j (i+1) q (by omega) (by omega)
  have e1:(Int32.ofInt (-(hB bits))).toInt= -(hB bits):=by rw[Int32.toInt_ofInt,Int.bmod_eq_of_le (by show -(4294967296/2:Int)≤_;omega) (by show _<(4294967296+1)/2;omega)]
  have e2:(Int32.ofInt (hB bits-1)).toInt=hB bits-1:=by rw[Int32.toInt_ofInt,Int.bmod_eq_of_le (by show -(4294967296/2:Int)≤_;omega) (by show _<(4294967296+1)/2;omega)]
  rw[Sk,Aen,Bc,Dk,if_pos (by rw[Af,Ac];simp;omega),if_pos (by rw[Af,Ac];simp;omega),g32 (by omega),Aa,Aa,Aa,Ey,Bp5,Cg (by omega) (by omega),Ah (by omega) (by omega),Blq,Bq2,e1,e2,Af,Ef]
  generalize(l.getD i 0).toInt=X
  by_cases h1:X< -(hB bits)
  ·rw[if_pos (by simp;omega),if_pos (by simp;omega)]
  ·rw[if_neg (c:=decide (X<0-hB bits)=true) (by simp;omega)]
   by_cases h2:hB bits≤X
   ·rw[if_pos (by simp;omega),if_pos (by simp;omega)]
   ·rw[if_neg (by simp;omega),if_neg (by simp;omega)];exact ih
theorem Bg3{bits:Int}(h:Cm bits)(l:List Int32)(hl:l.length≤4000):Yj bits l=cadenzaref18_Check bits l:=by
 have hh:=Axx bits
 rw[Yj,Amj,Byq h,Aa,cadenzaref18_Check,Gv,Bbo h,Aa]
 simp only
 rw[if_neg (by rw[Ak];simp),if_neg (by rw[As,Ac];simp;omega),if_neg (by rw[Aq];simp;omega),if_neg (by rw[As,Ac];simp;omega)]
 exact Bg0 h l hl l.length 0 FUEL (by omega) (by have:=Ap;omega)
theorem Brh{bits:Int}(h:Cm bits)(l:List Int32)(hl:l.length≤4000):∃e,cadenzaref18_Check bits l=some e:=by
 have hh:=Axx bits
 have key:∀(j i q:Nat),i+j=l.length→j<q→∃e,Bc l (hB bits) q (i:Int)=some e:=by
  intro j
  induction j with
  |zero=>
   intro i q hi hq
   obtain⟨q,rfl⟩:∃k,q=k+1:=⟨q-1,by omega⟩
   rw[Bc,Dk,if_neg (by rw[Af,Ac];simp;omega)]
   exact⟨_,rfl⟩
  |succ j ih=>
   intro i q hi hq
   obtain⟨q,rfl⟩:∃k,q=k+1:=⟨q-1,by omega⟩
   rw[Bc,Dk,if_pos (by rw[Af,Ac];simp;omega),g32 (by omega),Aa,Aa,Ah (by omega) (by omega)]
   split
   ·exact⟨_,rfl⟩
   ·split
    ·exact⟨_,rfl⟩
    ·exact ih (i+1) q (by omega) (by omega)
 obtain⟨e,he⟩:=key l.length 0 FUEL (by omega) (by have:=Ap;omega)
 rw[cadenzaref18_Check,Gv,Bbo h,Aa,if_neg (by rw[Aq];simp;omega),if_neg (by rw[As,Ac];simp;omega)]
 exact⟨e,he⟩
theorem Ayc{bits:Int}{ch:Nat}{t:List Int32}{v:List UInt32}(hb:Cm bits)(ht:t.length=16)(h1:1≤ch)(h6:ch≤6)(hv:v.length≤4000)(hm:v.length %ch=0):
  ∃l e,Iz (ch:Int) bits t v=some l∧Mm (ch:Int) bits l=some (if e≠0 then([],e)else(l,0))∧Vh (ch:Int) bits t v=some (if e≠0 then([],e)else(l,0))∧cadenzaref18_Check bits l=some e∧l.length=v.length:=by
 have hlen:=Avi bits ch t v
 have hul:=Avx ch (smp bits ch t v)
 obtain⟨e,he⟩:=Brh hb (unm ch (smp bits ch t v)) (by omega)
 refine⟨unm ch (smp bits ch t v),e,Buj hb ht h1 h6 hv hm,?_,?_,he,by omega⟩
 ·rw[Mm,he,Aa]
  by_cases h:e=0
  ·rw[if_neg (by rw[Ak];simpa using h),if_neg (by simpa using h)]
  ·rw[if_pos (by rw[Ak];simpa using h),if_pos h]
 ·rw[Bwo hb ht h1 h6 hv,Mg,Ajk,Cbi ch _ h1 h6 (by rw[hlen];exact hm) (by omega),Aa]
  simp only
  rw[if_neg (by rw[Ak];simp),Bg3 hb _ (by omega),he,Aa]
  by_cases h:e=0
  ·rw[if_neg (by rw[Ak];simpa using h),if_neg (by simpa using h)]
  ·rw[if_pos (by rw[Ak];simpa using h),if_pos h]
end Go.Pl
set_option linter.unusedVariables false
set_option linter.unusedSimpArgs false
namespace Go.Pl
open Go Go.Lv
def Att(s:Nat):Nat:=(s/2)^^^ (if s %2=1 then 3988292384 else 0)
theorem Bfz{s:Nat}(h:s<4294967296):Att s<4294967296:=by
 unfold Att
 exact Nat.xor_lt_two_pow (n:=32) (by simp;omega) (by split<;>decide)
theorem Bni(x y:Nat):(x^^^y)/2=(x/2)^^^ (y/2):=by
 have:=Nat.shiftRight_xor_distrib (a:=x) (b:=y) (i:=1)
 simpa [Nat.shiftRight_eq_div_pow]using this
theorem Bvh(x y:Nat):Att (x^^^y)=Att x^^^Att y:=by
 have h:(x^^^y) %2=(x %2+y %2) %2:=by
  have:=Nat.xor_mod_two_eq_one (a:=x) (b:=y)
  have h1:(x^^^y) %2<2:=Nat.mod_lt _ (by omega)
  omega
 simp only[Att,Bni,h]
 have hx:x %2=0∨x %2=1:=by omega
 have hy:y %2=0∨y %2=1:=by omega
 rcases hx with hx|hx<;>rcases hy with hy|hy<;>simp only[hx,hy]<;>simp
 ·rw[Nat.xor_assoc]
 ·rw[Nat.xor_assoc,Nat.xor_comm (y/2),Nat.xor_assoc,Nat.xor_comm 3988292384 (y/2)]
 ·rw[Nat.xor_assoc,Nat.xor_comm 3988292384,Nat.xor_assoc,Nat.xor_self];simp
def Aak:Nat→Nat→Nat
 |0,s=>s
 |k+1,s=>Aak k (Att s)
theorem Bi3:∀(k x y:Nat),Aak k (x^^^y)=Aak k x^^^Aak k y
 |0,_,_=>rfl
 |k+1,x,y=>by rw[Aak,Bvh,Bi3 k];rfl
theorem Bix:∀(k h:Nat),Aak k (2^k*h)=h
 |0,h=>by simp[Aak]
 |k+1,h=>by
  have:Att (2^(k+1)*h)=2^k*h:=by
   rw[Nat.pow_succ,Nat.mul_comm (2^k) 2,Nat.mul_assoc,Att,if_neg (by omega),Nat.mul_div_cancel_left _ (by omega)];simp
  rw[Aak,this,Bix k]
theorem Bh4:∀(k:Nat) {s:Nat},s<4294967296→Aak k s<4294967296
 |0,_,h=>h
 |k+1,_,h=>Bh4 k (Bfz h)
def Bcl(s c:Nat):Nat:=Aak 8 (s^^^c)
theorem Be1{s c:Nat}(h:s<4294967296)(hc:c<256):Bcl s c<4294967296:=Bh4 8 (Nat.xor_lt_two_pow (n:=32) (by simpa using h) (by simp;omega))
theorem Bmm{s c:Nat}(hc:c<256):Bcl s c=(s/256)^^^Aak 8 ((s %256)^^^c):=by
 have h:s=(2^8*(s/256))^^^ (s %256):=by
  have h1:s %256<2^8:=by simpa using Nat.mod_lt s (by omega:256>0)
  have:=Nat.two_pow_add_eq_or_of_lt h1 (s/256)
  have h2:2^8*(s/256)|||s %256=(2^8*(s/256))^^^ (s %256):=by
   apply Nat.eq_of_testBit_eq;intro i
   rw[Nat.testBit_or,Nat.testBit_xor]
   by_cases hi:i<8
   ·have:(2^8*(s/256)).testBit i=false:=by rw[Nat.testBit_two_pow_mul];simp;omega
    rw[this];simp
   ·have:(s %256).testBit i=false:=Nat.testBit_lt_two_pow (Nat.lt_of_lt_of_le h1 (Nat.pow_le_pow_right (by omega) (by omega)))
    rw[this];simp
  omega
 rw[Bcl]
 conv=>lhs;rw[h]
 rw[Nat.xor_assoc,Bi3,Bix]
def Bvd(s:Nat)(l:List UInt8):Nat:=l.foldl (fun s c=>Bcl s c.toNat) s
def Ip(b:List UInt8):UInt32:=4294967295-UInt32.ofNat (Bvd 4294967295 b)
theorem Ccz(s:UInt32)(c:Nat)(hc:c<256):Wv s (Ad (Ada (UInt8.ofNat c) (2:UInt8)):Int)=some (UInt32.ofNat (s.toNat/2^^^ (if(s.toNat^^^c) %2=1 then 3988292384 else 0))):=by
 have h1:(Ad (Ada (UInt8.ofNat c) (2:UInt8)):Int)=((c %2:Nat):Int):=by
  rw[Aka,Cd9,UInt8.toNat_mod,UInt8.toNat_ofNat']
  show((c %256 %2:Nat):Int)=_
  omega
 have h2:geq (Ada s (2:UInt32)) (1:UInt32)=decide (s.toNat %2=1):=by
  rw[Bl6,Bmo,Bool.eq_iff_iff]
  simp only[beq_iff_eq,decide_eq_true_eq]
  rw[←UInt32.toNat_inj,UInt32.toNat_mod];rfl
 have h3:Cp s (2:UInt32)=UInt32.ofNat (s.toNat/2):=by
  apply UInt32.toNat_inj.1
  rw[Bof,UInt32.toNat_div,UInt32.toNat_ofNat']
  show s.toNat/2=_
  have:=s.toNat_lt
  omega
 have h4:Aa5 (Cp s (2:UInt32)) (3988292384:UInt32)=UInt32.ofNat (s.toNat/2^^^3988292384):=by
  apply UInt32.toNat_inj.1
  rw[h3,Az2,UInt32.toNat_xor,UInt32.toNat_ofNat',UInt32.toNat_ofNat']
  have:=s.toNat_lt
  rw[Nat.mod_eq_of_lt (a:=s.toNat/2) (by omega),Nat.mod_eq_of_lt]
  ·rfl
  ·exact Nat.xor_lt_two_pow (n:=32) (by omega) (by decide)
 have hx:(s.toNat^^^c) %2=(s.toNat %2+c %2) %2:=by
  have:=Nat.xor_mod_two_eq_one (a:=s.toNat) (b:=c)
  have h1:(s.toNat^^^c) %2<2:=Nat.mod_lt _ (by omega)
  omega
 have hs:s.toNat %2=0∨s.toNat %2=1:=by omega
 have hc2:c %2=0∨c %2=1:=by omega
 rw[Wv,Ym,h1,h2,hx]
 rcases hs with hs|hs<;>rcases hc2 with hc2|hc2<;>simp[hs,hc2,Aq,Yb,Ah7,Az2,h3]
theorem Bb3:∀(j i q:Nat) (s:UInt32) (c:Nat),i+j=8→j<q→c<2^j→Ib q s (UInt8.ofNat c) (i:Int)=some (UInt32.ofNat (Aak j (s.toNat^^^c)))
 |0,i,q+1,s,c,hi,_,hc=>by
  obtain rfl:i=8:=by omega
  obtain rfl:c=0:=by simpa using hc
  rw[Ib,Pu,if_neg (by rw[Af];simp),Yx,Ahx,Aak]
  simp
 |j+1,i,q+1,s,c,hi,hq,hc=>by
  have hc8:c<256:=Nat.lt_of_lt_of_le hc (show 2^(j+1)≤2^8 from Nat.pow_le_pow_right (by omega) (by omega))
  rw[Ib,Pu,if_pos (by rw[Af];simp;omega),Ccz s c hc8,Aa,Ah (by omega) (by omega)]
  have e:Cp (UInt8.ofNat c) (2:UInt8)=UInt8.ofNat (c/2):=by
   apply UInt8.toNat_inj.1
   rw[Ccp,UInt8.toNat_div,UInt8.toNat_ofNat',UInt8.toNat_ofNat']
   show c %256/2=_
   omega
  rw[e]
  have h:=Bb3 j (i+1) q (UInt32.ofNat (s.toNat/2^^^ (if(s.toNat^^^c) %2=1 then 3988292384 else 0))) (c/2) (by omega) (by omega) (by rw[Nat.pow_succ]at hc;omega)
  rw[show((i:Int)+1)=((i+1:Nat):Int) by omega,h,UInt32.toNat_ofNat',Aak]
  congr 3
  have:=s.toNat_lt
  rw[Nat.mod_eq_of_lt,Att,Bni,Nat.xor_assoc,Nat.xor_assoc,Nat.xor_comm (c/2)]
  exact Nat.xor_lt_two_pow (n:=32) (by omega) (by split<;>decide)
theorem Cdg(s:UInt32)(c:UInt8):Aed s c=some (UInt32.ofNat (Bcl s.toNat c.toNat)):=by
 have h:=Bb3 8 0 FUEL s c.toNat (by omega) (by have:=Ap;omega) (by simpa using c.toNat_lt)
 rw[UInt8.ofNat_toNat]at h
 exact h
theorem Aw2(b:List UInt8)(hb:b.length<4611686018427387904):∀(j i q:Nat) (s:UInt32),i+j=b.length→j<q→Gc b q s (i:Int)=some (UInt32.ofNat (Bvd s.toNat (b.drop i)))
 |0,i,q+1,s,hi,_=>by
  rw[Gc,Mv,if_neg (by rw[Af,Ac];simp;omega),show i=b.length by omega,List.drop_length]
  simp[Tx,Ad1,Bvd]
 |j+1,i,q+1,s,hi,hq=>by
  have hlt:i<b.length:=by omega
  rw[Gc,Mv,if_pos (by rw[Af,Ac];simp;omega),Cl hlt,Aa,Cdg,Aa,Ah (by omega) (by omega)]
  have h:=Aw2 b hb j (i+1) q (UInt32.ofNat (Bcl s.toNat b[i].toNat)) (by omega) (by omega)
  rw[show((i:Int)+1)=((i+1:Nat):Int) by omega,h,drop_cons hlt,UInt32.toNat_ofNat',Nat.mod_eq_of_lt (Be1 s.toNat_lt b[i].toNat_lt)]
  rfl
theorem Cap(b:List UInt8)(hb:b.length<4611686018427387904):Ph b=some (Ip b):=by
 have h:=Aw2 b hb b.length 0 FUEL 4294967295 (by omega) (by have:=Ap;omega)
 rw[Ph,Aat,Ux,Ud,show((0:Int))=((0:Nat):Int)from rfl,h,Aa,Bop];rfl
theorem Ca8(c:UInt32):Aa5 (Ca c (GI.toZ (1:UInt64)).toNat) (Bj (3988292384:UInt32) (Dy c (1:UInt32)))=UInt32.ofNat (Att c.toNat):=by
 apply UInt32.toNat_inj.1
 have e:(GI.toZ (1:UInt64)).toNat=1:=rfl
 have h1:(Ca c 1).toNat=c.toNat/2:=by rw[Apr]
 have h2:(Bj (3988292384:UInt32) (Dy c (1:UInt32))).toNat=if c.toNat %2=1 then 3988292384 else 0:=by
  rw[Byz,Bnq,UInt32.toNat_mul,UInt32.toNat_and]
  show 3988292384*(c.toNat&&&1) %4294967296=_
  rw[Nat.and_one_is_mod]
  have:c.toNat %2=0∨c.toNat %2=1:=by omega
  rcases this with h|h<;>simp[h]
 rw[e,Az2,UInt32.toNat_xor,h1,h2,UInt32.toNat_ofNat',Nat.mod_eq_of_lt (Bfz c.toNat_lt)];rfl
theorem Bna(bk16:Int→List UInt32→Option (UInt32×Int))(s:UInt32)(b:List UInt8)(x:Int)(t:List UInt32):∀(j i q:Nat) (c:UInt32),i+j=8→j<q→
  Ta bk16 s b x t q c (i:Int)=Ad7 bk16 s b x (UInt32.ofNat (Aak j c.toNat)) t
 |0,i,q+1,c,hi,_=>by
  obtain rfl:i=8:=by omega
  rw[Ta,Adk,if_neg (by rw[Af];simp),Aak,UInt32.ofNat_toNat]
 |j+1,i,q+1,c,hi,hq=>by
  rw[Ta,Adk,if_pos (by rw[Af];simp;omega),Ca8,Ah (by omega) (by omega),show((i:Int)+1)=((i+1:Nat):Int) by omega,Bna bk16 s b x t j (i+1) q _ (by omega) (by omega),UInt32.toNat_ofNat',Nat.mod_eq_of_lt (Bfz c.toNat_lt)];rfl
def tbl(n:Nat):List UInt32:=(List.range n).map fun i=>UInt32.ofNat (Aak 8 i)
theorem Br6(s:UInt32)(b:List UInt8):∀(j i q:Nat),i+j=256→j<q→Nv s b q (i:Int) (tbl i++List.replicate j 0)=Ade s b (tbl 256)
 |0,i,q+1,hi,_=>by
  obtain rfl:i=256:=by omega
  rw[Nv,Adh,if_neg (by rw[Af];simp)];simp
 |j+1,i,q+1,hi,hq=>by
  have hlen:(tbl i++List.replicate (j+1) 0).length=i+(j+1):=by simp[tbl]
  rw[Nv,Adh,if_pos (by rw[Af];simp;omega),Akk]
  have h:=Bna (Nv s b q) s b (i:Int) (tbl i++List.replicate (j+1) 0) 8 0 FUEL (Ad (i:Int)) (by omega) (by have:=Ap;omega)
  rw[show((0:Int))=((0:Nat):Int)from rfl,h,Ad7,Alj,Cl (by rw[hlen];omega),Aa,Aav _ (by rw[hlen];omega),Aa,Ale,As8,Ah (by omega) (by omega)]
  have e:(Ad (i:Int):UInt32).toNat=i:=by rw[Bj0,UInt32.toNat_ofNat',Nat.mod_eq_of_lt (by omega)]
  rw[e,List.replicate_succ,Avw (by simp[tbl])]
  have h2:=Br6 s b j (i+1) q (by omega) (by omega)
  have h3:tbl (i+1)=tbl i++[UInt32.ofNat (Aak 8 i)]:=by simp[tbl,List.range_succ]
  rw[h3]at h2
  rw[show((i:Int)+1)=((i+1:Nat):Int) by omega,←h2]
  simp
theorem Cbc{i:Nat}(h:i<256):getI (tbl 256) (i:Int)=some (UInt32.ofNat (Aak 8 i)):=by
 rw[Cl (by simpa [tbl]using h)];simp[tbl]
theorem Bxl(s:UInt32)(c:UInt8):getI (tbl 256) (GI.toZ (Aa5 (Ad s:UInt8) c))=some (UInt32.ofNat (Aak 8 ((s.toNat %256)^^^c.toNat))):=by
 have e:GI.toZ (Aa5 (Ad s:UInt8) c)=(((s.toNat %256)^^^c.toNat:Nat):Int):=by
  rw[Ab4,Bsp,UInt8.toNat_xor,Axv,UInt8.toNat_ofNat']
 rw[e,Cbc]
 exact Nat.xor_lt_two_pow (n:=8) (by simp;omega) (by simpa using c.toNat_lt)
theorem Bv6(s:UInt32)(c:UInt8):Aa5 (Ca s (GI.toZ (8:UInt64)).toNat) (UInt32.ofNat (Aak 8 ((s.toNat %256)^^^c.toNat)))=UInt32.ofNat (Bcl s.toNat c.toNat):=by
 apply UInt32.toNat_inj.1
 have hlt:Aak 8 ((s.toNat %256)^^^c.toNat)<4294967296:=Bh4 8 (Nat.xor_lt_two_pow (n:=32) (by simp;omega) (by have:=c.toNat_lt;simp;omega))
 have e:(GI.toZ (8:UInt64)).toNat=8:=rfl
 rw[e,Az2,UInt32.toNat_xor,Apr,UInt32.toNat_ofNat',UInt32.toNat_ofNat',Nat.mod_eq_of_lt hlt,Nat.mod_eq_of_lt (Be1 s.toNat_lt c.toNat_lt),Bmm c.toNat_lt]
theorem Bnt(b:List UInt8)(hb:b.length<4611686018427387904):∀(j i q:Nat) (s:UInt32),i+j=b.length→j<q→Tl b (tbl 256) q s (i:Int)=some (UInt32.ofNat (Bvd s.toNat (b.drop i)),0)
 |0,i,q+1,s,hi,_=>by
  rw[Tl,Afe,if_neg (by rw[Af,Ac];simp;omega),show i=b.length by omega,List.drop_length]
  simp[Al8,Aub,Bvd]
 |j+1,i,q+1,s,hi,hq=>by
  have hlt:i<b.length:=by omega
  rw[Tl,Afe,if_pos (by rw[Af,Ac];simp;omega),Cl hlt,Aa,Bxl,Aa,Aa,Bv6,Ah (by omega) (by omega)]
  have h:=Bnt b hb j (i+1) q (UInt32.ofNat (Bcl s.toNat b[i].toNat)) (by omega) (by omega)
  rw[show((i:Int)+1)=((i+1:Nat):Int) by omega,h,drop_cons hlt,UInt32.toNat_ofNat',Nat.mod_eq_of_lt (Be1 s.toNat_lt b[i].toNat_lt)]
  rfl
theorem Cbe(s:UInt32)(b:List UInt8)(hb:b.length≤100000):Ap0 s b=some (UInt32.ofNat (Bvd s.toNat b),0):=by
 have h:=Br6 s b 256 0 FUEL (by omega) (by have:=Ap;omega)
 have h2:=Bnt b (by omega) b.length 0 FUEL s (by omega) (by have:=Ap;omega)
 rw[Ap0,Anz,if_neg (by rw[As,Ac];simp;omega),Amk]
 refine Eq.trans h ?_
 rw[Ade,Alu,Akp,Aln,Akr]
 exact h2
theorem Bzj(a:UInt32):Bfx a=4294967295-a:=by
 have h:=a.toNat_lt
 have e:Bfx a=UInt32.ofNat (BitVec.ofInt 32 4294967295^^^BitVec.ofInt 32 (a.toNat:Int)).toNat:=Ep _
 apply UInt32.toNat_inj.1
 rw[e,UInt32.toNat_ofNat',UInt32.toNat_sub_of_le _ _ (by rw[UInt32.le_iff_toNat_le];show a.toNat≤4294967295;omega)]
 have h1:BitVec.ofInt 32 (a.toNat:Int)=a.toBitVec:=Bkr a
 have h2:(BitVec.ofInt 32 4294967295:BitVec 32)=BitVec.allOnes 32:=by decide
 rw[h1,h2,BitVec.allOnes_xor,BitVec.toNat_not]
 show(4294967296-1-a.toNat) %4294967296=4294967295-a.toNat
 omega
theorem Bp4(b:List UInt8)(hb:b.length≤100000):Aag b=some (Ip b,0):=by
 rw[Aag,Cbe _ _ hb,Aa]
 simp only[Ak,Bzj]
 rfl
end Go.Pl
set_option linter.unusedVariables false
set_option linter.unusedSimpArgs false
namespace Go.Pl
open Go Go.Lv
theorem Bsv:∀{l m:List UInt8},l.length=m.length→Eg l=Eg m→l=m
 |[],[],_,_=>rfl
 |x::l,y::m,h,e=>by
  simp only[Eg]at e
  have hx:=x.toNat_lt
  have hy:=y.toNat_lt
  have h1:x=y:=UInt8.toNat_inj.1 (by omega)
  rw[h1,Bsv (l:=l) (m:=m) (by simpa using h) (by omega)]
theorem Bll:∀(w n:Nat),Eg (leB n w)=n %256^w
 |0,n=>by simp[leB,Eg,Nat.mod_one]
 |w+1,n=>by
  rw[leB,Eg,Bll w (n/256),UInt8.toNat_ofNat',show(256:Nat)^(w+1)=256*256^w by rw[Nat.pow_succ,Nat.mul_comm],Nat.mod_mul]
def Xd(b:List UInt8):Int:=
 if b.length<5 then 24 else if 41254<b.length then 4 else if(Ip (b.take (b.length-4))).toNat≠Eg (b.drop (b.length-4))then 22 else 0
theorem Bpm(b:List UInt8):Ae6 b=some (if Xd b≠0 then([],Xd b)else(b.take (b.length-4),0)):=by
 rw[Ae6]
 by_cases h1:b.length<5
 ·have hS:Xd b=24:=by rw[Xd,if_pos h1]
  rw[if_pos (by rw[Af,Ac];simp;omega),hS];rfl
 rw[if_neg (by rw[Af,Ac];simp;omega)]
 by_cases h2:41254<b.length
 ·have hS:Xd b=4:=by rw[Xd,if_neg h1,if_pos h2]
  rw[if_pos (by rw[As,Ac];simp;omega),hS];rfl
 have e4:Aj (Ac b) 4=((b.length-4:Nat):Int):=by rw[Ac,Bw (by omega) (by omega)];omega
 have hd:(b.drop (b.length-4)).length=4:=by simp;omega
 rw[if_neg (by rw[As,Ac];simp;omega),e4,Cv (by omega) (by omega),Aa,show((b.length-4:Nat):Int).toNat=b.length-4 from rfl,Bp4 _ (by simp;omega),Aa]
 simp only
 rw[if_neg (by rw[Ak];simp),Cw (by omega) (by omega),Aa,show((b.length-4:Nat):Int).toNat=b.length-4 from rfl,Bn8 _ (by omega) (by omega),Aa]
 have hne:Ay (leU (b.drop (b.length-4))) (Ad (Ip (b.take (b.length-4))):UInt64)=decide ((Ip (b.take (b.length-4))).toNat≠Eg (b.drop (b.length-4))):=by
  have hlt:=(Ip (b.take (b.length-4))).toNat_lt
  rw[Ajr,Bool.eq_iff_iff]
  simp only[bne_iff_ne,ne_eq,←UInt64.toNat_inj,decide_eq_true_eq]
  rw[Ani (by omega),Ji,UInt64.toNat_ofNat',Nat.mod_eq_of_lt (by omega)]
  exact⟨fun h e=>h e.symm,fun h e=>h e.symm⟩
 simp only
 rw[hne,Aa]
 by_cases h3:(Ip (b.take (b.length-4))).toNat≠Eg (b.drop (b.length-4))
 ·have hS:Xd b=22:=by rw[Xd,if_neg h1,if_neg h2,if_pos h3]
  rw[if_pos (by simp[h3]),hS];rfl
 ·have hS:Xd b=0:=by rw[Xd,if_neg h1,if_neg h2,if_neg h3]
  rw[if_neg (by rw[decide_eq_false h3];decide),hS];rfl
theorem Bvc(b:List UInt8)(hb:b.length≤1000000):Rr b=some (b++leB (Ip b).toNat 4):=by
 have h:∀k:Nat,(Ad (Ca (Ip b) k):UInt8)=UInt8.ofNat ((Ip b).toNat/2^k):=by
  intro k;rw[Axv,Apr]
 have h0:(Ad (Ip b):UInt8)=UInt8.ofNat (Ip b).toNat:=Axv _
 have h1:=h 8
 have h2:=h 16
 have h3:=h 24
 rw[Rr,Cap b (by omega),Aa,Cs (by simp;omega),Aa,Cs (by simp;omega),Aa,h0,show(GI.toZ (8:UInt64)).toNat=8 from rfl,show(GI.toZ (16:UInt64)).toNat=16 from rfl,show(GI.toZ (24:UInt64)).toNat=24 from rfl,h1,h2,h3]
 simp only[leB,Nat.div_div_eq_div_mul,List.nil_append]
theorem Bel(b:List UInt8):Md b=some (Xd b):=by
 rw[Md]
 by_cases h1:b.length<5
 ·rw[if_pos (by rw[Af,Ac];simp;omega),Xd,if_pos h1]
 rw[if_neg (by rw[Af,Ac];simp;omega)]
 by_cases h2:41254<b.length
 ·rw[if_pos (by rw[As,Ac];simp;omega),Xd,if_neg h1,if_pos h2]
 have e4:Aj (Ac b) 4=((b.length-4:Nat):Int):=by rw[Ac,Bw (by omega) (by omega)];omega
 have hd:(b.drop (b.length-4)).length=4:=by simp;omega
 rw[if_neg (by rw[As,Ac];simp;omega),e4,Cv (by omega) (by omega),Aa,show((b.length-4:Nat):Int).toNat=b.length-4 from rfl,Bvc _ (by simp;omega),Aa]
 have hlt:=(Ip (b.take (b.length-4))).toNat_lt
 have hiff:(b.take (b.length-4)++leB (Ip (b.take (b.length-4))).toNat 4 !=b)=decide ((Ip (b.take (b.length-4))).toNat≠Eg (b.drop (b.length-4))):=by
  rw[Bool.eq_iff_iff]
  simp only[bne_iff_ne,ne_eq,decide_eq_true_eq]
  constructor
  ·intro h e
   apply h
   have:leB (Ip (b.take (b.length-4))).toNat 4=b.drop (b.length-4):=Bsv (by rw[Ru,hd]) (by rw[Bll,Nat.mod_eq_of_lt (by omega),e])
   rw[this,List.take_append_drop]
  ·intro h e
   apply h
   have hx:leB (Ip (b.take (b.length-4))).toNat 4=b.drop (b.length-4):=by
    have e2:b.take (b.length-4)++leB (Ip (b.take (b.length-4))).toNat 4=b.take (b.length-4)++b.drop (b.length-4):=by rw[e,List.take_append_drop]
    exact List.append_cancel_left e2
   rw[←hx,Bll,Nat.mod_eq_of_lt (by omega)]
 rw[hiff]
 by_cases h3:(Ip (b.take (b.length-4))).toNat≠Eg (b.drop (b.length-4))
 ·rw[if_pos (by simp[h3]),Xd,if_neg h1,if_neg h2,if_pos h3]
 ·rw[if_neg (by rw[decide_eq_false h3];decide),Xd,if_neg h1,if_neg h2,if_neg h3]
theorem Bok{b:List UInt8}(h:Xd b=0):5≤b.length∧b.length≤41254:=by
 unfold Xd at h
 split at h
 ·simp at h
 ·split at h
  ·simp at h
  ·omega
theorem Btu{c:Nat}(h1:1≤c)(h6:c≤6):Cp (4000:Int) (c:Int)=((4000/c:Nat):Int):=by
 have:c=1∨c=2∨c=3∨c=4∨c=5∨c=6:=by omega
 rcases this with rfl|rfl|rfl|rfl|rfl|rfl<;>rfl
theorem Ccn(p:List UInt8)(h:p.length≤41250):okB p (8*p.length):=⟨by omega,by omega,fun k h1 h2=>by omega⟩
theorem Ahp{bits:Int}{ch n:Nat}{t:List Int32}(b:List UInt8)(hb:Cm bits)(ht:t.length=16)(h1:1≤ch)(h6:ch≤6)(n1:1≤n)(n2:n≤4000/ch):
  ∃l e,deframe_Decode (ch:Int) bits t (n:Int) b=some (l,e)∧cadenzaref21_Decode (ch:Int) bits t (n:Int) b=some (l,e)∧(e=0→cadenzaref18_Check bits l=some 0∧l.length≤4000∧l.length=n*ch)∧(e≠0→l=[]):=by
 have hn:n*ch≤4000:=by
  have:=Nat.mul_le_mul_right ch n2
  have h2:=Nat.div_mul_le_self 4000 ch
  omega
 have hq4:=Btu h1 h6
 generalize 4000/ch=mm at*
 have hck:Vk (ch:Int) bits=some 0:=by
  have hr:∃x y,Ah3 bits=some (x,y,0):=⟨_,_,Byq hb⟩
  obtain⟨x,y,hr⟩:=hr
  rw[Vk,hr,Aa]
  simp only
  rw[if_neg (by simp[Ak,Af,As];omega)]
 have hh:=Axx bits
 have hasked:Ke (ch:Int) bits (n:Int)=some 0:=by
  rw[Ke,Uv,if_neg (by simp[Af,As];omega),Bbo hb,Aa,if_neg (by rw[Aq];simp;omega),Aa,if_neg (by simp[Ak,Af];omega),Dc (by rw[Ak];simp;omega),Aa,hq4,if_neg (by rw[As];simp;omega)]
 rw[deframe_Decode,cadenzaref21_Decode,Ms,hck,hasked,Aa,Aa,if_neg (by rw[Ak];simp),if_neg (by rw[Af];simp;omega),Dc (by rw[Ak];simp;omega),Aa,hq4,if_neg (by rw[As];simp;omega),if_neg (by rw[Ak];simp),Bpm,Bel]
 by_cases hs:Xd b≠0
 ·rw[if_pos hs]
  simp only[Aa]
  rw[if_pos (by rw[Ak];simpa using hs),if_pos (by rw[Ak];simpa using hs)]
  exact⟨[],Xd b,rfl,rfl,fun e=>absurd e hs,fun _=>rfl⟩
 have hs0:Xd b=0:=by simpa using hs
 have hlen:=Bok hs0
 have e4:Aj (Ac b) 4=((b.length-4:Nat):Int):=by rw[Ac,Bw (by omega) (by omega)];omega
 rw[if_neg hs,hs0]
 simp only[Aa]
 rw[if_neg (by rw[Ak];simp),if_neg (by rw[Ak];simp),e4,Cv (by omega) (by omega),Aa,show((b.length-4:Nat):Int).toNat=b.length-4 from rfl]
 have hpl:(b.take (b.length-4)).length=b.length-4:=by simp
 generalize b.take (b.length-4)=p at*
 have e8:Bj (8:Int) (Ac p)=((8*p.length:Nat):Int):=by rw[Ac,Jl (by omega) (by omega)];omega
 have hp:=Ccn p (by omega)
 have hv:=values_eq hp h1 h6 hn
 have hr:=Bsi (N:=8*p.length) (p:=p) rfl (by omega) h1 h6 hn
 have hat:=Bdf (ch:=ch) (p:=p) (N:=8*p.length) (n*ch) 0 [] (by omega)
 rw[Bl4,if_neg (by rw[As,Ac];simp;omega),Fu,Cs (by simp;omega),Aa,Aa,Aa,List.nil_append,e8]
 simp only
 rw[if_neg (by rw[Ak];simp),hv,hr,Aa,Aa]
 generalize Aab ch p (8*p.length) (n*ch) 0 []=V at*
 obtain⟨v,at',e⟩:=V
 simp only at*
 by_cases he:e≠0
 ·rw[if_pos he,if_pos he]
  simp only
  rw[if_pos (by rw[Ak];simpa using he),Gb,Dw,if_pos (by rw[Ak];simpa using he)]
  exact⟨[],e,rfl,rfl,fun h=>absurd h he,fun _=>rfl⟩
 have he0:e=0:=by simpa using he
 have hvl:=hat.2.2 he0
 simp only[List.length_nil,Nat.zero_add]at hvl
 rw[if_neg he,if_neg he]
 simp only
 rw[if_neg (by rw[Ak];simp),Bw (by omega) (by omega),show((8*p.length:Nat):Int)-(at':Int)=((8*p.length-at':Nat):Int) by omega,Gb,Dw]
 by_cases h7:7<8*p.length-at'
 ·have hE:(if 7<8*p.length-at'∨Ck p at' (8*p.length-at')≠0 then(12:Int)else 0)=12:=if_pos (.inl h7)
  rw[if_pos (by rw[Ef];simp;omega),hE,if_pos (by decide)]
  exact⟨[],12,rfl,rfl,fun h=>absurd h (by decide),fun _=>rfl⟩
 rw[if_neg (by rw[Ef];simp;omega),Bbh hp at' _ (by omega),if_neg (by omega),Aa]
 have hz:Ay (Yy p at' (8*p.length-at')) (0:UInt64)=decide (Ck p at' (8*p.length-at')≠0):=by
  rw[Ajr,Bool.eq_iff_iff]
  simp only[bne_iff_ne,ne_eq,←UInt64.toNat_inj,decide_eq_true_eq]
  rw[Ad2 p _ _ (by omega)];rfl
 simp only
 rw[hz]
 by_cases hv0:Ck p at' (8*p.length-at')≠0
 ·have hE:(if 7<8*p.length-at'∨Ck p at' (8*p.length-at')≠0 then(12:Int)else 0)=12:=if_pos (.inr hv0)
  rw[if_pos (by simp[hv0]),hE,if_pos (by decide)]
  exact⟨[],12,rfl,rfl,fun h=>absurd h (by decide),fun _=>rfl⟩
 have hm:v.length %ch=0:=by rw[hvl];exact Nat.mul_mod_left n ch
 obtain⟨l,e,g1,g2,g3,g4,g5⟩:=Ayc (v:=v) hb ht h1 h6 (by omega) hm
 have hE:(if 7<8*p.length-at'∨Ck p at' (8*p.length-at')≠0 then(12:Int)else 0)=0:=if_neg (by omega)
 rw[if_neg (by rw[decide_eq_false hv0];decide),hE,if_neg (by decide),g1,g3,Aa,Aa,g2]
 by_cases hl:e≠0
 ·rw[if_pos hl]
  exact⟨[],e,rfl,rfl,fun h=>absurd h hl,fun _=>rfl⟩
 ·rw[if_neg hl]
  have hl0:e=0:=by simpa using hl
  exact⟨l,0,rfl,rfl,fun _=>⟨by rw[g4,hl0],by omega,by omega⟩,fun e=>absurd rfl e⟩
end Go.Pl
set_option linter.unusedVariables false
set_option linter.unusedSimpArgs false
namespace Go.Pl
open Go Go.Lv
def P64:Nat:=4823603603198064275
def Aiq(s:Nat):Nat:=(2*s %18446744073709551616)^^^ (s/9223372036854775808*P64)
theorem Apm{s:Nat}(h:s<18446744073709551616):Aiq s<18446744073709551616:=by
 have h1:s/9223372036854775808=0∨s/9223372036854775808=1:=by omega
 exact Nat.xor_lt_two_pow (n:=64) (Nat.mod_lt _ (by decide)) (by rcases h1 with e|e<;>rw[e]<;>decide)
theorem Bsg(x y:Nat):(x^^^y)/9223372036854775808=(x/9223372036854775808)^^^ (y/9223372036854775808):=by
 have:=Nat.shiftRight_xor_distrib (a:=x) (b:=y) (i:=63)
 simpa [Nat.shiftRight_eq_div_pow]using this
theorem Bt1(x y:Nat):2*(x^^^y) %18446744073709551616=(2*x %18446744073709551616)^^^ (2*y %18446744073709551616):=by
 have h1:=Nat.shiftLeft_xor_distrib (a:=x) (b:=y) (i:=1)
 have h2:=Nat.xor_mod_two_pow (a:=2*x) (b:=2*y) (n:=64)
 have e:2*(x^^^y)=(2*x)^^^ (2*y):=by simpa [Nat.shiftLeft_eq,Nat.mul_comm]using h1
 rw[e];exact h2
theorem Ca1{a b:Nat}(ha:a=0∨a=1)(hb:b=0∨b=1)(p:Nat):(a^^^b)*p=(a*p)^^^ (b*p):=by
 rcases ha with rfl|rfl<;>rcases hb with rfl|rfl<;>simp
theorem Cis(a b c d:Nat):(a^^^b)^^^ (c^^^d)=(a^^^c)^^^ (b^^^d):=by
 rw[Nat.xor_assoc,Nat.xor_assoc,←Nat.xor_assoc b c d,Nat.xor_comm b c,Nat.xor_assoc c b d]
theorem Brk{x y:Nat}(hx:x<18446744073709551616)(hy:y<18446744073709551616):Aiq (x^^^y)=Aiq x^^^Aiq y:=by
 rw[Aiq,Aiq,Aiq,Bt1,Bsg,Ca1 (by omega) (by omega),Cis]
def Pe:Nat→Nat→Nat
 |0,s=>s
 |k+1,s=>Pe k (Aiq s)
theorem Bbf:∀(k:Nat) {s:Nat},s<18446744073709551616→Pe k s<18446744073709551616
 |0,_,h=>h
 |k+1,_,h=>Bbf k (Apm h)
theorem Bht:∀(k:Nat) {x y:Nat},x<18446744073709551616→y<18446744073709551616→Pe k (x^^^y)=Pe k x^^^Pe k y
 |0,_,_,_,_=>rfl
 |k+1,x,y,hx,hy=>by rw[Pe,Brk hx hy,Bht k (Apm hx) (Apm hy)];rfl
theorem Beg:∀(k h:Nat),2^k*h<18446744073709551616→Pe k h=2^k*h
 |0,h,_=>by simp[Pe]
 |k+1,h,hl=>by
  have hpos:0<2^k:=Nat.pow_pos (by omega)
  rw[Nat.pow_succ,Nat.mul_assoc]at hl
  have h2:2*h<18446744073709551616:=Nat.lt_of_le_of_lt (Nat.le_mul_of_pos_left _ hpos) hl
  have:Aiq h=2*h:=by rw[Aiq,Nat.mod_eq_of_lt h2,show h/9223372036854775808=0 by omega];simp
  rw[Pe,this,Beg k _ hl,Nat.pow_succ,Nat.mul_assoc]
def Atw(s c:Nat):Nat:=Pe 8 (s^^^ (c*72057594037927936))
theorem c56{c:Nat}(hc:c<256):c*72057594037927936<18446744073709551616:=by omega
theorem Baa{s c:Nat}(h:s<18446744073709551616)(hc:c<256):Atw s c<18446744073709551616:=Bbf 8 (Nat.xor_lt_two_pow (n:=64) h (c56 hc))
theorem Cdq(s:Nat):s=(s/72057594037927936*72057594037927936)^^^ (s %72057594037927936):=by
 have h1:s %72057594037927936<2^56:=Nat.mod_lt _ (by decide)
 have:=Nat.two_pow_add_eq_or_of_lt h1 (s/72057594037927936)
 have h2:2^56*(s/72057594037927936)|||s %72057594037927936=(2^56*(s/72057594037927936))^^^ (s %72057594037927936):=by
  apply Nat.eq_of_testBit_eq;intro i
  rw[Nat.testBit_or,Nat.testBit_xor]
  by_cases hi:i<56
  ·have:(2^56*(s/72057594037927936)).testBit i=false:=by rw[Nat.testBit_two_pow_mul];simp;omega
   rw[this];simp
  ·have:(s %72057594037927936).testBit i=false:=Nat.testBit_lt_two_pow (Nat.lt_of_lt_of_le h1 (Nat.pow_le_pow_right (by omega) (by omega)))
   rw[this];simp
 rw[Nat.mul_comm (s/72057594037927936)]
 show s=(2^56*(s/72057594037927936))^^^ _
 rw[←h2,←this]
 have:=Nat.div_add_mod s 72057594037927936
 show s=72057594037927936*_+_
 omega
theorem Bvb(a c:Nat):(a^^^c)*72057594037927936=(a*72057594037927936)^^^ (c*72057594037927936):=by
 have h1:=Nat.shiftLeft_xor_distrib (a:=a) (b:=c) (i:=56)
 simpa [Nat.shiftLeft_eq]using h1
theorem Bkz{s c:Nat}(h:s<18446744073709551616)(hc:c<256):Atw s c=(256*s %18446744073709551616)^^^Pe 8 (((s/72057594037927936)^^^c)*72057594037927936):=by
 have hs:s/72057594037927936<2^8:=by show _<256;omega
 have hx:(s/72057594037927936)^^^c<256:=Nat.xor_lt_two_pow (n:=8) hs (by simpa using hc)
 have hl:s %72057594037927936<72057594037927936:=Nat.mod_lt _ (by decide)
 rw[Atw]
 conv=>lhs;rw[Cdq s]
 rw[Nat.xor_comm (s/72057594037927936*72057594037927936),Nat.xor_assoc,←Bvb,Bht 8 (by omega) (c56 hx),Beg 8 _ (by show 256*_<_;omega)]
 congr 1
 show 256*(s %72057594037927936)=_
 omega
def Bhv(s:Nat)(l:List UInt8):Nat:=l.foldl (fun s c=>Atw s c.toNat) s
theorem Bia{n:Nat}(h:n<18446744073709551616):(UInt64.ofNat n).toNat=n:=by rw[UInt64.toNat_ofNat'];exact Nat.mod_eq_of_lt h
theorem Ce7(s:UInt64)(bit:Nat)(hb:bit=0∨bit=1):Xj s (bit:Int)=some (UInt64.ofNat ((2*s.toNat %18446744073709551616)^^^ (((s.toNat/9223372036854775808)^^^bit)*P64))):=by
 have hs:=s.toNat_lt
 have ht:s.toNat/9223372036854775808=0∨s.toNat/9223372036854775808=1:=by omega
 have e1:(Bj s (2:UInt64)).toNat=2*s.toNat %18446744073709551616:=by
  rw[Aht,UInt64.toNat_mul];show s.toNat*2 %_=_;rw[Nat.mul_comm]
 have hlt:2*s.toNat %18446744073709551616<18446744073709551616:=Nat.mod_lt _ (by decide)
 have ey:Aa5 (Bj s (2:UInt64)) (4823603603198064275:UInt64)=UInt64.ofNat ((2*s.toNat %18446744073709551616)^^^P64):=by
  apply UInt64.toNat_inj.1
  rw[Bfj,UInt64.toNat_xor,e1,Bia (Nat.xor_lt_two_pow (n:=64) hlt (by decide))];rfl
 have en:Bj s (2:UInt64)=UInt64.ofNat (2*s.toNat %18446744073709551616):=by
  apply UInt64.toNat_inj.1
  rw[e1,Bia hlt]
 have eg:Ni s (9223372036854775808:UInt64)=decide (s.toNat/9223372036854775808=1):=by
  rw[Cb0,decide_eq_decide]
  show 9223372036854775808≤s.toNat↔_
  omega
 have hp:∀b:Bool,Ps s b=some (if b=true then UInt64.ofNat ((2*s.toNat %18446744073709551616)^^^P64)else UInt64.ofNat (2*s.toNat %18446744073709551616)):=by
  intro b
  rw[Ps,Ahj,ey,en];cases b<;>rfl
 rw[Xj,Zr,hp,hp,eg]
 rcases hb with rfl|rfl<;>rcases ht with h|h<;>rw[h]<;>simp[Aq]
theorem Bcp(c:UInt8):∀(j q:Nat) (s:UInt64),j≤8→j<q→Ht c q s ((2^j/2:Nat):Int)=some (UInt64.ofNat (Pe j (s.toNat^^^ (c.toNat %2^j*2^(64-j)))))
 |0,q+1,s,_,_=>by
  rw[Ht,Qh,if_neg (by rw[As];simp),Yi,Aid]
  simp[Pe,Nat.mod_one]
 |j+1,q+1,s,hj,hq=>by
  have hc:=c.toNat_lt
  have hs:=s.toNat_lt
  have hj2:2^j≤2^7:=Nat.pow_le_pow_right (by omega) (by omega)
  have hpos:0<2^j:=Nat.pow_pos (by omega)
  have e1:2^(j+1)/2=2^j:=by rw[Nat.pow_succ];omega
  have e2:Cp ((2^j:Nat):Int) 2=((2^j/2:Nat):Int):=by
   generalize 2^j=K at*
   rw[Aiy,Int.tdiv_eq_ediv_of_nonneg (by omega),Cg (by omega) (by omega)];omega
  have e3:Ho (Cp (Ad c:Int) ((2^j:Nat):Int)) (2:Int)=((c.toNat/2^j %2:Nat):Int):=by
   have hX:=Nat.div_le_self c.toNat (2^j)
   rw[Aka,Aiy,←Int.ofNat_tdiv]
   generalize c.toNat/2^j=X at*
   rw[Cg (by omega) (by omega),Ho,Int.tmod_eq_emod_of_nonneg (by omega)];omega
  have hbit:c.toNat/2^j %2=0∨c.toNat/2^j %2=1:=by omega
  rw[Ht,Qh,e1,if_pos (by rw[As,decide_eq_true_eq];omega),Dc (by rw[Ak,bne_iff_ne];omega),Aa,e3,Ce7 s _ hbit,Aa,e2,Bcp c j q _ (by omega) (by omega)]
  congr 2
  rw[Pe]
  congr 1
  have hx:c.toNat %2^(j+1)*2^(64-(j+1))=(c.toNat/2^j %2)*9223372036854775808+c.toNat %2^j*2^(63-j):=by
   have h63:(9223372036854775808:Nat)=2^j*2^(63-j):=by rw[←Nat.pow_add,show j+(63-j)=63 by omega]
   rw[Nat.mod_pow_succ,h63,show 64-(j+1)=63-j by omega,Nat.add_mul,Nat.add_comm,Nat.mul_assoc,Nat.mul_left_comm]
  have hr:c.toNat %2^j<2^j:=Nat.mod_lt _ hpos
  have hb63:c.toNat %2^j*2^(63-j)<9223372036854775808:=by
   have h63:(9223372036854775808:Nat)=2^j*2^(63-j):=by rw[←Nat.pow_add,show j+(63-j)=63 by omega]
   rw[h63];exact Nat.mul_lt_mul_of_pos_right hr (Nat.pow_pos (by omega))
  have h64:c.toNat %2^j*2^(64-j)=2*(c.toNat %2^j*2^(63-j)):=by
   rw[show 64-j=(63-j)+1 by omega,Nat.pow_succ,←Nat.mul_assoc,Nat.mul_comm]
  rw[hx,h64]
  generalize c.toNat %2^j*2^(63-j)=R at*
  generalize c.toNat/2^j %2=b at*
  have ht:s.toNat/9223372036854775808=0∨s.toNat/9223372036854775808=1:=by omega
  have hp:((s.toNat/9223372036854775808^^^b)*P64)<18446744073709551616:=by
   rcases ht with h|h<;>rcases hbit with h2|h2<;>rw[h,h2]<;>decide
  rw[Bia (Nat.xor_lt_two_pow (n:=64) (Nat.mod_lt _ (by decide)) hp),Aiq,Bt1,Bsg,show(b*9223372036854775808+R)/9223372036854775808=b by omega,show 2*(b*9223372036854775808+R) %18446744073709551616=2*R by omega,Nat.xor_assoc,Nat.xor_assoc,Nat.xor_comm (2*R)]
theorem Cf9(c:UInt8)(s:UInt64):Aec s c=some (UInt64.ofNat (Atw s.toNat c.toNat)):=by
 have h:=Bcp c 8 FUEL s (Nat.le_refl _) (by have:=Ap;omega)
 have hc:=c.toNat_lt
 rw[Nat.mod_eq_of_lt (show c.toNat<2^8 by simpa using hc)]at h
 exact h
theorem Awo(b:List UInt8)(hb:b.length<4611686018427387904):∀(j i q:Nat) (s:UInt64),i+j=b.length→j<q→Fw b q s (i:Int)=some (UInt64.ofNat (Bhv s.toNat (b.drop i)))
 |0,i,q+1,s,hi,_=>by
  rw[Fw,Mq,if_neg (by rw[Af,Ac];simp;omega),show i=b.length by omega,List.drop_length]
  simp[Uy,Adu,Bhv]
 |j+1,i,q+1,s,hi,hq=>by
  have hlt:i<b.length:=by omega
  have hc:=b[i].toNat_lt
  rw[Fw,Mq,if_pos (by rw[Af,Ac];simp;omega),Cl hlt,Aa,Cf9,Aa,Ah (by omega) (by omega)]
  have h:=Awo b hb j (i+1) q (UInt64.ofNat (Atw s.toNat b[i].toNat)) (by omega) (by omega)
  rw[show((i:Int)+1)=((i+1:Nat):Int) by omega,h,drop_cons hlt,Bia (Baa s.toNat_lt (by simpa using hc))]
  rfl
def Aey(b:List UInt8):UInt64:=UInt64.ofNat (Bhv 0 b)
theorem Bm9(b:List UInt8)(hb:b.length≤100000):Rm 0 b=some (Aey b):=
 Awo b (by omega) b.length 0 FUEL 0 (by omega) (by have:=Ap;omega)
theorem Bqy(c:UInt64):Aa5 (Dt c (GI.toZ (1:UInt64)).toNat) (Bj (4823603603198064275:UInt64) (Ca c (GI.toZ (63:UInt64)).toNat))=UInt64.ofNat (Aiq c.toNat):=by
 have hc:=c.toNat_lt
 apply UInt64.toNat_inj.1
 have h1:(Dt c (GI.toZ (1:UInt64)).toNat).toNat=2*c.toNat %18446744073709551616:=by
  rw[show(GI.toZ (1:UInt64)).toNat=1 from rfl,Apt,Nat.mul_comm]
 have h2:(Bj (4823603603198064275:UInt64) (Ca c (GI.toZ (63:UInt64)).toNat)).toNat=c.toNat/9223372036854775808*P64:=by
  rw[show(GI.toZ (63:UInt64)).toNat=63 from rfl,Aht,UInt64.toNat_mul,Ahz]
  show 4823603603198064275*(c.toNat/9223372036854775808) %18446744073709551616=_
  have h1:c.toNat/9223372036854775808=0∨c.toNat/9223372036854775808=1:=by omega
  rcases h1 with e|e<;>rw[e]<;>decide
 rw[Bfj,UInt64.toNat_xor,h1,h2,Bia (Apm hc)];rfl
theorem Bch(bk16:Int→List UInt64→Option (UInt64×Int))(s:UInt64)(b:List UInt8)(x:Int)(t:List UInt64):∀(j i q:Nat) (c:UInt64),i+j=8→j<q→
  Sj bk16 s b x t q c (i:Int)=Ael bk16 s b x (UInt64.ofNat (Pe j c.toNat)) t
 |0,i,q+1,c,hi,_=>by
  obtain rfl:i=8:=by omega
  rw[Sj,Adv,if_neg (by rw[Af];simp),Pe,UInt64.ofNat_toNat]
 |j+1,i,q+1,c,hi,hq=>by
  rw[Sj,Adv,if_pos (by rw[Af];simp;omega),Bqy,Ah (by omega) (by omega),show((i:Int)+1)=((i+1:Nat):Int) by omega,Bch bk16 s b x t j (i+1) q _ (by omega) (by omega),Bia (Apm c.toNat_lt)];rfl
def Am6(n:Nat):List UInt64:=(List.range n).map fun i=>UInt64.ofNat (Pe 8 (i*72057594037927936))
theorem Bhn(s:UInt64)(b:List UInt8):∀(j i q:Nat),i+j=256→j<q→Nr s b q (i:Int) (Am6 i++List.replicate j 0)=Ae4 s b (Am6 256)
 |0,i,q+1,hi,_=>by
  obtain rfl:i=256:=by omega
  rw[Nr,Ae7,if_neg (by rw[Af];simp)];simp
 |j+1,i,q+1,hi,hq=>by
  have hlen:(Am6 i++List.replicate (j+1) 0).length=i+(j+1):=by simp[Am6]
  rw[Nr,Ae7,if_pos (by rw[Af];simp;omega),Ak3]
  have h:=Bch (Nr s b q) s b (i:Int) (Am6 i++List.replicate (j+1) 0) 8 0 FUEL (Dt (Ad (i:Int):UInt64) (GI.toZ (56:UInt64)).toNat) (by omega) (by have:=Ap;omega)
  rw[show((0:Int))=((0:Nat):Int)from rfl,h,Ael,Ali,Cl (by rw[hlen];omega),Aa,Aav _ (by rw[hlen];omega),Aa,Alx,At1,Ah (by omega) (by omega)]
  have e:(Dt (Ad (i:Int):UInt64) (GI.toZ (56:UInt64)).toNat).toNat=i*72057594037927936:=by
   rw[Apt,Acz,Bia (by omega)]
   show i*72057594037927936 %18446744073709551616=_
   omega
  rw[e,List.replicate_succ,Avw (by simp[Am6])]
  have h2:=Bhn s b j (i+1) q (by omega) (by omega)
  have h3:Am6 (i+1)=Am6 i++[UInt64.ofNat (Pe 8 (i*72057594037927936))]:=by simp[Am6,List.range_succ]
  rw[h3]at h2
  rw[show((i:Int)+1)=((i+1:Nat):Int) by omega,←h2]
  simp
theorem Bu9{i:Nat}(h:i<256):getI (Am6 256) (i:Int)=some (UInt64.ofNat (Pe 8 (i*72057594037927936))):=by
 rw[Cl (by simpa [Am6]using h)];simp[Am6]
theorem Bpn(s:UInt64)(c:UInt8):getI (Am6 256) (GI.toZ (Aa5 (Ad (Ca s (GI.toZ (56:UInt64)).toNat):UInt8) c))=some (UInt64.ofNat (Pe 8 (((s.toNat/72057594037927936)^^^c.toNat)*72057594037927936))):=by
 have hs:=s.toNat_lt
 have e:GI.toZ (Aa5 (Ad (Ca s (GI.toZ (56:UInt64)).toNat):UInt8) c)=(((s.toNat/72057594037927936)^^^c.toNat:Nat):Int):=by
  have e2:((Ad (Ca s (GI.toZ (56:UInt64)).toNat):UInt8)).toNat=s.toNat/72057594037927936:=by
   rw[Arj,UInt8.toNat_ofNat',Ahz]
   show s.toNat/72057594037927936 %256=_
   omega
  rw[Ab4,Bsp,UInt8.toNat_xor,e2]
 rw[e,Bu9]
 exact Nat.xor_lt_two_pow (n:=8) (by show _<256;omega) (by simpa using c.toNat_lt)
theorem Blx(s:UInt64)(c:UInt8):Aa5 (Dt s (GI.toZ (8:UInt64)).toNat) (UInt64.ofNat (Pe 8 (((s.toNat/72057594037927936)^^^c.toNat)*72057594037927936)))=UInt64.ofNat (Atw s.toNat c.toNat):=by
 have hs:=s.toNat_lt
 have hc:c.toNat<256:=by simpa using c.toNat_lt
 apply UInt64.toNat_inj.1
 have hlt:Pe 8 (((s.toNat/72057594037927936)^^^c.toNat)*72057594037927936)<18446744073709551616:=Bbf 8 (c56 (Nat.xor_lt_two_pow (n:=8) (by show _<256;omega) (by simpa using c.toNat_lt)))
 have e:(GI.toZ (8:UInt64)).toNat=8:=rfl
 rw[e,Bfj,UInt64.toNat_xor,Apt,Bia hlt,Bia (Baa hs hc),Bkz hs hc,Nat.mul_comm s.toNat]
theorem Bcy(b:List UInt8)(s0:UInt64)(hb:b.length<4611686018427387904):∀(j i q:Nat) (s:UInt64),i+j=b.length→j<q→So b s0 (Am6 256) q s (i:Int)=some (UInt64.ofNat (Bhv s.toNat (b.drop i)),0)
 |0,i,q+1,s,hi,_=>by
  rw[So,Ady,if_neg (by rw[Af,Ac];simp;omega),show i=b.length by omega,List.drop_length]
  simp[Akg,All,Al4,Au9,Bhv]
 |j+1,i,q+1,s,hi,hq=>by
  have hlt:i<b.length:=by omega
  have hc:=b[i].toNat_lt
  rw[So,Ady,if_pos (by rw[Af,Ac];simp;omega),Cl hlt,Aa,Bpn,Aa,Aa,Blx,Ah (by omega) (by omega)]
  have h:=Bcy b s0 hb j (i+1) q (UInt64.ofNat (Atw s.toNat b[i].toNat)) (by omega) (by omega)
  rw[show((i:Int)+1)=((i+1:Nat):Int) by omega,h,drop_cons hlt,Bia (Baa s.toNat_lt (by simpa using hc))]
  rfl
theorem Bpb(b:List UInt8)(hb:b.length≤100000):Apj b=some (Aey b,0):=by
 have h:=Bhn 0 b 256 0 FUEL (by omega) (by have:=Ap;omega)
 have h2:=Bcy b 0 (by omega) b.length 0 FUEL 0 (by omega) (by have:=Ap;omega)
 have hn:Aq7 0 b=some (Aey b,0):=by
  rw[Aq7,Aoc,if_neg (by rw[As,Ac];simp;omega),Al9]
  refine Eq.trans h ?_
  rw[Ae4,Al0,Akz]
  exact h2
 rw[Apj,hn,Aa]
theorem Bwv(p:List UInt8)(hp:p.length≤64):Aea p=some (leB (Aey p).toNat 8,0):=by
 rw[Aea,Bag,if_neg (by rw[As,Ac];simp;omega),Bpb p (by omega),Aa,Aa]
 simp only
 have h:=Bm7 (Aey p) 8 (by omega) (by omega) (by simpa using(Aey p).toNat_lt)
 rw[if_neg (by rw[Ak];simp)]
 exact congrArg (fun o=>Option.bind o fun x:List UInt8×Int=>some (x.1,x.2)) h
theorem Bi1(p:List UInt8)(hp:p.length≤64):Lc p=some (leB (Aey p).toNat 8):=by
 have h:=Bho (Aey p) 8 (by omega)
 rw[Lc,Ad0,Bm9 p (by omega),Aa,Aa]
 exact congrArg (fun o=>Option.bind o fun l=>some l) h
def s8(n:Nat):Int32:=Int32.ofInt (if n<128 then(n:Int)else(n:Int)-256)
def Ana(d:UInt64)(n:Nat):List Int32:=(List.range n).map fun i=>s8 (d.toNat/256^i %256)
theorem Aoy(d:UInt64)(n:Nat):(Ana d n).length=n:=by simp[Ana]
theorem Bee(d:UInt64)(n:Nat):Ana d (n+1)=Ana d n++[s8 (d.toNat/256^n %256)]:=by simp[Ana,List.range_succ]
theorem bm8(z:Nat):(z:Int).bmod Int8.size=if z %256<128 then((z %256:Nat):Int)else((z %256:Nat):Int)-256:=by
 rw[show Int8.size=256 from rfl,Int.bmod_def]
 split<;>split<;>omega
theorem Bsr(d:UInt64):∀(j i q:Nat),i+j=8→j<q→Af7 d q (i:Int) (Ana d i++List.replicate (16-i) 0)=some (Ana d 8++List.replicate 8 0)
 |0,i,q+1,hi,_=>by
  obtain rfl:i=8:=by omega
  rw[Af7,Arf,if_neg (by rw[Af];simp)];rfl
 |j+1,i,q+1,hi,hq=>by
  have hlen:(Ana d i++List.replicate (16-i) 0).length=16:=by simp[Aoy];omega
  have ih:=Bsr d j (i+1) q (by omega) (by omega)
  have e8:Bj (8:Int) (i:Int)=((8*i:Nat):Int):=by rw[Jl (by omega) (by omega)];omega
  have ev:(Ad (Ad (Ca d (GI.toZ (((8*i:Nat):Int))).toNat):Int8):Int32)=s8 (d.toNat/256^i %256):=by
   have e1:(Ca d (GI.toZ (((8*i:Nat):Int))).toNat).toNat=d.toNat/256^i:=by
    rw[show(GI.toZ (((8*i:Nat):Int))).toNat=8*i from rfl,Ahz,Nat.pow_mul]
   show Int32.ofInt (Int8.ofInt ((Ca d (GI.toZ (((8*i:Nat):Int))).toNat).toNat:Int)).toInt=_
   rw[e1,s8,Int8.toInt_ofInt,bm8]
  rw[Af7,Arf,if_pos (by rw[Af];simp;omega),e8,Dc (by rw[Ef];simp;omega),Aa,ev,Cl (by omega),Aa,Aav _ (by omega),Aa,Ah (by omega) (by omega),show 16-i=(15-i)+1 by omega,List.replicate_succ,Avw (Aoy d i)]
  rw[Bee,show 16-(i+1)=15-i by omega,List.append_assoc]at ih
  exact ih
theorem Bzb(d:UInt64):∀(j i q:Nat) (e:UInt64),i+j=8→j<q→e.toNat=d.toNat/256^i→Hp q e (i:Int) (Ana d i++List.replicate (16-i) 0)=some (Ana d 8++List.replicate 8 0)
 |0,i,q+1,e,hi,_,he=>by
  obtain rfl:i=8:=by omega
  rw[Hp,Us,if_neg (by rw[Af];simp)];rfl
 |j+1,i,q+1,e,hi,hq,he=>by
  have hlen:(Ana d i++List.replicate (16-i) 0).length=16:=by simp[Aoy];omega
  have hq2:(Cp e (256:UInt64)).toNat=d.toNat/256^(i+1):=by
   rw[Ayg,UInt64.toNat_div,he,Nat.pow_succ,←Nat.div_div_eq_div_mul];rfl
  have ih:=Bzb d j (i+1) q (Cp e (256:UInt64)) (by omega) (by omega) hq2
  have ev:(Ad (Ada e (256:UInt64)):Int32)=Int32.ofInt ((d.toNat/256^i %256:Nat):Int):=by
   show Int32.ofInt ((Ada e (256:UInt64)).toNat:Int)=_
   rw[Boi,UInt64.toNat_mod,he];rfl
  have hz:d.toNat/256^i %256<256:=Nat.mod_lt _ (by omega)
  have et:(Int32.ofInt ((d.toNat/256^i %256:Nat):Int)).toInt=((d.toNat/256^i %256:Nat):Int):=by
   rw[Int32.toInt_ofInt,Int.bmod_eq_of_le (by show -(4294967296/2:Int)≤_;omega) (by show _<(4294967296+1)/2;omega)]
  have hp8:∀x:Int32,x=s8 (d.toNat/256^i %256)→Uj (Hp q) e (i:Int) (Ana d i++List.replicate (16-i) 0) x=some (Ana d 8++List.replicate 8 0):=by
   intro x hx
   rw[Uj,Ak5,hx,Cl (by omega),Aa,Aav _ (by omega),Aa,Ah (by omega) (by omega),show 16-i=(15-i)+1 by omega,List.replicate_succ,Avw (Aoy d i)]
   rw[Bee,show 16-(i+1)=15-i by omega,List.append_assoc]at ih
   exact ih
  rw[Hp,Us,if_pos (by rw[Af];simp;omega),ev,Bq2,et,show(127:Int32).toInt=127 from rfl]
  by_cases h:d.toNat/256^i %256<128
  ·rw[if_neg (by simp only[decide_eq_true_eq];omega)]
   exact hp8 _ (by rw[s8,if_pos h])
  ·rw[if_pos (by simp only[decide_eq_true_eq];omega)]
   refine hp8 _ ?_
   rw[s8,if_neg h,Bhf,Int32.ofInt_sub];rfl
def tapsOf(p:List UInt8):List Int32:=Ana (Aey p) 8++List.replicate 8 0
theorem Yg(p:List UInt8):(tapsOf p).length=16:=by simp[tapsOf,Aoy]
theorem Bjv(p:List UInt8)(hp:p.length≤64):Tj p=some (tapsOf p,0):=by
 have h:=Bsr (Aey p) 8 0 FUEL (by omega) (by have:=Ap;omega)
 have h2:Bl5 (Aey p)=some (tapsOf p):=h
 rw[Tj,if_neg (by rw[As,Ac];simp;omega),Bpb p (by omega),Aa]
 simp only
 rw[if_neg (by rw[Ak];simp),h2,Aa]
theorem Au7(p:List UInt8)(hp:p.length≤64):Qb p=some (tapsOf p,0):=by
 have h:=Bzb (Aey p) 8 0 FUEL (Aey p) (by omega) (by have:=Ap;omega) (by simp)
 have h2:Aiw (Aey p)=some (tapsOf p):=h
 rw[Qb,if_neg (by rw[As,Ac];simp;omega),Agv,Afc,if_neg (by rw[As,Ac];simp;omega),Bm9 p (by omega),Aa,Aa,Aa]
 simp only
 rw[h2,Aa]
end Go.Pl
set_option linter.unusedVariables false
set_option linter.unusedSimpArgs false
namespace Go.Pl
open Go Go.Lv
def u8(z:Int):UInt8:=UInt8.ofNat (z %256).toNat
theorem Bl0(z:Int):u8 (z %256)=u8 z:=by rw[u8,u8];congr 2;omega
def wB(bits:Int):Nat:=if bits=8 then 1 else if bits=16 then 2 else 3
theorem Byv{bits:Int}(h:Cm bits):Cp bits 8=(wB bits:Int):=by obtain rfl|rfl|rfl:=h<;>rfl
theorem Bi6(bits:Int):1≤wB bits∧wB bits≤3:=by
 unfold wB;split; · omega
 ·split<;>omega
def Af8(bits:Int)(x:Int):List UInt8:=if bits=8 then [u8 (x+128)]else if bits=16 then [u8 x,u8 (x/256)]else [u8 x,u8 (x/256),u8 (x/65536)]
theorem Bpi(bits x:Int):(Af8 bits x).length≤3:=by
 unfold Af8;split; · simp
 ·split<;>simp
theorem Bzv(x:Int32)(k:Nat)(hk:k≤32):(Ad (Ca x k):UInt8)=u8 (x.toInt.fdiv (2^k)):=by
 have h:=Adw x
 have e:Ca x k=Int32.ofInt (x.toInt.fdiv (2^k)):=by
  show Int32.ofInt (x.toInt.fdiv (2^min k 32))=_
  rw[Nat.min_eq_left hk]
 have hb: -2147483648≤x.toInt.fdiv (2^k)∧x.toInt.fdiv (2^k)<2147483648:=by
  have hpos:(0:Int)<2^k:=Int.pow_pos (by omega)
  rw[Int.fdiv_eq_ediv_of_nonneg _ (by omega)]
  constructor
  ·refine(Int.le_ediv_iff_mul_le hpos).2 ?_
   have:(1:Int)≤2^k:=by omega
   have h2: -2147483648*(2^k:Int)≤ -2147483648*1:=Int.mul_le_mul_of_nonpos_left (by omega) this
   omega
  ·refine Int.ediv_lt_of_lt_mul hpos ?_
   have:(1:Int)≤2^k:=by omega
   have h2:(2147483648:Int)*1≤2147483648*2^k:=Int.mul_le_mul_of_nonneg_left this (by omega)
   omega
 show UInt8.ofNat ((Ca x k).toInt %256).toNat=_
 rw[e,Int32.toInt_ofInt,Int.bmod_eq_of_le (by show -(4294967296/2:Int)≤_;omega) (by show _<(4294967296+1)/2;omega)];rfl
section
variable (bk:Int→List UInt8→Option (List UInt8×Int)) (l:List Int32)
theorem Bdi{bits:Int}(h:Cm bits)(c:Int32)(x:Int)(i q:Nat)(acc:List UInt8)(hi:i<wB bits)(ha:acc.length≤100000):
  Jj bk bits l c x (q+1) (i:Int) acc=Jj bk bits l c x q ((i+1:Nat):Int) (acc++[u8 (c.toInt.fdiv (2^(8*i)))]):=by
 have hw:=Bi6 bits
 have e8:Bj (8:Int) (i:Int)=((8*i:Nat):Int):=by rw[Jl (by omega) (by omega)];omega
 rw[Jj,Abs,Byv h,if_pos (by rw[Af];simp;omega),e8,Dc (by rw[Ef];simp;omega),Aa,show(GI.toZ (((8*i:Nat):Int))).toNat=8*i from rfl,Bzv _ _ (by omega),Cs (by simp;omega),Aa,Ah (by omega) (by omega)];rfl
theorem Bqd{bits:Int}(h:Cm bits)(c:Int32)(x:Int)(q:Nat)(acc:List UInt8):Jj bk bits l c x (q+1) ((wB bits:Nat):Int) acc=bk (Ae x 1) acc:=by
 rw[Jj,Abs,Byv h,if_neg (by rw[Af];simp),Air,Asa]
theorem Cf3{bits:Int}(h:Cm bits)(c:Int32)(x:Int)(acc:List UInt8)(ha:acc.length≤90000)(hr: -(hB bits)≤c.toInt∧c.toInt<hB bits):
  Mc bk bits l x acc (if bits=8 then Ae c (128:Int32)else c)=bk (Ae x 1) (acc++Af8 bits c.toInt):=by
 have e:FUEL=(FUEL-4)+1+1+1+1:=by have:=Ap;omega
 have hc:=Adw c
 rw[Mc,Ai7,Ain,e]
 have g0:=fun(c:Int32) q acc ha=>Bdi bk l h c x 0 q acc (by have:=Bi6 bits;omega) ha
 obtain rfl|rfl|rfl:=h
 ·have hh:hB 8=128:=rfl
  rw[hh]at hr
  have e1:(Ae c (128:Int32)).toInt=c.toInt+128:=by
   show(Int32.ofInt (c.toInt+(128:Int32).toInt)).toInt=_
   rw[show(128:Int32).toInt=128 from rfl,Int32.toInt_ofInt,Int.bmod_eq_of_le (by show -(4294967296/2:Int)≤_;omega) (by show _<(4294967296+1)/2;omega)]
  have g1:=Bqd bk l (bits:=8) (.inl rfl) (Ae c (128:Int32)) x (FUEL-4+1+1)
  rw[if_pos rfl,show(0:Int)=((0:Nat):Int)from rfl,g0 _ _ _ (by omega)]
  refine Eq.trans (g1 _) ?_
  rw[e1,Af8,if_pos rfl]
  show bk _ (acc++[u8 ((c.toInt+128).fdiv 1)])=_
  rw[Int.fdiv_one]
 ·have g1:=fun q acc ha=>Bdi bk l (bits:=16) (.inr (.inl rfl)) c x 1 q acc (by decide) ha
  have g2:=Bqd bk l (bits:=16) (.inr (.inl rfl)) c x (FUEL-4+1)
  rw[if_neg (by decide),show(0:Int)=((0:Nat):Int)from rfl,g0 _ _ _ (by omega),g1 _ _ (by simp;omega)]
  refine Eq.trans (g2 _) ?_
  rw[Af8,if_neg (by decide),if_pos rfl,List.append_assoc]
  show bk _ (acc++[u8 (c.toInt.fdiv 1),u8 (c.toInt.fdiv 256)])=_
  rw[Int.fdiv_one,Int.fdiv_eq_ediv_of_nonneg _ (by omega)]
 ·have g1:=fun q acc ha=>Bdi bk l (bits:=24) (.inr (.inr rfl)) c x 1 q acc (by decide) ha
  have g2:=fun q acc ha=>Bdi bk l (bits:=24) (.inr (.inr rfl)) c x 2 q acc (by decide) ha
  have g3:=Bqd bk l (bits:=24) (.inr (.inr rfl)) c x (FUEL-4)
  rw[if_neg (by decide),show(0:Int)=((0:Nat):Int)from rfl,g0 _ _ _ (by omega),g1 _ _ (by simp;omega),g2 _ _ (by simp;omega)]
  refine Eq.trans (g3 _) ?_
  rw[Af8,if_neg (by decide),if_neg (by decide),List.append_assoc,List.append_assoc]
  show bk _ (acc++[u8 (c.toInt.fdiv 1),u8 (c.toInt.fdiv 256),u8 (c.toInt.fdiv 65536)])=_
  rw[Int.fdiv_one,Int.fdiv_eq_ediv_of_nonneg _ (by omega),Int.fdiv_eq_ediv_of_nonneg _ (by omega)]
end
def bytesB(bits:Int)(l:List Int32):List UInt8:=l.flatMap fun x=>Af8 bits x.toInt
theorem Agg(bits:Int):∀l:List Int32,(bytesB bits l).length≤3*l.length
 |[]=>by simp[bytesB]
 |x::l=>by
  have h1:=Agg bits l
  have h2:=Bpi bits x.toInt
  simp only[bytesB,List.flatMap_cons,List.length_append,List.length_cons]at*
  omega
def inR(bits:Int)(l:List Int32):Prop:=∀x∈l, -(hB bits)≤x.toInt∧x.toInt<hB bits
theorem Bte{bits:Int}(h:Cm bits)(l:List Int32)(hl:l.length≤4000)(hr:inR bits l):∀(j i q:Nat),i+j=l.length→j<q→Ft bits l q (i:Int) (bytesB bits (l.take i))=some (bytesB bits l,0)
 |0,i,q+1,hi,_=>by
  rw[Ft,Abn,if_neg (by rw[Af,Ac];simp;omega),List.take_of_length_le (by omega)];rfl
 |j+1,i,q+1,hi,hq=>by
  have hlt:i<l.length:=by omega
  have ih:=Bte h l hl hr j (i+1) q (by omega) (by omega)
  have hlen:=Agg bits (l.take i)
  have hx:=hr l[i] (List.getElem_mem _)
  have h1:=Cf3 (Ft bits l q) l h l[i] (i:Int) (bytesB bits (l.take i)) (by rw[List.length_take]at hlen;omega) hx
  rw[Ft,Abn,if_pos (by rw[Af,Ac];simp;omega),Cl hlt,Aa]
  have e:(if(geq bits (8:Int))=true then Mc (Ft bits l q) bits l (i:Int) (bytesB bits (l.take i)) (Ae l[i] (128:Int32))else Mc (Ft bits l q) bits l (i:Int) (bytesB bits (l.take i)) l[i])=Mc (Ft bits l q) bits l (i:Int) (bytesB bits (l.take i)) (if bits=8 then Ae l[i] (128:Int32)else l[i]):=by
   by_cases h8:bits=8
   ·rw[if_pos (by rw[Aq];simpa using h8),if_pos h8]
   ·rw[if_neg (by rw[Aq];simpa using h8),if_neg h8]
  rw[e,h1,Ah (by omega) (by omega)]
  rw[Akc hlt]at ih
  have e2:bytesB bits (l.take i++[l[i]])=bytesB bits (l.take i)++Af8 bits l[i].toInt:=by unfold bytesB;rw[List.flatMap_append,List.flatMap_singleton]
  rw[e2]at ih
  exact ih
theorem Baj{bits:Int}(h:Cm bits){l:List Int32}(hl:l.length≤4000)(hc:cadenzaref18_Check bits l=some 0):inR bits l:=by
 have hh:=Axx bits
 have key:∀(j i q:Nat),i+j=l.length→j<q→Bc l (hB bits) q (i:Int)=some 0→∀k,i≤k→(hk:k<l.length)→ -(hB bits)≤l[k].toInt∧l[k].toInt<hB bits:=by
  intro j
  induction j with
  |zero=>intro i q hi hq _ k h1 h2;omega
  |succ j ih=>
   intro i q hi hq hs k h1 h2
   obtain⟨q,rfl⟩:∃k,q=k+1:=⟨q-1,by omega⟩
   rw[Bc,Dk,if_pos (by rw[Af,Ac];simp;omega),Cl (by omega),Aa,Aa,Ey,Bp5,Cg (by omega) (by omega),Ah (by omega) (by omega),Af,Ef]at hs
   by_cases g1:l[i].toInt<0-hB bits
   ·rw[if_pos (by simpa using g1)]at hs;simp at hs
   ·rw[if_neg (by simpa using g1)]at hs
    by_cases g2:hB bits≤l[i].toInt
    ·rw[if_pos (by simpa using g2)]at hs;simp at hs
    ·rw[if_neg (by simpa using g2)]at hs
     by_cases hk:k=i
     ·subst hk;omega
     ·exact ih (i+1) q (by omega) (by omega) hs k (by omega) h2
 rw[cadenzaref18_Check,Gv,Bbo h,Aa,if_neg (by rw[Aq];simp;omega),if_neg (by rw[As,Ac];simp;omega)]at hc
 have:=key l.length 0 FUEL (by omega) (by have:=Ap;omega) hc
 intro x hx
 obtain⟨k,hk,rfl⟩:=List.getElem_of_mem hx
 exact this k (by omega) hk
theorem Ax7{bits:Int}(h:Cm bits){l:List Int32}(hl:l.length≤4000)(hc:cadenzaref18_Check bits l=some 0):width_Bytes bits l=some (bytesB bits l,0):=by
 have h1:=Bte h l hl (Baj h hl hc) l.length 0 FUEL (by omega) (by have:=Ap;omega)
 rw[width_Bytes,Alq,Bg3 h l hl,hc,Aa,if_neg (by rw[Ak];simp)]
 exact h1
theorem Cbq{bits:Int}(h:Cm bits)(x:Int32)(hr: -(hB bits)≤x.toInt∧x.toInt<hB bits):Zx bits x=some (Af8 bits x.toInt):=by
 have hx:=Adw x
 have gu:∀z:Int,(Ad z:UInt8)=u8 z:=fun z=>rfl
 have hq:∀n:Int,0≤n→n≤20000000→Cp n (256:Int)=n/256∧Cp n (65536:Int)=n/65536:=by
  intro n h1 h2
  constructor<;>(rw[Aiy,Int.tdiv_eq_ediv_of_nonneg h1,Cg (by omega) (by omega)])
 have hm:∀n:Int,0≤n→Ho n (256:Int)=n %256:=fun n h1=>by rw[Ho,Int.tmod_eq_emod_of_nonneg h1]
 rw[Zx,Aal,Ey]
 obtain rfl|rfl|rfl:=h
 ·rw[if_pos (by rw[Aq];rfl),Ah (by omega) (by omega),gu,Af8,if_pos rfl]
 ·have hh:hB 16=32768:=rfl
  rw[hh]at hr
  have hp:∀n:Int,0≤n→n≤70000→u8 n=u8 x.toInt→u8 (n/256)=u8 (x.toInt/256)→Jc 16 n=some (Af8 16 x.toInt):=by
   intro n h1 h2 h3 h4
   rw[Jc,Aar,if_neg (by rw[Aq];decide),hm n h1,(hq n h1 (by omega)).1,hm _ (by omega),gu,gu,Bl0,Bl0,h3,h4,Af8,if_neg (by decide),if_pos rfl]
  rw[if_neg (by rw[Aq];decide)]
  by_cases hn:x.toInt<0
  ·rw[if_pos (by rw[Af];simpa using hn),Bbo (.inr (.inl rfl)),Aa,hh,Jl (by omega) (by omega),Ah (by omega) (by omega)]
   refine hp _ (by omega) (by omega) ?_ ?_
   ·rw[u8,u8];congr 2;omega
   ·rw[u8,u8];congr 2;omega
  ·rw[if_neg (by rw[Af];simpa using hn)]
   exact hp _ (by omega) (by omega) rfl rfl
 ·have hh:hB 24=8388608:=rfl
  rw[hh]at hr
  have hp:∀n:Int,0≤n→n≤16777215→u8 n=u8 x.toInt→u8 (n/256)=u8 (x.toInt/256)→u8 (n/65536)=u8 (x.toInt/65536)→Jc 24 n=some (Af8 24 x.toInt):=by
   intro n h1 h2 h3 h4 h5
   rw[Jc,Aar,if_pos (by rw[Aq];rfl),hm n h1,(hq n h1 (by omega)).1,(hq n h1 (by omega)).2,hm _ (by omega),gu,gu,gu,Bl0,Bl0,h3,h4,h5,Cs (by simp),Aa,Af8,if_neg (by decide),if_neg (by decide)];rfl
  rw[if_neg (by rw[Aq];decide)]
  by_cases hn:x.toInt<0
  ·rw[if_pos (by rw[Af];simpa using hn),Bbo (.inr (.inr rfl)),Aa,hh,Jl (by omega) (by omega),Ah (by omega) (by omega)]
   refine hp _ (by omega) (by omega) ?_ ?_ ?_
   ·rw[u8,u8];congr 2;omega
   ·rw[u8,u8];congr 2;omega
   ·rw[u8,u8];congr 2;omega
  ·rw[if_neg (by rw[Af];simpa using hn)]
   exact hp _ (by omega) (by omega) rfl rfl rfl
theorem Bt5{bits:Int}(h:Cm bits)(l:List Int32)(hl:l.length≤4000)(hr:inR bits l):∀(j i q:Nat),i+j=l.length→j<q→Gt bits l q (i:Int) (bytesB bits (l.take i))=some (bytesB bits l,0)
 |0,i,q+1,hi,_=>by
  rw[Gt,Ok,if_neg (by rw[Af,Ac];simp;omega),List.take_of_length_le (by omega)];rfl
 |j+1,i,q+1,hi,hq=>by
  have hlt:i<l.length:=by omega
  have ih:=Bt5 h l hl hr j (i+1) q (by omega) (by omega)
  have hlen:=Agg bits (l.take i)
  have hol:=Bpi bits l[i].toInt
  rw[List.length_take]at hlen
  have e2:bytesB bits (l.take i++[l[i]])=bytesB bits (l.take i)++Af8 bits l[i].toInt:=by unfold bytesB;rw[List.flatMap_append,List.flatMap_singleton]
  rw[Akc hlt,e2]at ih
  rw[Gt,Ok,if_pos (by rw[Af,Ac];simp;omega),Cl hlt,Aa,Cbq h _ (hr l[i] (List.getElem_mem _)),Aa,Cs (by omega),Aa,Ah (by omega) (by omega)]
  exact ih
theorem Aot{bits:Int}(h:Cm bits){l:List Int32}(hl:l.length≤4000)(hc:cadenzaref18_Check bits l=some 0):Nt bits l=some (bytesB bits l,0):=by
 have h1:=Bt5 h l hl (Baj h hl hc) l.length 0 FUEL (by omega) (by have:=Ap;omega)
 rw[Nt,Wc,hc,Aa,if_neg (by rw[Ak];simp)]
 exact h1
end Go.Pl
set_option linter.unusedVariables false
set_option linter.unusedSimpArgs false
namespace Go.Pl
open Go Go.Lv
def Aom:List UInt8→Nat→Int×Int
 |[],n=>((n:Int),0)
 |c::r,n=>if 128≤c.toNat then(0,12)else Aom r (128*n+c.toNat)
theorem Bsf:∀(l:List UInt8) (n k:Nat),n<128^k→0≤(Aom l n).1∧(Aom l n).1<((128^(k+l.length):Nat):Int)
 |[],n,k,h=>by simp[Aom];exact_mod_cast h
 |c::r,n,k,h=>by
  rw[Aom]
  split
  ·have:0<128^(k+(c::r).length):=Nat.pow_pos (by omega)
   exact⟨Int.le_refl _,by simp only;exact_mod_cast this⟩
  ·have:=Bsf r (128*n+c.toNat) (k+1) (by rw[Nat.pow_succ];omega)
   rw[List.length_cons,show k+(r.length+1)=k+1+r.length by omega]
   exact this
theorem or7(n c:Nat)(hn:n<268435456)(hc:c<128):gor (Dt (n:Int) (GI.toZ (7:UInt64)).toNat) (c:Int)=((128*n+c:Nat):Int):=by
 have e:(GI.toZ (7:UInt64)).toNat=7:=rfl
 have h1:Dt (n:Int) 7=((2^7*n:Nat):Int):=by
  have:Dt (n:Int) 7=wrap64 ((n:Int)*2^7):=rfl
  rw[this,Cg (by omega) (by omega)];omega
 rw[e,h1]
 have h2:gor ((2^7*n:Nat):Int) (c:Int)=wrap64 ((BitVec.ofInt 64 ((2^7*n:Nat):Int)|||BitVec.ofInt 64 (c:Int)).toNat:Int):=rfl
 rw[h2,BitVec.toNat_or,BitVec.toNat_ofInt,BitVec.toNat_ofInt]
 have h3:(((2^7*n:Nat):Int) %((2^64:Nat):Int)).toNat=2^7*n:=by omega
 have h4:((c:Int) %((2^64:Nat):Int)).toNat=c:=by omega
 rw[h3,h4,←Nat.two_pow_add_eq_or_of_lt (by simpa using hc),Cg (by omega) (by omega)]
theorem Buf(b:List UInt8)(hb:b.length=4):∀(j i q n:Nat),i+j=4→j<q→n<128^i→Nh b q (n:Int) (i:Int)=some (Aom (b.drop i) n)
 |0,i,q+1,n,hi,_,_=>by
  rw[Nh,Aah,if_neg (by rw[Af,Ac];simp;omega),show b.drop i=[] by simp;omega];rfl
 |j+1,i,q+1,n,hi,hq,hn=>by
  have hlt:i<b.length:=by omega
  have hn2:n<268435456:=Nat.lt_of_lt_of_le hn (show 128^i≤128^4 from Nat.pow_le_pow_right (by omega) (by omega))
  rw[Nh,Aah,if_pos (by rw[Af,Ac];simp;omega),Cl hlt,Aa,drop_cons hlt,Aom,By5]
  by_cases hc:128≤b[i].toNat
  ·rw[if_pos (by simp;omega),if_pos hc]
  ·rw[if_neg (by simp;omega),if_neg hc,Aka,or7 n _ hn2 (by omega),Ah (by omega) (by omega)]
   exact Buf b hb j (i+1) q _ (by omega) (by omega) (by rw[Nat.pow_succ];omega)
theorem Bz1(b:List UInt8)(hb:b.length=4):∀(j i q n:Nat),i+j=4→j<q→n<128^i→Gy b q (n:Int) (i:Int)=some (Aom (b.drop i) n)
 |0,i,q+1,n,hi,_,_=>by
  rw[Gy,Of,if_neg (by rw[Af];simp;omega),show b.drop i=[] by simp;omega];rfl
 |j+1,i,q+1,n,hi,hq,hn=>by
  have hlt:i<b.length:=by omega
  have hn2:n<268435456:=Nat.lt_of_lt_of_le hn (show 128^i≤128^4 from Nat.pow_le_pow_right (by omega) (by omega))
  rw[Gy,Of,if_pos (by rw[Af];simp;omega),Cl hlt,Aa,drop_cons hlt,Aom,Bys]
  have h128:(128:UInt8).toNat=128:=rfl
  by_cases hc:128≤b[i].toNat
  ·rw[if_pos (by simpa using hc),if_pos hc]
  ·have h3:=b[i].toNat_lt
   rw[if_neg (by simpa using hc),if_neg hc,Aa,Aka,Jl (by omega) (by omega),Ah (by omega) (by omega),Ah (by omega) (by omega)]
   have:=Bz1 b hb j (i+1) q (128*n+b[i].toNat) (by omega) (by omega) (by rw[Nat.pow_succ];omega)
   rw[←this];rfl
theorem Bqb(b:List UInt8)(hb:b.length=4):Ahb b=some (Aom b 0):=by
 have h:=Buf b hb 4 0 FUEL 0 (by omega) (by have:=Ap;omega) (by simp)
 rw[Ahb,Agh,if_neg (by rw[Ak,Ac];simp;omega),Agu];exact h
theorem Bva(b:List UInt8)(hb:b.length=4):Tz b=some (Aom b 0):=by
 have h:=Bz1 b hb 4 0 FUEL 0 (by omega) (by have:=Ap;omega) (by simp)
 rw[Tz,Vu,if_neg (by rw[Ak,Ac];simp;omega),Vy];exact h
theorem Bqw{b:List UInt8}(hb:b.length=4):0≤(Aom b 0).1∧(Aom b 0).1<268435456:=by
 have:=Bsf b 0 0 (by simp)
 rw[hb]at this
 simpa using this
theorem Ap8(s p:List UInt8):Lz s p=some (decide (p.length≤s.length∧s.take p.length=p)):=by
 rw[Lz]
 by_cases h:p.length≤s.length
 ·rw[if_pos (by rw[Ef,Ac,Ac];simp;omega),show Ac p=(p.length:Int)from rfl,Cv (by omega) (by omega),Aa,Jh,Aa,Int.toNat_natCast]
  congr 1
  rw[Bool.eq_iff_iff];simp[h]
 ·rw[if_neg (by rw[Ef,Ac,Ac];simp;omega)]
  simp[h]
def Apd(b:List UInt8)(n:Int):Int×Int:=
 if 4000<n then(0,4)else if(b.length:Int)<n then(0,24)else
 if b.getD 5 0=16∧(b.take n.toNat).drop (n-10).toNat≠ [51,68,73]++part b 3 7 then(0,12)else(n,0)
def Bb0(b:List UInt8)(r:Int):Int×Int:=Apd b (r+10+(if b.getD 5 0=16 then 10 else 0))
def Aaj(b:List UInt8):Int×Int:=
 if ¬(3≤b.length∧b.take 3=[73,68,51])then(0,6)else if b.length<10 then(0,24)else
 if(Aom (part b 6 4) 0).2≠0∨b.getD 4 0≠0∨¬((b.getD 5 0=0∧2≤(b.getD 3 0).toNat∧(b.getD 3 0).toNat≤4)∨(b.getD 5 0=16∧b.getD 3 0=4))then(0,12)else
 Bb0 b (Aom (part b 6 4) 0).1
theorem Axu{b:List UInt8}{i:Nat}(h:i<b.length):getI b (i:Int)=some (b.getD i 0):=by
 rw[Cl h];simp[List.getD_eq_getElem?_getD,h]
theorem Qa{b:List UInt8}(a w:Nat)(h:a+w≤b.length):Az b (a:Int) ((a+w:Nat):Int)=some (part b a w):=by
 rw[Aes (by omega) (by omega) (by omega)];rfl
theorem Cd8(b:List UInt8)(r:Int)(h10:10≤b.length)(h0:0≤r)(h1:r<268435456):Pm b r=some (Bb0 b r):=by
 have g5:getI b (5:Int)=some (b.getD 5 0):=Axu (i:=5) (by omega)
 have key:∀n:Int,10≤n→n<268435500→Qj b n=some (Apd b n):=by
  intro n hn hn2
  rw[Qj,Ahy,Apd]
  by_cases c1:4000<n
  ·rw[if_pos (by rw[As];simpa using c1),if_pos c1]
  ·rw[if_neg (by rw[As];simpa using c1),if_neg c1]
   by_cases c2:(b.length:Int)<n
   ·rw[if_pos (by rw[Af,Ac];simpa using c2),if_pos c2]
   ·have e3:Az b (3:Int) (10:Int)=some (part b 3 7):=Qa 3 7 (by omega)
    rw[if_neg (by rw[Af,Ac];simpa using c2),if_neg c2,g5,Aa]
    by_cases c3:b.getD 5 0=16
    ·rw[if_pos (by rw[Aqa];simpa using c3),Bw (by omega) (by omega),Aes (by omega) (by omega) (by omega),Aa,e3,Aa,Cs (by rw[Dj (by omega)];simp),Aa]
     by_cases c4:(b.take n.toNat).drop (n-10).toNat=[51,68,73]++part b 3 7
     ·rw[if_neg (by simpa using c4),if_neg (by intro h;exact h.2 c4)]
     ·rw[if_pos (by simpa using c4),if_pos ⟨c3,c4⟩]
    ·rw[if_neg (by rw[Aqa];simpa using c3),if_neg (fun h=>c3 h.1)]
 rw[Pm,Zn,g5,Aa,Bb0]
 by_cases c3:b.getD 5 0=16
 ·rw[if_pos (by rw[Aqa];simpa using c3),Ah (by rw[Ah]<;>omega) (by rw[Ah]<;>omega),Ah (by omega) (by omega),key _ (by omega) (by omega),if_pos c3,show 10+r+10=r+10+10 by omega]
 ·rw[if_neg (by rw[Aqa];simpa using c3),Ah (by omega) (by omega),key _ (by omega) (by omega),if_neg c3,show 10+r=r+10+0 by omega]
theorem Bxx(b:List UInt8)(hb:b.length<4611686018427387904):Xc b=some (Aaj b):=by
 rw[Xc,Zk,Aaj]
 by_cases h3:3≤b.length
 ·rw[if_neg (by rw[Af,Ac];simp;omega),Cv (by omega) (by omega),Aa]
  by_cases hp:b.take 3=[73,68,51]
  ·rw[if_neg (by simpa using hp),if_neg (by simp[h3,hp]),Zm,Yd]
   by_cases h10:b.length<10
   ·rw[if_pos (by rw[Af,Ac];simp;omega),if_pos h10]
   ·have e6:Az b (6:Int) (10:Int)=some (part b 6 4):=Qa 6 4 (by omega)
    have g3:getI b (3:Int)=some (b.getD 3 0):=Axu (i:=3) (by omega)
    have g4:getI b (4:Int)=some (b.getD 4 0):=Axu (i:=4) (by omega)
    have g5:getI b (5:Int)=some (b.getD 5 0):=Axu (i:=5) (by omega)
    obtain⟨v1,v2⟩:=Bqw (b:=part b 6 4) (Dj (by omega))
    rw[if_neg (by rw[Af,Ac];simp;omega),if_neg h10,e6,Aa,Bva _ (Dj (by omega)),Aa]
    have ht:=Cd8 b (Aom (part b 6 4) 0).1 (by omega) v1 v2
    generalize Aom (part b 6 4) 0=v at*
    obtain⟨v,e⟩:=v
    simp only at ht v1 v2⊢
    simp only[Aa,g3,g4,g5,ht]
    generalize b.getD 3 0=x at*
    generalize b.getD 4 0=y at*
    generalize b.getD 5 0=z at*
    simp only[Bre,Cgm,By5,Ak]
    by_cases he:e=0<;>by_cases hy:y=0<;>by_cases hz:z=0<;>by_cases hz2:z=16<;>by_cases hx:x=4<;>by_cases hx2:x.toNat<2<;>by_cases hx4:4<x.toNat<;>simp_all<;>(rw[if_neg (by omega),if_neg (by omega)])
  ·rw[if_pos (by simpa using hp),if_pos (by simp[hp])]
 ·rw[if_pos (by rw[Af,Ac];simp;omega),if_pos (by simp[h3])]
theorem Bi9(b:List UInt8)(n:Int)(h10:10≤b.length)(hn:10≤n)(hn2:n<268435500):Abl b (b.getD 5 0) n=some (Apd b n):=by
 rw[Abl,Arv]
 by_cases c1:4000<n
 ·rw[if_pos (by rw[As];simpa using c1),Apd,if_pos c1]
 ·rw[if_neg (by rw[As];simpa using c1)]
  by_cases c2:(b.length:Int)<n
  ·rw[if_pos (by rw[Af,Ac];simpa using c2),Apd,if_neg c1,if_pos c2]
  ·have e3:Az b (3:Int) (10:Int)=some (part b 3 7):=Qa 3 7 (by omega)
   rw[if_neg (by rw[Af,Ac];simpa using c2)]
   by_cases c3:b.getD 5 0=16
   ·have hl:((b.take n.toNat).drop (n-10).toNat).length=10:=by simp;omega
    have ht:Apd b n=if(b.take n.toNat).drop (n-10).toNat≠ [51,68,73]++part b 3 7 then(0,12)else(n,0):=by rw[Apd,if_neg c1,if_neg c2];simp only[c3,true_and]
    rw[if_pos (by rw[Aqa];simpa using c3),Bw (by omega) (by omega),Aes (by omega) (by omega) (by omega),Aa,ht]
    generalize(b.take n.toNat).drop (n-10).toNat=f at*
    rw[Cv (by omega) (by omega),Aa,Cw (by omega) (by omega),Aa,e3,Aa,Jh,Aa]
    have hf:f=f.take 3++f.drop 3:=(List.take_append_drop 3 f).symm
    by_cases c4:f=[51,68,73]++part b 3 7
    ·subst c4
     simp
    ·by_cases c5:f.take 3=[51,68,73]
     ·have:f.drop 3≠part b 3 7:=fun h=>c4 (by rw[hf,c5,h])
      simp only[List.cons_append,List.nil_append]at c4
      simp[c4,c5,this]
     ·simp only[List.cons_append,List.nil_append]at c4
      simp[c4,c5]
   ·rw[if_neg (by rw[Aqa];simpa using c3),Apd,if_neg c1,if_neg c2,if_neg (fun h=>c3 h.1)]
theorem Caq(b:List UInt8)(r:Int)(h10:10≤b.length)(h0:0≤r)(h1:r<268435456):Abm b r (b.getD 5 0)=some (Bb0 b r):=by
 rw[Abm,Ait,Bb0]
 by_cases c3:b.getD 5 0=16
 ·rw[if_pos (by rw[Aqa];simpa using c3),Ah (by rw[Ah]<;>omega) (by rw[Ah]<;>omega),Ah (by omega) (by omega),Bi9 b _ h10 (by omega) (by omega),if_pos c3]
 ·rw[if_neg (by rw[Aqa];simpa using c3),Ah (by omega) (by omega),Bi9 b _ h10 (by omega) (by omega),if_neg c3];simp
theorem Bvx(b:List UInt8)(hb:b.length<4611686018427387904):Aj3 b=some (Aaj b):=by
 rw[Aj3,Abr,Ap8,Aa]
 by_cases hp:3≤b.length∧b.take 3=[73,68,51]
 ·rw[if_neg (by simpa using hp)]
  by_cases h10:b.length<10
  ·rw[if_pos (by rw[Af,Ac];simp;omega),Aaj,if_neg (fun h=>h hp),if_pos h10]
  ·have e6:Az b (6:Int) (10:Int)=some (part b 6 4):=Qa 6 4 (by omega)
   have g3:getI b (3:Int)=some (b.getD 3 0):=Axu (i:=3) (by omega)
   have g4:getI b (4:Int)=some (b.getD 4 0):=Axu (i:=4) (by omega)
   have g5:getI b (5:Int)=some (b.getD 5 0):=Axu (i:=5) (by omega)
   obtain⟨v1,v2⟩:=Bqw (b:=part b 6 4) (Dj (by omega))
   have ht:=Caq b (Aom (part b 6 4) 0).1 (by omega) v1 v2
   rw[if_neg (by rw[Af,Ac];simp;omega),g3,Aa,g5,Aa,Aio,Ai0,e6,Aa,Bqb _ (Dj (by omega)),Aa,Aaj,if_neg (fun h=>h hp),if_neg h10]
   generalize Aom (part b 6 4) 0=v at*
   obtain⟨v,e⟩:=v
   simp only at ht v1 v2⊢
   simp only[Aa,g4,Aim,Ail]
   generalize b.getD 3 0=x at*
   generalize b.getD 4 0=y at*
   generalize b.getD 5 0=z at*
   simp only[Bre,Cfx,Aqa,Bys,Ak]
   have e2:(2:UInt8).toNat=2:=rfl
   have e4:(4:UInt8).toNat=4:=rfl
   by_cases he:e=0<;>by_cases hy:y=0<;>by_cases hz:z=0<;>by_cases hz2:z=16<;>by_cases hx:x=4<;>by_cases hx2:2≤x.toNat<;>by_cases hx4:x.toNat≤4<;>simp_all
 ·rw[if_pos (by rw[Bool.not_eq_true',decide_eq_false_iff_not];exact hp),Aaj,if_pos hp]
theorem Bzr{b:List UInt8}{n:Int}(h:Aaj b=(n,0)):10≤n∧n≤b.length∧n≤4000:=by
 unfold Aaj at h
 split at h; · simp at h
 split at h; · simp at h
 split at h; · simp at h
 rename_i h10 _
 obtain⟨v1,v2⟩:=Bqw (b:=part b 6 4) (Dj (by omega))
 unfold Bb0 at h
 generalize hm:(Aom (part b 6 4) 0).1+10+(if b.getD 5 0=16 then 10 else 0)=m at h
 unfold Apd at h
 split at h; · simp at h
 split at h; · simp at h
 split at h; · simp at h
 simp only[Prod.mk.injEq,and_true]at h
 subst h
 refine⟨?_,by omega,by omega⟩
 rw[←hm]
 split<;>omega
end Go.Pl
set_option linter.unusedVariables false
set_option linter.unusedSimpArgs false
namespace Go.Pl
open Go Go.Lv
def APE:List UInt8:=[65,80,69,84,65,71,69,88]
def Pd(n m fl:Nat):List UInt8:=APE++leB 2000 4++leB (n+32) 4++leB m 4++leB fl 4++List.replicate 8 0
theorem Anb{n:Nat}(h:n<18446744073709551616):(UInt64.ofNat n).toNat=n:=by rw[UInt64.toNat_ofNat',Nat.mod_eq_of_lt h]
theorem Avl(n m:Int)(fl:UInt64)(c:UInt64)(i q:Nat)(acc:List UInt8)(hi:i<6)(hc:getI ([(2000:UInt64),(Ad (Ae n (32:Int)):UInt64),(Ad m:UInt64),fl,(0:UInt64),(0:UInt64)]:List UInt64) (i:Int)=some c)(h:c.toNat<4294967296)(ha:acc.length≤1000000):
  Abt n m fl (q+1) (i:Int) acc=Abt n m fl q ((i+1:Nat):Int) (acc++leB c.toNat 4):=by
 have hb:=Bm7 c 4 (by omega) (by omega) (by simpa using h)
 rw[Abt,Aqv,if_pos (by rw[Af,Ac];simp;omega),hc,Aa,Aa,show((4:Int))=((4:Nat):Int)from rfl,hb,Aa]
 simp only
 rw[Cs (by rw[Ru];omega),Aa,Ah (by omega) (by omega)];rfl
theorem Bge(n m:Nat)(fl:UInt64)(hn:n≤3000)(hm:m≤1000)(hf:fl.toNat<4294967296):Avb (n:Int) (m:Int) fl=some (Pd n m fl.toNat):=by
 have e1:(Ad (Ae (n:Int) (32:Int)):UInt64).toNat=n+32:=by rw[Ah (by omega) (by omega),show(n:Int)+32=((n+32:Nat):Int) by omega,Acz,Anb (by omega)]
 have e2:(Ad (m:Int):UInt64).toNat=m:=by rw[Acz,Anb (by omega)]
 have hF:FUEL=(FUEL-7)+1+1+1+1+1+1+1:=by have:=Ap;omega
 rw[Avb,Axq,Aw6,hF]
 rw[show((0:Int))=((0:Nat):Int)from rfl,Avl n m fl 2000 0 _ _ (by omega) rfl (by decide) (by simp),Avl n m fl _ 1 _ _ (by omega) rfl (by rw[e1];omega) (by simp[Ru]),Avl n m fl _ 2 _ _ (by omega) rfl (by rw[e2];omega) (by simp[Ru]),
  Avl n m fl fl 3 _ _ (by omega) rfl hf (by simp[Ru]),Avl n m fl 0 4 _ _ (by omega) rfl (by decide) (by simp[Ru]),Avl n m fl 0 5 _ _ (by omega) rfl (by decide) (by simp[Ru]),e1,e2]
 rw[Abt,Aqv,if_neg (by rw[Af,Ac];simp),Axk,Bgr,Pd]
 have z:leB (0:UInt64).toNat 4++leB (0:UInt64).toNat 4=List.replicate 8 0:=by decide
 have z2:leB (2000:UInt64).toNat 4=leB 2000 4:=rfl
 rw[List.append_assoc _ (leB (0:UInt64).toNat 4),z,z2];rfl
theorem Azl(n m:Nat)(fl:UInt64)(hn:n≤3000)(hm:m≤1000)(hf:fl.toNat<4294967296):Nb (n:Int) (m:Int) fl=some (Pd n m fl.toNat):=by
 have e1:(Ad (Ae (n:Int) (32:Int)):UInt64).toNat=n+32:=by rw[Ah (by omega) (by omega),show(n:Int)+32=((n+32:Nat):Int) by omega,Acz,Anb (by omega)]
 have e2:(Ad (m:Int):UInt64).toNat=m:=by rw[Acz,Anb (by omega)]
 have w:∀c:UInt64,De c 4=some (leB c.toNat 4):=fun c=>Bho c 4 (by omega)
 have z2:leB (2000:UInt64).toNat 4=leB 2000 4:=rfl
 rw[Nb]
 simp only[w,e1,e2,Aa]
 rw[Cs (by simp[Ru]),Aa,Cs (by simp[Ru]),Aa,Cs (by simp[Ru]),Aa,Cs (by simp[Ru]),Aa,Bef (by omega) (by omega),Aa,Cs (by simp[Ru]),Aa,z2];rfl
theorem Aj7{b:List UInt8}{a w k:Nat}(h:a+w≤k):part (b.take k) a w=part b a w:=by rw[part,part,List.take_take,Nat.min_eq_left h]
def Adb(b:List UInt8):Bool:=decide (Eg (part b 12 4)<32∨3032<Eg (part b 12 4)∨1000<Eg (part b 16 4))
theorem Byr(b:List UInt8)(h:20≤b.length):(((Cc (leU (part b 12 4)) (32:UInt64))||(Ee (leU (part b 12 4)) (3032:UInt64)))||(Ee (leU (part b 16 4)) (1000:UInt64)))=Adb b:=by
 rw[Bdc,Amz,Amz,Ani (by rw[Dj (by omega)];omega),Ani (by rw[Dj (by omega)];omega),Adb]
 show((decide (Eg (part b 12 4)<32)||decide (3032<Eg (part b 12 4)))||decide (1000<Eg (part b 16 4)))=_
 simp[Bool.or_assoc]
theorem Ba0(b:List UInt8)(h:20≤b.length)(hb:Adb b=false):Aj (Ad (leU (part b 12 4)):Int) (32:Int)=((Eg (part b 12 4)-32:Nat):Int)∧(Ad (leU (part b 16 4)):Int)=((Eg (part b 16 4):Nat):Int)∧Eg (part b 12 4)-32≤3000∧Eg (part b 16 4)≤1000:=by
 simp only[Adb,decide_eq_false_iff_not]at hb
 refine⟨?_,Aha (by rw[Dj (by omega)];omega),by omega,by omega⟩
 rw[Aha (by rw[Dj (by omega)];omega),Bw (by omega) (by omega)];omega
theorem Aqz(b:List UInt8)(fl:UInt64)(h:20≤b.length)(hl:b.length<4611686018427387904)(hf:fl.toNat<4294967296):
  Aj8 b fl=some (if Adb b=true then(0,0,false)else(((Eg (part b 12 4)-32:Nat):Int),((Eg (part b 16 4):Nat):Int),b==Pd (Eg (part b 12 4)-32) (Eg (part b 16 4)) fl.toNat)):=by
 have a1:Apn b 12 4=some (leU (part b 12 4),0):=Big b 12 4 (by omega) (by omega) (by omega) hl
 have a2:Apn b 16 4=some (leU (part b 16 4),0):=Big b 16 4 (by omega) (by omega) (by omega) hl
 rw[Aj8,a1,Aa]
 simp only
 rw[a2,Aa]
 simp only
 rw[Byr b h]
 cases hb:Adb b with
 |true=>rfl
 |false=>
  obtain⟨i1,i2,i3,i4⟩:=Ba0 b h hb
  rw[i1,i2,Bge _ _ _ i3 i4 hf]
  rfl
theorem Boq(b:List UInt8)(h:20≤b.length)(hl:b.length<4611686018427387904):
  Pk b=some (if Adb b=true then(0,0,false)else(((Eg (part b 12 4)-32:Nat):Int),((Eg (part b 16 4):Nat):Int),true)):=by
 have a1:Az b 12 16=some (part b 12 4):=Qa 12 4 (by omega)
 have a2:Az b 16 20=some (part b 16 4):=Qa 16 4 (by omega)
 rw[Pk,a1,Aa,Bmq _ (by rw[Dj (by omega)];omega),Aa,a2,Aa,Bmq _ (by rw[Dj (by omega)];omega),Aa,Byr b h]
 cases hb:Adb b with
 |true=>rfl
 |false=>
  obtain⟨i1,i2,i3,i4⟩:=Ba0 b h hb
  rw[i1,i2];rfl
def Jm(b:List UInt8):Int×Int:=
 if ¬(8≤b.length∧b.take 8=APE)then(0,6)else if b.length<32 then(0,24)else
 if Adb b=true∨b.take 32≠Pd (Eg (part b 12 4)-32) (Eg (part b 16 4)) 2684354560 then(0,12)else
 if b.length<Eg (part b 12 4)+32 then(0,24)else
 if(b.take (Eg (part b 12 4)+32)).drop (Eg (part b 12 4))≠Pd (Eg (part b 12 4)-32) (Eg (part b 16 4)) 2147483648 then(0,12)else(((Eg (part b 12 4)+32:Nat):Int),0)
theorem Bmy(b:List UInt8):Adb (b.take 32)=Adb b:=by rw[Adb,Adb,Aj7 (by omega),Aj7 (by omega)]
section
variable {b:List UInt8}
theorem fa1(h:¬(8≤b.length∧b.take 8=APE)):Jm b=(0,6):=by rw[Jm,if_pos h]
theorem fa2(h:8≤b.length∧b.take 8=APE)(h2:b.length<32):Jm b=(0,24):=by rw[Jm,if_neg (fun h'=>h' h),if_pos h2]
variable (h:8≤b.length∧b.take 8=APE) (h2:¬b.length<32)
include h h2
theorem fa3(h3:Adb b=true):Jm b=(0,12):=by rw[Jm,if_neg (fun h'=>h' h),if_neg h2,if_pos (.inl h3)]
theorem fa4(h4:b.take 32≠Pd (Eg (part b 12 4)-32) (Eg (part b 16 4)) 2684354560):Jm b=(0,12):=by rw[Jm,if_neg (fun h'=>h' h),if_neg h2,if_pos (.inr h4)]
variable (h3:Adb b=false) (h4:b.take 32=Pd (Eg (part b 12 4)-32) (Eg (part b 16 4)) 2684354560)
include h3 h4
theorem fa5(h5:b.length<Eg (part b 12 4)+32):Jm b=(0,24):=by
 rw[Jm,if_neg (fun h'=>h' h),if_neg h2,if_neg (fun h'=>h'.elim (fun e=>by rw[h3]at e;cases e) fun e=>e h4),if_pos h5]
theorem fa6(h5:¬b.length<Eg (part b 12 4)+32)(h6:(b.take (Eg (part b 12 4)+32)).drop (Eg (part b 12 4))≠Pd (Eg (part b 12 4)-32) (Eg (part b 16 4)) 2147483648):Jm b=(0,12):=by
 rw[Jm,if_neg (fun h'=>h' h),if_neg h2,if_neg (fun h'=>h'.elim (fun e=>by rw[h3]at e;cases e) fun e=>e h4),if_neg h5,if_pos h6]
theorem fa7(h5:¬b.length<Eg (part b 12 4)+32)(h6:(b.take (Eg (part b 12 4)+32)).drop (Eg (part b 12 4))=Pd (Eg (part b 12 4)-32) (Eg (part b 16 4)) 2147483648):Jm b=(((Eg (part b 12 4)+32:Nat):Int),0):=by
 rw[Jm,if_neg (fun h'=>h' h),if_neg h2,if_neg (fun h'=>h'.elim (fun e=>by rw[h3]at e;cases e) fun e=>e h4),if_neg h5,if_neg (fun h'=>h' h6)]
end
theorem Bqv(b:List UInt8)(hl:b.length<4611686018427387904):Avs b=some (Jm b):=by
 rw[Avs,Ap8,Aa]
 by_cases hp:8≤b.length∧b.take 8=APE
 ·rw[if_neg (by simpa [APE]using hp)]
  by_cases h32:b.length<32
  ·rw[if_pos (by rw[Af,Ac];simp;omega),fa2 hp h32]
  ·have t:=Aqz (b.take 32) 2684354560 (by simp;omega) (by simp;omega) (by decide)
   rw[Bmy,Aj7 (by omega),Aj7 (by omega)]at t
   rw[if_neg (by rw[Af,Ac];simp;omega),Cv (by omega) (by omega),Aa,show(32:Int).toNat=32 from rfl,t,Aa]
   cases hb:Adb b with
   |true=>rw[fa3 hp h32 hb];simp
   |false=>
    obtain⟨i1,i2,i3,i4⟩:=Ba0 b (by omega) hb
    have i5:32≤Eg (part b 12 4):=by simp only[Adb,decide_eq_false_iff_not]at hb;omega
    simp only[Bool.false_eq_true,if_false,false_or]
    by_cases c1:b.take 32=Pd (Eg (part b 12 4)-32) (Eg (part b 16 4)) 2684354560
    ·have c1':b.take 32=Pd (Eg (part b 12 4)-32) (Eg (part b 16 4)) (2684354560:UInt64).toNat:=c1
     rw[if_neg (by simpa using c1'),Ah (by omega) (by omega)]
     have e1:((Eg (part b 12 4)-32:Nat):Int)+64=((Eg (part b 12 4)+32:Nat):Int):=by omega
     rw[e1]
     by_cases c2:b.length<Eg (part b 12 4)+32
     ·rw[if_pos (by rw[Af,Ac];simp;omega),fa5 hp h32 hb c1 c2]
     ·rw[if_neg (by rw[Af,Ac];simp;omega),Bw (by omega) (by omega),Aes (by omega) (by omega) (by omega),Aa,Bge _ _ _ i3 i4 (by decide),Aa,Jh,Aa]
      rw[show(((Eg (part b 12 4)+32:Nat):Int)).toNat=Eg (part b 12 4)+32 by omega,show(((Eg (part b 12 4)+32:Nat):Int)-32).toNat=Eg (part b 12 4) by omega]
      by_cases c3:(b.take (Eg (part b 12 4)+32)).drop (Eg (part b 12 4))=Pd (Eg (part b 12 4)-32) (Eg (part b 16 4)) 2147483648
      ·have c3':(b.take (Eg (part b 12 4)+32)).drop (Eg (part b 12 4))=Pd (Eg (part b 12 4)-32) (Eg (part b 16 4)) (2147483648:UInt64).toNat:=c3
       rw[if_neg (by simpa using c3'),fa7 hp h32 hb c1 c2 c3]
      ·have c3':¬(b.take (Eg (part b 12 4)+32)).drop (Eg (part b 12 4))=Pd (Eg (part b 12 4)-32) (Eg (part b 16 4)) (2147483648:UInt64).toNat:=c3
       rw[if_pos (by simpa using c3'),fa6 hp h32 hb c1 c2 c3]
    ·have c1':¬b.take 32=Pd (Eg (part b 12 4)-32) (Eg (part b 16 4)) (2684354560:UInt64).toNat:=c1
     rw[if_pos (by simpa using c1'),fa4 hp h32 c1]
 ·rw[if_pos (by rw[Bool.not_eq_true',decide_eq_false_iff_not];exact hp),fa1 hp]
theorem Bvv(b:List UInt8)(hl:b.length<4611686018427387904):Ui b=some (Jm b):=by
 rw[Ui,Vt]
 by_cases h8:8≤b.length
 ·rw[if_neg (by rw[Af,Ac];simp;omega),Cv (by omega) (by omega),Aa,show(8:Int).toNat=8 from rfl]
  by_cases ha:b.take 8=APE
  ·have hp:=And.intro h8 ha
   rw[if_neg (by simpa [APE]using ha),Vw,Wg]
   by_cases h32:b.length<32
   ·rw[if_pos (by rw[Af,Ac];simp;omega),fa2 hp h32]
   ·have t:=Boq (b.take 32) (by simp;omega) (by simp;omega)
    rw[Bmy,Aj7 (by omega),Aj7 (by omega)]at t
    rw[if_neg (by rw[Af,Ac];simp;omega),Cv (by omega) (by omega),Aa,show(32:Int).toNat=32 from rfl,t,Aa]
    cases hb:Adb b with
    |true=>rw[fa3 hp h32 hb];simp
    |false=>
     obtain⟨i1,i2,i3,i4⟩:=Ba0 b (by omega) hb
     have i5:32≤Eg (part b 12 4):=by simp only[Adb,decide_eq_false_iff_not]at hb;omega
     simp only[Bool.false_eq_true,if_false,false_or,Aa,Bool.not_true]
     rw[Qd,Azl _ _ _ i3 i4 (by decide),Aa,Aa]
     by_cases c1:b.take 32=Pd (Eg (part b 12 4)-32) (Eg (part b 16 4)) 2684354560
     ·have c1':b.take 32=Pd (Eg (part b 12 4)-32) (Eg (part b 16 4)) (2684354560:UInt64).toNat:=c1
      rw[if_neg (by simpa using c1'),Vx,Af0,Ah (by omega) (by omega)]
      have e1:64+((Eg (part b 12 4)-32:Nat):Int)=((Eg (part b 12 4)+32:Nat):Int):=by omega
      rw[e1]
      by_cases c2:b.length<Eg (part b 12 4)+32
      ·rw[if_pos (by rw[Af,Ac];simp;omega),fa5 hp h32 hb c1 c2]
      ·rw[if_neg (by rw[Af,Ac];simp;omega),Bw (by omega) (by omega),Aes (by omega) (by omega) (by omega),Aa,Iv,if_pos rfl,Azl _ _ _ i3 i4 (by decide),Aa,Aa]
       rw[show(((Eg (part b 12 4)+32:Nat):Int)).toNat=Eg (part b 12 4)+32 by omega,show(((Eg (part b 12 4)+32:Nat):Int)-32).toNat=Eg (part b 12 4) by omega]
       by_cases c3:(b.take (Eg (part b 12 4)+32)).drop (Eg (part b 12 4))=Pd (Eg (part b 12 4)-32) (Eg (part b 16 4)) 2147483648
       ·have c3':(b.take (Eg (part b 12 4)+32)).drop (Eg (part b 12 4))=Pd (Eg (part b 12 4)-32) (Eg (part b 16 4)) (2147483648:UInt64).toNat:=c3
        rw[if_neg (by simpa using c3'),fa7 hp h32 hb c1 c2 c3]
       ·have c3':¬(b.take (Eg (part b 12 4)+32)).drop (Eg (part b 12 4))=Pd (Eg (part b 12 4)-32) (Eg (part b 16 4)) (2147483648:UInt64).toNat:=c3
        rw[if_pos (by simpa using c3'),fa6 hp h32 hb c1 c2 c3]
     ·have c1':¬b.take 32=Pd (Eg (part b 12 4)-32) (Eg (part b 16 4)) (2684354560:UInt64).toNat:=c1
      rw[if_pos (by simpa using c1'),fa4 hp h32 c1]
  ·rw[if_pos (by simpa [APE]using ha),fa1 (fun h=>ha h.2)]
 ·rw[if_pos (by rw[Af,Ac];simp;omega),fa1 (fun h=>h8 h.1)]
theorem Bvi{b:List UInt8}{n:Int}(h:Jm b=(n,0)):64≤n∧n≤b.length:=by
 unfold Jm at h
 split at h; · simp at h
 split at h; · simp at h
 split at h; · simp at h
 rename_i hb
 split at h; · simp at h
 split at h; · simp at h
 simp only[Prod.mk.injEq,and_true]at h
 have hb':¬Adb b=true:=fun e=>hb (.inl e)
 simp only[Adb,decide_eq_true_eq]at hb'
 omega
end Go.Pl
set_option linter.unusedVariables false
set_option linter.unusedSimpArgs false
namespace Go.Pl
open Go Go.Lv
def Cb(b:List UInt8):Int×Int:=if(Aaj b).2≠6 then Aaj b else Jm b
theorem size_eq(b:List UInt8)(hl:b.length<4611686018427387904):Yk b=some (Cb b):=by
 rw[Yk,Bvx b hl,Aa,Bqv b hl]
 by_cases h:(Aaj b).2=6
 ·simp[Cb,h,Ak]
 ·simp[Cb,h,Ak]
theorem Aux{b:List UInt8}{n:Int}(h:Cb b=(n,0)):10≤n∧n≤b.length:=by
 unfold Cb at h
 split at h
 ·have:=Bzr h;omega
 ·have:=Bvi h;omega
def Bs(b:List UInt8):Nat→Nat→List Int×Int
 |0,_=>([],6)
 |j+1,p=>if(Cb (b.drop p)).2=6 then([],0)else if(Cb (b.drop p)).2≠0 then([],(Cb (b.drop p)).2)else
  if 4000<(p:Int)+(Cb (b.drop p)).1 then([],4)else
  if(Bs b j (p+(Cb (b.drop p)).1.toNat)).2=0 then((Cb (b.drop p)).1::(Bs b j (p+(Cb (b.drop p)).1.toNat)).1,0)else([],(Bs b j (p+(Cb (b.drop p)).1.toNat)).2)
theorem Avc(b:List UInt8):∀(j p:Nat),p≤b.length→p≤4000→(Bs b j p).2=0→(∀x∈(Bs b j p).1,10≤x)∧(p:Int)+(Bs b j p).1.sum≤b.length∧(p:Int)+(Bs b j p).1.sum≤4000
 |0,p,_,_,h=>by simp[Bs]at h
 |j+1,p,hp,hq,h=>by
  rw[Bs]at h⊢
  split at h
  ·rename_i h6;rw[if_pos h6];simp;omega
  ·rename_i h6
   split at h
   ·rename_i h0;exact absurd h h0
   ·rename_i h0
    rw[if_neg h6,if_neg h0]
    have hz:Cb (b.drop p)=((Cb (b.drop p)).1,0):=by rw[Prod.ext_iff];exact⟨rfl,Classical.not_not.1 h0⟩
    have hs:=Aux hz
    rw[List.length_drop]at hs
    split at h
    ·simp at h
    ·rename_i h4
     rw[if_neg h4]
     split at h
     ·rename_i h00
      rw[if_pos h00]
      obtain⟨i1,i2,i3⟩:=Avc b j _ (by omega) (by omega) h00
      refine⟨fun x hx=>?_,?_,?_⟩
      ·rcases List.mem_cons.1 hx with rfl|hx
       ·exact hs.1
       ·exact i1 x hx
      ·simp only[List.sum_cons];omega
      ·simp only[List.sum_cons];omega
     ·rename_i h00;exact absurd h h00
def Bid(b:List UInt8)(j p:Nat):Int×Int:=if(Bs b j p).2=0 then((p:Int)+(Bs b j p).1.sum,0)else(0,(Bs b j p).2)
theorem Bf4(b:List UInt8)(hl:b.length<4611686018427387904):∀(j p q:Nat),p≤b.length→p≤4000→b.length-p<j→j≤q→Vo b q (p:Int)=some (Bid b j p)
 |0,p,q,_,_,h,_=>by omega
 |j+1,p,q,hp,hp4,hj,hq=>by
  obtain⟨q,rfl⟩:∃k,q=k+1:=⟨q-1,by omega⟩
  rw[Vo,Cw (by omega) (by omega),Aa,Int.toNat_natCast,size_eq _ (by simp;omega),Aa,Aq,Aq,Ak,Bid]
  by_cases h6:(Cb (b.drop p)).2=6
  ·rw[if_pos (by simpa using h6)]
   have:Bs b (j+1) p=([],0):=by rw[Bs,if_pos h6]
   rw[this];simp
  ·rw[if_neg (by simpa using h6)]
   by_cases h0:(Cb (b.drop p)).2=0
   ·have hz:Cb (b.drop p)=((Cb (b.drop p)).1,0):=by rw[Prod.ext_iff];exact⟨rfl,h0⟩
    have hs:=Aux hz
    rw[List.length_drop]at hs
    rw[Ah (by omega) (by omega),As]
    by_cases h4:4000<(p:Int)+(Cb (b.drop p)).1
    ·rw[if_pos (by simp[h0];omega)]
     have:Bs b (j+1) p=([],4):=by rw[Bs,if_neg h6,if_neg (fun h=>h h0),if_pos h4]
     rw[this];simp
    ·rw[if_neg (by simp[h0];omega),if_neg (by simpa using h0)]
     have ih:=Bf4 b hl j (p+(Cb (b.drop p)).1.toNat) q (by omega) (by omega) (by omega) (by omega)
     rw[show(p:Int)+(Cb (b.drop p)).1=((p+(Cb (b.drop p)).1.toNat:Nat):Int) by omega,ih,Bid]
     have:Bs b (j+1) p=if(Bs b j (p+(Cb (b.drop p)).1.toNat)).2=0 then((Cb (b.drop p)).1::(Bs b j (p+(Cb (b.drop p)).1.toNat)).1,0)else([],(Bs b j (p+(Cb (b.drop p)).1.toNat)).2):=by
      rw[Bs,if_neg h6,if_neg (fun h=>h h0),if_neg h4]
     rw[this]
     by_cases hr:(Bs b j (p+(Cb (b.drop p)).1.toNat)).2=0
     ·simp only[hr,if_true,List.sum_cons];congr 2;omega
     ·simp only[hr,if_false]
   ·rw[if_neg (by simp[h0]),if_pos (by simpa using h0)]
    have:Bs b (j+1) p=([],(Cb (b.drop p)).2):=by rw[Bs,if_neg h6,if_pos h0]
    rw[this];simp[h0]
def Byl(b:List UInt8)(j p:Nat)(xs:List Int):List Int×Int:=if(Bs b j p).2=0 then(xs++(Bs b j p).1,0)else([],(Bs b j p).2)
theorem Bxk(bk:Int→List Int→Option (List Int×Int))(b:List UInt8)(p:Nat)(hp:p≤b.length)(xs:List Int)(hx:xs.length≤4000)(hl:b.length<4611686018427387904):Oe (Js bk b) b (p:Int) xs=Js bk b (p:Int) xs (Cb (b.drop p)).1 (Cb (b.drop p)).2:=by
 have hf:=Bvv (b.drop p) (by simp;omega)
 rw[Oe,Cw (by omega) (by omega),Aa,Int.toNat_natCast,Bxx _ (by simp;omega),Aa]
 by_cases h:(Aaj (b.drop p)).2=6
 ·simp[Cb,h,Aq,hf]
 ·simp[Cb,h,Aq]
theorem Bip(b:List UInt8)(hl:b.length<4611686018427387904):∀(j p q:Nat) (xs:List Int),p≤b.length→p≤4000→b.length-p<j→j≤q→xs.length≤p→Jy b q (p:Int) xs=some (Byl b j p xs)
 |0,p,q,_,_,_,h,_,_=>by omega
 |j+1,p,q,xs,hp,hp4,hj,hq,hx=>by
  obtain⟨q,rfl⟩:∃k,q=k+1:=⟨q-1,by omega⟩
  rw[Jy,Bxk _ b p hp xs (by omega) hl,Js,Afh,Aq,Ak,Byl]
  by_cases h6:(Cb (b.drop p)).2=6
  ·rw[if_pos (by simpa using h6)]
   have:Bs b (j+1) p=([],0):=by rw[Bs,if_pos h6]
   rw[this];simp
  ·rw[if_neg (by simpa using h6)]
   by_cases h0:(Cb (b.drop p)).2=0
   ·have hz:Cb (b.drop p)=((Cb (b.drop p)).1,0):=by rw[Prod.ext_iff];exact⟨rfl,h0⟩
    have hs:=Aux hz
    rw[List.length_drop]at hs
    rw[if_neg (by simpa using h0),Ah (by omega) (by omega),As]
    by_cases h4:4000<(p:Int)+(Cb (b.drop p)).1
    ·rw[if_pos (by simp;omega)]
     have:Bs b (j+1) p=([],4):=by rw[Bs,if_neg h6,if_neg (fun h=>h h0),if_pos h4]
     rw[this];simp
    ·rw[if_neg (by simp;omega),Cs (by simp;omega),Aa]
     have ih:=Bip b hl j (p+(Cb (b.drop p)).1.toNat) q (xs++[(Cb (b.drop p)).1]) (by omega) (by omega) (by omega) (by omega) (by simp;omega)
     rw[show(p:Int)+(Cb (b.drop p)).1=((p+(Cb (b.drop p)).1.toNat:Nat):Int) by omega,ih,Byl]
     have:Bs b (j+1) p=if(Bs b j (p+(Cb (b.drop p)).1.toNat)).2=0 then((Cb (b.drop p)).1::(Bs b j (p+(Cb (b.drop p)).1.toNat)).1,0)else([],(Bs b j (p+(Cb (b.drop p)).1.toNat)).2):=by
      rw[Bs,if_neg h6,if_neg (fun h=>h h0),if_neg h4]
     rw[this]
     by_cases hr:(Bs b j (p+(Cb (b.drop p)).1.toNat)).2=0
     ·simp only[hr,if_true];simp
     ·simp only[hr,if_false]
   ·rw[if_pos (by simpa using h0)]
    have:Bs b (j+1) p=([],(Cb (b.drop p)).2):=by rw[Bs,if_neg h6,if_pos h0]
    rw[this];simp[h0]
theorem Bdo:∀{l:List Int},(∀x∈l,10≤x)→0≤l.sum∧(l.length:Int)≤l.sum
 |[],_=>by simp
 |x::l,h=>by
  have h1:=h x List.mem_cons_self
  have h2:=Bdo (l:=l) fun y hy=>h y (List.mem_cons_of_mem _ hy)
  simp only[List.sum_cons,List.length_cons];omega
theorem Bfa(r:Int)(l:List Int)(hl:l.length≤4000)(hx:∀x∈l,10≤x):∀(j i q:Nat) (n:Int),i+j=l.length→j<q→0≤n→n+(l.drop i).sum≤4000→Gw r l q n (i:Int)=some (n+(l.drop i).sum,r)
 |0,i,q+1,n,hi,_,_,_=>by
  rw[Gw,Og,if_neg (by rw[Af,Ac];simp;omega),show i=l.length by omega,List.drop_length]
  simp[Vr,Afn]
 |j+1,i,q+1,n,hi,hq,hn,hs=>by
  have hlt:i<l.length:=by omega
  rw[drop_cons hlt,List.sum_cons]at hs⊢
  have h1:=hx l[i] (List.getElem_mem hlt)
  have h2:=Bdo (l:=l.drop (i+1)) fun y hy=>hx y (List.mem_of_mem_drop hy)
  rw[Gw,Og,if_pos (by rw[Af,Ac];simp;omega),Cl hlt,Aa,Aa,Ah (by omega) (by omega),Ah (by omega) (by omega)]
  have ih:=Bfa r l hl hx j (i+1) q (n+l[i]) (by omega) (by omega) (by omega) (by omega)
  rw[show((i:Int)+1)=((i+1:Nat):Int) by omega,ih]
  congr 2;omega
def frontS(b:List UInt8):Int×Int:=Bid b (b.length+1) 0
theorem Akx(b:List UInt8)(hl:b.length<4611686018427387904):Jg b=some (frontS b):=by
 have:=Bf4 b hl (b.length+1) 0 FUEL (by omega) (by omega) (by omega) (by have:=Ap;omega)
 exact this
theorem Aql(b:List UInt8)(hl:b.length<4611686018427387904):Ki b=some (frontS b):=by
 have h:=Bip b hl (b.length+1) 0 FUEL [] (by omega) (by omega) (by omega) (by have:=Ap;omega) (by simp)
 have h':Aby b=some (Byl b (b.length+1) 0 []):=h
 rw[Ki,Wm,h',Aa,frontS,Bid,Byl]
 have ho:=Avc b (b.length+1) 0 (by omega) (by omega)
 by_cases h0:(Bs b (b.length+1) 0).2=0
 ·obtain⟨i1,i2,i3⟩:=ho h0
  have hp:=Bdo i1
  simp only[h0,if_true,List.nil_append]
  have:=Bfa 0 (Bs b (b.length+1) 0).1 (by omega) i1 (Bs b (b.length+1) 0).1.length 0 FUEL 0 (by omega) (by have:=Ap;omega) (by omega) (by simpa using i3)
  simpa [Oj]using this
 ·simp only[h0,if_false]
  have:=Bfa (Bs b (b.length+1) 0).2 [] (by simp) (by simp) 0 0 FUEL 0 (by simp) (by have:=Ap;omega) (by omega) (by simp)
  simpa [Oj]using this
theorem Aj9{b:List UInt8}(h:(frontS b).2=0):0≤(frontS b).1∧(frontS b).1≤b.length∧(frontS b).1≤4000:=by
 unfold frontS Bid at h⊢
 split at h
 ·rename_i h0
  rw[if_pos h0]
  obtain⟨i1,i2,i3⟩:=Avc b (b.length+1) 0 (by omega) (by omega) h0
  have hp:=Bdo i1
  exact⟨by simp;omega,i2,i3⟩
 ·rename_i h0;exact absurd h h0
end Go.Pl
set_option linter.unusedVariables false
set_option linter.unusedSimpArgs false
namespace Go.Pl
open Go Go.Lv
def longN(r:Nat):Nat:=max 1 (256*r/245)
theorem Vn(r:Nat):1≤longN r:=Nat.le_max_left _ _
theorem Beb{r:Nat}(h:r≤1048576):longN r≤1100000:=by unfold longN;omega
theorem Bpw{r:Nat}(h:r≤1048576):Av5 (1:Int) (Cp (Bj (256:Int) (r:Int)) (245:Int))=(longN r:Int):=by
 rw[Jl (by omega) (by omega),Aiy,Int.tdiv_eq_ediv_of_nonneg (by omega),Cg (by omega) (by omega),Bqt,longN];omega
def framesL(g n:Nat):List Int:=List.replicate ((n-1)/g) (g:Int)++[((n-(n-1)/g*g:Nat):Int)]
theorem Bbs(g n:Nat):(framesL g n).length=(n-1)/g+1:=by simp[framesL]
theorem Bif{g n:Nat}(h:n≤g)(h1:1≤n):framesL g n=[(n:Int)]:=by
 rw[framesL,Nat.div_eq_of_lt (by omega)];simp
theorem Bm5{g n:Nat}(hg:1≤g)(h:g<n):framesL g n=(g:Int)::framesL g (n-g):=by
 have e:(n-1)/g=(n-g-1)/g+1:=by rw[←Nat.add_div_right _ (by omega)];congr 1;omega
 rw[framesL,framesL,e,List.replicate_succ,List.cons_append]
 congr 4
 have:=Nat.div_mul_le_self (n-g-1) g
 rw[Nat.add_mul,Nat.one_mul];omega
theorem Azv{g n:Nat}(hg:1≤g)(h1:1≤n):(n+g-1)/g=(n-1)/g+1:=by
 rw[←Nat.add_div_right _ (by omega)];congr 1;omega
theorem Bjz{r:Nat}(h1:1≤r)(h:r≤1048576):Ae1 (r:Int)=some ((longN r:Int),0):=by
 rw[Ae1,if_neg (by simp[Af,As];omega),Bpw h]
theorem Bxj{r:Nat}(h:r≤1048576):Qk (r:Int)=some (longN r:Int):=by rw[Qk,Bpw h]
theorem Bgo{r n:Nat}(h1:1≤r)(h:r≤1048576)(n1:1≤n)(n2:n≤4000):Vl (r:Int) (n:Int)=some (if 1000<(n-1)/longN r+1 then(0,4)else((((n-1)/longN r+1:Nat):Int),0)):=by
 have hp:=Vn r
 have hl:=Beb h
 have e:Cp (Aj (Ae (n:Int) (longN r:Int)) (1:Int)) (longN r:Int)=(((n-1)/longN r+1:Nat):Int):=by
  have:(n+longN r-1)/longN r≤n+longN r-1:=Nat.div_le_self _ _
  rw[Ah (by omega) (by omega),Bw (by omega) (by omega),Aiy,Int.tdiv_eq_ediv_of_nonneg (by omega),show(n:Int)+(longN r:Int)-1=((n+longN r-1:Nat):Int) by omega,←Int.natCast_ediv,Azv hp n1]
  rw[Azv hp n1]at this
  generalize(n-1)/longN r=k at*
  exact Cg (by omega) (by omega)
 rw[Vl,Bjz h1 h,Aa]
 simp only
 rw[if_neg (by rw[Ak];simp),if_neg (by simp[Af,As];omega),Dc (by rw[Ak];simp;omega),Aa,e]
 by_cases hk:1000<(n-1)/longN r+1
 ·rw[if_pos (by rw[As];simp;omega),if_pos hk]
 ·rw[if_neg (by rw[As];simp;omega),if_neg hk]
theorem Bfn{r:Nat}(h:r≤1048576):∀(j n q:Nat) (acc:List Int),n≤4000→n≤j→j<q→acc.length+n≤10000→Dl (r:Int) q (n:Int) acc=some (acc++(if n=0 then []else framesL (longN r) n))
 |0,n,q+1,acc,hn,hj,hq,ha=>by
  obtain rfl:n=0:=by omega
  rw[Dl,Gz,if_neg (by rw[As];simp)]
  simp[Jv,Ny]
 |j+1,n,q+1,acc,hn,hj,hq,ha=>by
  have hp:=Vn r
  have hl:=Beb h
  by_cases h0:n=0
  ·subst h0
   rw[Dl,Gz,if_neg (by rw[As];simp)]
   simp[Jv,Ny]
  ·rw[Dl,Gz,if_pos (by rw[As];simp;omega),Bxj h,Aa,Cs (by simp;omega),Aa,Aa,Bw (by omega) (by omega),An1]
   by_cases hs:n≤longN r
   ·rw[show min (n:Int) (longN r:Int)=(n:Int) by omega,if_neg h0,Bif hs (by omega)]
    have hz:∃k,q=k+1:=⟨q-1,by omega⟩
    obtain⟨q,rfl⟩:=hz
    rw[Dl,Gz,if_neg (by rw[As];simp;omega)]
    simp[Jv,Ny]
   ·rw[show min (n:Int) (longN r:Int)=(longN r:Int) by omega,show(n:Int)-(longN r:Int)=((n-longN r:Nat):Int) by omega,Bfn h j (n-longN r) q _ (by omega) (by omega) (by omega) (by simp;omega),if_neg (by omega),if_neg h0,Bm5 hp (show longN r<n by omega)]
    simp
theorem Ayn{r n:Nat}(h:r≤1048576)(n1:1≤n)(n2:n≤4000):Fp (r:Int) (n:Int)=some (framesL (longN r) n):=by
 have:=Bfn h n n FUEL [] n2 (Nat.le_refl _) (by have:=Ap;omega) (by simp;omega)
 rw[Fp,Wq,Wj,this,if_neg (by omega)];rfl
theorem mul_one(m:Nat)(h:m≤100000):Ag3 (1:UInt64) (UInt64.ofNat m)=some (0,UInt64.ofNat m):=by
 have y1:(UInt64.ofNat m).toNat=m:=Anb (by omega)
 have s1:Ca (1:UInt64) (GI.toZ (32:UInt64)).toNat=0:=by decide
 have s2:Ca (UInt64.ofNat m) (GI.toZ (32:UInt64)).toNat=0:=by
  apply UInt64.toNat_inj.1
  rw[Ahz,y1]
  exact Nat.div_eq_of_lt (Nat.lt_of_le_of_lt h (by decide))
 have s0:Ca (0:UInt64) (GI.toZ (32:UInt64)).toNat=0:=by decide
 have a1:Dy (1:UInt64) (4294967295:UInt64)=1:=by decide
 have a0:Dy (0:UInt64) (4294967295:UInt64)=0:=by decide
 have a2:Dy (UInt64.ofNat m) (4294967295:UInt64)=UInt64.ofNat m:=by
  apply UInt64.toNat_inj.1
  rw[Bfp,UInt64.toNat_and,y1]
  show m&&& (2^32-1)=m
  rw[Nat.and_two_pow_sub_one_eq_mod,Nat.mod_eq_of_lt (by omega)]
 have m1:∀x:UInt64,Bj 1 x=x:=fun x=>by rw[Aht,UInt64.one_mul]
 have m0:∀x:UInt64,Bj 0 x=0:=fun x=>by rw[Aht,UInt64.zero_mul]
 have p0:∀x:UInt64,Ae 0 x=x:=fun x=>by rw[Aih,UInt64.zero_add]
 have p1:∀x:UInt64,Ae x 0=x:=fun x=>by rw[Aih,UInt64.add_zero]
 rw[Ag3,Ai1]
 simp only[s1,s2,a1,a2,m1,m0,p0,p1,s0,a0,Aa]
theorem Bbn(v:Int)(m:Nat)(hm:m≤100000):∀(j n q:Nat),1≤n→n≤m→m-n≤j→j<q→Ej q (n:Int) (List.replicate n v++List.replicate (m-n) 0)=some (List.replicate m v)
 |j,n,q+1,hn,hnm,hj,hq=>by
  have hlen:Ac (List.replicate n v++List.replicate (m-n) 0)=(m:Int):=by simp[Ac];omega
  rw[Ej,Hh,hlen]
  by_cases h:n<m
  ·obtain⟨j,rfl⟩:∃k,j=k+1:=⟨j-1,by omega⟩
   rw[if_pos (by rw[Af];simp;omega)]
   have v1:vwI (m:Int) (n:Int) (m:Int)=some ():=by rw[vwI,Dc];simp;omega
   have v2:vwI (m:Int) (0:Int) (n:Int)=some ():=by rw[vwI,Dc];simp;omega
   have e1:Aod (List.replicate n v++List.replicate (m-n) 0) (0:Int) ((n:Int)-0)=List.replicate n v:=by
    simp[Aod]
   rw[v1,Aa,v2,Aa,e1]
   have e2:Al6 ((m:Int)-(n:Int)) (List.replicate n v).length=((min n (m-n):Nat):Int):=by
    rw[Al6,List.length_replicate];split<;>omega
   have e3:Wh (List.replicate n v++List.replicate (m-n) 0) (n:Int) ((m:Int)-(n:Int)) (List.replicate n v)=List.replicate (n+min n (m-n)) v++List.replicate (m-(n+min n (m-n))) 0:=by
    have t1:((m:Int)-(n:Int)).toNat=m-n:=by omega
    have t2:(List.replicate n v++List.replicate (m-n) (0:Int)).take n=List.replicate n v:=by simp
    rw[Wh,t1,Int.toNat_natCast,t2,List.take_replicate,List.length_replicate,←List.append_assoc,List.replicate_append_replicate,List.drop_append,List.length_replicate,Nat.min_comm (m-n) n]
    simp only[List.drop_replicate]
    rw[show n-(n+min n (m-n))=0 by omega,List.replicate_zero,List.nil_append,show m-n-(n+min n (m-n)-n)=m-(n+min n (m-n)) by omega]
   rw[e2,e3,Ah (by omega) (by omega),show(n:Int)+((min n (m-n):Nat):Int)=((n+min n (m-n):Nat):Int) by omega]
   exact Bbn v m hm j (n+min n (m-n)) q (by omega) (by omega) (by omega) (by omega)
  ·rw[if_neg (by rw[Af];simp;omega)]
   obtain rfl:n=m:=by omega
   simp[Jp,Pa]
theorem Bwr(v:Int)(m:Nat)(hm:m≤100000):Od [v] (m:Int)=some (List.replicate m v):=by
 have y1:(UInt64.ofNat m).toNat=m:=Anb (by omega)
 have c1:(Ad (Ac [v]):UInt64)=1:=by rfl
 have c2:(Ad (m:Int):UInt64)=UInt64.ofNat m:=Acz m
 have c3:(Ad (UInt64.ofNat m):Int)=(m:Int):=by rw[Bab (by omega),y1]
 rw[Od,Qt,if_neg (by rw[Af];simp),Re,Qv,c1,c2,mul_one m hm,Aa]
 simp only
 rw[if_neg (by rw[Amz,Amz,y1];simp;show m≤9223372036854775807;omega),Qq,Qz,c3,Bef (by omega) (by omega),Aa,Dc (by rw[Aq];simp),Aa,Rf,Int.toNat_natCast]
 by_cases h0:m=0
 ·subst h0
  have hF:FUEL=(FUEL-1)+1:=by have:=Ap;omega
  rw[hF,Ej,Hh]
  simp[Ac,Be7,Al6,Af,Jp,Pa]
 ·have:=Bbn v m hm m 1 FUEL (by omega) (by omega) (by omega) (by have:=Ap;omega)
  have e1:Al6 (Ac (List.replicate m (0:Int))) [v].length=((1:Nat):Int):=by simp[Al6,Ac];omega
  have e2:Be7 (List.replicate m (0:Int)) [v]=List.replicate 1 v++List.replicate (m-1) 0:=by
   obtain⟨k,rfl⟩:∃k,m=k+1:=⟨m-1,by omega⟩
   simp[Be7]
  rw[e1,e2,this]
theorem Buz(l m:List Int)(h:l.length+m.length≤1000000):Oi [l,m]=some (l++m):=by
 have hF:FUEL=(FUEL-3)+1+1+1:=by have:=Ap;omega
 rw[Oi,Qr,Qw]
 have g0:getI [l,m] (0:Int)=some l:=rfl
 have g1:getI [l,m] (1:Int)=some m:=rfl
 have l2:Ac [l,m]=2:=rfl
 have h3:Jo [l,m] []=some (l++m):=by
  rw[Jo,Oy,Pc,hF,Dv,Gf,l2,if_pos (by decide),g0,Aa,Cs (by simp;omega),Aa,List.nil_append,show Ae (0:Int) 1=1 by decide,
   Dv,Gf,l2,if_pos (by decide),g1,Aa,Cs (by omega),Aa,show Ae (1:Int) 1=2 by decide,Dv,Gf,l2,if_neg (by decide)]
  rfl
 rw[hF,Ek,Hk,l2,if_pos (by decide),g0,Aa,Ah (by unfold Ac;omega) (by unfold Ac;omega),if_neg (by rw[Af,Ac];simp),show Ae (0:Int) 1=1 by decide,
  Ek,Hk,l2,if_pos (by decide),g1,Aa,Ah (by unfold Ac;omega) (by unfold Ac;omega),if_neg (by rw[Af,Ac,Ac];simp;omega),show Ae (1:Int) 1=2 by decide,
  Ek,Hk,l2,if_neg (by decide),Oz,Pg,if_neg (by rw[Af,Ac,Ac];simp;omega),Ou,Ox]
 have z:Aj (0:Int) 0=0:=by decide
 have n0:(0:Int)+Ac l+Ac m=((l.length+m.length:Nat):Int):=by simp[Ac]
 rw[z,n0,Bw (by omega) (by omega),Int.sub_zero]
 by_cases hp:0<l.length+m.length
 ·rw[if_pos (by rw[As];simp;omega),show vwI (0:Int) 0 0=some ()from rfl,Aa,Bef (by omega) (by omega),Aa,Cs (by simp;omega),Aa]
  rw[show vwI (Ac ([]++List.replicate ((l.length+m.length:Nat):Int).toNat (0:Int))) 0 0=some () by rw[vwI,Dc];simp[Ac];omega,Aa]
  simp only[Aod,Int.sub_self,Int.toNat_zero,List.take_zero]
  exact h3
 ·rw[if_neg (by rw[As];simp;omega)];exact h3
theorem Bxi{r n:Nat}(h1:1≤r)(h:r≤1048576)(n1:1≤n)(n2:n≤4000)(hk:(n-1)/longN r+1≤1000):Yn (r:Int) (n:Int)=some (framesL (longN r) n,0):=by
 have hp:=Vn r
 have hl:=Beb h
 have hd:=Nat.div_mul_le_self (n-1) (longN r)
 rw[Yn,Bgo h1 h n1 n2,if_neg (by omega),Aa]
 simp only
 rw[if_neg (by rw[Ak];simp),Bjz h1 h,Aa]
 simp only
 rw[framesL]
 generalize(n-1)/longN r=k at*
 have e1:Aj ((k+1:Nat):Int) 1=(k:Int):=by rw[Bw (by omega) (by omega)];omega
 have e2:(k:Int)*(longN r:Int)=((k*longN r:Nat):Int):=by simp
 rw[e1,Bwr _ _ (by omega),Aa,Jl (by rw[e2];omega) (by rw[e2];omega),e2,Bw (by omega) (by omega),Als,Buz _ _ (by simp;omega),Aa,Aa,show(n:Int)-((k*longN r:Nat):Int)=((n-k*longN r:Nat):Int) by omega]
end Go.Pl
set_option linter.unusedVariables false
set_option linter.unusedSimpArgs false
namespace Go.Pl
open Go Go.Lv
def shapeB(f c w r n:Nat):Bool:=decide ((f=1∨f=2)∧(1≤c∧c≤6)∧(w=8∨w=16∨w=24)∧(1≤r∧r≤1048576)∧1≤n)
def fitB(c r n:Nat):Bool:=decide (n≤4000/c∧(n-1)/longN r+1≤1000)
theorem Auf(f c w r n:Nat):Rb (f:Int) (c:Int) (w:Int) (r:Int) (n:Int)=some (shapeB f c w r n):=by
 have e2:Nc (f:Int) (c:Int) (w:Int) (r:Int) (n:Int)=some (decide ((f=1∨f=2)∧(1≤c∧c≤6)∧(1≤r∧r≤1048576)∧1≤n)):=by
  rw[Nc,Agt]
  congr 1
  rw[Bool.eq_iff_iff]
  simp only[Aq,As,Aro,Bool.and_eq_true,Bool.or_eq_true,beq_iff_eq,decide_eq_true_eq]
  omega
 have g:∀k:Nat,geq (w:Int) (k:Int)=decide (w=k):=fun k=>by rw[Aq,Bool.eq_iff_iff];simp;omega
 have g8:geq (w:Int) (8:Int)=decide (w=8):=g 8
 have g16:geq (w:Int) (16:Int)=decide (w=16):=g 16
 have g24:geq (w:Int) (24:Int)=decide (w=24):=g 24
 rw[Rb,Zu,e2,g8,g16,g24,shapeB]
 by_cases h8:w=8
 ·subst h8;simp
 ·by_cases h16:w=16
  ·subst h16;simp
  ·by_cases h24:w=24
   ·subst h24;simp
   ·simp[h8,h16,h24]
theorem Axy(f c w r n:Nat):Gl (f:Int) (c:Int) (w:Int) (r:Int) (n:Int)=some (shapeB f c w r n):=by
 rw[Gl,shapeB]
 simp only[Aq,Ef,Aro,Bool.and_eq_true,Bool.or_eq_true,beq_iff_eq,decide_eq_true_eq,Bool.false_and]
 split
 ·rename_i h
  congr 1
  rw[Bool.eq_iff_iff]
  simp only[Bool.and_eq_true,Bool.or_eq_true,beq_iff_eq,decide_eq_true_eq]
  omega
 ·rename_i h
  congr 1
  symm
  rw[decide_eq_false_iff_not]
  omega
theorem Cem{c:Nat}(h:1≤c):Cp (4000:Int) (c:Int)=((4000/c:Nat):Int):=by
 have:4000/c≤4000:=Nat.div_le_self _ _
 rw[Aiy,Int.tdiv_eq_ediv_of_nonneg (by omega),show(4000:Int)=((4000:Nat):Int)from rfl,←Int.natCast_ediv]
 generalize 4000/c=k at*
 exact Cg (by omega) (by omega)
theorem Baw{f c w r n:Nat}(h:shapeB f c w r n=true):Ah2 (f:Int) (c:Int) (w:Int) (r:Int) (n:Int)=some (fitB c r n):=by
 simp only[shapeB,decide_eq_true_eq]at h
 have hd:4000/c≤4000:=Nat.div_le_self _ _
 rw[Ah2,Dc (by rw[Ak];simp;omega),Aa,Cem (by omega),fitB]
 generalize 4000/c=m at*
 by_cases h1:n≤m
 ·rw[if_neg (by rw[As];simp;omega),Bgo (by omega) (by omega) (by omega) (by omega),Aa]
  generalize(n-1)/longN r+1=k
  by_cases h2:1000<k
  ·rw[if_pos h2]
   simp[Aq,Aro]
   omega
  ·rw[if_neg h2]
   simp[Aq,Aro,h1]
   omega
 ·rw[if_pos (by rw[As];simp;omega)]
  simp[h1]
theorem Beq{f c w r n:Nat}(h:shapeB f c w r n=true):Ij (f:Int) (c:Int) (w:Int) (r:Int) (n:Int)=some (!fitB c r n):=by
 simp only[shapeB,decide_eq_true_eq]at h
 have hd:4000/c≤4000:=Nat.div_le_self _ _
 rw[Ij,Dc (by rw[Ak];simp;omega),Aa,Cem (by omega),fitB]
 generalize 4000/c=m at*
 by_cases h1:n≤m
 ·rw[if_neg (by rw[As];simp;omega),Ayn (by omega) (by omega) (by omega),Aa,Ac,Bbs]
  generalize(n-1)/longN r+1=k
  congr 1
  rw[As,Bool.eq_iff_iff]
  simp only[decide_eq_true_eq,Bool.not_eq_true',decide_eq_false_iff_not]
  omega
 ·rw[if_pos (by rw[As];simp;omega)]
  simp[h1]
def Auz:List UInt8:=[84,84,65,49]
def f0(b:List UInt8):Nat:=Eg (part b 4 2)
def f1(b:List UInt8):Nat:=Eg (part b 6 2)
def f2(b:List UInt8):Nat:=Eg (part b 8 2)
def f3(b:List UInt8):Nat:=Eg (part b 10 4)
def f4(b:List UInt8):Nat:=Eg (part b 14 4)
abbrev H6:=Int×Int×Int×Int×Int×Int
def readS(b:List UInt8):H6:=
 if b.take (min 4 b.length)≠Auz.take (min 4 b.length)then(0,0,0,0,0,12)else if b.length<22 then(0,0,0,0,0,24)else
 if(Ip (b.take 18)).toNat≠Eg (part b 18 4)then(0,0,0,0,0,22)else
 if shapeB (f0 b) (f1 b) (f2 b) (f3 b) (f4 b)=false then(0,0,0,0,0,12)else
 if fitB (f1 b) (f3 b) (f4 b)=false then(0,0,0,0,0,4)else((f0 b:Int),(f1 b:Int),(f2 b:Int),(f3 b:Int),(f4 b:Int),0)
section
variable {b:List UInt8}
theorem rs1(h:b.take (min 4 b.length)≠Auz.take (min 4 b.length)):readS b=(0,0,0,0,0,12):=by rw[readS,if_pos h]
variable (h:b.take (min 4 b.length)=Auz.take (min 4 b.length))
include h
theorem rs2(h2:b.length<22):readS b=(0,0,0,0,0,24):=by rw[readS,if_neg (fun e=>e h),if_pos h2]
variable (h2:¬b.length<22)
include h2
theorem rs3(h3:(Ip (b.take 18)).toNat≠Eg (part b 18 4)):readS b=(0,0,0,0,0,22):=by rw[readS,if_neg (fun e=>e h),if_neg h2,if_pos h3]
variable (h3:(Ip (b.take 18)).toNat=Eg (part b 18 4))
include h3
theorem rs4(h4:shapeB (f0 b) (f1 b) (f2 b) (f3 b) (f4 b)=false):readS b=(0,0,0,0,0,12):=by rw[readS,if_neg (fun e=>e h),if_neg h2,if_neg (fun e=>e h3),if_pos h4]
variable (h4:shapeB (f0 b) (f1 b) (f2 b) (f3 b) (f4 b)=true)
include h4
theorem rs5(h5:fitB (f1 b) (f3 b) (f4 b)=false):readS b=(0,0,0,0,0,4):=by rw[readS,if_neg (fun e=>e h),if_neg h2,if_neg (fun e=>e h3),if_neg (by rw[h4];simp),if_pos h5]
theorem rs6(h5:fitB (f1 b) (f3 b) (f4 b)=true):readS b=((f0 b:Int),(f1 b:Int),(f2 b:Int),(f3 b:Int),(f4 b:Int),0):=by rw[readS,if_neg (fun e=>e h),if_neg h2,if_neg (fun e=>e h3),if_neg (by rw[h4];simp),if_neg (by rw[h5];simp)]
end
theorem Bzp(b:List UInt8)(h2:¬b.length<22):Ay (Ad (Ip (b.take 18)):UInt64) (leU (part b 18 4))=decide ((Ip (b.take 18)).toNat≠Eg (part b 18 4)):=by
 rw[Ajr,Ji,Bool.eq_iff_iff]
 simp only[bne_iff_ne,ne_eq,decide_eq_true_eq]
 rw[←UInt64.toNat_inj,Anb (by have:=(Ip (b.take 18)).toNat_lt;omega),Ani (by rw[Dj (by omega)];omega)]
theorem Atc(b:List UInt8)(a w:Nat)(i q:Nat)(l:List Int)(hi:i<5)(hl:l.length=5)(hw:getI ([2,2,2,4,4]:List Int) (i:Int)=some (w:Int))(h1:1≤w)(h4:w≤4)(ha:a+w≤b.length)(hb:b.length<4611686018427387904):
  Ns b (q+1) (a:Int) (i:Int) l=Ns b q ((a+w:Nat):Int) ((i+1:Nat):Int) (l.set i (Eg (part b a w):Int)):=by
 rw[Ns,Aeu,if_pos (by rw[Af];simp;omega),hw,Aa,Big b a w h1 (by omega) ha hb,Aa]
 simp only
 rw[Cl (by omega),Aa,Aav _ (by omega),Aa,Aha (by rw[Dj ha];omega),Ah (by omega) (by omega),Ah (by omega) (by omega)]
 rfl
theorem Bzx(b:List UInt8)(h22:¬b.length<22)(hb:b.length<4611686018427387904):Ads b 4 0 (List.replicate 5 0)=Aez [(f0 b:Int),(f1 b:Int),(f2 b:Int),(f3 b:Int),(f4 b:Int)]:=by
 have hF:FUEL=(FUEL-6)+1+1+1+1+1+1:=by have:=Ap;omega
 rw[Ads,hF,show(4:Int)=((4:Nat):Int)from rfl,show(0:Int)=((0:Nat):Int)from rfl]
 rw[Atc b 4 2 0 _ _ (by omega) (by simp) rfl (by omega) (by omega) (by omega) hb,Atc b 6 2 1 _ _ (by omega) (by simp) rfl (by omega) (by omega) (by omega) hb,Atc b 8 2 2 _ _ (by omega) (by simp) rfl (by omega) (by omega) (by omega) hb,
  Atc b 10 4 3 _ _ (by omega) (by simp) rfl (by omega) (by omega) (by omega) hb,Atc b 14 4 4 _ _ (by omega) (by simp) rfl (by omega) (by omega) (by omega) hb,Ns,Aeu,if_neg (by rw[Af];simp)]
 rfl
theorem Cij(b:List UInt8):Ih [84,84,65,49] (b.take (min 4 b.length))=some (decide (b.take (min 4 b.length)=Auz.take (min 4 b.length))):=by
 have hl:(b.take (min 4 b.length)).length=min 4 b.length:=by rw[List.length_take];omega
 rw[Ih,Fy,if_pos (by rw[Ef,Ac,Ac,hl];simp;omega),Ac,hl,Cv (by omega) (by simp;omega),Aa,Aa,Int.toNat_natCast]
 congr 1
 rw[Bool.eq_iff_iff]
 rw[decide_eq_true_eq,beq_iff_eq]
 exact eq_comm
theorem Ch0(b:List UInt8):Eh (4:Int) (Ac b)=((min 4 b.length:Nat):Int):=by rw[An1,Ac];omega
theorem Ba5(b:List UInt8)(hb:b.length<4611686018427387904):Mz b=some (readS b):=by
 rw[Mz,Ama,Ch0,Cv (by omega) (by omega),Aa,Int.toNat_natCast,Cij,Aa]
 by_cases h:b.take (min 4 b.length)=Auz.take (min 4 b.length)
 ·rw[if_neg (by simpa using h)]
  by_cases h2:b.length<22
  ·rw[if_pos (by rw[Af,Ac];simp;omega),rs2 h h2]
  ·have a1:Apn b 18 4=some (leU (part b 18 4),0):=Big b 18 4 (by omega) (by omega) (by omega) hb
   rw[if_neg (by rw[Af,Ac];simp;omega),a1,Aa]
   simp only
   rw[Cv (by omega) (by omega),Aa,show(18:Int).toNat=18 from rfl,Bp4 _ (by simp;omega),Aa]
   simp only
   rw[Bzp b h2]
   by_cases h3:(Ip (b.take 18)).toNat=Eg (part b 18 4)
   ·rw[if_neg (by simpa using h3),Bzx b h2 hb,Aez,Asy]
    rw[show getI [(f0 b:Int),(f1 b:Int),(f2 b:Int),(f3 b:Int),(f4 b:Int)] 0=some (f0 b:Int)from rfl,show getI [(f0 b:Int),(f1 b:Int),(f2 b:Int),(f3 b:Int),(f4 b:Int)] 1=some (f1 b:Int)from rfl,show getI [(f0 b:Int),(f1 b:Int),(f2 b:Int),(f3 b:Int),(f4 b:Int)] 2=some (f2 b:Int)from rfl,
     show getI [(f0 b:Int),(f1 b:Int),(f2 b:Int),(f3 b:Int),(f4 b:Int)] 3=some (f3 b:Int)from rfl,show getI [(f0 b:Int),(f1 b:Int),(f2 b:Int),(f3 b:Int),(f4 b:Int)] 4=some (f4 b:Int)from rfl]
    simp only[Aa,Auf]
    cases h4:shapeB (f0 b) (f1 b) (f2 b) (f3 b) (f4 b)with
    |false=>rw[rs4 h h2 h3 h4];rfl
    |true=>
     rw[Baw h4,if_neg (by simp),Aa]
     cases h5:fitB (f1 b) (f3 b) (f4 b)with
     |false=>rw[rs5 h h2 h3 h4 h5];rfl
     |true=>rw[rs6 h h2 h3 h4 h5];rfl
   ·rw[if_pos (by simpa using h3),rs3 h h2 h3]
 ·rw[if_pos (by simpa using h),rs1 h]
theorem Bf0(b:List UInt8)(hb:b.length<4611686018427387904):Lp b=some (readS b):=by
 rw[Lp,Zq,Ch0,Cv (by omega) (by omega),Aa,Int.toNat_natCast,Cv (by omega) (by simp;omega),Aa,Int.toNat_natCast]
 by_cases h:b.take (min 4 b.length)=Auz.take (min 4 b.length)
 ·rw[if_neg (by rw[h];simp[Auz]),Zh,Yw]
  by_cases h2:b.length<22
  ·rw[if_pos (by rw[Af,Ac];simp;omega),rs2 h h2]
  ·have a1:Az b 18 22=some (part b 18 4):=Qa 18 4 (by omega)
   have c1:Az b 4 6=some (part b 4 2):=Qa 4 2 (by omega)
   have c2:Az b 6 8=some (part b 6 2):=Qa 6 2 (by omega)
   have c3:Az b 8 10=some (part b 8 2):=Qa 8 2 (by omega)
   have c4:Az b 10 14=some (part b 10 4):=Qa 10 4 (by omega)
   have c5:Az b 14 18=some (part b 14 4):=Qa 14 4 (by omega)
   have hs:Ay (leU (part b 18 4)) (Ad (Ip (b.take 18)):UInt64)=decide ((Ip (b.take 18)).toNat≠Eg (part b 18 4)):=by
    rw[←Bzp b h2,Ajr,Ajr,Bool.eq_iff_iff];simp only[bne_iff_ne,ne_eq];exact not_congr eq_comm
   have lp:∀a w,a+w≤b.length→Am (part b a w)=some (leU (part b a w)):=fun a w h=>Bmq _ (by rw[Dj h];omega)
   rw[if_neg (by rw[Af,Ac];simp;omega),a1,Aa,Cv (by omega) (by omega),Aa,show(18:Int).toNat=18 from rfl,lp _ _ (by omega),Aa,Cap _ (by simp;omega),Aa,hs]
   by_cases h3:(Ip (b.take 18)).toNat=Eg (part b 18 4)
   ·rw[if_neg (by simpa using h3),Zg,Qo,c1,Aa,c2,Aa,c3,Aa,c4,Aa,c5,Aa,lp _ _ (by omega),Aa,lp _ _ (by omega),Aa,lp _ _ (by omega),Aa,lp _ _ (by omega),Aa,lp _ _ (by omega),Aa,
     Xv,Ahn,Aha (by rw[Dj (by omega)];omega),Aha (by rw[Dj (by omega)];omega),Aha (by rw[Dj (by omega)];omega),Aha (by rw[Dj (by omega)];omega),Aha (by rw[Dj (by omega)];omega)]
    rw[show Eg (part b 4 2)=f0 b from rfl,show Eg (part b 6 2)=f1 b from rfl,show Eg (part b 8 2)=f2 b from rfl,show Eg (part b 10 4)=f3 b from rfl,show Eg (part b 14 4)=f4 b from rfl,Axy,Aa]
    cases h4:shapeB (f0 b) (f1 b) (f2 b) (f3 b) (f4 b)with
    |false=>rw[rs4 h h2 h3 h4];rfl
    |true=>
     rw[Beq h4,if_neg (by simp),Aa]
     cases h5:fitB (f1 b) (f3 b) (f4 b)with
     |false=>rw[rs5 h h2 h3 h4 h5];rfl
     |true=>rw[rs6 h h2 h3 h4 h5];rfl
   ·rw[if_pos (by simpa using h3),rs3 h h2 h3]
 ·rw[if_pos (by simpa [Auz]using h),rs1 h]
theorem Bm3{b:List UInt8}(h:(readS b).2.2.2.2.2=0):readS b=((f0 b:Int),(f1 b:Int),(f2 b:Int),(f3 b:Int),(f4 b:Int),0)∧22≤b.length∧shapeB (f0 b) (f1 b) (f2 b) (f3 b) (f4 b)=true∧fitB (f1 b) (f3 b) (f4 b)=true:=by
 unfold readS at h⊢
 split at h; · simp at h
 rename_i c1;rw[if_neg c1]
 split at h; · simp at h
 rename_i c2;rw[if_neg c2]
 split at h; · simp at h
 rename_i c3;rw[if_neg c3]
 split at h; · simp at h
 rename_i c4;rw[if_neg c4]
 split at h; · simp at h
 rename_i c5;rw[if_neg c5]
 exact⟨rfl,by omega,by simpa using c4,by simpa using c5⟩
theorem Bph{f c w r n:Nat}(h:shapeB f c w r n=true)(h2:fitB c r n=true):Cy (f:Int) (c:Int) (w:Int) (r:Int) (n:Int)=some (framesL (longN r) n,0):=by
 have hc:Up (f:Int) (c:Int) (w:Int) (r:Int) (n:Int)=some 0:=by
  rw[Up,Auf,Aa,h,if_neg (by simp),Baw h,Aa,h2];rfl
 have hd:4000/c≤4000:=Nat.div_le_self _ _
 simp only[shapeB,decide_eq_true_eq]at h
 simp only[fitB,decide_eq_true_eq]at h2
 rw[Cy,hc,Aa,if_neg (by rw[Ak];simp),Bxi (by omega) (by omega) (by omega) (by omega) h2.2]
 rfl
end Go.Pl
set_option linter.unusedVariables false
set_option linter.unusedSimpArgs false
namespace Go.Pl
open Go Go.Lv
def okL:List Int→Int→Bool
 |[],_=>true
 |x::l,left=>decide (5≤x∧x≤left)&&okL l (left-x)
theorem Bz5:∀l:List Int,(∀x∈l,5≤x)→0≤l.sum
 |[],_=>by simp
 |x::l,h=>by
  have h1:=h x List.mem_cons_self
  have h2:=Bz5 l fun y hy=>h y (List.mem_cons_of_mem _ hy)
  rw[List.sum_cons];omega
theorem Ajt:∀(l:List Int) (left:Int),0≤left→(okL l left=true↔(∀x∈l,5≤x)∧l.sum≤left)
 |[],left,h=>by simp[okL];exact h
 |x::l,left,h=>by
  rw[okL,Bool.and_eq_true,decide_eq_true_eq,List.sum_cons]
  by_cases hx:5≤x∧x≤left
  ·rw[Ajt l (left-x) (by omega)]
   constructor
   ·rintro⟨_,h1,h2⟩
    exact⟨fun y hy=>(List.mem_cons.1 hy).elim (fun e=>e▸hx.1) (h1 y),by omega⟩
   ·rintro⟨h1,h2⟩
    exact⟨hx,fun y hy=>h1 y (List.mem_cons_of_mem _ hy),by omega⟩
  ·constructor
   ·rintro⟨h1,_⟩;exact absurd h1 hx
   ·rintro⟨h1,h2⟩
    have h3:=h1 x List.mem_cons_self
    have:0≤l.sum:=Bz5 l fun y hy=>h1 y (List.mem_cons_of_mem _ hy)
    omega
theorem Bgf(l:List Int)(hl:l.length≤1000):∀(j i q:Nat) (left:Int),i+j=l.length→j<q→0≤left→left≤100000→Sd l q left (i:Int)=some (if okL (l.drop i) left=true then 0 else 8)
 |0,i,q+1,left,hi,_,_,_=>by
  rw[Sd,Aep,if_neg (by rw[Af,Ac];simp;omega),show i=l.length by omega,List.drop_length];rfl
 |j+1,i,q+1,left,hi,hq,h0,h1=>by
  have hlt:i<l.length:=by omega
  rw[Sd,Aep,if_pos (by rw[Af,Ac];simp;omega),Cl hlt,Aa,drop_cons hlt]
  by_cases h:5≤l[i]∧l[i]≤left
  ·rw[if_neg (by simp[Af,As];omega),Bw (by omega) (by omega),Ah (by omega) (by omega)]
   have ih:=Bgf l hl j (i+1) q (left-l[i]) (by omega) (by omega) (by omega) (by omega)
   rw[show((i:Int)+1)=((i+1:Nat):Int) by omega,ih]
   simp[okL,h]
  ·rw[if_pos (by simp[Af,As];omega)]
   have:okL (l[i]::l.drop (i+1)) left=false:=by rw[okL,decide_eq_false h];rfl
   rw[this];rfl
def tabB(l:List Int):Bool:=decide (1≤l.length∧l.length≤1000)&&okL l 100000
theorem Bl3(l:List Int)(hl:l.length≤1000):Qm l=some (if tabB l=true then 0 else 8):=by
 rw[Qm,Aei,tabB]
 by_cases h:1≤l.length
 ·rw[if_neg (by rw[Aq,As,Ac];simp;constructor;(intro e;subst e;simp at h);omega),Ame]
  have:=Bgf l hl l.length 0 FUEL 100000 (by omega) (by have:=Ap;omega) (by omega) (by omega)
  rw[List.drop_zero]at this
  rw[decide_eq_true (show 1≤l.length∧l.length≤1000 from⟨h,hl⟩),Bool.true_and]
  exact this
 ·have:l=[]:=by
   cases l with
   |nil=>rfl
   |cons _ _=>simp at h
  subst this;rfl
theorem Bj3(l:List Int)(hl:l.length≤1000):∀(j i q:Nat) (s:Int),i+j=l.length→j<q→0≤s→s≤100000*(i:Int)→Gx l q s (i:Int)=some (if(∀x∈l.drop i,5≤x∧x≤100000)∧s+(l.drop i).sum≤100000 then 0 else 8)
 |0,i,q+1,s,hi,_,_,_=>by
  rw[Gx,Oq,if_neg (by rw[Af,Ac];simp;omega),show i=l.length by omega,List.drop_length,Ua,Aee]
  by_cases h:s≤100000
  ·rw[if_neg (by rw[As];simp;omega),if_pos (by simp;omega)]
  ·rw[if_pos (by rw[As];simp;omega),if_neg (by simp;omega)]
 |j+1,i,q+1,s,hi,hq,h0,h1=>by
  have hlt:i<l.length:=by omega
  rw[Gx,Oq,if_pos (by rw[Af,Ac];simp;omega),Cl hlt,Aa,drop_cons hlt]
  by_cases h5:l[i]<5
  ·rw[if_pos (by rw[Af];simpa using h5),if_neg (fun h=>by have:=(h.1 l[i] List.mem_cons_self).1;omega)]
  ·rw[if_neg (by rw[Af];simpa using h5),Aa]
   by_cases h6:100000<l[i]
   ·rw[if_pos (by rw[As];simpa using h6),if_neg (fun h=>by have:=(h.1 l[i] List.mem_cons_self).2;omega)]
   ·rw[if_neg (by rw[As];simpa using h6),Wf,Afv,Cl hlt,Aa,Ah (by omega) (by omega),Ah (by omega) (by omega)]
    have ih:=Bj3 l hl j (i+1) q (s+l[i]) (by omega) (by omega) (by omega) (by omega)
    rw[show((i:Int)+1)=((i+1:Nat):Int) by omega,ih]
    have e:((∀x∈l.drop (i+1),5≤x∧x≤100000)∧s+l[i]+(l.drop (i+1)).sum≤100000)↔((∀x∈l[i]::l.drop (i+1),5≤x∧x≤100000)∧s+(l[i]::l.drop (i+1)).sum≤100000):=by
     rw[List.sum_cons,List.forall_mem_cons,Int.add_assoc]
     constructor
     ·rintro⟨a,b⟩;exact⟨⟨by omega,a⟩,b⟩
     ·rintro⟨⟨_,a⟩,b⟩;exact⟨a,b⟩
    simp only[e]
theorem Bkl:∀{l:List Int},(∀x∈l,5≤x)→∀x∈l,x≤l.sum
 |[],_,x,hx=>by simp at hx
 |y::l,h,x,hx=>by
  have h1:=h y List.mem_cons_self
  have h2:=Bz5 l fun z hz=>h z (List.mem_cons_of_mem _ hz)
  rw[List.sum_cons]
  rcases List.mem_cons.1 hx with rfl|hx
  ·omega
  ·have:=Bkl (l:=l) (fun z hz=>h z (List.mem_cons_of_mem _ hz)) x hx
   omega
theorem Box(l:List Int)(hl:l.length≤1000):Fj l=some (if tabB l=true then 0 else 8):=by
 rw[Fj,Nx,tabB]
 by_cases h:1≤l.length
 ·have:=Bj3 l hl l.length 0 FUEL 0 (by omega) (by have:=Ap;omega) (by omega) (by omega)
  rw[if_neg (by rw[Af,As,Ac];simp;omega),Wu]
  refine Eq.trans this ?_
  rw[List.drop_zero,decide_eq_true (show 1≤l.length∧l.length≤1000 from⟨h,hl⟩),Bool.true_and]
  have e:((∀x∈l,5≤x∧x≤100000)∧0+l.sum≤100000)↔okL l 100000=true:=by
   rw[Ajt l 100000 (by omega),Int.zero_add]
   constructor
   ·rintro⟨a,b⟩;exact⟨fun x hx=>(a x hx).1,b⟩
   ·rintro⟨a,b⟩;exact⟨fun x hx=>⟨a x hx,Int.le_trans (Bkl a x hx) b⟩,b⟩
  simp only[e]
 ·have:l=[]:=by
   cases l with
   |nil=>rfl
   |cons _ _=>simp at h
  subst this;rfl
theorem Asq(l:List Int):Qm l=some (if tabB l=true then 0 else 8):=by
 by_cases hl:l.length≤1000
 ·exact Bl3 l hl
 ·rw[Qm,Aei,if_pos (by rw[As,Ac];simp;omega),tabB,decide_eq_false (by omega)];rfl
theorem Aoq(l:List Int):Fj l=some (if tabB l=true then 0 else 8):=by
 by_cases hl:l.length≤1000
 ·exact Box l hl
 ·rw[Fj,Nx,if_pos (by rw[As,Ac];simp;omega),tabB,decide_eq_false (by omega)];rfl
theorem Bru(l:List Int)(hl:l.length≤1000)(hx:∀x∈l,0≤x∧x<4294967296):Qm l=some (if tabB l=true then 0 else 8):=Asq l
theorem Bwn(l:List Int)(hl:l.length≤1000)(hx:∀x∈l,0≤x∧x<4294967296):Fj l=some (if tabB l=true then 0 else 8):=Aoq l
def Aj6(b:List UInt8)(n:Nat):List Int:=(List.range n).map fun i=>(Eg (part b (4*i) 4):Int)
theorem Ahw(b:List UInt8)(n:Nat):(Aj6 b n).length=n:=by simp[Aj6]
theorem Bkc(b:List UInt8)(n:Nat):Aj6 b (n+1)=Aj6 b n++[(Eg (part b (4*n) 4):Int)]:=by simp[Aj6,List.range_succ]
theorem Btq(b:List UInt8)(n:Nat)(h:4*n≤b.length):∀x∈Aj6 b n,0≤x∧x<4294967296:=by
 intro x hx
 simp only[Aj6,List.mem_map,List.mem_range]at hx
 obtain⟨i,hi,rfl⟩:=hx
 have:=Bsl (l:=part b (4*i) 4) (by rw[Dj (by omega)];omega)
 omega
def seekS(b:List UInt8)(n:Nat):List Int×Int:=
 if ¬(1≤n∧n≤1000)then([],2)else if b.length<4*n+4 then([],24)else if(Ip (b.take (4*n))).toNat≠Eg (part b (4*n) 4)then([],22)else
 if tabB (Aj6 b n)=true then(Aj6 b n,0)else([],12)
theorem Btr{b:List UInt8}{n:Nat}(h:1≤n∧n≤1000)(h2:¬b.length<4*n+4):Ay (Ad (Ip (b.take (4*n))):UInt64) (leU (part b (4*n) 4))=decide ((Ip (b.take (4*n))).toNat≠Eg (part b (4*n) 4)):=by
 rw[Ajr,Ji,Bool.eq_iff_iff]
 simp only[bne_iff_ne,ne_eq,decide_eq_true_eq]
 rw[←UInt64.toNat_inj,Anb (by have:=(Ip (b.take (4*n))).toNat_lt;omega),Ani (by rw[Dj (by omega)];omega)]
section
variable {b:List UInt8} {n:Nat}
theorem ss1(h:¬(1≤n∧n≤1000)):seekS b n=([],2):=by rw[seekS,if_pos h]
variable (h:1≤n∧n≤1000)
include h
theorem ss2(h2:b.length<4*n+4):seekS b n=([],24):=by rw[seekS,if_neg (fun e=>e h),if_pos h2]
variable (h2:¬b.length<4*n+4)
include h2
theorem ss3(h3:(Ip (b.take (4*n))).toNat≠Eg (part b (4*n) 4)):seekS b n=([],22):=by rw[seekS,if_neg (fun e=>e h),if_neg h2,if_pos h3]
theorem ss4(h3:(Ip (b.take (4*n))).toNat=Eg (part b (4*n) 4)):seekS b n=if tabB (Aj6 b n)=true then(Aj6 b n,0)else([],12):=by rw[seekS,if_neg (fun e=>e h),if_neg h2,if_neg (fun e=>e h3)]
end
theorem Bi2(b:List UInt8)(l8:List Int)(n:Nat)(hn:n≤1000)(h8:l8.length=n)(hb:4*n+4≤b.length)(hb2:b.length<4611686018427387904):∀(j i q:Nat),i+j=n→j<q→Vj b l8 q (i:Int) (Aj6 b i++List.replicate j 0)=Ag9 (Aj6 b n)
 |0,i,q+1,hi,_=>by
  obtain rfl:i=n:=by omega
  rw[Vj,Ag4,if_neg (by rw[Af,Ac];simp;omega)];simp
 |j+1,i,q+1,hi,hq=>by
  have hlen:(Aj6 b i++List.replicate (j+1) 0).length=i+(j+1):=by simp[Ahw]
  have ha:=Big b (4*i) 4 (by omega) (by omega) (by omega) hb2
  rw[Vj,Ag4,if_pos (by rw[Af,Ac];simp;omega),Jl (by omega) (by omega),show(4:Int)*(i:Int)=((4*i:Nat):Int) by omega,show(4:Int)=((4:Nat):Int)from rfl,ha,Aa]
  simp only
  rw[Cl (by rw[hlen];omega),Aa,Aav _ (by rw[hlen];omega),Aa,Aha (by rw[Dj (by omega)];omega),Ah (by omega) (by omega),List.replicate_succ,Avw (Ahw _ _)]
  have ih:=Bi2 b l8 n hn h8 hb hb2 j (i+1) q (by omega) (by omega)
  rw[Bkc]at ih
  rw[show((i:Int)+1)=((i+1:Nat):Int) by omega,←ih]
  simp
theorem Bi7(b:List UInt8)(n:Nat)(hb:b.length≤100100):Af2 b (n:Int)=some (seekS b n):=by
 rw[Af2,Aor]
 by_cases h:1≤n∧n≤1000
 ·rw[if_neg (by simp[Af,As];omega),Jl (by omega) (by omega),Ah (by omega) (by omega)]
  by_cases h2:b.length<4*n+4
  ·rw[if_pos (by rw[Af,Ac];simp;omega),ss2 h h2]
  ·have ha:Apn b (4*(n:Int)) 4=some (leU (part b (4*n) 4),0):=by
    rw[show(4:Int)*(n:Int)=((4*n:Nat):Int) by omega]
    exact Big b (4*n) 4 (by omega) (by omega) (by omega) (by omega)
   rw[if_neg (by rw[Af,Ac];simp;omega),ha,Aa]
   simp only
   rw[Cv (by omega) (by omega),Aa,show(4*(n:Int)).toNat=4*n by omega,Bp4 _ (by simp;omega),Aa]
   simp only
   rw[Btr h h2]
   by_cases h3:(Ip (b.take (4*n))).toNat=Eg (part b (4*n) 4)
   ·have hlp:=Bi2 b (List.replicate n 0) n (by omega) (by simp) (by omega) (by omega) n 0 FUEL (by omega) (by have:=Ap;omega)
    rw[if_neg (by simpa using h3),Bef (by omega) (by omega),Aa,Dc (by rw[Aq];simp),Aa,Aol,Int.toNat_natCast]
    refine Eq.trans (hlp) ?_
    rw[Ag9,Aws,Bru _ (by rw[Ahw];omega) (Btq b n (by omega)),Aa,ss4 h h2 h3]
    cases tabB (Aj6 b n)<;>rfl
   ·rw[if_pos (by simpa using h3),ss3 h h2 h3]
 ·rw[if_pos (by simp[Af,As];omega),ss1 h]
theorem Awp(b:List UInt8)(n:Nat)(hn:n≤1000)(hb:4*n+4≤b.length)(hb2:b.length<4611686018427387904):∀(j i q:Nat),i+j=n→j<q→Hu b (n:Int) q (i:Int) (Aj6 b i)=Py (Aj6 b n)
 |0,i,q+1,hi,_=>by
  obtain rfl:i=n:=by omega
  rw[Hu,Px,if_neg (by rw[Af];simp)]
 |j+1,i,q+1,hi,hq=>by
  have hc:Az b ((4:Int)*(i:Int)) ((4:Int)*(i:Int)+4)=some (part b (4*i) 4):=by
   rw[show(4:Int)*(i:Int)=((4*i:Nat):Int) by omega]
   exact Qa (4*i) 4 (by omega)
  rw[Hu,Px,if_pos (by rw[Af];simp;omega),Jl (by omega) (by omega),Ah (by omega) (by omega),hc,Aa,Bmq _ (by rw[Dj (by omega)];omega),Aa,Cs (by rw[Ahw];simp;omega),Aa,
   Aha (by rw[Dj (by omega)];omega),Ah (by omega) (by omega),←Bkc]
  exact Awp b n hn hb hb2 j (i+1) q (by omega) (by omega)
theorem Cag(b:List UInt8)(n:Nat)(hb:b.length≤100100):Qn b (n:Int)=some (seekS b n):=by
 rw[Qn,Zc]
 by_cases h:1≤n∧n≤1000
 ·rw[if_neg (by simp[Af,As];omega),Jl (by omega) (by omega),Ah (by omega) (by omega)]
  by_cases h2:b.length<4*n+4
  ·rw[if_pos (by rw[Af,Ac];simp;omega),ss2 h h2]
  ·have hc:Az b ((4:Int)*(n:Int)) ((4:Int)*(n:Int)+4)=some (part b (4*n) 4):=by
    rw[show(4:Int)*(n:Int)=((4*n:Nat):Int) by omega]
    exact Qa (4*n) 4 (by omega)
   have hs:Ay (leU (part b (4*n) 4)) (Ad (Ip (b.take (4*n))):UInt64)=decide ((Ip (b.take (4*n))).toNat≠Eg (part b (4*n) 4)):=by
    rw[←Btr h h2,Ajr,Ajr,Bool.eq_iff_iff];simp only[bne_iff_ne,ne_eq];exact not_congr eq_comm
   rw[if_neg (by rw[Af,Ac];simp;omega),hc,Aa,Cv (by omega) (by omega),Aa,show(4*(n:Int)).toNat=4*n by omega,Bmq _ (by rw[Dj (by omega)];omega),Aa,Cap _ (by simp;omega),Aa,hs]
   by_cases h3:(Ip (b.take (4*n))).toNat=Eg (part b (4*n) 4)
   ·have hlp:=Awp b n (by omega) (by omega) (by omega) n 0 FUEL (by omega) (by have:=Ap;omega)
    rw[if_neg (by simpa using h3),Ze,Xy,Yr]
    refine Eq.trans hlp ?_
    rw[Py,Ahv,Bwn _ (by rw[Ahw];omega) (Btq b n (by omega)),Aa,ss4 h h2 h3]
    cases tabB (Aj6 b n)<;>rfl
   ·rw[if_pos (by simpa using h3),ss3 h h2 h3]
 ·rw[if_pos (by simp[Af,As];omega),ss1 h]
theorem Bpu{b:List UInt8}{n:Nat}(h:(seekS b n).2=0):seekS b n=(Aj6 b n,0)∧1≤n∧n≤1000∧4*n+4≤b.length∧(∀x∈Aj6 b n,5≤x)∧(Aj6 b n).sum≤100000:=by
 unfold seekS at h⊢
 split at h; · simp at h
 rename_i c1;rw[if_neg c1]
 split at h; · simp at h
 rename_i c2;rw[if_neg c2]
 split at h; · simp at h
 rename_i c3;rw[if_neg c3]
 split at h
 ·rename_i c4
  rw[if_pos c4]
  have c4':=c4
  rw[tabB,Bool.and_eq_true,Ajt _ _ (by omega)]at c4'
  exact⟨rfl,by omega,by omega,by omega,c4'.2.1,c4'.2.2⟩
 ·simp at h
end Go.Pl
set_option linter.unusedVariables false
set_option linter.unusedSimpArgs false
namespace Go.Pl
open Go Go.Lv
def hdr(b:List UInt8):List UInt8:=b.drop (frontS b).1.toNat
theorem Bqg(A K:Nat)(h:A≤200000)(hk:K≤1000):Ae (Ae (A:Int) (Bj 4 (K:Int))) 4=((A+4*K+4:Nat):Int):=by
 rw[Jl (by omega) (by omega),Ah (a:=(A:Int)) (by omega) (by omega),Ah (by omega) (by omega)];omega
structure Opn (b p:List UInt8) (f c w r n A:Nat) (l:List Int):Prop where
 prog:seekto_Open b p=some ((f:Int),(c:Int),(w:Int),(r:Int),(n:Int),(A:Int),l,0)
 ref:cadenzaref40_Opened b p=some ((f:Int),(c:Int),(w:Int),(r:Int),(n:Int),(A:Int),l,0)
 pass:p.length≤64
 file:b.length≤100000
 shape:shapeB f c w r n=true
 fit:fitB c r n=true
 len:l.length=(framesL (longN r) n).length
 some1:1≤l.length∧l.length≤1000
 five:∀x∈l,5≤x
 sum:l.sum≤100000
 at':A≤b.length
 tag:(frontS b).2=0
 head:readS (hdr b)=((f:Int),(c:Int),(w:Int),(r:Int),(n:Int),0)
 tab:seekS (b.drop ((frontS b).1.toNat+22+(if f=2 then 8 else 0))) l.length=(l,0)
 pos:A=(frontS b).1.toNat+22+(if f=2 then 8 else 0)+4*l.length+4
end Go.Pl
set_option linter.unusedVariables false
set_option linter.unusedSimpArgs false
namespace Go.Pl
open Go Go.Lv
theorem Bjx(l:List Int)(i:Nat):(l.take i).sum+(l.drop i).sum=l.sum:=by
 conv=>rhs;rw[←List.take_append_drop i l,List.sum_append]
theorem Acj{l:List Int}(h5:∀x∈l,5≤x)(i:Nat):0≤(l.take i).sum∧(l.take i).sum≤l.sum:=by
 have h1:=Bz5 (l.take i) fun x hx=>h5 x (List.mem_of_mem_take hx)
 have h2:=Bz5 (l.drop i) fun x hx=>h5 x (List.mem_of_mem_drop hx)
 have:=Bjx l i
 omega
theorem Abd{l:List Int}{i:Nat}(h:i<l.length):(l.take (i+1)).sum=(l.take i).sum+l[i]:=by
 rw[Akc h,List.sum_append];simp
section
variable {l:List Int} (hl:l.length≤1000) (h5:∀x∈l,5≤x) (hs:l.sum≤100000)
include hl h5 hs
theorem Bgv(f c w r n A:Int)(hA:0≤A)(hA2:A≤200000)(k:Nat)(hk:k≤l.length):∀(j i q:Nat),i+j=k→j<q→Jt (k:Int) f c w r n A l q (A+(l.take i).sum) (i:Int)=some (A+(l.take k).sum)
 |0,i,q+1,hi,_=>by
  rw[Jt,Vs,if_neg (by rw[Af];simp;omega),show i=k by omega];rfl
 |j+1,i,q+1,hi,hq=>by
  have hlt:i<l.length:=by omega
  have ih:=Bgv f c w r n A hA hA2 k hk j (i+1) q (by omega) (by omega)
  have b1:=Acj h5 i
  have b2:=Acj h5 (i+1)
  have e:=Abd hlt
  rw[e,←Int.add_assoc]at ih
  rw[Jt,Vs,if_pos (by rw[Af];simp;omega),Cl hlt,Aa,Ah (by omega) (by omega),Ah (by omega) (by omega)]
  exact ih
theorem Bv4(f c w r n A:Int)(hA:0≤A)(hA2:A≤200000)(k:Nat)(hk:k≤l.length):Alv f c w r n A l (k:Int)=some (A+(l.take k).sum):=by
 have h:=Bgv hl h5 hs f c w r n A hA hA2 k hk k 0 FUEL (by omega) (by have:=Ap;omega)
 rw[List.take_zero,List.sum_nil,Int.add_zero]at h
 exact h
end
theorem Acb{g n:Nat}(hg:1≤g)(hn:1≤n){x:Int}(h:x∈framesL g n):∃m:Nat,x=m∧1≤m∧m≤n:=by
 have hmul:=Nat.div_mul_le_self (n-1) g
 rw[framesL,List.mem_append]at h
 rcases h with h|h
 ·rw[List.mem_replicate]at h
  have h1:1≤(n-1)/g:=Nat.pos_of_ne_zero h.1
  have:=Nat.mul_le_mul_right g h1
  exact⟨g,h.2,hg,by omega⟩
 ·rw[List.mem_singleton]at h
  exact⟨_,h,by omega,by omega⟩
theorem Aph{f c w r n:Nat}(h:shapeB f c w r n=true):(1≤c∧c≤6)∧Cm (w:Int)∧(1≤r∧r≤1048576)∧1≤n∧(f=1∨f=2):=by
 simp only[shapeB,decide_eq_true_eq]at h
 refine⟨h.2.1,?_,h.2.2.2.1,h.2.2.2.2,h.1⟩
 rcases h.2.2.1 with rfl|rfl|rfl
 ·exact .inl rfl
 ·exact .inr (.inl rfl)
 ·exact .inr (.inr rfl)
end Go.Pl
set_option linter.unusedVariables false
set_option linter.unusedSimpArgs false
namespace Go.Pl
open Go Go.Lv
theorem Cft(n m:Nat):Pd n m 0≠Pd n m 2147483648:=by
 intro h
 simp[Pd,leB,APE]at h
def By(b:List UInt8):List UInt8:=b.drop (b.length-32)
theorem Bpx{b:List UInt8}(h:32≤b.length):(By b).length=32:=by rw[By,List.length_drop];omega
def itA(t:List UInt8):Nat:=Eg (part t 12 4)-32
def mnA(t:List UInt8):Nat:=Eg (part t 16 4)
def Yt(b:List UInt8):Int×Int:=
 if ¬(32≤b.length∧(By b).take 8=APE)then(0,6)else if Adb (By b)=true then(0,12)else
 if By b=Pd (itA (By b)) (mnA (By b)) 0 then(if b.length<itA (By b)+32 then(0,24)else(((itA (By b)+32:Nat):Int),0))else
 if By b≠Pd (itA (By b)) (mnA (By b)) 2147483648 then(0,12)else
 if b.length<itA (By b)+64 then(0,24)else
 if(b.take (b.length-(itA (By b)+64)+32)).drop (b.length-(itA (By b)+64))≠Pd (itA (By b)) (mnA (By b)) 2684354560 then(0,12)else(((itA (By b)+64:Nat):Int),0)
section
variable {b:List UInt8}
theorem ba1(h:¬(32≤b.length∧(By b).take 8=APE)):Yt b=(0,6):=by rw[Yt,if_pos h]
variable (h:32≤b.length∧(By b).take 8=APE)
include h
theorem ba2(h2:Adb (By b)=true):Yt b=(0,12):=by rw[Yt,if_neg (fun h'=>h' h),if_pos h2]
variable (h2:Adb (By b)=false)
include h2
theorem ba3(h3:By b=Pd (itA (By b)) (mnA (By b)) 0):Yt b=if b.length<itA (By b)+32 then(0,24)else(((itA (By b)+32:Nat):Int),0):=by
 rw[Yt,if_neg (fun h'=>h' h),if_neg (by rw[h2];simp),if_pos h3]
variable (h3:By b≠Pd (itA (By b)) (mnA (By b)) 0)
include h3
theorem ba4(h4:By b≠Pd (itA (By b)) (mnA (By b)) 2147483648):Yt b=(0,12):=by
 rw[Yt,if_neg (fun h'=>h' h),if_neg (by rw[h2];simp),if_neg h3,if_pos h4]
variable (h4:By b=Pd (itA (By b)) (mnA (By b)) 2147483648)
include h4
theorem ba5(h5:b.length<itA (By b)+64):Yt b=(0,24):=by
 rw[Yt,if_neg (fun h'=>h' h),if_neg (by rw[h2];simp),if_neg h3,if_neg (fun e=>e h4),if_pos h5]
theorem ba6(h5:¬b.length<itA (By b)+64):Yt b=if(b.take (b.length-(itA (By b)+64)+32)).drop (b.length-(itA (By b)+64))≠Pd (itA (By b)) (mnA (By b)) 2684354560 then(0,12)else(((itA (By b)+64:Nat):Int),0):=by
 rw[Yt,if_neg (fun h'=>h' h),if_neg (by rw[h2];simp),if_neg h3,if_neg (fun e=>e h4),if_neg h5]
end
theorem Bnf{b:List UInt8}{n:Int}(h:Yt b=(n,0)):32≤n∧n≤b.length:=by
 unfold Yt at h
 split at h; · simp at h
 rename_i h32
 split at h; · simp at h
 split at h
 ·split at h; · simp at h
  simp only[Prod.mk.injEq,and_true]at h;omega
 split at h; · simp at h
 split at h; · simp at h
 split at h; · simp at h
 simp only[Prod.mk.injEq,and_true]at h;omega
theorem Bwl{b:List UInt8}(h:(Yt b).2≠0):(Yt b).1=0:=by
 revert h
 unfold Yt
 split; · simp
 split; · simp
 split
 ·split<;>simp
 split; · simp
 split; · simp
 split<;>simp
theorem Bz6{b:List UInt8}(h:32≤b.length)(hl:b.length<4611686018427387904):Aj (Ac b) 32=((b.length-32:Nat):Int)∧Az b ((b.length-32:Nat):Int) (Ac b)=some (By b):=by
 refine⟨by rw[Ac,Bw (by omega) (by omega)];omega,?_⟩
 rw[Cw (by omega) (by omega)];rfl
theorem Bvf(b:List UInt8)(hl:b.length<4611686018427387904):Aza b=some (Yt b):=by
 rw[Aza,At8]
 by_cases h32:32≤b.length
 ·obtain⟨e1,e2⟩:=Bz6 h32 hl
  have hl3:=Bpx h32
  rw[if_neg (by rw[e1,Af];simp),e1,e2,Aa,Ap8,Aa]
  by_cases hp:(By b).take 8=APE
  ·have h:=And.intro h32 hp
   rw[if_neg (by simpa [APE,hl3]using hp),Asx,Bbz,e1,e2,Aa,Aqz _ 0 (by omega) (by omega) (by decide),Aa]
   cases hb:Adb (By b)with
   |true=>
    rw[ba2 h hb]
    simp only[if_true,Bool.false_eq_true,if_false]
    rw[Aa,Aqz _ 2147483648 (by omega) (by omega) (by decide),Aa,hb];rfl
   |false=>
    obtain⟨i1,i2,i3,i4⟩:=Ba0 (By b) (by omega) hb
    have eI:Eg (part (By b) 12 4)-32=itA (By b):=rfl
    have eM:Eg (part (By b) 16 4)=mnA (By b):=rfl
    simp only[Bool.false_eq_true,if_false]
    rw[eI]at i3
    rw[eM]at i4
    rw[eI,eM]
    by_cases c1:By b=Pd (itA (By b)) (mnA (By b)) 0
    ·have c1':By b=Pd (itA (By b)) (mnA (By b)) (0:UInt64).toNat:=c1
     rw[if_pos (by simpa using c1'),ba3 h hb c1]
     by_cases c2:b.length<itA (By b)+32
     ·rw[if_pos (by rw[Af];simp;omega),if_pos c2]
     ·rw[if_neg (by rw[Af];simp;omega),if_neg c2,Ah (by omega) (by omega)];rfl
    ·have c1':¬By b=Pd (itA (By b)) (mnA (By b)) (0:UInt64).toNat:=c1
     rw[if_neg (by simpa using c1'),Aa,Aqz _ 2147483648 (by omega) (by omega) (by decide),Aa,hb]
     simp only[Bool.false_eq_true,if_false]
     rw[eI,eM]
     by_cases c2:By b=Pd (itA (By b)) (mnA (By b)) 2147483648
     ·have c2':By b=Pd (itA (By b)) (mnA (By b)) (2147483648:UInt64).toNat:=c2
      rw[if_neg (by simpa using c2'),Ah (by omega) (by omega)]
      by_cases c3:b.length<itA (By b)+64
      ·rw[if_pos (by rw[Af,Ac];simp;omega),ba5 h hb c1 c2 c3]
      ·rw[if_neg (by rw[Af,Ac];simp;omega),Ac,Bw (by omega) (by omega),Ah (by omega) (by omega),Aes (by omega) (by omega) (by omega),Aa,Bge _ _ _ i3 i4 (by decide),Aa,Jh,Aa,ba6 h hb c1 c2 c3]
       rw[show((b.length:Int)-(((itA (By b):Nat):Int)+64)).toNat=b.length-(itA (By b)+64) by omega,show((b.length:Int)-(((itA (By b):Nat):Int)+64)+32).toNat=b.length-(itA (By b)+64)+32 by omega]
       have e7:(2684354560:UInt64).toNat=2684354560:=rfl
       rw[e7]
       by_cases c4:(b.take (b.length-(itA (By b)+64)+32)).drop (b.length-(itA (By b)+64))=Pd (itA (By b)) (mnA (By b)) 2684354560
       ·rw[if_neg (by simpa using c4),if_neg (fun e=>e c4)];rfl
       ·rw[if_pos (by simpa using c4),if_pos c4]
     ·have c2':¬By b=Pd (itA (By b)) (mnA (By b)) (2147483648:UInt64).toNat:=c2
      rw[if_pos (by simpa using c2'),ba4 h hb c1 c2]
  ·rw[if_pos (by rw[Bool.not_eq_true',decide_eq_false_iff_not];intro h;exact hp h.2),ba1 (fun h=>hp h.2)]
 ·rw[if_pos (by rw[Ac,Bw (by omega) (by omega),Af];simp;omega),ba1 (fun h=>h32 h.1)]
theorem Cba{b:List UInt8}(h:32≤b.length):(b.take (b.length-32+8)).drop (b.length-32)=(By b).take 8:=by
 rw[By,List.take_drop]
theorem Bza(b:List UInt8)(hl:b.length<4611686018427387904):Ad9 b=some (Yt b):=by
 rw[Ad9,Ahf]
 by_cases h32:32≤b.length
 ·obtain⟨e1,e2⟩:=Bz6 h32 hl
  have hl3:=Bpx h32
  rw[if_neg (by rw[Af,Ac];simp;omega),e1,Ah (by omega) (by omega),Aes (by omega) (by omega) (by omega),Aa,show((b.length-32:Nat):Int).toNat=b.length-32 from rfl,show(((b.length-32:Nat):Int)+8).toNat=b.length-32+8 by omega,Cba h32]
  by_cases hp:(By b).take 8=APE
  ·have h:=And.intro h32 hp
   rw[if_neg (by simpa [APE]using hp),Aib,Ahg,e1,e2,Aa,Boq _ (by omega) (by omega),Aa]
   cases hb:Adb (By b)with
   |true=>rw[ba2 h hb];rfl
   |false=>
    obtain⟨i1,i2,i3,i4⟩:=Ba0 (By b) (by omega) hb
    have eI:Eg (part (By b) 12 4)-32=itA (By b):=rfl
    have eM:Eg (part (By b) 16 4)=mnA (By b):=rfl
    simp only[Bool.false_eq_true,if_false,Bool.not_true]
    rw[eI]at i3
    rw[eM]at i4
    rw[eI,eM,Iv,if_pos rfl,Azl _ _ _ i3 i4 (by decide),Aa,Aa]
    have e7:(2147483648:UInt64).toNat=2147483648:=rfl
    have e8:(2684354560:UInt64).toNat=2684354560:=rfl
    rw[e7]
    by_cases c2:By b=Pd (itA (By b)) (mnA (By b)) 2147483648
    ·have c1:By b≠Pd (itA (By b)) (mnA (By b)) 0:=fun e=>Cft (itA (By b)) (mnA (By b)) (e.symm.trans c2)
     rw[if_neg (by simpa using c2),Zp,Yl,if_pos (by simpa using c2),Yc,Zd,Ah (a:=32) (by omega) (by omega),Ah (by omega) (by omega)]
     by_cases c3:b.length<itA (By b)+64
     ·rw[if_pos (by rw[Af,Ac];simp;omega),ba5 h hb c1 c2 c3]
     ·rw[if_neg (by rw[Af,Ac];simp;omega),if_pos (by simpa using c2),Ac,Bw (by omega) (by omega),Ah (by omega) (by omega),Aes (by omega) (by omega) (by omega),Aa,Qd,Azl _ _ _ i3 i4 (by decide),Aa,Aa,ba6 h hb c1 c2 c3,e8]
      rw[show((b.length:Int)-(32+((itA (By b):Nat):Int)+32)).toNat=b.length-(itA (By b)+64) by omega,show((b.length:Int)-(32+((itA (By b):Nat):Int)+32)+32).toNat=b.length-(itA (By b)+64)+32 by omega]
      by_cases c4:(b.take (b.length-(itA (By b)+64)+32)).drop (b.length-(itA (By b)+64))=Pd (itA (By b)) (mnA (By b)) 2684354560
      ·rw[if_neg (by simpa using c4),if_neg (fun e=>e c4),show(32+((itA (By b):Nat):Int)+32)=((itA (By b)+64:Nat):Int) by omega]
      ·rw[if_pos (by simpa using c4),if_pos c4]
    ·rw[if_pos (by simpa using c2),Iv,if_neg (by simp),Azl _ _ _ i3 i4 (by decide),Aa,Aa]
     have e9:(0:UInt64).toNat=0:=rfl
     rw[e9]
     by_cases c1:By b=Pd (itA (By b)) (mnA (By b)) 0
     ·rw[if_neg (by simpa using c1),Zp,Yl,if_neg (by simpa using c2),Yc,Zd,Ah (by omega) (by omega),ba3 h hb c1,if_neg (c:=(By b==Pd (itA (By b)) (mnA (By b)) 2147483648)=true) (by simpa using c2)]
      by_cases c3:b.length<itA (By b)+32
      ·rw[if_pos (by rw[Af,Ac];simp;omega),if_pos c3]
      ·rw[if_neg (by rw[Af,Ac];simp;omega),if_neg c3,show(32+((itA (By b):Nat):Int))=((itA (By b)+32:Nat):Int) by omega]
     ·rw[if_pos (by simpa using c1),ba4 h hb c1 c2]
  ·rw[if_pos (by simpa [APE]using hp),ba1 (fun h=>hp h.2)]
 ·rw[if_pos (by rw[Af,Ac];simp;omega),ba1 (fun h=>h32 h.1)]
def Bla:Nat→List UInt8→Nat→Int×Int
 |0,_,_=>(0,38)
 |j+1,b,a=>if b=[]then((a:Int),0)else if(Yt b).2≠0 then(0,38)else Bla j (b.take (b.length-(Yt b).1.toNat)) (a+1)
theorem Bm0:∀(j q a:Nat) (b:List UInt8),b.length<j→j≤q→b.length≤4000→a+b.length≤4000→Vg q (a:Int) b=some (Bla j b a)
 |0,_,_,_,h,_,_,_=>by omega
 |j+1,q+1,a,b,h,hq,h4,ha=>by
  rw[Vg,Ai8,Bla]
  by_cases hb:b=[]
  ·subst hb;rw[if_neg (by decide),if_pos rfl];rfl
  ·have hpos:0<b.length:=List.length_pos_iff.2 hb
   rw[if_pos (by rw[As,Ac];simp;omega),if_neg hb,Bvf b (by omega),Aa]
   have hbad:=Bwl (b:=b)
   have hok:=fun n=>Bnf (b:=b) (n:=n)
   generalize Yt b=v at*
   obtain⟨n,e⟩:=v
   simp only at hbad⊢
   rw[Ag0,Agc]
   by_cases he:e≠0
   ·rw[if_pos he,hbad he,if_pos (by decide)]
   ·obtain⟨k1,k2⟩:=hok n (by rw[show e=0 by simpa using he])
    rw[if_neg he,if_neg (by rw[Aq];simp;omega),Ac,Bw (by omega) (by omega),Cv (by omega) (by omega),Aa,Agl,Aos,Ah (by omega) (by omega)]
    rw[show((b.length:Int)-n).toNat=b.length-n.toNat by omega]
    have ih:=Bm0 j q (a+1) (b.take (b.length-n.toNat)) (by rw[List.length_take];omega) (by omega) (by rw[List.length_take];omega) (by rw[List.length_take];omega)
    rw[←ih];rfl
theorem Bs4:∀(j q a:Nat) (b:List UInt8),b.length<j→j≤q→b.length≤4000→a+b.length≤4000→Mr q b (a:Int)=some (Bla j b a)
 |0,_,_,_,h,_,_,_=>by omega
 |j+1,q+1,a,b,h,hq,h4,ha=>by
  rw[Mr,Adz,Bla]
  by_cases hb:b=[]
  ·subst hb;rw[if_neg (by decide),if_pos rfl];rfl
  ·have hpos:0<b.length:=List.length_pos_iff.2 hb
   rw[if_pos (by rw[As,Ac];simp;omega),if_neg hb,Bza b (by omega),Aa]
   have hok:=fun n=>Bnf (b:=b) (n:=n)
   generalize Yt b=v at*
   obtain⟨n,e⟩:=v
   simp only
   by_cases he:e≠0
   ·rw[if_pos he,if_pos (by rw[Ak];simpa using he)]
   ·obtain⟨k1,k2⟩:=hok n (by rw[show e=0 by simpa using he])
    rw[if_neg he,if_neg (by rw[Ak];simpa using he),Ac,Bw (by omega) (by omega),Cv (by omega) (by omega),Aa,Ah (by omega) (by omega)]
    rw[show((b.length:Int)-n).toNat=b.length-n.toNat by omega]
    have ih:=Bs4 j q (a+1) (b.take (b.length-n.toNat)) (by rw[List.length_take];omega) (by omega) (by rw[List.length_take];omega) (by rw[List.length_take];omega)
    rw[←ih];rfl
def Ag2(b:List UInt8):Int×Int:=if 4000<b.length then(0,38)else Bla (b.length+1) b 0
theorem Bbp(b:List UInt8)(hl:b.length<4611686018427387904):Aeg b=some (Ag2 b):=by
 rw[Aeg,Ai4,Ag2]
 by_cases h:4000<b.length
 ·rw[if_pos (by rw[As,Ac];simp;omega),if_pos h]
 ·rw[if_neg (by rw[As,Ac];simp;omega),if_neg h]
  exact Bm0 _ FUEL 0 b (by omega) (by have:=Ap;omega) (by omega) (by omega)
theorem Bqj(b:List UInt8)(hl:b.length<4611686018427387904):Aa3 b=some (Ag2 b):=by
 rw[Aa3,Ae9,Ag2]
 by_cases h:4000<b.length
 ·rw[if_pos (by rw[As,Ac];simp;omega),if_pos h]
 ·rw[if_neg (by rw[As,Ac];simp;omega),if_neg h]
  exact Bs4 _ FUEL 0 b (by omega) (by have:=Ap;omega) (by omega) (by omega)
end Go.Pl
set_option linter.unusedVariables false
set_option linter.unusedSimpArgs false
namespace Go.Pl
open Go Go.Lv
theorem Cfw{a b:Nat}(h:a<9223372036854775808):Cp (a:Int) (b:Int)=((a/b:Nat):Int):=by
 have:a/b≤a:=Nat.div_le_self _ _
 rw[Aiy,Int.tdiv_eq_ediv_of_nonneg (by omega),←Int.natCast_ediv]
 generalize a/b=k at*
 exact Cg (by omega) (by omega)
theorem Bah{bits:Int}(h:Cm bits)(x:Int):(Af8 bits x).length=wB bits:=by
 obtain rfl|rfl|rfl:=h<;>rfl
theorem Amu{bits:Int}(h:Cm bits):∀l:List Int32,(bytesB bits l).length=l.length*wB bits
 |[]=>by simp[bytesB]
 |x::l=>by
  have h1:=Amu h l
  have h2:=Bah h x.toInt
  simp only[bytesB,List.flatMap_cons,List.length_append,List.length_cons,Nat.succ_mul]at*
  omega
def segF(b:List UInt8)(A:Nat)(l:List Int)(k:Nat):List UInt8:=(b.take ((A:Int)+(l.take (k+1)).sum).toNat).drop ((A:Int)+(l.take k).sum).toNat
structure Gts (b p:List UInt8) (f c w r n A:Nat) (l:List Int) (k m:Nat) (x:List Int32) (s:List UInt8) (e:Int):Prop where
 mom:getI (framesL (longN r) n) (k:Int)=some (m:Int)
 pos:1≤m∧m*c≤4000
 got:cadenzaref40_Got b p (f:Int) (c:Int) (w:Int) (r:Int) (n:Int) (A:Int) l (k:Int)=some (s,e)
 none':e≠0→s=[]∧x=[]
 some':e=0→s=bytesB (w:Int) x∧x.length=m*c∧cadenzaref18_Check (w:Int) x=some 0∧width_Bytes (w:Int) x=some (s,0)∧(A:Int)+(l.take (k+1)).sum≤b.length
 way:((b.length:Int)<(A:Int)+(l.take (k+1)).sum∧e=24)∨((A:Int)+(l.take (k+1)).sum≤b.length∧deframe_Decode (c:Int) (w:Int) (tapsOf p) (m:Int) (segF b A l k)=some (x,e)∧cadenzaref21_Decode (c:Int) (w:Int) (tapsOf p) (m:Int) (segF b A l k)=some (x,e))
theorem Bwc{b p:List UInt8}{f c w r n A:Nat}{l:List Int}(o:Opn b p f c w r n A l)(k:Nat)(hk:k<l.length):∃m x s e,Gts b p f c w r n A l k m x s e:=by
 obtain⟨hc,hw,hr,hn,_⟩:=Aph o.shape
 have hfit:n≤4000/c:=by have:=o.fit;simp only[fitB,decide_eq_true_eq]at this;exact this.1
 have hn4:n≤4000:=by have:=Nat.div_le_self 4000 c;omega
 have hA:=o.at'
 have hfile:=o.file
 have hlen:=o.len
 have b1:=Acj o.five k
 have b2:=Acj o.five (k+1)
 have e:=Abd hk
 have h5:=o.five l[k] (List.getElem_mem _)
 have hsum:=o.sum
 have hs1:=o.some1
 have hkf:k<(framesL (longN r) n).length:=by omega
 obtain⟨m,hm,m1,m2⟩:=Acb (Vn r) hn (List.getElem_mem hkf)
 have hmom:getI (framesL (longN r) n) (k:Int)=some (m:Int):=by rw[Cl hkf,hm]
 have hpos:1≤m∧m*c≤4000:=by
  refine⟨m1,?_⟩
  have:=Nat.mul_le_mul_right c (Nat.le_trans m2 hfit)
  have:=Nat.div_mul_le_self 4000 c
  omega
 have hR:cadenzaref40_Got b p (f:Int) (c:Int) (w:Int) (r:Int) (n:Int) (A:Int) l (k:Int)=cadenzaref40_Got b p (f:Int) (c:Int) (w:Int) (r:Int) (n:Int) (A:Int) l (k:Int):=rfl
 conv at hR=>rhs;rw[cadenzaref40_Got,Ajb,Bv4 hs1.2 o.five o.sum _ _ _ _ _ (A:Int) (by omega) (by omega) k (by omega),Aa,Cl hk,Aa,Bw (by rw[Ac];omega) (by rw[Ac];omega)]
 by_cases hto:(b.length:Int)<(A:Int)+(l.take (k+1)).sum
 ·rw[if_pos (by rw[Af,Ac,decide_eq_true_eq];omega)]at hR
  exact⟨m,[],[],24,hmom,hpos,hR,fun _=>⟨rfl,rfl⟩,fun h=>by simp at h, .inl ⟨hto,rfl⟩⟩
 ·rw[if_neg (by rw[Af,Ac,decide_eq_true_eq];omega),Au7 p o.pass,Ayn hr.2 hn hn4]at hR
  simp only[Aa]at hR
  rw[Ah (a:=(A:Int)+(l.take k).sum) (b:=l[k]) (by omega) (by omega),Int.add_assoc,←e,hmom]at hR
  simp only[Aa]at hR
  rw[Aes (by omega) (by omega) (by omega),Aa]at hR
  obtain⟨x,er,g1,g2,g3,g4⟩:=Ahp (ch:=c) (n:=m) (t:=tapsOf p) (segF b A l k) hw (Yg p) hc.1 hc.2 m1 (by omega)
  rw[show(b.take ((A:Int)+(l.take (k+1)).sum).toNat).drop ((A:Int)+(l.take k).sum).toNat=segF b A l k from rfl,g2,Aa]at hR
  simp only at hR
  rw[Ajj,Ajg]at hR
  by_cases her:er=0
  ·obtain⟨g5,g6,g7⟩:=g3 her
   rw[if_neg (by rw[Ak];simpa using her),Aot hw g6 g5,Aa]at hR
   subst her
   exact⟨m,x,_,0,hmom,hpos,hR,fun h=>absurd rfl h,fun _=>⟨rfl,g7,g5,Ax7 hw g6 g5,by omega⟩, .inr ⟨by omega,g1,g2⟩⟩
  ·rw[if_pos (by rw[Ak];simpa using her)]at hR
   exact⟨m,x,_,er,hmom,hpos,hR,fun h=>⟨rfl,g4 h⟩,fun h=>absurd h her, .inr ⟨by omega,g1,g2⟩⟩
theorem Gts.lens{b p:List UInt8}{f c w r n A:Nat}{l:List Int}{k m:Nat}{x:List Int32}{s:List UInt8}{e:Int}(hw:Cm (w:Int))(g:Gts b p f c w r n A l k m x s e):s.length≤12000∧x.length≤4000∧(e=0→s.length=m*c*wB (w:Int)):=by
 by_cases he:e=0
 ·obtain⟨h1,h2,_⟩:=g.some' he
  have h3:=Agg (w:Int) x
  have h4:=Amu hw x
  have h5:=g.pos
  rw[←h1]at h3 h4
  refine⟨by omega,by omega,fun _=>by rw[h4,h2]⟩
 ·obtain⟨h1,h2⟩:=g.none' he
  exact⟨by simp[h1],by simp[h2],fun h=>absurd h he⟩
def Cb8(b p:List UInt8)(f c w r n A:Nat)(l:List Int)(k:Nat):List UInt8×Int:=(cadenzaref40_Got b p (f:Int) (c:Int) (w:Int) (r:Int) (n:Int) (A:Int) l (k:Int)).getD ([],0)
theorem Gts.eq{b p:List UInt8}{f c w r n A:Nat}{l:List Int}{k m:Nat}{x:List Int32}{s:List UInt8}{e:Int}(g:Gts b p f c w r n A l k m x s e):Cb8 b p f c w r n A l k=(s,e):=by rw[Cb8,g.got];rfl
def Cgz(b:List UInt8)(A:Nat)(l:List Int):Int:=(Ag2 (b.drop ((A:Int)+l.sum).toNat)).2
end Go.Pl
set_option linter.unusedVariables false
set_option linter.unusedSimpArgs false
namespace Go.Pl
open Go Go.Lv
def by'(b:List UInt8)(k:Nat):Nat:=(b.getD k 0).toNat
def sx(n:Nat)(b:List UInt8)(a:Nat):Int:=
 if n=1 then(by' b a:Int)-128 else
 if n=2 then(if by' b a+256*by' b (a+1)<32768 then(by' b a+256*by' b (a+1):Nat)else((by' b a+256*by' b (a+1):Nat):Int)-65536)else
 (if by' b a+256*by' b (a+1)+65536*by' b (a+2)<8388608 then(by' b a+256*by' b (a+1)+65536*by' b (a+2):Nat)else((by' b a+256*by' b (a+1)+65536*by' b (a+2):Nat):Int)-16777216)
def sxs(n m:Nat)(b:List UInt8):List Int32:=(List.range m).map fun x=>Int32.ofInt (sx n b (x*n))
theorem Cbx(n m:Nat)(b:List UInt8):(sxs n m b).length=m:=by simp[sxs]
theorem sx2(b:List UInt8)(a:Nat):sx 2 b a=if by' b a+256*by' b (a+1)<32768 then((by' b a+256*by' b (a+1):Nat):Int)else((by' b a+256*by' b (a+1):Nat):Int)-65536:=rfl
theorem sx3(b:List UInt8)(a:Nat):sx 3 b a=if by' b a+256*by' b (a+1)+65536*by' b (a+2)<8388608 then((by' b a+256*by' b (a+1)+65536*by' b (a+2):Nat):Int)else((by' b a+256*by' b (a+1)+65536*by' b (a+2):Nat):Int)-16777216:=rfl
variable (b:List UInt8)
end Go.Pl
set_option linter.unusedVariables false
set_option linter.unusedSimpArgs false
namespace Go.Pl
open Go Go.Lv
theorem Cgi{c:Nat}{w:Nat}(hc:c≤6)(hw:Cm (w:Int)):Cp (Bj (c:Int) (w:Int)) 8=((c*wB (w:Int):Nat):Int):=by
 have h:w=8∨w=16∨w=24:=by unfold Cm at hw;omega
 have:c=0∨c=1∨c=2∨c=3∨c=4∨c=5∨c=6:=by omega
 rcases h with rfl|rfl|rfl<;>rcases this with rfl|rfl|rfl|rfl|rfl|rfl|rfl<;>rfl
theorem Cfe{w:Nat}(hw:Cm (w:Int)):8*wB (w:Int)=w∧w≤24:=by
 have h:w=8∨w=16∨w=24:=by unfold Cm at hw;omega
 rcases h with rfl|rfl|rfl<;>exact⟨rfl,by omega⟩
theorem Cf6{t c w:Nat}(ht:t≤4000)(hc:c≤6)(hw:Cm (w:Int)):Cp (Bj (Bj (t:Int) (c:Int)) (w:Int)) 8=((t*(c*wB (w:Int)):Nat):Int):=by
 obtain⟨h1,h2⟩:=Cfe hw
 have e1:(t:Int)*(c:Int)=((t*c:Nat):Int):=by simp
 have b1:t*c≤4000*6:=Nat.mul_le_mul ht hc
 have b2:t*c*w≤24000*24:=Nat.mul_le_mul b1 h2
 rw[Jl (a:=(t:Int)) (by rw[e1];omega) (by rw[e1];omega),e1,Jl (by rw[←Int.natCast_mul];omega) (by rw[←Int.natCast_mul];omega),←Int.natCast_mul,show(8:Int)=((8:Nat):Int)from rfl,Cfw (by omega)]
 congr 1
 generalize wB (w:Int)=W at*
 subst h1
 rw[Nat.mul_left_comm,Nat.mul_div_cancel_left _ (by omega),Nat.mul_assoc]
end Go.Pl
set_option linter.unusedVariables false
set_option linter.unusedSimpArgs false
namespace Go.Pl
open Go Go.Lv
def smF(w:Nat)(y:List UInt8×Int):List Int32:=if y.2≠0 then []else sxs (wB (w:Int)) (y.1.length/wB (w:Int)) y.1
end Go.Pl
set_option linter.unusedVariables false
set_option linter.unusedSimpArgs false
namespace Go.Pl
open Go Go.Lv
theorem Baq(z:Int):(u8 z).toNat=(z %256).toNat:=by
 have:(z %256).toNat<256:=by omega
 rw[u8,UInt8.toNat_ofNat',Nat.mod_eq_of_lt (by omega)]
theorem Bfs{bits:Int}(h:Cm bits):∀(l:List Int32) (i j:Nat),i<l.length→j<wB bits→(bytesB bits l).getD (i*wB bits+j) 0=(Af8 bits (l.getD i 0).toInt).getD j 0
 |[],i,j,hi,_=>by simp at hi
 |x::l,0,j,_,hj=>by
  have h1:=Bah h x.toInt
  have e:bytesB bits (x::l)=Af8 bits x.toInt++bytesB bits l:=by simp[bytesB]
  rw[e,Nat.zero_mul,Nat.zero_add,List.getD_eq_getElem?_getD,List.getD_eq_getElem?_getD,List.getElem?_append_left (by omega)];rfl
 |x::l,i+1,j,hi,hj=>by
  have h1:=Bah h x.toInt
  have e:bytesB bits (x::l)=Af8 bits x.toInt++bytesB bits l:=by simp[bytesB]
  have ih:=Bfs h l i j (by simpa using hi) hj
  have e2:(i+1)*wB bits+j=(Af8 bits x.toInt).length+(i*wB bits+j):=by rw[Nat.add_mul,Nat.one_mul,h1];omega
  rw[e,e2,List.getD_eq_getElem?_getD,List.getElem?_append_right (by omega),Nat.add_sub_cancel_left,←List.getD_eq_getElem?_getD,ih];rfl
theorem Cb2{bits:Int}(h:Cm bits)(l:List Int32)(hr:inR bits l)(i:Nat)(hi:i<l.length):Int32.ofInt (sx (wB bits) (bytesB bits l) (i*wB bits))=l.getD i 0:=by
 have hm:l.getD i 0∈l:=by rw[List.getD_eq_getElem?_getD,List.getElem?_eq_getElem hi];exact List.getElem_mem hi
 have hv:=hr _ hm
 have g:∀j,j<wB bits→by' (bytesB bits l) (i*wB bits+j)=((Af8 bits (l.getD i 0).toInt).getD j 0).toNat:=fun j hj=>by rw[by',Bfs h l i j hi hj]
 generalize l.getD i 0=x at*
 have key:sx (wB bits) (bytesB bits l) (i*wB bits)=x.toInt:=by
  generalize hA:i*wB bits=a at*
  obtain rfl|rfl|rfl:=h
  ·have g0:=g 0 (by decide)
   have e1:(Af8 8 x.toInt).getD 0 0=u8 (x.toInt+128):=rfl
   rw[Nat.add_zero,e1,Baq]at g0
   simp only[hB]at hv
   simp at hv
   have e2:wB 8=1:=rfl
   rw[e2,sx,if_pos rfl,g0];omega
  ·have g0:=g 0 (by decide)
   have g1:=g 1 (by decide)
   have e0:(Af8 16 x.toInt).getD 0 0=u8 x.toInt:=rfl
   have e1:(Af8 16 x.toInt).getD 1 0=u8 (x.toInt/256):=rfl
   rw[Nat.add_zero,e0,Baq]at g0
   rw[e1,Baq]at g1
   simp only[hB]at hv
   simp at hv
   have e2:wB 16=2:=rfl
   rw[e2,sx2,g0,g1]
   split<;>omega
  ·have g0:=g 0 (by decide)
   have g1:=g 1 (by decide)
   have g2:=g 2 (by decide)
   have e0:(Af8 24 x.toInt).getD 0 0=u8 x.toInt:=rfl
   have e1:(Af8 24 x.toInt).getD 1 0=u8 (x.toInt/256):=rfl
   have e3:(Af8 24 x.toInt).getD 2 0=u8 (x.toInt/65536):=rfl
   rw[Nat.add_zero,e0,Baq]at g0
   rw[e1,Baq]at g1
   rw[e3,Baq]at g2
   simp only[hB]at hv
   simp at hv
   have e2:wB 24=3:=rfl
   rw[e2,sx3,g0,g1,g2]
   split<;>omega
 rw[key];simp
theorem Bxm{bits:Int}(h:Cm bits)(l:List Int32)(hr:inR bits l):sxs (wB bits) l.length (bytesB bits l)=l:=by
 refine List.ext_getElem (Cbx _ _ _) fun i h1 h2=>?_
 have:=Cb2 h l hr i h2
 simp only[sxs,List.getElem_map,List.getElem_range]
 rw[this,List.getD_eq_getElem?_getD,List.getElem?_eq_getElem h2];rfl
theorem Gts.smp{b p:List UInt8}{f c w r n A:Nat}{l:List Int}{k m:Nat}{x:List Int32}{s:List UInt8}{e:Int}(hw:Cm (w:Int))(g:Gts b p f c w r n A l k m x s e):smF w (s,e)=x:=by
 have hwb:=Bi6 (w:Int)
 by_cases he:e=0
 ·obtain⟨h1,h2,h3,_⟩:=g.some' he
  have h4:=g.pos
  have h5:=Amu hw x
  rw[smF,if_neg (by simpa using he)]
  simp only
  rw[h1,h5,Nat.mul_div_cancel _ (by omega)]
  exact Bxm hw x (Baj hw (by omega) h3)
 ·rw[smF,if_pos he,(g.none' he).2]
end Go.Pl
set_option linter.unusedVariables false
set_option linter.unusedSimpArgs false
namespace Go.Pl
open Go Go.Lv
abbrev C5:=Int×Int×Int×List Int32×Int
def Cit(e:Int):C5:=(0,0,0,[],e)
theorem Bnp{seg p:List UInt8}(hs:seg.length=8)(hp:p.length≤64):Zy seg p=some (seg==leB (Aey p).toNat 8,0):=by
 rw[Zy,Bwv p hp,Aa]
 simp only
 rw[if_neg (by rw[Ak,Ak,Ac,Ac,Ru,hs];simp),Jh,Aa]
def Cec(X:Nat→List Int32)(E:Nat→Int)(be:Int):Nat→Nat→List Int32→List Int32×Int
 |0,_,acc=>if be≠0 then([],38)else(acc,0)
 |j+1,k,acc=>if E k≠0 then([],E k)else Cec X E be j (k+1) (acc++X k)
def Bml(c w r:Nat)(y:List Int32×Int):C5:=if y.2≠0 then Cit y.2 else((c:Int),(w:Int),(r:Int),y.1,0)
section
variable {b p:List UInt8} {f c w r n A:Nat} {l:List Int} (o:Opn b p f c w r n A l)
include o
theorem Ba1(a1 a2 a3 a4:Int):∀(j k q:Nat) (acc:List Int32),k+j=l.length→j<q→(k=l.length→(A:Int)+l.sum≤b.length)→acc.length≤4000*k→
  Adi b l (f:Int) (c:Int) (w:Int) (r:Int) (n:Int) a1 a2 a3 (A:Int) a4 (tapsOf p) (framesL (longN r) n) q ((A:Int)+(l.take k).sum) (k:Int) acc=
   some (Bml c w r (Cec (fun k=>smF w (Cb8 b p f c w r n A l k)) (fun k=>(Cb8 b p f c w r n A l k).2) (Cgz b A l) j k acc))
 |0,k,q+1,acc,hk,_,hfit,_=>by
  have hA:=o.at'
  have hfile:=o.file
  have hs1:=o.some1
  have hsum:=o.sum
  have b1:=Acj o.five l.length
  have hf:=hfit (by omega)
  obtain rfl:k=l.length:=by omega
  rw[List.take_length]at b1⊢
  rw[Adi,Alg,if_neg (by rw[Af,Ac];simp),As1,As5,Cw (by omega) (by omega),Aa,Bbp _ (by rw[List.length_drop];omega),Aa,Cec,Cgz]
  generalize Ag2 (b.drop ((A:Int)+l.sum).toNat)=v
  obtain⟨v1,v2⟩:=v
  simp only
  by_cases hv:v2≠0
  ·rw[if_pos hv,if_pos (by rw[Ak];simpa using hv),Bml,if_pos (by simp)];rfl
  ·rw[if_neg hv,if_neg (by rw[Ak];simpa using hv),Bml,if_neg (by simp)]
 |j+1,k,q+1,acc,hk,hq,hfit,hacc=>by
  have hA:=o.at'
  have hfile:=o.file
  have hs1:=o.some1
  have hsum:=o.sum
  have b1:=Acj o.five k
  have b2:=Acj o.five (k+1)
  have hkl:k<l.length:=by omega
  have e2:=Abd hkl
  have h5:=o.five l[k] (List.getElem_mem _)
  obtain⟨m,x,s,e,g⟩:=Bwc o k hkl
  obtain⟨hc,hw,hr,hn,_⟩:=Aph o.shape
  have hl:=g.lens hw
  rw[Adi,Alg,if_pos (by rw[Af,Ac];simp;omega),Cl hkl,Aa,Aa,Ah (a:=(A:Int)+(l.take k).sum) (by omega) (by omega),Int.add_assoc,←e2,Ac,Cec,g.eq]
  simp only
  rcases g.way with⟨h1,h2⟩|⟨h1,h2,_⟩
  ·rw[if_pos (by rw[Af,decide_eq_true_eq];omega),if_pos (by rw[h2];simp),h2,Bml,if_pos (by simp)];rfl
  ·rw[if_neg (by rw[Af,decide_eq_true_eq];omega),g.mom]
   simp only[Aa]
   rw[Aes (by omega) (by omega) (by omega),Aa,show(b.take ((A:Int)+(l.take (k+1)).sum).toNat).drop ((A:Int)+(l.take k).sum).toNat=segF b A l k from rfl,h2,Aa]
   simp only
   rw[Asv,Atv]
   by_cases he:e≠0
   ·rw[if_pos (by rw[Ak];simpa using he),if_pos he,Bml,if_pos he];rfl
   ·have he0:e=0:=by simpa using he
    have hfit2:=(g.some' he0).2.2.2.2
    rw[if_neg (by rw[Ak];simpa using he),if_neg he,g.smp hw,Cs (by omega),Aa,Ah (a:=(A:Int)+(l.take k).sum) (by omega) (by omega),Int.add_assoc,←e2,Ah (by omega) (by omega)]
    exact Ba1 a1 a2 a3 a4 j (k+1) q (acc++x) (by omega) (by omega) (fun h=>by rw[h,List.take_length]at hfit2;exact hfit2) (by rw[List.length_append];omega)
end
end Go.Pl
set_option linter.unusedVariables false
set_option linter.unusedSimpArgs false
namespace Go.Pl
open Go Go.Lv
def Bbd(b:List UInt8):List Int:=framesL (longN (f3 (hdr b))) (f4 (hdr b))
end Go.Pl
set_option linter.unusedVariables false
set_option linter.unusedSimpArgs false
namespace Go.Pl
open Go Go.Lv
end Go.Pl
set_option linter.unusedVariables false
set_option linter.unusedSimpArgs false
namespace Go.Pl
open Go Go.Lv
end Go.Pl
set_option linter.unusedVariables false
set_option linter.unusedSimpArgs false
namespace Go.Pl
open Go Go.Lv
theorem Bev{c r n:Nat}(h:fitB c r n=true):1≤(framesL (longN r) n).length∧(framesL (longN r) n).length≤1000:=by
 simp only[fitB,decide_eq_true_eq]at h
 rw[Bbs];exact⟨Nat.le_add_left _ _,h.2⟩
end Go.Pl
set_option linter.unusedVariables false
set_option linter.unusedSimpArgs false
namespace Go.Pl
open Go Go.Lv
theorem Bsx(g:Nat):∀K:Nat,(List.replicate K (g:Int)).sum=((K*g:Nat):Int)
 |0=>by simp
 |K+1=>by
  rw[List.replicate_succ,List.sum_cons,Bsx g K,Nat.succ_mul];omega
theorem Bpp{g n:Nat}(hn:1≤n):(framesL g n).sum=(n:Int):=by
 have h:=Nat.div_mul_le_self (n-1) g
 rw[framesL,List.sum_append,Bsx]
 simp only[List.sum_cons,List.sum_nil]
 omega
theorem Bqr:∀{l:List Int},(∀x∈l,0≤x)→0≤l.sum
 |[],_=>by simp
 |x::l,h=>by
  have h1:=h x List.mem_cons_self
  have h2:=Bqr (l:=l) fun y hy=>h y (List.mem_cons_of_mem _ hy)
  rw[List.sum_cons];omega
theorem Avv{l:List Int}(h:∀x∈l,0≤x)(i:Nat):0≤(l.take i).sum∧(l.take i).sum≤l.sum:=by
 have h1:=Bqr (l:=l.take i) fun x hx=>h x (List.mem_of_mem_take hx)
 have h2:=Bqr (l:=l.drop i) fun x hx=>h x (List.mem_of_mem_drop hx)
 have:=Bjx l i
 omega
def Acx(c w:Nat)(fr:List Int)(k:Nat):Int:=(((fr.take k).sum.toNat*(c*wB (w:Int)):Nat):Int)
section
variable {f c w r n:Nat} (h1:shapeB f c w r n=true) (h2:fitB c r n=true)
include h1 h2
theorem Aml:(∀x∈framesL (longN r) n,0≤x)∧(framesL (longN r) n).sum=(n:Int)∧n≤4000:=by
 obtain⟨hc,hw,hr,hn,_⟩:=Aph h1
 have hfit:n≤4000/c:=by simp only[fitB,decide_eq_true_eq]at h2;exact h2.1
 have hn4:n≤4000:=by have:=Nat.div_le_self 4000 c;omega
 refine⟨fun x hx=>?_,Bpp hn,hn4⟩
 obtain⟨m,rfl,_⟩:=Acb (Vn r) hn hx
 omega
end
theorem Brx(C W:Nat)(fr:List Int):Acx C W fr 0=0:=by rw[Acx,List.take_zero,List.sum_nil];simp
theorem Bqn(C W:Nat){fr:List Int}(hp:∀z∈fr,0≤z){A m:Nat}(hA:A<fr.length)(hm:fr[A]=(m:Int)):Acx C W fr (A+1)=Acx C W fr A+((m*C*wB (W:Int):Nat):Int):=by
 have hs:0≤(fr.take A).sum:=by
  have:∀l:List Int,(∀z∈l,0≤z)→0≤l.sum:=by
   intro l
   induction l with
   |nil=>intro _;simp
   |cons a l ih=>intro h;rw[List.sum_cons];have:=h a (by simp);have:=ih (fun z hz=>h z (by simp[hz]));omega
  exact this _ fun z hz=>hp z (List.mem_of_mem_take hz)
 have e:(fr.take (A+1)).sum=(fr.take A).sum+m:=by rw[Akc hA,List.sum_append,List.sum_cons,List.sum_nil,hm];omega
 rw[Acx,Acx,e]
 have:((fr.take A).sum+(m:Int)).toNat=(fr.take A).sum.toNat+m:=by omega
 rw[this,Nat.add_mul,Nat.mul_assoc m]
 omega
end Go.Pl
