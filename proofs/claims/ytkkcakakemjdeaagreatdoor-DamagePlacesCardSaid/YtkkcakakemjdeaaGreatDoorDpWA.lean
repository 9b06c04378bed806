/- A part of the proof of a statement of this seat (see the text that ends in Proof): LwBase, LwBitB, LwLe, LwBits, LwRef02, LwCut, LwUn, LwRice, LwDual, LwVal, LwI32, LwFil, LwUnm, LwSam, LwCrc, LwFrm, LwC64, LwWby, LwId, LwApe, LwStrip, LwLen, LwHead, LwSeek, LwOpen, LwFrame, LwBack, LwGot, LwWs, LwGoes, LwPol. No conditions of its own. -/
import Derived.Test.YtkkcakakemjdeaaGreatDoorDpBA
import Derived.Test.YtkkcakakemjdeaaGreatDoorDpPA
set_option linter.unusedVariables false
set_option linter.unusedSimpArgs false
namespace Go.Lv
theorem Ag{a b:Int}(h: -9223372036854775808≤a+b)(h':a+b≤9223372036854775807):Ad a b=a+b:=by rw[Cbz,Bn h h']
theorem Be{a b:Int}(h: -9223372036854775808≤a-b)(h':a-b≤9223372036854775807):Ah a b=a-b:=by rw[Cby,Bn h h']
theorem Fx{a b:Int}(h: -9223372036854775808≤a*b)(h':a*b≤9223372036854775807):Ax a b=a*b:=by rw[Bwf,Bn h h']
theorem Agd(c:UInt8):(Ae c:Int)=(c.toNat:Int):=by rw[Bu4,Bn]<;>have:=c.toNat_lt<;>omega
theorem Bnq(c:UInt32):(Ae c:Int)=(c.toNat:Int):=by rw[Bth,Bn]<;>have:=c.toNat_lt<;>omega
theorem Auz(c:UInt8):(Ae c:UInt64)=UInt64.ofNat c.toNat:=by simp only[Ae,Vp,Fq]
theorem Gk(c:UInt32):(Ae c:UInt64)=UInt64.ofNat c.toNat:=by simp only[Ae,Sg,Fq]
theorem An6(c:UInt64):(Ae c:UInt8)=UInt8.ofNat c.toNat:=by simp only[Ae,Gs,Jj]
theorem Avs(c:UInt32):(Ae c:UInt8)=UInt8.ofNat c.toNat:=by simp only[Ae,Sg,Jj]
theorem Wd(n:Nat):(Ae (n:Int):UInt64)=UInt64.ofNat n:=by simp only[Ae];exact Fq n
theorem Bf4(n:Nat):(Ae (n:Int):UInt32)=UInt32.ofNat n:=by simp only[Ae];exact Dj n
theorem Bvk(n:Nat):(Ae (n:Int):UInt8)=UInt8.ofNat n:=by simp only[Ae];exact Jj n
theorem Ax2{c:UInt64}(h:c.toNat<9223372036854775808):(Ae c:Int)=(c.toNat:Int):=by rw[Btk,Bn]<;>omega
theorem Bqa:LIM=17179869184:=by decide
theorem Ak:36893488147419103231<Am:=by decide
theorem Bw{α:Type}{l:List α}{n:Nat}(h:n<l.length):getI l (n:Int)=some l[n]:=by simp[getI,h]
theorem Th{α:Type}{l:List α}{n:Nat}(x:α)(h:n<l.length):If l (n:Int) x=some (l.set n x):=by simp[If,h]
theorem Mx{α:Type}{l:List α}{a b:Int}(h:0≤a)(h1:a≤b)(h2:b≤l.length):Bp l a b=some ((l.take b.toNat).drop a.toNat):=by rw[Bp,if_pos ⟨h,h1,h2⟩]
theorem Fj{α:Type}{l:List α}{a:Int}(h:0≤a)(h1:a≤l.length):Bp l a (Ac l)=some (l.drop a.toNat):=by
 unfold Ac;rw[Mx h h1 (Int.le_refl _),Int.toNat_natCast,List.take_length]
theorem Ib{α:Type}{l:List α}{b:Int}(h:0≤b)(h1:b≤l.length):Bp l 0 b=some (l.take b.toNat):=by rw[Mx (Int.le_refl _) h h1];rfl
theorem Fs{α:Type}{l m:List α}(h:l.length+m.length≤17179869184):Ev l m=some (l++m):=by rw[Ev,Bqa,if_pos h]
theorem Bet{α:Type}{n:Int}{z:α}(h:0≤n)(h':n≤17179869184):mkI n z=some (List.replicate n.toNat z):=by rw[mkI,Bqa,if_pos ⟨h,h'⟩]
theorem Cg{b:Bool}(h:b=true):Hp b=some ():=by rw[h];rfl
theorem Aa{α β:Type}(a:α)(f:α→Option β):Option.bind (some a) f=f a:=rfl
theorem drop_cons{α:Type}{l:List α}{n:Nat}(h:n<l.length):l.drop n=l[n]::l.drop (n+1):=List.drop_eq_getElem_cons h
theorem Agh{α:Type}{l:List α}{n:Nat}(h:n<l.length):l.take (n+1)=l.take n++[l[n]]:=by rw[List.take_add_one,List.getElem?_eq_getElem h];rfl
def Dd:List UInt8→Nat
 |[]=>0
 |x::r=>x.toNat+256*Dd r
theorem Bjh:∀l:List UInt8,Dd l<256^l.length
 |[]=>by simp[Dd]
 |x::r=>by
  have h:=Bjh r
  have:=x.toNat_lt
  simp only[Dd,List.length_cons,Nat.pow_succ]
  omega
theorem Be5:∀l m:List UInt8,Dd (l++m)=Dd l+256^l.length*Dd m
 |[],m=>by simp[Dd]
 |x::r,m=>by
  simp only[Dd,List.cons_append,Be5 r m,List.length_cons,Nat.pow_succ,Nat.mul_add]
  rw[Nat.mul_comm (256^r.length) 256,Nat.mul_assoc];omega
def leU(l:List UInt8):UInt64:=UInt64.ofNat (Dd l)
theorem Byy{l:List UInt8}(h:l.length≤8):Dd l<18446744073709551616:=by
 have h1:=Bjh l
 have h2:256^l.length≤256^8:=Nat.pow_le_pow_right (by omega) h
 exact Nat.lt_of_lt_of_le h1 (by simpa using h2)
theorem Bqg{l:List UInt8}(h:l.length≤4):Dd l<4294967296:=by
 have h1:=Bjh l
 have h2:256^l.length≤256^4:=Nat.pow_le_pow_right (by omega) h
 exact Nat.lt_of_lt_of_le h1 (by simpa using h2)
theorem Aj4{l:List UInt8}(h:l.length≤8):(leU l).toNat=Dd l:=by
 rw[leU,UInt64.toNat_ofNat',Nat.mod_eq_of_lt (Byy h)]
theorem Acy{l:List UInt8}(h:l.length≤4):(Ae (leU l):Int)=(Dd l:Int):=by
 have:=Bqg h
 rw[Ax2]<;>rw[Aj4 (by omega)];omega
def leB(n:Nat):Nat→List UInt8
 |0=>[]
 |w+1=>UInt8.ofNat n::leB (n/256) w
theorem Ld:∀(w n:Nat),(leB n w).length=w
 |0,_=>rfl
 |w+1,n=>by simp[leB,Ld w]
theorem Bm3:∀(w n:Nat),leB n (w+1)=leB n w++[UInt8.ofNat (n/256^w)]
 |0,n=>by simp[leB]
 |w+1,n=>by
  rw[leB,Bm3 w (n/256),leB]
  simp[Nat.div_div_eq_div_mul,Nat.pow_succ,Nat.mul_comm]
end Go.Lv
set_option linter.unusedVariables false
set_option linter.unusedSimpArgs false
namespace Go.Lv
def Ia(p:List UInt8)(i:Nat):Nat:=(p.getD (i/8) 0).toNat/2^(i %8) %2
theorem Uj(p:List UInt8)(i:Nat):Ia p i<2:=Nat.mod_lt _ (by omega)
def Br(p:List UInt8):Nat→Nat→Nat
 |_,0=>0
 |a,n+1=>Ia p a+2*Br p (a+1) n
theorem Nx(p:List UInt8):∀(n a:Nat),Br p a n<2^n
 |0,_=>by simp[Br]
 |n+1,a=>by
  have:=Nx p n (a+1)
  have:=Uj p a
  rw[Br,Nat.pow_succ];omega
theorem Aiz(p:List UInt8):∀(m n a:Nat),Br p a (m+n)=Br p a m+2^m*Br p (a+m) n
 |0,n,a=>by simp[Br]
 |m+1,n,a=>by
  rw[show m+1+n=(m+n)+1 by omega,Br,Br,Aiz p m n (a+1),show a+1+m=a+(m+1) by omega,Nat.pow_succ,Nat.mul_add,Nat.mul_comm (2^m) 2,Nat.mul_assoc];omega
theorem Bm2(p:List UInt8)(a:Nat):Br p a 1=Ia p a:=by simp[Br]
theorem Bhi(p:List UInt8)(a n:Nat):Br p a (n+1)=Br p a n+2^n*Ia p (a+n):=by rw[Aiz p n 1 a,Bm2]
theorem Ay1(p:List UInt8)(a:Nat):∀t:Nat,a %8+t≤8→Br p a t=(p.getD (a/8) 0).toNat/2^(a %8) %2^t
 |0,_=>by simp[Br,Nat.mod_one]
 |t+1,h=>by
  have h1:(a+t)/8=a/8:=by omega
  have h2:(a+t) %8=a %8+t:=by omega
  rw[Bhi,Ay1 p a t (by omega),Ia,h1,h2,Nat.mod_pow_succ,Nat.pow_add,Nat.div_div_eq_div_mul]
theorem Bht{p:List UInt8}:∀(n a:Nat),(∀k,k<n→Ia p (a+k)=0)→Br p a n=0
 |0,_,_=>rfl
 |n+1,a,h=>by
  have h0:=h 0 (by omega)
  rw[Br,Bht n (a+1) fun k hk=>by have:=h (k+1) (by omega);rwa [show a+1+k=a+(k+1) by omega]]
  rw[Nat.add_zero]at h0;omega
def okB(p:List UInt8)(n:Nat):Prop:=n≤330000∧p.length=(n+7)/8∧∀k,n≤k→k<8*p.length→Ia p k=0
def Ace(p:List UInt8)(a n:Nat):List UInt8:=(List.range ((n+7)/8)).map fun j=>UInt8.ofNat (Br p (a+8*j) (min 8 (n-8*j)))
theorem Le(p:List UInt8)(a n:Nat):(Ace p a n).length=(n+7)/8:=by simp[Ace]
theorem Bl6(p:List UInt8):∀(n a k:Nat),k<n→Br p a n/2^k %2=Ia p (a+k)
 |n+1,a,0,_=>by have:=Uj p a;rw[Br];simp;omega
 |n+1,a,k+1,h=>by
  have hb:=Uj p a
  have e:(Ia p a+2*Br p (a+1) n)/2=Br p (a+1) n:=by omega
  rw[Br,Nat.pow_succ,Nat.mul_comm (2^k) 2,←Nat.div_div_eq_div_mul,e,Bl6 p n (a+1) k (by omega),show a+1+k=a+(k+1) by omega]
theorem Bry(p:List UInt8)(n a k:Nat)(h:n≤k):Br p a n/2^k %2=0:=by
 have:=Nx p n a
 rw[Nat.div_eq_of_lt (Nat.lt_of_lt_of_le this (Nat.pow_le_pow_right (by omega) h))]
theorem Bun(p:List UInt8)(a n k:Nat):Ia (Ace p a n) k=if k<n then Ia p (a+k)else 0:=by
 rw[Ia]
 by_cases hj:k/8<(n+7)/8
 ·have e:(Ace p a n).getD (k/8) 0=UInt8.ofNat (Br p (a+8*(k/8)) (min 8 (n-8*(k/8)))):=by
   rw[List.getD_eq_getElem?_getD,List.getElem?_eq_getElem (by rw[Le];exact hj)];simp[Ace]
  have hlt:Br p (a+8*(k/8)) (min 8 (n-8*(k/8)))<256:=by
   have:=Nx p (min 8 (n-8*(k/8))) (a+8*(k/8))
   have h2:2^(min 8 (n-8*(k/8)))≤2^8:=Nat.pow_le_pow_right (by omega) (by omega)
   omega
  have hu:(UInt8.ofNat (Br p (a+8*(k/8)) (min 8 (n-8*(k/8))))).toNat=Br p (a+8*(k/8)) (min 8 (n-8*(k/8))):=by
   rw[UInt8.toNat_ofNat'];exact Nat.mod_eq_of_lt hlt
  rw[e,hu]
  by_cases hk:k<n
  ·rw[if_pos hk,Bl6 p _ _ _ (by omega),show a+8*(k/8)+k %8=a+k by omega]
  ·rw[if_neg hk,Bry p _ _ _ (by omega)]
 ·have e:(Ace p a n).getD (k/8) 0=0:=by
   rw[List.getD_eq_getElem?_getD,List.getElem?_eq_none (by rw[Le];omega)];rfl
  rw[e,if_neg (by omega)];simp
theorem Brm(p:List UInt8)(a n:Nat)(h:n≤330000):okB (Ace p a n) n:=⟨h,Le p a n,fun k hk _=>by rw[Bun,if_neg (by omega)]⟩
end Go.Lv
set_option linter.unusedVariables false
set_option linter.unusedSimpArgs false
namespace Go.Pl
open Go Go.Lv
theorem Bux(b:List UInt8)(hb:b.length<4611686018427387904):∀(j q:Nat),j≤b.length→j<q→Jw b q (leU (b.drop j)) ((j:Int)-1)=some (leU b)
 |0,q+1,_,_=>by
  rw[Jw,Vi,if_neg (by rw[Du];simp)]
  simp[Ago,Aic]
 |j+1,q+1,hj,hq=>by
  rw[Jw,Vi,if_pos (by rw[Du];simp),show((j+1:Nat):Int)-1=(j:Int) by omega,Bw (by omega),Aa,Be (by omega) (by omega)]
  have h:Ad (Ax (256:UInt64) (leU (b.drop (j+1)))) (Ae b[j]:UInt64)=leU (b.drop j):=by
   rw[Ad4,Adq,Auz,drop_cons (n:=j) (by omega),leU,leU,Dd,UInt64.ofNat_add,UInt64.ofNat_mul]
   exact UInt64.add_comm _ _
  rw[h]
  exact Bux b hb j q (by omega) (by omega)
theorem Blm(b:List UInt8)(hb:b.length<4611686018427387904):Cd b=some (leU b):=by
 have h:=Bux b hb b.length Am (Nat.le_refl _) (by have:=Ak;omega)
 rw[Cd,Ah9,Ag3]
 have e:Ah (Ac b) 1=(b.length:Int)-1:=Be (by unfold Ac;omega) (by unfold Ac;omega)
 rw[e,←h,List.drop_length];rfl
theorem Bv7{n c:UInt64}{i:Nat}(hn:n.toNat<2^i)(hc:c.toNat*2^i<18446744073709551616):gor n (Ct c i)=UInt64.ofNat (n.toNat+c.toNat*2^i):=by
 rw[Bz1];apply UInt64.toNat_inj.1
 rw[UInt64.toNat_or,Al6,Nat.mod_eq_of_lt hc,Nat.mul_comm,Nat.or_comm,←Nat.two_pow_add_eq_or_of_lt hn,UInt64.toNat_ofNat',Nat.mod_eq_of_lt,Nat.add_comm,Nat.mul_comm]
 have h:=Nat.two_pow_add_eq_or_of_lt hn c.toNat
 have h2:2^i*c.toNat+n.toNat<2^64:=by
  rw[h]
  exact Nat.or_lt_two_pow (by rw[Nat.mul_comm];simpa using hc) n.toNat_lt
 rw[Nat.add_comm];first|exact h2|(rw[Nat.mul_comm];exact h2)
theorem Bgc(b:List UInt8)(hb:b.length≤8):∀(j i q:Nat),i+j=b.length→j<q→Wq b q (leU (b.take i)) (i:Int)=some (leU b,0)
 |0,i,q+1,hi,_=>by
  rw[Wq,Ajy,if_neg (by rw[Af,Ac];simp;omega),show i=b.length by omega,List.take_length];rfl
 |j+1,i,q+1,hi,hq=>by
  have hlt:i<b.length:=by omega
  rw[Wq,Ajy,if_pos (by rw[Af,Ac];simp;omega),Bw hlt,Aa,Fx (by omega) (by omega),Cg (by rw[Du];simp;omega),Aa,Ag (by omega) (by omega)]
  have h:gor (leU (b.take i)) (Ct (Ae b[i]:UInt64) (GI.toZ ((8:Int)*(i:Int))).toNat)=leU (b.take (i+1)):=by
   have e:(GI.toZ ((8:Int)*(i:Int))).toNat=8*i:=by show((8:Int)*(i:Int)).toNat=_;omega
   have e2:(2:Nat)^(8*i)=256^i:=by rw[Nat.pow_mul]
   have h1:=Bjh (b.take i)
   rw[List.length_take,Nat.min_eq_left (by omega)]at h1
   have h3:=b[i].toNat_lt
   have hle:(256:Nat)^(i+1)≤256^8:=Nat.pow_le_pow_right (by omega) (by omega)
   rw[Nat.pow_succ]at hle
   have h4:(Ae b[i]:UInt64).toNat=b[i].toNat:=by rw[Auz,UInt64.toNat_ofNat'];omega
   have h5:b[i].toNat*256^i<18446744073709551616:=by
    have:b[i].toNat*256^i<256*256^i:=Nat.mul_lt_mul_of_pos_right (by simpa using h3) (Nat.pow_pos (by omega))
    simp at hle;omega
   rw[e,Bv7 (by rw[Aj4 (by simp;omega),e2];exact h1) (by rw[h4,e2];exact h5),Aj4 (by simp;omega),h4,e2,Agh hlt]
   rw[leU,Be5]
   simp only[Dd,List.length_take,Nat.min_eq_left (Nat.le_of_lt hlt),Nat.mul_zero,Nat.add_zero]
   rw[Nat.mul_comm]
  rw[h]
  exact Bgc b hb j (i+1) q (by omega) (by omega)
theorem Bkx(b:List UInt8)(h1:1≤b.length)(h2:b.length≤8):Aqk b=some (leU b,0):=by
 have h:=Bgc b h2 b.length 0 Am (by omega) (by have:=Ak;omega)
 rw[Aqk,Aql,if_neg (by simp[Af,Ao,Ac];omega),Aqa]
 exact h
def part(b:List UInt8)(at' w:Nat):List UInt8:=(b.take (at'+w)).drop at'
theorem Cl{b:List UInt8}{a w:Nat}(h:a+w≤b.length):(part b a w).length=w:=by simp[part];omega
theorem Bgi(b:List UInt8)(a w:Nat)(h1:1≤w)(h2:w≤8)(h3:a+w≤b.length)(hb:b.length<4611686018427387904):Al5 b (a:Int) (w:Int)=some (leU (part b a w),0):=by
 rw[Al5,if_neg (by simp[Af,Ao];omega),if_neg (by rw[Ao,Be (by unfold Ac;omega) (by unfold Ac;omega),Ac];simp;omega),Ag (by omega) (by omega),Mx (by omega) (by omega) (by omega),Aa]
 rw[show((a:Int)+(w:Int)).toNat=a+w by omega,show(a:Int).toNat=a by omega]
 rw[Bkx _ (by rw[show((b.take (a+w)).drop a).length=_ from Cl h3];exact h1) (by rw[show((b.take (a+w)).drop a).length=_ from Cl h3];exact h2),Aa];rfl
theorem Baa(w:Nat)(hw:w≤1000):∀(j i q:Nat) (n:UInt64) (acc:List UInt8),i+j=w→j<q→acc.length+j≤1000000→Fl (w:Int) q n (i:Int) acc=some (acc++leB n.toNat j)
 |0,i,q+1,n,acc,hi,_,_=>by
  rw[Fl,Me,if_neg (by rw[Af];simp;omega)]
  simp[Wh,Wl,leB]
 |j+1,i,q+1,n,acc,hi,hq,ha=>by
  rw[Fl,Me,if_pos (by rw[Af];simp;omega)]
  have e:(Ae (Xg n (256:UInt64)):UInt8)=UInt8.ofNat n.toNat:=by
   rw[An6,Bj7];apply UInt8.toNat_inj.1
   rw[UInt8.toNat_ofNat',UInt8.toNat_ofNat',UInt64.toNat_mod]
   show n.toNat %256 %256=_
   omega
  have e2:(By n (256:UInt64)).toNat=n.toNat/256:=by rw[Axg,UInt64.toNat_div];rfl
  rw[Fs (by simp;omega),Aa,Ag (by omega) (by omega),e]
  have h:=Baa w hw j (i+1) q (By n 256) (acc++[UInt8.ofNat n.toNat]) (by omega) (by omega) (by simp;omega)
  rw[e2]at h
  rw[show((i:Int)+1)=((i+1:Nat):Int) by omega,h,leB];simp
theorem Bch(n:UInt64)(w:Nat)(hw:w≤1000):Cr n (w:Int)=some (leB n.toNat w):=by
 rw[Cr,Ww,Wc]
 have h:=Baa w hw w 0 Am n [] (by omega) (by have:=Ak;omega) (by simp;omega)
 simpa using h
theorem As6{α:Type}{l m:List α}{x y:α}{i:Nat}(h:l.length=i):(l++x::m).set i y=l++y::m:=by subst h;simp
theorem Bgu(n:UInt64)(l4:List UInt8)(w:Nat)(hl:l4.length=w)(hw:w≤8):∀(j i q:Nat),i+j=w→j<q→We n l4 q (i:Int) (leB n.toNat i++List.replicate j 0)=some (leB n.toNat w,0)
 |0,i,q+1,hi,_=>by
  rw[We,Aj8,if_neg (by rw[Af,Ac];simp;omega)]
  obtain rfl:i=w:=by omega
  simp[Arr,Bab]
 |j+1,i,q+1,hi,hq=>by
  have hlen:(leB n.toNat i++List.replicate (j+1) 0).length=i+(j+1):=by simp[Ld]
  rw[We,Aj8,if_pos (by rw[Af,Ac];simp;omega),Fx (by omega) (by omega),Cg (by rw[Du];simp;omega),Aa,Bw (by rw[hlen];omega),Aa,Th _ (by rw[hlen];omega),Aa,Ag (by omega) (by omega)]
  have e:(Ae (Bj n (GI.toZ ((8:Int)*(i:Int))).toNat):UInt8)=UInt8.ofNat (n.toNat/256^i):=by
   have e:(GI.toZ ((8:Int)*(i:Int))).toNat=8*i:=by show((8:Int)*(i:Int)).toNat=_;omega
   rw[e,An6,Adn,Nat.pow_mul]
  rw[e,List.replicate_succ,As6 (Ld _ _)]
  have h:=Bgu n l4 w hl hw j (i+1) q (by omega) (by omega)
  rw[Bm3]at h
  simpa using h
theorem Bzs(n:UInt64)(w:Nat)(h1:1≤w)(h2:w≤8)(h:n.toNat<256^w):Ba4 n (w:Int)=some true:=by
 rw[Ba4]
 by_cases h8:w=8
 ·subst h8;rw[if_pos (by rw[Az];rfl)]
 ·rw[if_neg (by rw[Az];simp;omega),Fx (by omega) (by omega),Cg (by rw[Du];simp;omega),Aa]
  have e:(GI.toZ ((8:Int)*(w:Int))).toNat=8*w:=by show((8:Int)*(w:Int)).toNat=_;omega
  rw[e,Bbg]
  have:Bj n (8*w)=0:=by
   apply UInt64.toNat_inj.1
   rw[Adn,Nat.pow_mul]
   exact Nat.div_eq_of_lt h
  rw[this];rfl
theorem Bkd(n:UInt64)(w:Nat)(h1:1≤w)(h2:w≤8)(h:n.toNat<256^w):Un n (w:Int)=some (leB n.toNat w,0):=by
 rw[Un,Ar4,if_neg (by simp[Af,Ao];omega),Bzs n w h1 h2 h,Aa,if_neg (by simp),Bet (by omega) (by omega),Aa,Cg (by rw[Az];simp),Aa,Ar6]
 have h:=Bgu n (List.replicate (w:Int).toNat 0) w (by simp) h2 w 0 Am (by omega) (by have:=Ak;omega)
 simpa [leB]using h
end Go.Pl
set_option linter.unusedVariables false
set_option linter.unusedSimpArgs false
namespace Go.Pl
open Go Go.Lv
theorem Bla(n:Nat)(h:n<4611686018427387904):Cy (n:Int) (7:Int)=((n %8:Nat):Int):=by
 have e:Cy (n:Int) (7:Int)=wrap64 ((BitVec.ofInt 64 (n:Int)&&&BitVec.ofInt 64 7).toNat:Int):=rfl
 rw[e,BitVec.toNat_and,BitVec.toNat_ofInt,BitVec.toNat_ofInt]
 have h1:((n:Int) %((2^64:Nat):Int)).toNat=n:=by omega
 have h2:((7:Int) %((2^64:Nat):Int)).toNat=2^3-1:=by decide
 rw[h1,h2,Nat.and_two_pow_sub_one_eq_mod,Bn (by omega) (by omega)]
theorem Cdx(n:Nat):Bjf (n:Int) (GI.toZ (3:UInt64)).toNat=((n/8:Nat):Int):=by
 have e:Bjf (n:Int) (GI.toZ (3:UInt64)).toNat=(n:Int).fdiv 8:=rfl
 rw[e,Int.fdiv_eq_ediv_of_nonneg _ (by omega)];omega
theorem Cef{t:Nat}(h:t≤8):Ah (Ct (1:UInt8) t) (1:UInt8)=UInt8.ofNat (2^t-1):=by
 have:t=0∨t=1∨t=2∨t=3∨t=4∨t=5∨t=6∨t=7∨t=8:=by omega
 rcases this with rfl|rfl|rfl|rfl|rfl|rfl|rfl|rfl|rfl<;>decide
theorem bitsOf(c:UInt8)(off t:Nat)(h:t≤8):(Cy (Bj c off) (Ah (Ct (1:UInt8) t) (1:UInt8))).toNat=c.toNat/2^off %2^t:=by
 have hp:2^t≤2^8:=Nat.pow_le_pow_right (by omega) h
 rw[Cef h,By8,UInt8.toNat_and,Bqn,UInt8.toNat_ofNat',Nat.mod_eq_of_lt (by have:=Nat.pow_pos (n:=t) (show 0<2 by omega);omega),Nat.and_two_pow_sub_one_eq_mod]
theorem Be2{p:List UInt8}{k:Nat}(h:k<p.length):getI p (k:Int)=some (p.getD k 0):=by
 rw[Bw h];simp[List.getD_eq_getElem?_getD,h]
def Ru(p:List UInt8)(a n:Nat):UInt64:=UInt64.ofNat (Br p a n)
theorem Xt(p:List UInt8)(a n:Nat)(h:n≤64):(Ru p a n).toNat=Br p a n:=by
 have h1:=Nx p n a
 have h2:2^n≤2^64:=Nat.pow_le_pow_right (by omega) h
 rw[Ru,UInt64.toNat_ofNat',Nat.mod_eq_of_lt (by omega)]
theorem Bmu(p:List UInt8)(N:Int)(a n:Nat)(hn:n≤64)(ha:a+n≤8*p.length)(hp:p.length≤1000000):∀(j h q:Nat),h+j=n→j<q→Ac5 (a:Int) (n:Int) p N q (Ru p a h) (h:Int)=some (Ru p a n)
 |j,h,q+1,hj,hq=>by
  rw[Ac5,Ar3]
  by_cases hlt:h<n
  ·have e1:Ad (a:Int) (h:Int)=((a+h:Nat):Int):=by rw[Ag (by omega) (by omega)];omega
   have e2:Da (Ah (n:Int) (h:Int)) (Ah (8:Int) (((a+h) %8:Nat):Int))=((min (n-h) (8-(a+h) %8):Nat):Int):=by
    rw[Ahb,Be (by omega) (by omega),Be (by omega) (by omega)];omega
   have hm:(a+h)/8<p.length:=by omega
   rw[if_pos (by rw[Af];simp;omega),e1,Cdx,Be2 hm,Aa,Bla _ (by omega),Cg (by rw[Du];simp;omega),Aa,e2,Cg (by rw[Du];simp),Aa,Cg (by rw[Du];simp),Aa]
   generalize hT:min (n-h) (8-(a+h) %8)=T
   have hT8:T≤8:=by omega
   have hT1:1≤T:=by omega
   have hb:(a+h) %8+T≤8:=by omega
   have hv:=Ay1 p (a+h) T hb
   have z1:(GI.toZ (((a+h) %8:Nat):Int)).toNat=(a+h) %8:=rfl
   have z2:(GI.toZ ((T:Nat):Int)).toNat=T:=rfl
   have z3:(GI.toZ ((h:Nat):Int)).toNat=h:=rfl
   rw[z1,z2,z3]
   have hx:(Ae (Cy (Bj (p.getD ((a+h)/8) 0) ((a+h) %8)) (Ah (Ct (1:UInt8) T) (1:UInt8))):UInt64).toNat=Br p (a+h) T:=by
    rw[Auz,UInt64.toNat_ofNat',bitsOf _ _ _ hT8,←hv]
    have:=Nx p T (a+h)
    have h2:2^T≤2^8:=Nat.pow_le_pow_right (by omega) hT8
    omega
   have hlt2:=Nx p (h+T) a
   rw[Aiz]at hlt2
   have h64:2^(h+T)≤2^64:=Nat.pow_le_pow_right (by omega) (by omega)
   have hor:gor (Ru p a h) (Ct (Ae (Cy (Bj (p.getD ((a+h)/8) 0) ((a+h) %8)) (Ah (Ct (1:UInt8) T) (1:UInt8))):UInt64) h)=Ru p a (h+T):=by
    rw[Bv7 (by rw[Xt p a h (by omega)];exact Nx p h a) (by rw[hx,Nat.mul_comm];omega),hx,Xt p a h (by omega),Ru,Aiz,Nat.mul_comm (2^h)]
   rw[hor,Ag (by omega) (by omega),show(h:Int)+((T:Nat):Int)=((h+T:Nat):Int) by omega]
   exact Bmu p N a n hn ha hp (j-T) (h+T) q (by omega) (by omega)
  ·rw[if_neg (by rw[Af];simp;omega),show h=n by omega];rfl
theorem get_eq(p:List UInt8)(N:Int)(a n:Nat)(hn:n≤64)(ha:a+n≤8*p.length)(hp:p.length≤1000000):Aw1 p N (a:Int) (n:Int)=some (Ru p a n):=by
 have:=Bmu p N a n hn ha hp n 0 Am (by omega) (by have:=Ak;omega)
 exact this
theorem Agg{p:List UInt8}{n:Nat}(h:okB p n):Hi p (n:Int)=some 0:=by
 obtain⟨h1,h2,h3⟩:=h
 have e7:Ad (n:Int) 7=((n+7:Nat):Int):=by rw[Ag (by omega) (by omega)];omega
 rw[Hi,e7,Cdx,if_neg (by simp[Af,Ao,Aj,Ac,h2];omega),Bla _ (by omega)]
 by_cases hz:n %8=0
 ·rw[if_neg (by rw[Ao];simp;omega)]
 ·have el:Ah (Ac p) 1=((p.length-1:Nat):Int):=by rw[Ac,Be (by omega) (by omega)];omega
  rw[if_pos (by rw[Ao];simp;omega),el,Be2 (by omega),Aa,Cg (by rw[Du];simp;omega),Aa]
  have z:(GI.toZ ((n %8:Nat):Int)).toNat=n %8:=rfl
  have hs:Bj (p.getD (p.length-1) 0) (n %8)=0:=by
   apply UInt8.toNat_inj.1
   rw[Bqn]
   have hv:=Ay1 p n (8-n %8) (by omega)
   have h0:Br p n (8-n %8)=0:=Bht _ _ fun k hk=>h3 _ (by omega) (by omega)
   rw[h0,show n/8=p.length-1 by omega]at hv
   have hlt:(p.getD (p.length-1) 0).toNat/2^(n %8)<2^(8-n %8):=by
    have:=(p.getD (p.length-1) 0).toNat_lt
    rw[Nat.div_lt_iff_lt_mul (Nat.pow_pos (by omega)),←Nat.pow_add,show 8-n %8+n %8=8 by omega];simpa using this
   rw[Nat.mod_eq_of_lt hlt]at hv
   exact hv.symm
  rw[z,hs,if_neg (by rw[Bot];simp)]
theorem Aym{p:List UInt8}{N:Nat}(h:okB p N)(a n:Nat)(hn:n≤64):Zg p (N:Int) (a:Int) (n:Int)=some (if N<a+n then(0,24)else(Ru p a n,0)):=by
 obtain⟨h1,h2,h3⟩:=h
 rw[Zg,Agg ⟨h1,h2,h3⟩,Aa,if_neg (by rw[Aj];simp),if_neg (by simp[Af,Ao];omega),Be (by omega) (by omega)]
 by_cases hl:N<a+n
 ·rw[if_pos (by rw[Ao];simp;omega),if_pos hl]
 ·rw[if_neg (by rw[Ao];simp;omega),get_eq p N a n hn (by omega) (by omega),Aa,if_neg hl]
end Go.Pl
set_option linter.unusedVariables false
set_option linter.unusedSimpArgs false
namespace Go.Pl
open Go Go.Lv
theorem Cew(c:Nat)(h:c<4611686018427387904):By (c:Int) (2:Int)=((c/2:Nat):Int):=by
 rw[Aew,Int.tdiv_eq_ediv_of_nonneg (by omega),Bn (by omega) (by omega)];omega
theorem Cdb(c:Nat)(h:c<4611686018427387904):By (c:Int) (8:Int)=((c/8:Nat):Int):=by
 rw[Aew,Int.tdiv_eq_ediv_of_nonneg (by omega),Bn (by omega) (by omega)];omega
theorem Bxa(c:Nat):Fh (c:Int) (8:Int)=((c %8:Nat):Int):=by rw[Fh,Int.tmod_eq_emod_of_nonneg (by omega)];omega
theorem Ces(c:Nat):Fh (c:Int) (2:Int)=((c %2:Nat):Int):=by rw[Fh,Int.tmod_eq_emod_of_nonneg (by omega)];omega
theorem Bqy(i c:Nat)(hc:c<256):∀(j k q:Nat),k+j=i %8→j<q→Kb (i:Int) q ((c/2^k:Nat):Int) (k:Int)=some (((c/2^(i %8) %2:Nat):Int))
 |0,k,q+1,hk,_=>by
  rw[Kb,Vn,Bxa,if_neg (by rw[Af];simp;omega),Ahk,Ahe,Ces,show k=i %8 by omega]
 |j+1,k,q+1,hk,hq=>by
  have hle:c/2^k≤c:=Nat.div_le_self _ _
  rw[Kb,Vn,Bxa,if_pos (by rw[Af];simp;omega),Cew _ (by omega),Ag (by omega) (by omega),Nat.div_div_eq_div_mul,←Nat.pow_succ]
  exact Bqy i c hc j (k+1) q (by omega) (by omega)
theorem Ayz(p:List UInt8)(N:Int)(i:Nat)(h:i/8<p.length)(hi:i<4611686018427387904):Ij p N (i:Int)=some ((Ia p i:Nat):Int):=by
 have hc:=(p.getD (i/8) 0).toNat_lt
 have:=Bqy i (p.getD (i/8) 0).toNat (by simpa using hc) (i %8) 0 Am (by omega) (by have:=Ak;omega)
 rw[Ij,Agx,Cdb _ hi,Be2 h,Aa,Agd,Agp]
 simpa [Ia]using this
theorem Be9(p:List UInt8)(N:Int)(a n:Nat)(ha:a+n≤8*p.length)(hp:p.length≤1000000):∀(j q:Nat),j≤n→j<q→Hb (a:Int) p N q (Ru p (a+j) (n-j)) ((j:Int)-1)=some (Ru p a n)
 |0,q+1,_,_=>by
  rw[Hb,Pg,if_neg (by rw[Du];simp)];rfl
 |j+1,q+1,hj,hq=>by
  have hb:=Uj p (a+j)
  rw[Hb,Pg,show((j+1:Nat):Int)-1=(j:Int) by omega,if_pos (by rw[Du];simp),Ag (a:=(a:Int)) (by omega) (by omega),show(a:Int)+(j:Int)=((a+j:Nat):Int) by omega,Ayz p N (a+j) (by omega) (by omega),Aa,Be (by omega) (by omega)]
  have e:Ad (Ax (2:UInt64) (Ru p (a+(j+1)) (n-(j+1)))) (Ae ((Ia p (a+j):Nat):Int):UInt64)=Ru p (a+j) (n-j):=by
   rw[Ad4,Adq,Wd,Ru,Ru,show n-j=(n-(j+1))+1 by omega,Br,show a+j+1=a+(j+1) by omega,UInt64.ofNat_add,UInt64.ofNat_mul]
   exact UInt64.add_comm _ _
  rw[e]
  exact Be9 p N a n ha hp j q (by omega) (by omega)
theorem Au8(p:List UInt8)(N:Int)(a n:Nat)(ha:a+n≤8*p.length)(hp:p.length≤1000000):Nv p N (a:Int) (n:Int)=some (Ru p a n):=by
 have:=Be9 p N a n ha hp n Am (Nat.le_refl _) (by have:=Ak;omega)
 have hz:Ru p (a+n) (n-n)=0:=by rw[Nat.sub_self];rfl
 rw[hz]at this
 rw[Nv,Abe,Abc,Be (by omega) (by omega)]
 exact this
theorem Bqi(bit:Int)(N:Nat)(l:List UInt8):∀(j k q:Nat),k+j=N %8→j<q→Iu bit (N:Int) l q ((2^k:Nat):Int) (k:Int)=Ua bit ((2^(N %8):Nat):Int) (N:Int) l
 |0,k,q+1,hk,_=>by
  rw[Iu,Tl,Bxa,if_neg (by rw[Af];simp;omega),show k=N %8 by omega]
 |j+1,k,q+1,hk,hq=>by
  have hp:2^k≤2^8:=Nat.pow_le_pow_right (by omega) (by omega)
  have e:Ax ((2^k:Nat):Int) 2=((2^(k+1):Nat):Int):=by
   rw[Nat.pow_succ]
   generalize 2^k=K at*
   rw[Fx (by omega) (by omega)];omega
  rw[Iu,Tl,Bxa,if_pos (by rw[Af];simp;omega),e,Ag (by omega) (by omega)]
  exact Bqi bit N l j (k+1) q (by omega) (by omega)
theorem Bev(p:List UInt8)(a n j:Nat)(h:j<(n+7)/8):(Ace p a n)[j]'(by rw[Le];exact h)=UInt8.ofNat (Br p (a+8*j) (min 8 (n-8*j))):=by simp[Ace]
theorem Bly(p:List UInt8)(a t:Nat)(h:t≤8):Br p a t<256:=by
 have h1:=Nx p t a
 have h2:2^t≤2^8:=Nat.pow_le_pow_right (by omega) h
 omega
def room(p:List UInt8)(a n:Nat):List UInt8:=if n %8=0 then Ace p a n++[0]else Ace p a n
theorem Um(p:List UInt8)(a n:Nat):(room p a n).length=n/8+1:=by
 rw[room];split<;>simp[Le]<;>omega
theorem Bls(p:List UInt8)(a n j:Nat)(h:j<n/8+1):(room p a n)[j]'(by rw[Um];exact h)=UInt8.ofNat (Br p (a+8*j) (min 8 (n-8*j))):=by
 have h0:(room p a n)[j]? =some (UInt8.ofNat (Br p (a+8*j) (min 8 (n-8*j)))):=by
  rw[room]
  split
  ·by_cases hj:j<(n+7)/8
   ·rw[List.getElem?_append_left (by rw[Le];exact hj),List.getElem?_eq_getElem (by rw[Le];exact hj),Bev p a n j hj]
   ·rw[List.getElem?_append_right (by rw[Le];omega),Le,show j-(n+7)/8=0 by omega,show n-8*j=0 by omega];rfl
  ·rw[List.getElem?_eq_getElem (by rw[Le];omega),Bev p a n j (by omega)]
 rw[List.getElem?_eq_getElem (by rw[Um];exact h)]at h0
 exact Option.some.inj h0
theorem Bkf(p:List UInt8)(a n T:Nat)(h1:1≤T)(h:n %8+T≤8):(room p a n).set (n/8) (UInt8.ofNat (Br p (a+8*(n/8)) (n %8+T)))=Ace p a (n+T):=by
 apply List.ext_getElem (by rw[List.length_set,Um,Le];omega)
 intro j g1 g2
 rw[List.length_set,Um]at g1
 rw[List.getElem_set,Bev p a (n+T) j (by rw[Le]at g2;exact g2)]
 split
 ·rename_i e;subst e;rw[show min 8 (n+T-8*(n/8))=n %8+T by omega]
 ·rw[Bls p a n j g1,show min 8 (n-8*j)=8 by omega,show min 8 (n+T-8*j)=8 by omega]
theorem Bhp(p:List UInt8)(a n:Nat):(room p a n)[n/8]'(by rw[Um];omega)=UInt8.ofNat (Br p (a+8*(n/8)) (n %8)):=by
 rw[Bls p a n _ (by omega),show min 8 (n-8*(n/8))=n %8 by omega]
theorem Bv1(p:List UInt8)(a n:Nat)(hn:n≤400000):Sy (Ace p a n) (n:Int) ((Ia p (a+n):Nat):Int)=some (Ace p a (n+1),((n+1:Nat):Int)):=by
 have hb:=Uj p (a+n)
 have hp:2^(n %8)≤2^7:=Nat.pow_le_pow_right (by omega) (by omega)
 have hroom:Sy (Ace p a n) (n:Int) ((Ia p (a+n):Nat):Int)=Tg ((Ia p (a+n):Nat):Int) (n:Int) (room p a n):=by
  rw[Sy,Afg,Bxa,room]
  by_cases h0:n %8=0
  ·rw[if_pos (by rw[Az,h0];rfl),Fs (by rw[Le];simp;omega),Aa,if_pos h0]
  ·rw[if_neg (by rw[Az];simp;omega),if_neg h0]
 have hl:=Bqi ((Ia p (a+n):Nat):Int) n (room p a n) (n %8) 0 Am (by omega) (by have:=Ak;omega)
 rw[hroom,Tg,Afo,Afp]
 refine Eq.trans hl ?_
 have hg:getI (room p a n) ((n/8:Nat):Int)=some (UInt8.ofNat (Br p (a+8*(n/8)) (n %8))):=by
  rw[Bw (by rw[Um];omega),Bhp]
 have hlt:=Bly p (a+8*(n/8)) (n %8+1) (by omega)
 have hsn:=Bhi p (a+8*(n/8)) (n %8)
 rw[show a+8*(n/8)+n %8=a+n by omega]at hsn
 have hm:Ax ((Ia p (a+n):Nat):Int) ((2^(n %8):Nat):Int)=((2^(n %8)*Ia p (a+n):Nat):Int):=by
  have hle:2^(n %8)*Ia p (a+n)≤2^7*1:=Nat.mul_le_mul hp (by omega)
  rw[Bwf,←Int.natCast_mul,Bn (by omega) (by rw[Nat.mul_comm];omega),Nat.mul_comm]
 have hx:Ad (UInt8.ofNat (Br p (a+8*(n/8)) (n %8))) (Ae (((2^(n %8)*Ia p (a+n):Nat):Int)):UInt8)=UInt8.ofNat (Br p (a+8*(n/8)) (n %8+1)):=by
  rw[Bzp,Bvk,hsn,UInt8.ofNat_add]
 rw[Ua,Afk,Cdb _ (by omega),hg,Aa,Aa,Aa,hm,hx,Th _ (by rw[Um];omega),Aa,Bkf p a n 1 (by omega) (by omega),Ag (by omega) (by omega)];rfl
theorem Axd(p:List UInt8)(N:Int)(a n:Nat)(ha:a+n≤8*p.length)(hp:p.length≤1000000)(hn:n≤300000):∀(j m q:Nat),m+j=n→j<q→Fk ((a+n:Nat):Int) p N q ((a+m:Nat):Int) (m:Int) (Ace p a m)=some (Ace p a n,(n:Int))
 |0,m,q+1,hm,_=>by
  rw[Fk,Na,if_neg (by rw[Af];simp;omega),show m=n by omega];rfl
 |j+1,m,q+1,hm,hq=>by
  rw[Fk,Na,if_pos (by rw[Af];simp;omega),Ayz p N (a+m) (by omega) (by omega),Aa,Bv1 p a m (by omega),Aa]
  simp only
  rw[Ag (by omega) (by omega)]
  exact Axd p N a n ha hp hn j (m+1) q (by omega) (by omega)
theorem Bks(p:List UInt8)(N:Int)(a n:Nat)(ha:a+n≤8*p.length)(hp:p.length≤1000000)(hn:n≤300000):Ade p N (a:Int) ((a+n:Nat):Int)=some (Ace p a n,(n:Int)):=by
 have:=Axd p N a n ha hp hn n 0 Am (by omega) (by have:=Ak;omega)
 exact this
end Go.Pl
set_option linter.unusedVariables false
set_option linter.unusedSimpArgs false
namespace Go.Pl
open Go Go.Lv
theorem Cb2{t:Nat}(h:t≤8):Ah (Ct (1:UInt64) t) (1:UInt64)=UInt64.ofNat (2^t-1):=by
 have:t=0∨t=1∨t=2∨t=3∨t=4∨t=5∨t=6∨t=7∨t=8:=by omega
 rcases this with rfl|rfl|rfl|rfl|rfl|rfl|rfl|rfl|rfl<;>decide
theorem Ceo(v:UInt64){t:Nat}(h:t≤8):(Cy v (Ah (Ct (1:UInt64) t) (1:UInt64))).toNat=v.toNat %2^t:=by
 have hp:2^t≤2^8:=Nat.pow_le_pow_right (by omega) h
 rw[Cb2 h,Ber,UInt64.toNat_and,UInt64.toNat_ofNat',Nat.mod_eq_of_lt (by have:=Nat.pow_pos (n:=t) (show 0<2 by omega);omega),Nat.and_two_pow_sub_one_eq_mod]
theorem or8{v w i:Nat}(hv:v<2^i)(hw:w*2^i<256)(hi:i<8):gor (UInt8.ofNat v) (Ct (UInt8.ofNat w) i)=UInt8.ofNat (v+w*2^i):=by
 have hp:2^i≤2^8:=Nat.pow_le_pow_right (by omega) (by omega)
 have hpos:0<2^i:=Nat.pow_pos (by omega)
 have hw2:w<256:=Nat.lt_of_le_of_lt (Nat.le_mul_of_pos_right w hpos) hw
 rw[Cbj];apply UInt8.toNat_inj.1
 have e1:(UInt8.ofNat v).toNat=v:=by rw[UInt8.toNat_ofNat',Nat.mod_eq_of_lt (by omega)]
 have e2:(UInt8.ofNat w).toNat=w:=by rw[UInt8.toNat_ofNat',Nat.mod_eq_of_lt (by omega)]
 rw[UInt8.toNat_or,By6,e1,e2,Nat.mod_eq_of_lt hw,Nat.mul_comm w,Nat.or_comm,←Nat.two_pow_add_eq_or_of_lt hv,UInt8.toNat_ofNat',Nat.add_comm v]
 rw[Nat.mul_comm]at hw
 have hb:2^i*w+v<256:=by
  rw[Nat.two_pow_add_eq_or_of_lt hv]
  exact Nat.or_lt_two_pow (n:=8) hw (by omega)
 rw[Nat.mod_eq_of_lt hb]
theorem Bwr(p:List UInt8)(a n T:Nat)(h:T≤n)(hn:n≤64):Bj (Ru p a n) T=Ru p (a+T) (n-T):=by
 apply UInt64.toNat_inj.1
 rw[Adn,Xt p a n hn,Xt p (a+T) (n-T) (by omega)]
 have:=Nx p T a
 conv=>lhs;rw[show n=T+(n-T) by omega,Aiz,Nat.add_mul_div_left _ _ (Nat.pow_pos (by omega)),Nat.div_eq_of_lt this,Nat.zero_add]
theorem Bw6(p:List UInt8)(a n T:Nat)(h:T≤n)(hn:n≤64):(Ru p a n).toNat %2^T=Br p a T:=by
 have:=Nx p T a
 rw[Xt p a n hn]
 conv=>lhs;rw[show n=T+(n-T) by omega,Aiz,Nat.add_mul_mod_self_left,Nat.mod_eq_of_lt this]
theorem Bdd(bk:Int→Int→List UInt8→Option (List UInt8×Int×Int))(to':Int)(p:List UInt8)(N fr:Int)(r6:UInt64)(a:Nat):∀(j m q:Nat),m+j≤300000→j≤64→j<q→
  Lj bk to' p N fr r6 q (Ru p (a+m) j) (j:Int) (m:Int) (Ace p a m)=Afx bk to' p N fr ((m+j:Nat):Int) (Ace p a (m+j))
 |0,m,q+1,_,_,_=>by
  rw[Lj,Afu,if_neg (by rw[Ao];simp)];rfl
 |j+1,m,q+1,hm,hj,hq=>by
  have hroom:Lj bk to' p N fr r6 (q+1) (Ru p (a+m) (j+1)) ((j+1:Nat):Int) (m:Int) (Ace p a m)=Af7 (Lj bk to' p N fr r6 q) to' fr p N r6 (Ru p (a+m) (j+1)) ((j+1:Nat):Int) (m:Int) (room p a m):=by
   rw[Lj,Afu,if_pos (by rw[Ao];simp),Bla m (by omega),room]
   by_cases h0:m %8=0
   ·rw[if_pos (by rw[Az,h0];rfl),Fs (by rw[Le];simp;omega),Aa,if_pos h0]
   ·rw[if_neg (by rw[Az];simp;omega),if_neg h0]
  have hl:Ah (Ac (room p a m)) 1=((m/8:Nat):Int):=by
   rw[Ac,Um,Be (by omega) (by omega)];omega
  have e2:Da ((j+1:Nat):Int) (Ah (8:Int) ((m %8:Nat):Int))=((min (j+1) (8-m %8):Nat):Int):=by
   rw[Ahb,Be (by omega) (by omega)];omega
  rw[hroom,Af7,Ams,Bla m (by omega),e2,hl]
  generalize hT:min (j+1) (8-m %8)=T
  have hT1:1≤T:=by omega
  have hT8:m %8+T≤8:=by omega
  have hg:getI (room p a m) ((m/8:Nat):Int)=some (UInt8.ofNat (Br p (a+8*(m/8)) (m %8))):=by
   rw[Bw (by rw[Um];omega),Bhp]
  have z1:(GI.toZ ((m %8:Nat):Int)).toNat=m %8:=rfl
  have z2:(GI.toZ ((T:Nat):Int)).toNat=T:=rfl
  have hlt:=Bly p (a+8*(m/8)) (m %8+T) (by omega)
  have hadd:=Aiz p (m %8) T (a+8*(m/8))
  rw[show a+8*(m/8)+m %8=a+m by omega]at hadd
  have hbyte:(Ae (Cy (Ru p (a+m) (j+1)) (Ah (Ct (1:UInt64) T) (1:UInt64))):UInt8)=UInt8.ofNat (Br p (a+m) T):=by
   rw[An6,Ceo _ (by omega),Bw6 p (a+m) (j+1) T (by omega) hj]
  have hnew:gor (UInt8.ofNat (Br p (a+8*(m/8)) (m %8))) (Ct (UInt8.ofNat (Br p (a+m) T)) (m %8))=UInt8.ofNat (Br p (a+8*(m/8)) (m %8+T)):=by
   rw[or8 (Nx _ _ _) (by rw[Nat.mul_comm];omega) (by omega),hadd,Nat.mul_comm (2^(m %8))]
  rw[hg,z1,z2,hbyte]
  simp only[Aa]
  rw[Cg (by rw[Du];simp),Aa,Cg (by rw[Du];simp;omega),Aa,hnew,Th _ (by rw[Um];omega),Aa,Bkf p a m T hT1 hT8,Amt,Avy,Bla m (by omega),e2,hT,Cg (by rw[Du];simp),Aa,z2,Bwr p (a+m) (j+1) T (by omega) hj,Be (by omega) (by omega),Ag (by omega) (by omega)]
  have ih:=Bdd bk to' p N fr r6 a (j+1-T) (m+T) q (by omega) (by omega) (by omega)
  rw[show m+T+(j+1-T)=m+(j+1) by omega]at ih
  rw[←ih,show a+m+T=a+(m+T) by omega,show((j+1:Nat):Int)-((T:Nat):Int)=((j+1-T:Nat):Int) by omega,show(m:Int)+((T:Nat):Int)=((m+T:Nat):Int) by omega]
theorem Bkq(p:List UInt8)(N:Int)(a n:Nat)(ha:a+n≤8*p.length)(hp:p.length≤1000000)(hn:n≤300000):∀(j m f q:Nat),(f=m∨n≤f∧m=n)→m+j=n→f≤n+64→j<q→Sk ((a+n:Nat):Int) p N q ((a+f:Nat):Int) (m:Int) (Ace p a m)=some (Ace p a n,(n:Int),0)
 |j,m,f,q+1,hf,hm,hf2,hq=>by
  rw[Sk,Ans]
  by_cases hlt:f<n
  ·obtain rfl:f=m:=by omega
   have e1:Da (64:Int) (Ah ((a+n:Nat):Int) ((a+f:Nat):Int))=((min 64 (n-f):Nat):Int):=by
    rw[Ahb,Be (by omega) (by omega)];omega
   rw[if_pos (by rw[Af];simp;omega),e1,get_eq p N (a+f) _ (by omega) (by omega) hp,Aa,Ann]
   have h1:=Bdd (Sk ((a+n:Nat):Int) p N q) ((a+n:Nat):Int) p N ((a+f:Nat):Int) (Ru p (a+f) (min 64 (n-f))) a (min 64 (n-f)) f Am (by omega) (by omega) (by have:=Ak;omega)
   refine Eq.trans h1 ?_
   rw[Afx,Aw0,Ag (by omega) (by omega),show((a+f:Nat):Int)+64=((a+(f+64):Nat):Int) by omega]
   exact Bkq p N a n ha hp hn (j-min 64 (n-f)) (f+min 64 (n-f)) (f+64) q (by omega) (by omega) (by omega) (by omega)
  ·rw[if_neg (by rw[Af];simp;omega),Anj,Axq,show m=n by omega]
theorem Cbn{p:List UInt8}{N:Nat}(h:okB p N)(a n:Nat)(ha:a+n≤N)(hn:n≤300000):Ar7 p (N:Int) (a:Int) ((a+n:Nat):Int)=some (Ace p a n,(n:Int),0):=by
 obtain⟨h1,h2,h3⟩:=h
 have:=Bkq p N a n (by omega) (by omega) hn n 0 0 Am (by omega) (by omega) (by omega) (by have:=Ak;omega)
 rw[Ar7,Arh,Agg ⟨h1,h2,h3⟩,Aa,if_neg (by rw[Aj];simp),if_neg (by simp[Af,Ao];omega),An7]
 exact this
end Go.Pl
set_option linter.unusedVariables false
set_option linter.unusedSimpArgs false
namespace Go.Pl
open Go Go.Lv
def Ew(p:List UInt8):Nat→Nat→Nat
 |_,0=>0
 |a,m+1=>if Ia p a=1 then 1+Ew p (a+1) m else 0
theorem Aji(p:List UInt8):∀(m a:Nat),Ew p a m≤m
 |0,_=>Nat.le_refl _
 |m+1,a=>by rw[Ew];split<;>have:=Aji p m (a+1)<;>omega
theorem Bk7(p:List UInt8):∀(m a:Nat),∃s,Br p a m+1=2^(Ew p a m+1)*s+2^Ew p a m∧(Ew p a m=m→s=0)
 |0,a=>⟨0,by simp[Br,Ew],fun _=>rfl⟩
 |m+1,a=>by
  have hb:=Uj p a
  obtain⟨s,h1,h2⟩:=Bk7 p m (a+1)
  by_cases h:Ia p a=1
  ·refine⟨s,?_,fun e=>h2 ?_⟩
   ·rw[Ew,if_pos h,Br,h,show 1+Ew p (a+1) m+1=(Ew p (a+1) m+1)+1 by omega,show 1+Ew p (a+1) m=Ew p (a+1) m+1 by omega,Nat.pow_succ,Nat.pow_succ (n:=2) (m:=Ew p (a+1) m)]
    rw[Nat.pow_succ]at h1
    generalize Br p (a+1) m=V at*
    generalize 2^Ew p (a+1) m=W at*
    have e1:W*2*2*s=2*(W*2*s):=by rw[Nat.mul_right_comm (W*2) 2 s,Nat.mul_comm]
    omega
   ·rw[Ew,if_pos h]at e;omega
  ·refine⟨Br p (a+1) m,?_,fun e=>?_⟩
   ·rw[Ew,if_neg h,Br];simp;omega
   ·rw[Ew,if_neg h]at e;omega
theorem Bx5{n t s:Nat}(h:2^(t+1)*s+2^t≤2^n)(ht:t<n)(x:Nat)(hx:x=2^n-(2^(t+1)*s+2^t)):x&&& (2^(t+1)*s+2^t)=2^t:=by
 have hpos:0<2^t:=Nat.pow_pos (by omega)
 have hlt:2^t<2^(t+1):=by rw[Nat.pow_succ];omega
 have e:x=2^n-((2^(t+1)*s+(2^t-1))+1):=by rw[hx];congr 1;omega
 apply Nat.eq_of_testBit_eq
 intro i
 rw[Nat.testBit_and,e,Nat.testBit_two_pow_sub_succ (by omega),Nat.testBit_two_pow_mul_add _ (by omega),Nat.testBit_two_pow_mul_add _ hlt]
 by_cases hi:i<t+1
 ·rw[if_pos hi,if_pos hi,Nat.testBit_two_pow_sub_one,Nat.testBit_two_pow]
  by_cases hit:t=i
  ·subst hit;simp;exact ht
  ·have:¬i=t:=fun e=>hit e.symm
   simp[hit]
 ·rw[if_neg hi,if_neg hi,Nat.testBit_two_pow]
  have:¬t=i:=by omega
  simp[this]
theorem Bwt(a:UInt64):(Bbx a).toNat=18446744073709551615-a.toNat:=by
 have h:=a.toNat_lt
 have e:Bbx a=UInt64.ofNat (BitVec.ofInt 64 18446744073709551615^^^BitVec.ofInt 64 (a.toNat:Int)).toNat:=Fq _
 have h1:BitVec.ofInt 64 (a.toNat:Int)=a.toBitVec:=Biv a
 have h2:(BitVec.ofInt 64 18446744073709551615:BitVec 64)=BitVec.allOnes 64:=by decide
 rw[e,UInt64.toNat_ofNat',h1,h2,BitVec.allOnes_xor,BitVec.toNat_not]
 show(18446744073709551616-1-a.toNat) %18446744073709551616=18446744073709551615-a.toNat
 omega
theorem Bul(a:UInt64):(Axk a).toNat=(18446744073709551616-a.toNat) %18446744073709551616:=by
 have h:=a.toNat_lt
 have e:Axk a=UInt64.ofNat ((0-(a.toNat:Int)) %18446744073709551616).toNat:=Bh9 _
 rw[e,UInt64.toNat_ofNat']
 show((0-(a.toNat:Int)) %18446744073709551616).toNat %18446744073709551616=_
 omega
def Cdh:List UInt8:=[0,1,56,2,57,49,28,3,61,58,42,50,38,29,17,4,62,47,59,36,45,43,51,22,53,39,33,30,24,18,12,5,63,55,48,27,60,41,37,16,46,35,44,21,52,32,23,11,54,26,40,15,34,20,31,10,25,14,19,9,13,8,7,6]
theorem Bti:∀t:Fin 64,getI Cdh (GI.toZ (Bj (Ax (UInt64.ofNat (2^t.val)) (285870213051353865:UInt64)) (GI.toZ (58:UInt64)).toNat))=some (UInt8.ofNat t.val):=by decide +kernel
theorem Cd3(x:UInt64)(t s:Nat)(ht:t<64)(h:x.toNat+(2^(t+1)*s+2^t)=18446744073709551616):En x=some (t:Int):=by
 have hpos:0<2^t:=Nat.pow_pos (by omega)
 have hx:x.toNat=2^64-(2^(t+1)*s+2^t):=by show x.toNat=18446744073709551616-_;omega
 have hle:2^t≤2^63:=Nat.pow_le_pow_right (by omega) (by omega)
 have hne:x≠0:=by
  intro e
  rw[e]at h
  have h':2^t*(2*s+1)=2^64:=by
   rw[Nat.mul_add,Nat.mul_one,←Nat.mul_assoc,←Nat.pow_succ]
   show _=18446744073709551616
   simpa using h
  have h2:2^64=2^t*2^(64-t):=by rw[←Nat.pow_add];congr 1;omega
  rw[h2]at h'
  have h3:=Nat.eq_of_mul_eq_mul_left hpos h'
  rw[show 64-t=(63-t)+1 by omega,Nat.pow_succ]at h3
  omega
 have hx0:x.toNat≠0:=fun e=>hne (UInt64.toNat_inj.1 e)
 have hl:Cy x (Axk x)=UInt64.ofNat (2^t):=by
  apply UInt64.toNat_inj.1
  rw[Ber,UInt64.toNat_and,Bul,show(18446744073709551616-x.toNat) %18446744073709551616=2^(t+1)*s+2^t by omega,Bx5 (n:=64) (by show _≤18446744073709551616;omega) ht _ hx,UInt64.toNat_ofNat',Nat.mod_eq_of_lt]
  exact Nat.lt_of_le_of_lt hle (by decide)
 have hb:=Bti ⟨t,ht⟩
 rw[En,if_neg (by rw[Bbg];simpa using hne),hl]
 refine Eq.trans (congrArg (fun o=>Option.bind o fun c=>some (Ae c:Int)) hb) ?_
 rw[Aa,Agd,UInt8.toNat_ofNat',Nat.mod_eq_of_lt (by show t<256;omega)]
theorem Bza(p:List UInt8)(a m:Nat)(hm:m≤48):En (Bbx (Ru p a m))=some ((Ew p a m:Nat):Int):=by
 obtain⟨s,h1,h2⟩:=Bk7 p m a
 have hle:=Aji p m a
 have hlt:=Nx p m a
 have h48:2^m≤2^48:=Nat.pow_le_pow_right (by omega) hm
 have hn:(Bbx (Ru p a m)).toNat=18446744073709551615-Br p a m:=by rw[Bwt,Xt p a m (by omega)]
 have h3:(281474976710656:Nat)=2^48:=rfl
 refine Cd3 _ (Ew p a m) s (by omega) ?_
 rw[hn];omega
def unS(p:List UInt8)(N a:Nat):Int×Int×Int:=
 if Ew p a (min 48 (N-a))<min 48 (N-a)then((Ew p a (min 48 (N-a)):Nat),((a+Ew p a (min 48 (N-a))+1:Nat):Int),0)else
 if Ew p a (min 48 (N-a))=48 then(48,((a+48:Nat):Int),0)else(0,0,24)
theorem Bws{p:List UInt8}{N:Nat}(h:okB p N)(a:Nat)(ha:a<N):Abx p (N:Int) (a:Int)=some (unS p N a):=by
 have hN:=h.1
 have e1:Da (48:Int) (Ah (N:Int) (a:Int))=((min 48 (N-a):Nat):Int):=by rw[Ahb,Be (by omega) (by omega)];omega
 have hle:=Aji p (min 48 (N-a)) a
 rw[Abx,Ug,Agg h,Aa,if_neg (by rw[Aj];simp),if_neg (by rw[Af];simp),if_neg (by rw[Du];simp;omega),e1,Aym h a _ (by omega),if_neg (by omega),Aa]
 simp only
 rw[Ak8,Ak7,if_neg (by rw[Aj];simp),Bza p a _ (by omega),Aa,Akh,Akc,e1,unS]
 by_cases h1:Ew p a (min 48 (N-a))<min 48 (N-a)
 ·rw[if_pos (by rw[Af];simp;omega),if_pos h1,Ag (a:=(a:Int)) (by omega) (by omega),show Ad (0:Int) 1=1 by decide,Ag (by omega) (by omega)]
  congr 3;omega
 ·rw[if_neg (by rw[Af];simp;omega),if_neg h1,Akt,Aku]
  by_cases h2:Ew p a (min 48 (N-a))=48
  ·rw[if_pos (by rw[Az,h2];rfl),if_pos h2,h2,Ag (a:=(a:Int)) (by omega) (by omega),Ag (by omega) (by omega)]
   congr 3;omega
  ·rw[if_neg (by rw[Az];simp;omega),if_neg h2];rfl
theorem Bgb(p:List UInt8):∀(m a:Nat),Ew p a m<m→Ia p (a+Ew p a m)≠1
 |0,_,h=>by simp[Ew]at h
 |m+1,a,h=>by
  by_cases hb:Ia p a=1
  ·rw[Ew,if_pos hb]at h⊢
   have:=Bgb p m (a+1) (by omega)
   rwa [show a+(1+Ew p (a+1) m)=a+1+Ew p (a+1) m by omega]
  ·rw[Ew,if_neg hb];exact hb
theorem Bg0(p:List UInt8):∀(m a k:Nat),k<Ew p a m→Ia p (a+k)=1
 |0,a,k,h=>by simp[Ew]at h
 |m+1,a,k,h=>by
  by_cases hb:Ia p a=1
  ·rw[Ew,if_pos hb]at h
   cases k with
   |zero=>exact hb
   |succ k=>
    have:=Bg0 p m (a+1) k (by omega)
    rwa [show a+(k+1)=a+1+k by omega]
  ·rw[Ew,if_neg hb]at h;omega
def unR(p:List UInt8)(N a:Nat):Int×Int:=if(unS p N a).2.2=0 then((unS p N a).1,(unS p N a).2.1)else(-1,0)
theorem Bel{p:List UInt8}{N:Nat}(h:okB p N)(a:Nat)(ha:a<N):∀(j k q:Nat),k+j=Ew p a (min 48 (N-a))→j<q→Is (a:Int) p (N:Int) q (k:Int)=some (unR p N a)
 |0,k,q+1,hk,_=>by
  obtain⟨hN,hl,hz⟩:=h
  have hle:=Aji p (min 48 (N-a)) a
  have hk':k=Ew p a (min 48 (N-a)):=by omega
  have e1:Ad (a:Int) (k:Int)=((a+k:Nat):Int):=by rw[Ag (by omega) (by omega)];omega
  have hend:Ty (a:Int) (k:Int) p (N:Int)=some (unR p N a):=by
   rw[Ty,Afm,e1]
   by_cases h48:k=48
   ·have hu:unS p N a=(48,((a+48:Nat):Int),0):=by rw[unS,←hk',if_neg (by omega),if_pos h48]
    rw[if_pos (by rw[Az,h48];rfl),unR,hu,h48];rfl
   ·rw[if_neg (by rw[Az];simp;omega)]
    by_cases hN2:N≤a+k
    ·have hu:unS p N a=(0,0,24):=by rw[unS,←hk',if_neg (by omega),if_neg h48]
     rw[if_pos (by rw[Du];simp;omega),unR,hu];rfl
    ·have hu:unS p N a=(((k:Nat):Int),((a+k+1:Nat):Int),0):=by rw[unS,←hk',if_pos (by omega)]
     rw[if_neg (by rw[Du];simp;omega),unR,hu,Ag (by omega) (by omega)];rfl
  rw[Is,Tt,e1]
  by_cases hc:a+k<N∧k<48
  ·have hb:=Uj p (a+k)
   have hs:=Bgb p (min 48 (N-a)) a (by omega)
   rw[←hk']at hs
   rw[if_pos (by simp[Af];omega),Ayz p _ (a+k) (by omega) (by omega),Aa,if_neg (by rw[Az];simp;omega),hend]
  ·rw[if_neg (by simp[Af];omega),hend]
 |j+1,k,q+1,hk,hq=>by
  obtain⟨hN,hl,hz⟩:=h
  have hle:=Aji p (min 48 (N-a)) a
  have hb:=Bg0 p (min 48 (N-a)) a k (by omega)
  have e1:Ad (a:Int) (k:Int)=((a+k:Nat):Int):=by rw[Ag (by omega) (by omega)];omega
  rw[Is,Tt,e1,if_pos (by simp[Af];omega),Ayz p _ (a+k) (by omega) (by omega),Aa,hb,if_pos (by decide),Ag (by omega) (by omega)]
  exact Bel ⟨hN,hl,hz⟩ a ha j (k+1) q (by omega) (by omega)
theorem Bw2{p:List UInt8}{N:Nat}(h:okB p N)(a:Nat)(ha:a<N):Al2 p (N:Int) (a:Int)=some (unR p N a):=by
 have hle:=Aji p (min 48 (N-a)) a
 have:=Bel h a ha (Ew p a (min 48 (N-a))) 0 Am (by omega) (by have:=Ak;omega)
 exact this
end Go.Pl
set_option linter.unusedVariables false
set_option linter.unusedSimpArgs false
namespace Go.Pl
open Go Go.Lv
theorem Bwg{p:List UInt8}{N a:Nat}(h:Ew p a (min 48 (N-a))<min 48 (N-a)):unS p N a=(((Ew p a (min 48 (N-a)):Nat):Int),((a+Ew p a (min 48 (N-a))+1:Nat):Int),0):=by rw[unS,if_pos h]
theorem Bv3{p:List UInt8}{N a:Nat}(h:¬Ew p a (min 48 (N-a))<min 48 (N-a))(h2:Ew p a (min 48 (N-a))=48):unS p N a=(48,((a+48:Nat):Int),0):=by rw[unS,if_neg h,if_pos h2]
theorem Bwo{p:List UInt8}{N a:Nat}(h:¬Ew p a (min 48 (N-a))<min 48 (N-a))(h2:¬Ew p a (min 48 (N-a))=48):unS p N a=(0,0,24):=by rw[unS,if_neg h,if_neg h2]
theorem Br9{p:List UInt8}{N:Nat}(h:okB p N)(a:Nat)(ha:N≤a):Abx p (N:Int) (a:Int)=some (0,0,24):=by
 rw[Abx,Ug,Agg h,Aa,if_neg (by rw[Aj];simp),if_neg (by rw[Af];simp),if_pos (by rw[Du];simp;omega)]
def rcS(p:List UInt8)(N a k:Nat):UInt32×Int×Int:=
 if N≤a then(0,0,24)else
 if Ew p a (min 48 (N-a))<min 48 (N-a)then
  (if N<a+Ew p a (min 48 (N-a))+1+k then(0,0,24)else(UInt32.ofNat (Ew p a (min 48 (N-a))*2^k+Br p (a+Ew p a (min 48 (N-a))+1) k),((a+Ew p a (min 48 (N-a))+1+k:Nat):Int),0))
 else if Ew p a (min 48 (N-a))=48 then
  (if N<a+48+32 then(0,0,24)else if Br p (a+48) 32/2^k<48 then(0,0,12)else(UInt32.ofNat (Br p (a+48) 32),((a+48+32:Nat):Int),0))
 else(0,0,24)
theorem Axp{p:List UInt8}{a n:Nat}(h:n≤32):(Ae (Ru p a n):UInt32)=UInt32.ofNat (Br p a n):=by
 have e:(Ae (Ru p a n):UInt32)=UInt32.ofNat (Ru p a n).toNat:=by simp only[Ae,Gs,Dj]
 rw[e,Xt p a n (by omega)]
theorem An4{n:Nat}(h:n<4294967296):(UInt32.ofNat n).toNat=n:=by rw[UInt32.toNat_ofNat'];exact Nat.mod_eq_of_lt h
theorem Blz(p:List UInt8)(a:Nat){n:Nat}(h:n≤32):Br p a n<4294967296:=by
 have h1:=Nx p n a
 have h2:2^n≤2^32:=Nat.pow_le_pow_right (by omega) h
 omega
theorem Cbm{q v k:Nat}(hq:q<48)(hv:v<2^k)(hk:k≤24):gor (Ct (Ae (q:Int):UInt32) k) (UInt32.ofNat v)=UInt32.ofNat (q*2^k+v):=by
 have hp:2^k≤2^24:=Nat.pow_le_pow_right (by omega) hk
 have h1:q*2^k≤47*2^24:=Nat.mul_le_mul (by omega) hp
 rw[Bz9];apply UInt32.toNat_inj.1
 rw[UInt32.toNat_or,Bbs,Bf4,An4 (by omega),An4 (n:=v) (by omega),Nat.mod_eq_of_lt (by omega),Nat.mul_comm q,←Nat.two_pow_add_eq_or_of_lt hv,An4 (by rw[Nat.mul_comm];omega)]
theorem Bzv{p:List UInt8}{N:Nat}(h:okB p N)(a k:Nat)(hk:k≤24):As1 p (N:Int) (a:Int) (k:Int)=some (rcS p N a k):=by
 have hN:=h.1
 rw[As1,Am5,Agg h,Aa,if_neg (by rw[Aj];simp),if_neg (by simp[Af,Ao];omega)]
 by_cases ha:N≤a
 ·rw[Br9 h a ha,Aa,rcS,if_pos ha];rfl
 have hle:=Aji p (min 48 (N-a)) a
 rw[Bws h a (by omega),Aa]
 by_cases h1:Ew p a (min 48 (N-a))<min 48 (N-a)
 ·have hS:rcS p N a k=if N<a+Ew p a (min 48 (N-a))+1+k then(0,0,24)else(UInt32.ofNat (Ew p a (min 48 (N-a))*2^k+Br p (a+Ew p a (min 48 (N-a))+1) k),((a+Ew p a (min 48 (N-a))+1+k:Nat):Int),0):=by rw[rcS,if_neg ha,if_pos h1]
  rw[Bwg h1,hS]
  generalize Ew p a (min 48 (N-a))=q at*
  simp only
  rw[if_neg (by rw[Aj];simp),if_neg (by rw[Az];simp;omega),Af6,Anr,Aym h _ k (by omega),Aa]
  by_cases h2:N<a+q+1+k
  ·rw[if_pos h2,if_pos h2];rfl
  ·rw[if_neg h2,if_neg h2]
   simp only
   have z:(GI.toZ (k:Int)).toNat=k:=rfl
   rw[if_neg (by rw[Aj];simp),if_pos (by rw[Af];simp;omega),Cg (by rw[Du];simp),Aa,z,Axp (by omega),Cbm (by omega) (Nx _ _ _) hk,Ag (by omega) (by omega)];rfl
 ·by_cases h2:Ew p a (min 48 (N-a))=48
  ·have hS:rcS p N a k=if N<a+48+32 then(0,0,24)else if Br p (a+48) 32/2^k<48 then(0,0,12)else(UInt32.ofNat (Br p (a+48) 32),((a+48+32:Nat):Int),0):=by rw[rcS,if_neg ha,if_neg h1,if_pos h2]
   have hg:=Aym h (a+48) 32 (by omega)
   rw[Bv3 h1 h2,hS]
   simp only
   rw[if_neg (by rw[Aj];simp),if_pos (by rw[Az];rfl),Af6,Anr]
   refine Eq.trans (congrArg (fun o=>Option.bind o _) hg) ?_
   rw[Aa]
   by_cases h3:N<a+48+32
   ·rw[if_pos h3,if_pos h3];rfl
   ·rw[if_neg h3,if_neg h3]
    simp only
    have z:(GI.toZ (k:Int)).toNat=k:=rfl
    have hv:=Blz p (a+48) (n:=32) (by omega)
    rw[if_neg (by rw[Aj];simp),if_neg (by rw[Af];simp),Af0,Cg (by rw[Du];simp),Aa,Aa,z,Axp (by omega),Bx3]
    have e:(decide ((48:UInt32).toNat≤(Bj (UInt32.ofNat (Br p (a+48) 32)) k).toNat))=decide (¬Br p (a+48) 32/2^k<48):=by
     rw[Ald,An4 hv];simp
    rw[e]
    by_cases h4:Br p (a+48) 32/2^k<48
    ·rw[if_pos (by simp[h4]),if_pos h4]
    ·rw[if_neg (by simp;omega),if_neg h4,Ag (by omega) (by omega)];rfl
  ·rw[Bwo h1 h2,rcS,if_neg ha,if_neg h1,if_neg h2];rfl
theorem Beq(k:Nat)(hk:k≤63):∀(j i q:Nat),i+j=k→j<q→Gw (k:Int) q (UInt64.ofNat (2^i)) (i:Int)=some (UInt64.ofNat (2^k))
 |0,i,q+1,hi,_=>by
  rw[Gw,Oz,if_neg (by rw[Af];simp;omega),show i=k by omega];rfl
 |j+1,i,q+1,hi,hq=>by
  have e:Ax (UInt64.ofNat (2^i)) (2:UInt64)=UInt64.ofNat (2^(i+1)):=by
   rw[Adq,Nat.pow_succ,UInt64.ofNat_mul];rfl
  rw[Gw,Oz,if_pos (by rw[Af];simp;omega),Ag (by omega) (by omega),e]
  exact Beq k hk j (i+1) q (by omega) (by omega)
theorem Adt(k:Nat)(hk:k≤63):Ee (k:Int)=some (UInt64.ofNat (2^k)):=
 Beq k hk k 0 Am (by omega) (by have:=Ak;omega)
theorem Aj9{k:Nat}(hk:k≤63):(UInt64.ofNat (2^k)).toNat=2^k:=by
 have hp:2^k≤2^63:=Nat.pow_le_pow_right (by omega) hk
 rw[UInt64.toNat_ofNat',Nat.mod_eq_of_lt (by omega)]
theorem Bx6(v:UInt32)(k:Nat)(hk:k≤24):Aah v (k:Int)=some ((min 48 (v.toNat/2^k):Nat):Int):=by
 have hpos:0<2^k:=Nat.pow_pos (by omega)
 have hv:=v.toNat_lt
 rw[Aah,Adt k (by omega),Aa,Cg (by rw[Af3];simp only[bne_iff_ne,ne_eq,←UInt64.toNat_inj,Aj9 (show k≤63 by omega)];simp),Aa]
 have e:(By (Ae v:UInt64) (UInt64.ofNat (2^k))).toNat=v.toNat/2^k:=by
  rw[Axg,UInt64.toNat_div,Gk,Aj9 (by omega),UInt64.toNat_ofNat',Nat.mod_eq_of_lt (by omega)]
 have hle:v.toNat/2^k≤v.toNat:=Nat.div_le_self _ _
 have e2:Da (48:UInt64) (By (Ae v:UInt64) (UInt64.ofNat (2^k)))=UInt64.ofNat (min 48 (v.toNat/2^k)):=by
  apply UInt64.toNat_inj.1
  rw[UInt64.toNat_ofNat',Nat.mod_eq_of_lt (by omega)]
  show(if _ then _ else _:UInt64).toNat=_
  rw[show(GI.toZ (By (Ae v:UInt64) (UInt64.ofNat (2^k))))=((v.toNat/2^k:Nat):Int) by rw[Gs,e],show GI.toZ (48:UInt64)=48 from rfl]
  split
  ·rw[e];omega
  ·show 48=_;omega
 rw[e2,Ax2 (by rw[UInt64.toNat_ofNat',Nat.mod_eq_of_lt]<;>omega),UInt64.toNat_ofNat',Nat.mod_eq_of_lt (by omega)]
theorem Bve{p:List UInt8}{N:Nat}(h:okB p N)(a k:Nat)(hk:k≤24):Aby p (N:Int) (a:Int) (k:Int)=some (rcS p N a k):=by
 obtain⟨hN,hl,hz⟩:=h
 have h:okB p N:=⟨hN,hl,hz⟩
 rw[Aby,Afh]
 by_cases ha:N≤a
 ·rw[if_pos (by rw[Du];simp;omega),rcS,if_pos ha]
 have hle:=Aji p (min 48 (N-a)) a
 rw[if_neg (by rw[Du];simp;omega),Bw2 h a (by omega),Aa,unR]
 by_cases h1:Ew p a (min 48 (N-a))<min 48 (N-a)
 ·have hS:rcS p N a k=if N<a+Ew p a (min 48 (N-a))+1+k then(0,0,24)else(UInt32.ofNat (Ew p a (min 48 (N-a))*2^k+Br p (a+Ew p a (min 48 (N-a))+1) k),((a+Ew p a (min 48 (N-a))+1+k:Nat):Int),0):=by rw[rcS,if_neg ha,if_pos h1]
  rw[Bwg h1,hS]
  generalize Ew p a (min 48 (N-a))=q at*
  rw[if_pos rfl]
  simp only
  rw[if_neg (by rw[Az];simp;omega),Tk,Tq,Be (by omega) (by omega)]
  by_cases h2:N<a+q+1+k
  ·rw[if_pos (by simp[Af];omega),if_pos h2]
  ·have hp:2^k≤2^24:=Nat.pow_le_pow_right (by omega) hk
   have hm:q*2^k≤47*2^24:=Nat.mul_le_mul (by omega) hp
   have hv:=Nx p k (a+q+1)
   have e:(Ae (Ad (Ax (Ae (q:Int):UInt64) (UInt64.ofNat (2^k))) (Ru p (a+q+1) k)):UInt32)=UInt32.ofNat (q*2^k+Br p (a+q+1) k):=by
    have e1:Ad (Ax (Ae (q:Int):UInt64) (UInt64.ofNat (2^k))) (Ru p (a+q+1) k)=UInt64.ofNat (q*2^k+Br p (a+q+1) k):=by
     rw[Ad4,Adq,Wd,Ru,UInt64.ofNat_add,UInt64.ofNat_mul]
    rw[e1]
    have e2:∀x:UInt64,(Ae x:UInt32)=UInt32.ofNat x.toNat:=fun x=>by simp only[Ae,Gs,Dj]
    rw[e2,UInt64.toNat_ofNat',Nat.mod_eq_of_lt (by omega)]
   rw[if_neg (by simp[Af];omega),if_neg h2,Au8 p _ _ k (by omega) (by omega),Aa,if_pos (by rw[Af];simp;omega),Adt k (by omega),Aa,e,Ag (by omega) (by omega)];rfl
 ·by_cases h2:Ew p a (min 48 (N-a))=48
  ·have hS:rcS p N a k=if N<a+48+32 then(0,0,24)else if Br p (a+48) 32/2^k<48 then(0,0,12)else(UInt32.ofNat (Br p (a+48) 32),((a+48+32:Nat):Int),0):=by rw[rcS,if_neg ha,if_neg h1,if_pos h2]
   rw[Bv3 h1 h2,hS,if_pos rfl]
   simp only
   rw[if_pos (by rw[Az];rfl),Tk,Tq,Be (by omega) (by omega)]
   by_cases h3:N<a+48+32
   ·rw[if_pos (by simp[Af];omega),if_pos h3]
   ·have hg:=Au8 p (N:Int) (a+48) 32 (by omega) (by omega)
    have hv:=Blz p (a+48) (n:=32) (by omega)
    rw[if_neg (by simp[Af];omega),if_neg h3]
    refine Eq.trans (congrArg (fun o=>Option.bind o _) hg) ?_
    rw[Aa,if_neg (by rw[Af];simp),Axp (by omega),Bx6 _ k hk,Aa,An4 hv]
    by_cases h4:Br p (a+48) 32/2^k<48
    ·rw[if_pos (by rw[Af];simp;omega),if_pos h4]
    ·rw[if_neg (by rw[Af];simp;omega),if_neg h4,Ag (by omega) (by omega)];rfl
  ·rw[Bwo h1 h2,rcS,if_neg ha,if_neg h1,if_neg h2]
   have e:(if((0:Int),(0:Int),(24:Int)).2.2=0 then(((0:Int),(0:Int),(24:Int)).1,((0:Int),(0:Int),(24:Int)).2.1)else((-1:Int),(0:Int)))=(-1,0):=by decide
   rw[e];rfl
theorem Cci{p:List UInt8}{N a k:Nat}{v:UInt32}{n:Int}(h:rcS p N a k=(v,n,0)):(a:Int)<n∧n≤N:=by
 unfold rcS at h
 split at h
 ·simp at h
 split at h
 ·split at h
  ·simp at h
  ·simp only[Prod.mk.injEq]at h;omega
 ·split at h
  ·split at h
   ·simp at h
   ·split at h
    ·simp at h
    ·simp only[Prod.mk.injEq]at h;omega
  ·simp at h
end Go.Pl
set_option linter.unusedVariables false
set_option linter.unusedSimpArgs false
namespace Go.Pl
open Go Go.Lv
def okD(k l:Nat)(s t:UInt64):Prop:=k≤24∧l≤24∧s.toNat≤68719476735∧t.toNat≤68719476735
theorem Bke(a b:UInt64)(h:a.toNat≤b.toNat):Da a b=a:=by
 show(if _ then _ else _)=_
 rw[Gs,Gs,if_neg (by omega)]
theorem Awi(a:UInt64):geq a a=true:=by rw[Bbg];simp
theorem Cbi{k l:Nat}{s t:UInt64}(h:okD k l s t):Ahu (k:Int) (l:Int) s t=some 0:=by
 obtain⟨h1,h2,h3,h4⟩:=h
 have e1:Da (Ato (k:Int) 0) 24=(k:Int):=by rw[Ahb,Bo2];omega
 have e2:Da (Ato (l:Int) 0) 24=(l:Int):=by rw[Ahb,Bo2];omega
 have e3:Da s (68719476735:UInt64)=s:=Bke _ _ (by simpa using h3)
 have e4:Da t (68719476735:UInt64)=t:=Bke _ _ (by simpa using h4)
 have e5:∀a:Int,geq a a=true:=fun a=>by rw[Az];simp
 rw[Ahu,Acu,Ake,Acz,Akj,At4,e1,e2,e3,e4,e5,e5,Awi,Awi];rfl
def Zc(s n:UInt64):UInt64:=s+n-s/16
def kS(k:Nat)(s:UInt64):Nat:=if 0<k∧s.toNat<2^(k+4)then k-1 else if k<24∧2^(k+5)<s.toNat then k+1 else k
theorem Ca5{k:Nat}(h:k≤24)(s:UInt64):kS k s≤24:=by
 unfold kS
 by_cases h1:0<k∧s.toNat<2^(k+4)
 ·rw[if_pos h1];omega
 ·rw[if_neg h1];split<;>omega
theorem Bqm{k:Nat}{s:UInt64}(h:¬(0<k∧s.toNat<2^(k+4))):(if k<24∧2^(k+5)<s.toNat then((k+1:Nat):Int)else(k:Int))=((kS k s:Nat):Int):=by
 rw[kS,if_neg h];split<;>rfl
theorem Bqe{s n:UInt64}(h:s.toNat≤68719476735)(hn:n.toNat≤4294967295):(Zc s n).toNat≤68719476735:=by
 have h1:=s.toNat_lt
 have e:(s+n).toNat=s.toNat+n.toNat:=by rw[UInt64.toNat_add];omega
 have e2:(s/16).toNat=s.toNat/16:=by rw[UInt64.toNat_div];rfl
 rw[Zc,UInt64.toNat_sub_of_le _ _ (by rw[UInt64.le_iff_toNat_le,e,e2];omega),e,e2];omega
theorem Bdh(s n:UInt64):Ad s (Ah n (Bj s (GI.toZ (4:UInt64)).toNat))=Zc s n:=by
 have e:Bj s (GI.toZ (4:UInt64)).toNat=s/16:=by
  apply UInt64.toNat_inj.1
  rw[Adn,UInt64.toNat_div];rfl
 rw[e,Ad4,Bcl,Zc,UInt64.sub_eq_add_neg,UInt64.sub_eq_add_neg,UInt64.add_assoc]
theorem Bpq(s n:UInt64):Ah (Ad s n) (By s (16:UInt64))=Zc s n:=by rw[Ad4,Bcl,Axg,Zc]
theorem Cda{k:Nat}(h:k≤24):(Ct (16:UInt64) k).toNat=2^(k+4):=by
 have hp:2^k≤2^24:=Nat.pow_le_pow_right (by omega) h
 rw[Al6,Nat.pow_add]
 show 16*2^k %_=2^k*16
 rw[Nat.mod_eq_of_lt (by omega),Nat.mul_comm]
theorem Cbq{k:Nat}(h:k≤24):(Ct (32:UInt64) k).toNat=2^(k+5):=by
 have hp:2^k≤2^24:=Nat.pow_le_pow_right (by omega) h
 rw[Al6,Nat.pow_add]
 show 32*2^k %_=2^k*32
 rw[Nat.mod_eq_of_lt (by omega),Nat.mul_comm]
theorem Ca7{k:Nat}{s:UInt64}(h:0<k)(h2:s.toNat<2^(k+4)):kS k s=k-1:=by rw[kS,if_pos ⟨h,h2⟩]
theorem Cba{k:Nat}{s:UInt64}(h:¬(0<k∧s.toNat<2^(k+4)))(h2:k<24)(h3:2^(k+5)<s.toNat):kS k s=k+1:=by rw[kS,if_neg h,if_pos ⟨h2,h3⟩]
theorem Brq{k:Nat}{s:UInt64}(h:¬(0<k∧s.toNat<2^(k+4)))(h2:¬(k<24∧2^(k+5)<s.toNat)):kS k s=k:=by rw[kS,if_neg h,if_neg h2]
theorem Ca3{α:Type}(k:Nat)(hk:k≤24)(s:UInt64)(f:Int→Option α):
  (if(Cp (k:Int) (0:Int))=true then(
   Option.bind (Hp (Km (k:Int) (0:Int))) fun _=>
   if(Bl s (Ct (16:UInt64) (GI.toZ (k:Int)).toNat))=true then f (Ah (k:Int) (1:Int))
   else(if(Bl (k:Int) (24:Int))=true then(
    Option.bind (Hp (Km (k:Int) (0:Int))) fun _=>
    if(Cp s (Ct (32:UInt64) (GI.toZ (k:Int)).toNat))=true then f (Ad (k:Int) (1:Int))else f (k:Int))
    else f (k:Int)))
  else(if(Bl (k:Int) (24:Int))=true then(
    Option.bind (Hp (Km (k:Int) (0:Int))) fun _=>
    if(Cp s (Ct (32:UInt64) (GI.toZ (k:Int)).toNat))=true then f (Ad (k:Int) (1:Int))else f (k:Int))
    else f (k:Int)))=f ((kS k s:Nat):Int):=by
 have z:(GI.toZ (k:Int)).toNat=k:=rfl
 rw[z,Cg (by rw[Du];simp)]
 simp only[Aa]
 rw[Ba1,Aje,Cda hk,Cbq hk]
 by_cases h0:0<k
 ·rw[if_pos (by rw[Ao];simp;omega)]
  by_cases h1:s.toNat<2^(k+4)
  ·rw[if_pos (by simp[h1]),Ca7 h0 h1,Be (by omega) (by omega)];congr 1;omega
  ·rw[if_neg (by simp;omega)]
   by_cases h2:k<24
   ·rw[if_pos (by rw[Af];simp;omega)]
    by_cases h3:2^(k+5)<s.toNat
    ·rw[if_pos (by simp[h3]),Cba (fun h=>h1 h.2) h2 h3,Ag (by omega) (by omega)];rfl
    ·rw[if_neg (by simp;omega),Brq (fun h=>h1 h.2) (fun h=>h3 h.2)]
   ·rw[if_neg (by rw[Af];simp;omega),Brq (fun h=>h1 h.2) (fun h=>h2 h.1)]
 ·rw[if_neg (by rw[Ao];simp;omega)]
  by_cases h2:k<24
  ·rw[if_pos (by rw[Af];simp;omega)]
   by_cases h3:2^(k+5)<s.toNat
   ·rw[if_pos (by simp[h3]),Cba (fun h=>h0 h.1) h2 h3,Ag (by omega) (by omega)];rfl
   ·rw[if_neg (by simp;omega),Brq (fun h=>h0 h.1) (fun h=>h3 h.2)]
  ·rw[if_neg (by rw[Af];simp;omega),Brq (fun h=>h0 h.1) (fun h=>h2 h.1)]
theorem Bp6(k:Nat)(hk:k≤24)(s n:UInt64):Qi (k:Int) s n=some (((kS k (Zc s n):Nat):Int),Zc s n):=by
 have g1:Ad (k:Int) 4=((k+4:Nat):Int):=by rw[Ag (by omega) (by omega)];omega
 have g2:Ad (k:Int) 5=((k+5:Nat):Int):=by rw[Ag (by omega) (by omega)];omega
 have hp:Qx (k:Int) s n=some (if k<24∧2^(k+5)<(Zc s n).toNat then((k+1:Nat):Int)else(k:Int),Zc s n):=by
  rw[Qx,Aei,g2,Adt _ (by omega),Aa,Bpq,Aje,Aj9 (by omega)]
  by_cases h2:k<24
  ·rw[if_pos (by rw[Af];simp;omega)]
   by_cases h3:2^(k+5)<(Zc s n).toNat
   ·rw[if_pos (by simp[h3]),if_pos ⟨h2,h3⟩,Ag (by omega) (by omega)];rfl
   ·rw[if_neg (by simp;omega),if_neg (fun h=>h3 h.2)]
  ·rw[if_neg (by rw[Af];simp;omega),if_neg (fun h=>h2 h.1)]
 rw[Qi,Aeh,g1,Adt _ (by omega),Aa,Bpq,Ba1,Aj9 (by omega),hp]
 by_cases h0:0<k
 ·rw[if_pos (by rw[Ao];simp;omega)]
  by_cases h1:(Zc s n).toNat<2^(k+4)
  ·rw[if_pos (by simp[h1]),Ca7 h0 h1,Be (by omega) (by omega)];congr 2;omega
  ·rw[if_neg (by simp;omega),Bqm (fun h=>h1 h.2)]
 ·rw[if_neg (by rw[Ao];simp;omega),Bqm (fun h=>h0 h.1)]
def n64(v:UInt32):UInt64:=UInt64.ofNat v.toNat
theorem Bt3(v:UInt32):(n64 v).toNat≤4294967295:=by have:=v.toNat_lt;rw[n64,UInt64.toNat_ofNat',Nat.mod_eq_of_lt (by omega)];omega
def Ay5(k:Nat)(v:UInt32):UInt32:=UInt32.ofNat (v.toNat-2^k)
def lK(l:Nat)(t:UInt64)(k:Nat)(v:UInt32):Nat:=if v.toNat<2^k then l else kS l (Zc t (n64 (Ay5 k v)))
def lT(t:UInt64)(k:Nat)(v:UInt32):UInt64:=if v.toNat<2^k then t else Zc t (n64 (Ay5 k v))
theorem Bwb{k l:Nat}{s t:UInt64}(h:okD k l s t)(v:UInt32):okD (kS k (Zc s (n64 v))) (lK l t k v) (Zc s (n64 v)) (lT t k v):=by
 obtain⟨h1,h2,h3,h4⟩:=h
 refine⟨Ca5 h1 _,?_,Bqe h3 (Bt3 v),?_⟩
 ·unfold lK;split; · exact h2
  exact Ca5 h2 _
 ·unfold lT;split; · exact h4
  exact Bqe h4 (Bt3 _)
theorem Cc2(k l:Nat)(s t:UInt64)(hk:k≤24)(v:UInt32):Abz (k:Int) (l:Int) s t v=some (decide (v.toNat<2^k)):=by
 have:=v.toNat_lt
 rw[Abz,Adt k (by omega),Aa,Ba1,Aj9 (by omega),Gk,UInt64.toNat_ofNat',Nat.mod_eq_of_lt (by omega)]
theorem left_eq(k l:Nat)(s t:UInt64)(hk:k≤24)(v:UInt32)(h:¬v.toNat<2^k):Yc (k:Int) (l:Int) s t v=some (Ay5 k v):=by
 have:=v.toNat_lt
 have e2:∀x:UInt64,(Ae x:UInt32)=UInt32.ofNat x.toNat:=fun x=>by simp only[Ae,Gs,Dj]
 have e3:(UInt64.ofNat v.toNat).toNat=v.toNat:=by rw[UInt64.toNat_ofNat',Nat.mod_eq_of_lt (by omega)]
 rw[Yc,Adt k (by omega),Aa,e2,Bcl,Gk,UInt64.toNat_sub_of_le _ _ (by rw[UInt64.le_iff_toNat_le,Aj9 (by omega),e3];omega),Aj9 (by omega),e3,Ay5]
theorem Bs3{k l:Nat}{s t:UInt64}(h:okD k l s t)(v:UInt32):Tp (k:Int) (l:Int) s t v=some (((kS k (Zc s (n64 v)):Nat):Int),((lK l t k v:Nat):Int),Zc s (n64 v),lT t k v):=by
 obtain⟨h1,h2,h3,h4⟩:=h
 have hp:∀(r1:Int) (r2:UInt64),Np v (k:Int) (l:Int) s t r1 r2=some (((kS k (Zc s (n64 v)):Nat):Int),r1,Zc s (n64 v),r2):=by
  intro r1 r2
  rw[Np,Zr,Gk,Bp6 k h1,Aa];rfl
 rw[Tp,Zz,Cc2 k l s t h1,Aa]
 by_cases hv:v.toNat<2^k
 ·rw[if_neg (by simp[hv]),hp,lK,if_pos hv,lT,if_pos hv]
 ·rw[if_pos (by simp;omega),left_eq k l s t h1 v hv,Aa,Gk,Bp6 l h2,Aa]
  simp only
  rw[hp,lK,if_neg hv,lT,if_neg hv];rfl
theorem Bwa(k l:Nat)(s t:UInt64)(hk:k≤24)(v:UInt32):Abt (k:Int) (l:Int) s t v=some (if v.toNat<2^k then(0,v)else(1,Ay5 k v)):=by
 have hp:2^k≤2^24:=Nat.pow_le_pow_right (by omega) hk
 have hpos:0<2^k:=Nat.pow_pos (by omega)
 have hl:=v.toNat_lt
 have z:(GI.toZ (k:Int)).toNat=k:=rfl
 have e1:geq (Bj v k) (0:UInt32)=decide (v.toNat<2^k):=by
  rw[Bi5,Bool.eq_iff_iff]
  simp only[beq_iff_eq,←UInt32.toNat_inj,Ald,decide_eq_true_eq]
  show _/_=0↔_
  rw[Nat.div_eq_zero_iff];omega
 have e2:¬v.toNat<2^k→Ah v (Ct (1:UInt32) k)=Ay5 k v:=by
  intro h
  have e3:(Ct (1:UInt32) k).toNat=2^k:=by rw[Bbs];show 1*2^k %_=_;rw[Nat.mod_eq_of_lt (by omega),Nat.one_mul]
  apply UInt32.toNat_inj.1
  rw[Bm1,UInt32.toNat_sub_of_le _ _ (by rw[UInt32.le_iff_toNat_le,e3];omega),e3,Ay5,An4 (by omega)]
 rw[Abt,Cg (by rw[Du];simp),Aa,Aa,z,e1]
 by_cases h:v.toNat<2^k
 ·rw[if_pos (by simp[h]),if_pos h]
 ·rw[if_neg (by simp;omega),if_neg h,e2 h]
abbrev Rd:=UInt32×Int×Int×Int×UInt64×UInt64×Int
theorem Bee{k l:Nat}{s t:UInt64}(h:okD k l s t)(v:UInt32)(r:Int):Af2 (k:Int) (l:Int) s t v r=some (v,r,((kS k (Zc s (n64 v)):Nat):Int),((lK l t k v:Nat):Int),Zc s (n64 v),lT t k v,0):=by
 obtain⟨h1,h2,h3,h4⟩:=h
 have hp:∀(x:Int) (y:UInt64),Zb v r (k:Int) s x y=some (v,r,((kS k (Zc s (n64 v)):Nat):Int),x,Zc s (n64 v),y,0):=by
  intro x y
  rw[Zb,Am1,Gk,Bdh,Ca3 k h1]
  rw[An1,Amw,Akw,Auh,Gk,Bdh];rfl
 rw[Af2,Anl,Bwa k l s t h1,Aa]
 by_cases hv:v.toNat<2^k
 ·rw[if_pos hv]
  simp only
  rw[if_neg (by rw[Az];simp),hp,lK,if_pos hv,lT,if_pos hv]
 ·rw[if_neg hv]
  simp only
  rw[if_pos (by rw[Az];rfl),Gk,Bdh,Ca3 l h2 _ (fun x=>Zb v r (k:Int) s x (Zc t (UInt64.ofNat (Ay5 k v).toNat))),hp,lK,if_neg hv,lT,if_neg hv];rfl
def dgS(p:List UInt8)(N a k l:Nat):UInt32×Int×Int:=
 if N≤a then(0,0,24)else
 if Ia p a=0 then(if N<a+1+k then(0,0,24)else(UInt32.ofNat (Br p (a+1) k),((a+1+k:Nat):Int),0))else
 if(rcS p N (a+1) l).2.2≠0 then(0,0,(rcS p N (a+1) l).2.2)else
 if 4294967295<(rcS p N (a+1) l).1.toNat+2^k then(0,0,12)else(UInt32.ofNat ((rcS p N (a+1) l).1.toNat+2^k),(rcS p N (a+1) l).2.1,0)
theorem Ccr{p:List UInt8}{N a k l:Nat}(h:(dgS p N a k l).2.2=0):(a:Int)<(dgS p N a k l).2.1∧(dgS p N a k l).2.1≤N:=by
 revert h
 unfold dgS
 split
 ·simp
 split
 ·split
  ·simp
  ·simp only;omega
 ·split
  ·intro h;contradiction
  ·rename_i h1
   split
   ·simp
   ·intro _
    have:=Cci (p:=p) (N:=N) (a:=a+1) (k:=l) (v:=(rcS p N (a+1) l).1) (n:=(rcS p N (a+1) l).2.1) (by
     have e:(rcS p N (a+1) l).2.2=0:=by simpa using h1
     rw[←e])
    simp only;omega
theorem Bxq{p:List UInt8}{N:Nat}(h:okB p N)(a:Nat){k l:Nat}{s t:UInt64}(hd:okD k l s t):Ab7 p (N:Int) (a:Int) (k:Int) (l:Int) s t=
  some (if(dgS p N a k l).2.2≠0 then(0,0,0,0,0,0,(dgS p N a k l).2.2)else((dgS p N a k l).1,(dgS p N a k l).2.1,((kS k (Zc s (n64 (dgS p N a k l).1)):Nat):Int),((lK l t k (dgS p N a k l).1:Nat):Int),Zc s (n64 (dgS p N a k l).1),lT t k (dgS p N a k l).1,0)):=by
 obtain⟨h1,h2,h3,h4⟩:=hd
 have hd:okD k l s t:=⟨h1,h2,h3,h4⟩
 have hN:=h.1
 have hg:=Aym h a 1 (by omega)
 have hb:=Uj p a
 rw[Ab7,Aoa,Agg h,Aa,if_neg (by rw[Aj];simp),Cbi hd,Aa,if_neg (by rw[Aj];simp),Am7,Amx]
 refine Eq.trans (congrArg (fun o=>Option.bind o _) hg) ?_
 rw[Aa]
 by_cases ha:N≤a
 ·have hS:dgS p N a k l=(0,0,24):=by rw[dgS,if_pos ha]
  rw[if_pos (by omega),hS];rfl
 rw[if_neg (by omega)]
 simp only
 have e0:geq (Ru p a 1) (0:UInt64)=decide (Ia p a=0):=by
  rw[Bbg,Bool.eq_iff_iff]
  simp only[beq_iff_eq,←UInt64.toNat_inj,decide_eq_true_eq,Xt p a 1 (by omega),Bm2];rfl
 have e1:Ad (a:Int) 1=((a+1:Nat):Int):=by rw[Ag (by omega) (by omega)];omega
 rw[if_neg (by rw[Aj];simp),e0,e1]
 by_cases hz:Ia p a=0
 ·rw[if_pos (by simp[hz]),Aym h (a+1) k (by omega),Aa]
  by_cases h5:N<a+1+k
  ·have hS:dgS p N a k l=(0,0,24):=by rw[dgS,if_neg ha,if_pos hz,if_pos h5]
   rw[if_pos h5,hS];rfl
  ·have hS:dgS p N a k l=(UInt32.ofNat (Br p (a+1) k),((a+1+k:Nat):Int),0):=by rw[dgS,if_neg ha,if_pos hz,if_neg h5]
   rw[if_neg h5,hS]
   simp only
   rw[if_neg (by rw[Aj];simp),Bee hd,Axp (by omega),Ag (by omega) (by omega)];rfl
 ·rw[if_neg (by simp[hz]),Bzv h (a+1) l h2,Aa]
  have hp:2^k≤2^24:=Nat.pow_le_pow_right (by omega) h1
  by_cases h5:(rcS p N (a+1) l).2.2≠0
  ·have hS:dgS p N a k l=(0,0,(rcS p N (a+1) l).2.2):=by rw[dgS,if_neg ha,if_neg hz,if_pos h5]
   rw[hS]
   generalize rcS p N (a+1) l=R at*
   obtain⟨v,n,e⟩:=R
   simp only at*
   rw[if_pos (by rw[Aj];simpa using h5),if_pos h5]
  ·have hv:=(rcS p N (a+1) l).1.toNat_lt
   have z:(GI.toZ (k:Int)).toNat=k:=rfl
   have e3:(Ct (1:UInt32) k).toNat=2^k:=by rw[Bbs];show 1*2^k %_=_;rw[Nat.mod_eq_of_lt (by omega),Nat.one_mul]
   by_cases h6:4294967295<(rcS p N (a+1) l).1.toNat+2^k
   ·have hS:dgS p N a k l=(0,0,12):=by rw[dgS,if_neg ha,if_neg hz,if_neg h5,if_pos h6]
    rw[hS]
    generalize rcS p N (a+1) l=R at*
    obtain⟨v,n,e⟩:=R
    simp only at*
    rw[if_neg (by rw[Aj];simpa using h5),Cg (by rw[Du];simp),Aa,z,if_pos (by rw[Bqw,Beg,UInt32.toNat_add,e3];simp;omega),if_pos (by decide)]
   ·have hS:dgS p N a k l=(UInt32.ofNat ((rcS p N (a+1) l).1.toNat+2^k),(rcS p N (a+1) l).2.1,0):=by rw[dgS,if_neg ha,if_neg hz,if_neg h5,if_neg h6]
    rw[hS]
    generalize rcS p N (a+1) l=R at*
    obtain⟨v,n,e⟩:=R
    simp only at*
    have e4:Ad v (Ct (1:UInt32) k)=UInt32.ofNat (v.toNat+2^k):=by
     apply UInt32.toNat_inj.1
     rw[Beg,UInt32.toNat_add,e3,An4 (by omega),Nat.mod_eq_of_lt (by omega)]
    rw[if_neg (by rw[Aj];simpa using h5),Cg (by rw[Du];simp),Aa,z,if_neg (by rw[Bqw,Beg,UInt32.toNat_add,e3];simp;omega),e4,Bee hd];rfl
theorem Bv0{p:List UInt8}{N:Nat}(h:okB p N)(a:Nat)(k l:Nat)(s t:UInt64)(h1:k≤24)(h2:l≤24):Ab6 p (N:Int) (a:Int) (k:Int) (l:Int) s t=some (dgS p N a k l):=by
 have hN:=h.1
 have hl:=h.2.1
 have hb:=Uj p a
 rw[Ab6]
 by_cases ha:N≤a
 ·rw[if_pos (by rw[Du];simp;omega),dgS,if_pos ha]
 rw[if_neg (by rw[Du];simp;omega),Ayz p _ a (by omega) (by omega),Aa,Be (a:=(N:Int)) (b:=(a:Int)) (by omega) (by omega),Be (by omega) (by omega)]
 have e1:Ad (a:Int) 1=((a+1:Nat):Int):=by rw[Ag (by omega) (by omega)];omega
 rw[e1]
 by_cases hz:Ia p a=0
 ·rw[if_pos (by rw[Az];simp[hz])]
  by_cases h5:N<a+1+k
  ·rw[if_pos (by rw[Af];simp;omega),dgS,if_neg ha,if_pos hz,if_pos h5]
  ·rw[if_neg (by rw[Af];simp;omega),Au8 p _ (a+1) k (by omega) (by omega),Aa,dgS,if_neg ha,if_pos hz,if_neg h5,Axp (by omega),Ag (by omega) (by omega)];rfl
 ·rw[if_neg (by rw[Az];simp;omega),Bve h (a+1) l h2,Aa]
  have hp:2^k≤2^24:=Nat.pow_le_pow_right (by omega) h1
  have hv:=(rcS p N (a+1) l).1.toNat_lt
  have e2:∀x:UInt64,(Ae x:UInt32)=UInt32.ofNat x.toNat:=fun x=>by simp only[Ae,Gs,Dj]
  by_cases h5:(rcS p N (a+1) l).2.2≠0
  ·have hS:dgS p N a k l=(0,0,(rcS p N (a+1) l).2.2):=by rw[dgS,if_neg ha,if_neg hz,if_pos h5]
   rw[hS]
   generalize rcS p N (a+1) l=R at*
   obtain⟨v,n,e⟩:=R
   simp only at*
   rw[if_pos (by rw[Aj];simpa using h5)]
  ·have hsum:∀v:UInt32,(Ad (Ae v:UInt64) (UInt64.ofNat (2^k))).toNat=v.toNat+2^k:=by
    intro v
    have:=v.toNat_lt
    have:=Nat.pow_pos (n:=k) (show 0<2 by omega)
    rw[Ad4,UInt64.toNat_add,Gk,Aj9 (by omega),UInt64.toNat_ofNat'];omega
   by_cases h6:4294967295<(rcS p N (a+1) l).1.toNat+2^k
   ·have hS:dgS p N a k l=(0,0,12):=by rw[dgS,if_neg ha,if_neg hz,if_neg h5,if_pos h6]
    rw[hS]
    generalize rcS p N (a+1) l=R at*
    obtain⟨v,n,e⟩:=R
    simp only at*
    rw[if_neg (by rw[Aj];simpa using h5),Adt k (by omega),Aa,if_pos (by rw[Aje,hsum];simpa using h6)]
   ·have hS:dgS p N a k l=(UInt32.ofNat ((rcS p N (a+1) l).1.toNat+2^k),(rcS p N (a+1) l).2.1,0):=by rw[dgS,if_neg ha,if_neg hz,if_neg h5,if_neg h6]
    rw[hS]
    generalize rcS p N (a+1) l=R at*
    obtain⟨v,n,e⟩:=R
    simp only at*
    rw[if_neg (by rw[Aj];simpa using h5),Adt k (by omega),Aa,if_neg (by rw[Aje,hsum];simpa using h6),e2,hsum]
end Go.Pl
set_option linter.unusedVariables false
set_option linter.unusedSimpArgs false
namespace Go.Pl
open Go Go.Lv
abbrev DuN:=Nat×Nat×UInt64×UInt64
def okN(d:DuN):Prop:=okD d.1 d.2.1 d.2.2.1 d.2.2.2
def nxt(d:DuN)(v:UInt32):DuN:=(kS d.1 (Zc d.2.2.1 (n64 v)),lK d.2.1 d.2.2.2 d.1 v,Zc d.2.2.1 (n64 v),lT d.2.2.2 d.1 v)
def Bh4:DuN:=(10,10,16384,16384)
theorem Bwu:okN Bh4:=⟨by decide,by decide,by decide,by decide⟩
theorem Ccf{d:DuN}(h:okN d)(v:UInt32):okN (nxt d v):=Bwb h v
abbrev DuL:=Int×Int×UInt64×UInt64×Unit
def toI(d:DuN):DuL:=((d.1:Int),(d.2.1:Int),d.2.2.1,d.2.2.2,())
def chP(ch:Nat)(v:List UInt32)(c:Nat):Nat→DuN
 |0=>Bh4
 |m+1=>if m %ch=c then nxt (chP ch v c m) (v.getD m 0)else chP ch v c m
theorem Ayx(ch:Nat)(v:List UInt32)(c:Nat):∀m,okN (chP ch v c m)
 |0=>Bwu
 |m+1=>by rw[chP];split;exact Ccf (Ayx ch v c m) _;exact Ayx ch v c m
theorem Bpj(ch:Nat)(v w:List UInt32)(c:Nat):∀m,m≤v.length→chP ch (v++w) c m=chP ch v c m
 |0,_=>rfl
 |m+1,h=>by
  have e:(v++w).getD m 0=v.getD m 0:=by simp[List.getD_eq_getElem?_getD,List.getElem?_append_left (show m<v.length by omega)]
  rw[chP,chP,Bpj ch v w c m (by omega),e]
theorem Biu(ch:Nat)(v:List UInt32)(c:Nat):∀m,m≤c→c<ch→chP ch v c m=Bh4
 |0,_,_=>rfl
 |m+1,h,h2=>by rw[chP,if_neg (by rw[Nat.mod_eq_of_lt (by omega)];omega),Biu ch v c m (by omega) h2]
theorem Bj8(ch:Nat)(v:List UInt32)(c i:Nat)(hi:i %ch=c)(hc:c<ch):∀j,j<ch→chP ch v c (i+1+j)=chP ch v c (i+1)
 |0,_=>rfl
 |j+1,h=>by
  have hne:(i+1+j) %ch≠c:=by
   intro e
   have h1:(i+(1+j)) %ch=i %ch:=by rw[hi,←e];congr 1;omega
   have h2:(1+j) %ch=0:=by
    have h3:=Nat.sub_mod_eq_zero_of_mod_eq h1
    rwa [Nat.add_sub_cancel_left]at h3
   rw[Nat.mod_eq_of_lt (by omega)]at h2;omega
  rw[show i+1+(j+1)=(i+1+j)+1 by omega,chP,if_neg hne,Bj8 ch v c i hi hc j (by omega)]
theorem Bvt(ch:Nat)(v:List UInt32)(c i:Nat)(hi:i %ch=c)(hc:c<ch):chP ch v c (i+ch)=nxt (chP ch v c i) (v.getD i 0):=by
 have h:=Bj8 ch v c i hi hc (ch-1) (by omega)
 rw[show i+1+(ch-1)=i+ch by omega]at h
 rw[h,chP,if_pos hi]
theorem Bby{l:List UInt32}{k:Nat}(h:k<l.length):getI l (k:Int)=some (l.getD k 0):=by
 rw[Bw h];simp[List.getD_eq_getElem?_getD,h]
theorem Bb5(a b:Nat):Fh (a:Int) (b:Int)=((a %b:Nat):Int):=by rw[Fh,Int.tmod_eq_emod_of_nonneg (by omega)];omega
theorem Azh(ch:Nat)(v:List UInt32)(hch:1≤ch)(hch6:ch≤6)(hv:v.length≤4000):∀(j i q:Nat),i %ch=v.length %ch→i≤v.length→v.length-i≤j→j<q→
  Jc (ch:Int) v q (i:Int) ((chP ch v (v.length %ch) i).1:Int) ((chP ch v (v.length %ch) i).2.1:Int) (chP ch v (v.length %ch) i).2.2.1 (chP ch v (v.length %ch) i).2.2.2=
   some (((chP ch v (v.length %ch) v.length).1:Int),((chP ch v (v.length %ch) v.length).2.1:Int),(chP ch v (v.length %ch) v.length).2.2.1,(chP ch v (v.length %ch) v.length).2.2.2)
 |j,i,q+1,hi,hl,hj,hq=>by
  have hc:v.length %ch<ch:=Nat.mod_lt _ (by omega)
  rw[Jc,Aal]
  by_cases h:i<v.length
  ·have h1:=Bs3 (Ayx ch v (v.length %ch) i) (v.getD i 0)
   rw[if_pos (by rw[Af,Ac];simp;omega),Bby h,Aa,h1,Aa]
   have hle:i+ch≤v.length:=by
    have h2:=Nat.div_add_mod i ch
    have h3:=Nat.div_add_mod v.length ch
    rw[hi]at h2
    have h4:ch*(i/ch)<ch*(v.length/ch):=by omega
    have h5:=Nat.lt_of_mul_lt_mul_left h4
    have h6:ch*(i/ch+1)≤ch*(v.length/ch):=Nat.mul_le_mul_left _ h5
    rw[Nat.mul_add]at h6;omega
   have ih:=Azh ch v hch hch6 hv (j-ch) (i+ch) q (by rw[Nat.add_mod_right];exact hi) hle (by omega) (by omega)
   rw[Bvt ch v _ i hi hc]at ih
   simp only
   rw[Ag (by omega) (by omega)]
   exact ih
  ·rw[if_neg (by rw[Af,Ac];simp;omega),show i=v.length by omega];rfl
theorem Bs4(ch:Nat)(v:List UInt32)(hch:1≤ch)(hch6:ch≤6)(hv:v.length≤4000):Ly (ch:Int) v=some (((chP ch v (v.length %ch) v.length).1:Int),((chP ch v (v.length %ch) v.length).2.1:Int),(chP ch v (v.length %ch) v.length).2.2.1,(chP ch v (v.length %ch) v.length).2.2.2):=by
 have hc:v.length %ch<ch:=Nat.mod_lt _ (by omega)
 have hle:v.length %ch≤v.length:=Nat.mod_le _ _
 have h:=Azh ch v hch hch6 hv v.length (v.length %ch) Am (by rw[Nat.mod_mod]) hle (by omega) (by have:=Ak;omega)
 rw[Biu ch v _ _ (Nat.le_refl _) hc]at h
 rw[Ly,Xz,Jp,Aa]
 simp only
 rw[Cg (by rw[Aj];simp;omega),Aa,Ac,Bb5]
 exact h
def now(ch:Nat)(v:List UInt32):DuN:=chP ch v (v.length %ch) v.length
def win(N a:Nat):Nat:=min 81 (N-a)
def Iz(ch:Nat)(p:List UInt8)(N a:Nat)(out:List UInt32):UInt32×Int×Int:=dgS (Ace p a (win N a)) (win N a) 0 (now ch out).1 (now ch out).2.1
def Xh(ch:Nat)(p:List UInt8)(N:Nat):Nat→Nat→List UInt32→List UInt32×Nat×Int
 |0,a,out=>(out,a,0)
 |j+1,a,out=>if(Iz ch p N a out).2.2≠0 then(out,a,(Iz ch p N a out).2.2)else Xh ch p N j (a+(Iz ch p N a out).2.1.toNat) (out++[(Iz ch p N a out).1])
theorem As8{ch:Nat}{p:List UInt8}{N a:Nat}{out:List UInt32}(h:(Iz ch p N a out).2.2=0):0<(Iz ch p N a out).2.1∧(Iz ch p N a out).2.1≤win N a:=by
 have:=Ccr h
 exact⟨this.1,this.2⟩
theorem Bfz{ch:Nat}{p:List UInt8}{N a:Nat}{out:List UInt32}(h:(Iz ch p N a out).2.2=0):((a:Int)+(Iz ch p N a out).2.1)=((a+(Iz ch p N a out).2.1.toNat:Nat):Int):=by
 have:=As8 h;omega
def sts(ch:Nat)(v:List UInt32):List DuL:=(List.range 6).map fun c=>toI (chP ch v c v.length)
theorem Bqc{ch:Nat}{v:List UInt32}{c:Nat}(h:c<6):getI (sts ch v) (c:Int)=some (toI (chP ch v c v.length)):=by
 rw[Bw (by simp[sts];exact h)];simp[sts]
theorem Byf{ch:Nat}{v:List UInt32}{c:Nat}(x:UInt32)(h:c<6)(hc:c=v.length %ch):If (sts ch v) (c:Int) (toI (nxt (chP ch v c v.length) x))=some (sts ch (v++[x])):=by
 rw[Th _ (by simp[sts];exact h)]
 congr 1
 apply List.ext_getElem (by simp[sts])
 intro i h1 h2
 rw[List.getElem_set]
 simp only[sts,List.getElem_map,List.getElem_range]
 have e:(v++[x]).getD v.length 0=x:=by simp
 rw[List.length_append,List.length_singleton,chP,e,Bpj ch v [x] i v.length (Nat.le_refl _)]
 by_cases hi:c=i
 ·subst hi;rw[if_pos rfl,if_pos hc.symm]
 ·rw[if_neg hi,if_neg (by omega)]
section
variable {p:List UInt8} {N ch n:Nat}
theorem Bk0(hp:okB p N)(h1:1≤ch)(h6:ch≤6)(hn:n*ch≤4000):∀(j a q:Nat) (out:List UInt32),out.length+j=n*ch→j<q→a≤N→
  Jv (ch:Int) (n:Int) p (N:Int) q (a:Int) (out.length:Int) (sts ch out) out=
   some (if(Xh ch p N j a out).2.2≠0 then([],0,(Xh ch p N j a out).2.2)else((Xh ch p N j a out).1,((Xh ch p N j a out).2.1:Int),0))
 |j,a,q+1,out,hj,hq,ha=>by
  have hN:=hp.1
  have hnn:n≤n*ch:=Nat.le_mul_of_pos_right n (by omega)
  have em:Ax (n:Int) (ch:Int)=((n*ch:Nat):Int):=by rw[Fx (by rw[←Int.natCast_mul];omega) (by rw[←Int.natCast_mul];omega),Int.natCast_mul]
  rw[Jv,Od,em]
  cases j with
  |zero=>
   rw[if_neg (by rw[Af];simp;omega)];rfl
  |succ j=>
   have hc:out.length %ch<6:=Nat.lt_of_lt_of_le (Nat.mod_lt _ (by omega)) h6
   have ew:Da (Ad (a:Int) 81) (N:Int)=((a+win N a:Nat):Int):=by rw[Ahb,Ag (by omega) (by omega)];unfold win;omega
   have hw:a+win N a≤N:=by unfold win;omega
   have hw2:win N a≤81:=by unfold win;omega
   have hd:=Bxq (Brm p a (win N a) (by omega)) 0 (Ayx ch out (out.length %ch) out.length)
   have ecode:dgS (Ace p a (win N a)) (win N a) 0 (chP ch out (out.length %ch) out.length).1 (chP ch out (out.length %ch) out.length).2.1=Iz ch p N a out:=rfl
   rw[if_pos (by rw[Af];simp;omega),ew,Cbn hp a _ hw (by omega),Aa]
   simp only
   rw[if_neg (by rw[Aj];simp),Cg (by rw[Aj];simp;omega),Aa,Bb5,Bqc hc,Aa,Aa]
   refine Eq.trans (congrArg (fun o=>Option.bind o _) hd) ?_
   rw[Aa,ecode,Xh]
   by_cases he:(Iz ch p N a out).2.2≠0
   ·rw[if_pos he,if_pos he]
    simp only
    rw[Nl,Nr,if_pos (by rw[Aj];simpa using he),if_pos he]
   ·have he0:(Iz ch p N a out).2.2=0:=by simpa using he
    have hok:=As8 he0
    have hset:=Byf (ch:=ch) (v:=out) (Iz ch p N a out).1 hc rfl
    rw[if_neg he,if_neg he]
    simp only
    rw[Nl,Nr,if_neg (by rw[Aj];simp),Cg (by rw[Aj];simp;omega),Aa,Bb5,Bqc hc,Aa]
    refine Eq.trans (congrArg (fun o=>Option.bind o _) hset) ?_
    rw[Aa,Vu,Ag4,Fs (by simp;omega),Aa,Ag (by omega) (by omega),Ag (by omega) (by omega),Bfz he0]
    have ih:=Bk0 hp h1 h6 hn j (a+(Iz ch p N a out).2.1.toNat) q (out++[(Iz ch p N a out).1]) (by simp;omega) (by omega) (by omega)
    rw[List.length_append,List.length_singleton]at ih
    exact ih
theorem Bqx{p:List UInt8}(hN:N=8*p.length)(hN2:N≤330000)(h1:1≤ch)(h6:ch≤6)(hn:n*ch≤4000):∀(j a q:Nat) (out:List UInt32),out.length+j=n*ch→j<q→a≤N→
  Dn (ch:Int) (n:Int) p q (a:Int) (out.length:Int) out=
   if(Xh ch p N j a out).2.2≠0 then some ((Xh ch p N j a out).1,(Xh ch p N j a out).2.2)else Pe ((Xh ch p N j a out).2.1:Int) p (Xh ch p N j a out).1
 |j,a,q+1,out,hj,hq,ha=>by
  have hnn:n≤n*ch:=Nat.le_mul_of_pos_right n (by omega)
  have em:Ax (n:Int) (ch:Int)=((n*ch:Nat):Int):=by rw[Fx (by rw[←Int.natCast_mul];omega) (by rw[←Int.natCast_mul];omega),Int.natCast_mul]
  have e8:Ax (8:Int) (Ac p)=(N:Int):=by rw[Ac,Fx (by omega) (by omega)];omega
  rw[Dn,Aa2,em]
  cases j with
  |zero=>
   rw[if_neg (by rw[Af];simp;omega)];rfl
  |succ j=>
   have ew:Da (Ad (a:Int) 81) (N:Int)=((a+win N a:Nat):Int):=by rw[Ahb,Ag (by omega) (by omega)];unfold win;omega
   have hw:a+win N a≤N:=by unfold win;omega
   have hw2:win N a≤81:=by unfold win;omega
   have hpre:(Option.bind Jp fun(r_4,r_5,r_6,r_7)=>
     if(Km (out.length:Int) (ch:Int))=true then(
     Option.bind (Ly (ch:Int) out) fun(r_8,r_9,r_10,r_11)=>
     Hc (Dn (ch:Int) (n:Int) p q) (ch:Int) (n:Int) p (a:Int) (out.length:Int) out r_8 r_9 r_10 r_11)
     else Hc (Dn (ch:Int) (n:Int) p q) (ch:Int) (n:Int) p (a:Int) (out.length:Int) out r_4 r_5 r_6 r_7)=
     Hc (Dn (ch:Int) (n:Int) p q) (ch:Int) (n:Int) p (a:Int) (out.length:Int) out ((now ch out).1:Int) ((now ch out).2.1:Int) (now ch out).2.2.1 (now ch out).2.2.2:=by
    rw[Jp,Aa]
    by_cases hc:ch≤out.length
    ·simp only
     rw[if_pos (by rw[Du];simp;omega),Bs4 ch out h1 h6 (by omega),Aa];rfl
    ·have e:now ch out=Bh4:=by rw[now,Nat.mod_eq_of_lt (by omega),Biu ch out _ _ (Nat.le_refl _) (by omega)]
     simp only
     rw[if_neg (by rw[Du];simp;omega),e];rfl
   have hd:=Bv0 (Brm p a (win N a) (by omega)) 0 (now ch out).1 (now ch out).2.1 (now ch out).2.2.1 (now ch out).2.2.2 (Ayx ch out _ _).1 (Ayx ch out _ _).2.1
   have ecode:dgS (Ace p a (win N a)) (win N a) 0 (now ch out).1 (now ch out).2.1=Iz ch p N a out:=rfl
   rw[if_pos (by rw[Af];simp;omega),hpre,Hc,Aba,e8,ew,Bks p (N:Int) a _ (by omega) (by omega) (by omega),Aa]
   simp only
   refine Eq.trans (congrArg (fun o=>Option.bind o _) hd) ?_
   rw[Aa,ecode,Xh]
   by_cases he:(Iz ch p N a out).2.2≠0
   ·rw[if_pos he,if_pos (by rw[Aj];simpa using he),if_pos he]
   ·have he0:(Iz ch p N a out).2.2=0:=by simpa using he
    have hok:=As8 he0
    have ih:=Bqx hN hN2 h1 h6 hn j (a+(Iz ch p N a out).2.1.toNat) q (out++[(Iz ch p N a out).1]) (by simp;omega) (by omega) (by omega)
    have hx:=Bfz he0
    rw[List.length_append,List.length_singleton]at ih
    rw[if_neg he]
    generalize Iz ch p N a out=R at*
    obtain⟨v,nx,e⟩:=R
    simp only at*
    rw[if_neg (by rw[Aj];simpa using he),Fs (by simp;omega),Aa,Ag (by omega) (by omega),Ag (by omega) (by omega),hx]
    exact ih
end
theorem Bjn{ch:Nat}{p:List UInt8}{N:Nat}:∀(j a:Nat) (out:List UInt32),a≤N→(Xh ch p N j a out).2.1≤N∧(Xh ch p N j a out).1.length≤out.length+j∧((Xh ch p N j a out).2.2=0→(Xh ch p N j a out).1.length=out.length+j)
 |0,a,out,h=>⟨h,Nat.le_refl _,fun _=>rfl⟩
 |j+1,a,out,h=>by
  rw[Xh]
  split
  ·rename_i he
   exact⟨h,by simp,fun e=>absurd e he⟩
  ·rename_i he
   have hok:=As8 (ch:=ch) (p:=p) (N:=N) (a:=a) (out:=out) (by simpa using he)
   have hw:a+win N a≤N:=by unfold win;omega
   have ih:=Bjn (ch:=ch) (p:=p) (N:=N) j (a+(Iz ch p N a out).2.1.toNat) (out++[(Iz ch p N a out).1]) (by omega)
   rw[List.length_append,List.length_singleton]at ih
   exact⟨ih.1,by omega,fun e=>by have:=ih.2.2 e;omega⟩
theorem Bmn(ch n:Int)(b:List UInt8)(N:Int):Nn ch n b N 0 (List.replicate 6 ((0:Int),(0:Int),(0:UInt64),(0:UInt64),()))=Vr ch n b N (List.replicate 6 ((10:Int),(10:Int),(16384:UInt64),(16384:UInt64),())):=by
 have e:Am=(Am-7)+1+1+1+1+1+1+1:=by have:=Ak;omega
 rw[Nn,e]
 rfl
theorem values_eq{p:List UInt8}{N ch n:Nat}(hp:okB p N)(h1:1≤ch)(h6:ch≤6)(hn:n*ch≤4000):Aao (ch:Int) (n:Int) p (N:Int)=
  some (if(Xh ch p N (n*ch) 0 []).2.2≠0 then([],0,(Xh ch p N (n*ch) 0 []).2.2)else((Xh ch p N (n*ch) 0 []).1,((Xh ch p N (n*ch) 0 []).2.1:Int),0)):=by
 have h:=Bk0 hp h1 h6 hn (n*ch) 0 Am [] (by simp) (by have:=Ak;omega) (by omega)
 rw[Aao,Aac,Bmn]
 exact h
theorem Bg1(p:List UInt8)(x:List UInt32)(N:Nat)(hN:N=8*p.length)(hN2:N≤330000):∀(j a q:Nat),a+j=N→j<q→Gu p x q (a:Int)=some (x,if Br p a j=0 then 0 else 12)
 |0,a,q+1,ha,_=>by
  have e8:Ax (8:Int) (Ac p)=(N:Int):=by rw[Ac,Fx (by omega) (by omega)];omega
  rw[Gu,Pk,e8,if_neg (by rw[Af];simp;omega),Br,if_pos rfl];rfl
 |j+1,a,q+1,ha,hq=>by
  have e8:Ax (8:Int) (Ac p)=(N:Int):=by rw[Ac,Fx (by omega) (by omega)];omega
  have hb:=Uj p a
  rw[Gu,Pk,e8,if_pos (by rw[Af];simp;omega),Ayz p _ a (by omega) (by omega),Aa,Br]
  by_cases h:Ia p a=0
  ·rw[if_neg (by rw[Aj];simp[h]),Ag (by omega) (by omega),h]
   have ih:=Bg1 p x N hN hN2 j (a+1) q (by omega) (by omega)
   rw[show((a:Int)+1)=((a+1:Nat):Int) by omega,ih]
   congr 2
   by_cases hv:Br p (a+1) j=0
   ·rw[if_pos hv,if_pos (by omega)]
   ·rw[if_neg hv,if_neg (by omega)]
  ·rw[if_pos (by rw[Aj];simp;omega),if_neg (by omega)]
theorem Bzf{p:List UInt8}{N ch n:Nat}(hN:N=8*p.length)(hN2:N≤330000)(h1:1≤ch)(h6:ch≤6)(hn:n*ch≤4000):Aad (ch:Int) (n:Int) p=
  some (if(Xh ch p N (n*ch) 0 []).2.2≠0 then((Xh ch p N (n*ch) 0 []).1,(Xh ch p N (n*ch) 0 []).2.2)else
   ((Xh ch p N (n*ch) 0 []).1,if 7<N-(Xh ch p N (n*ch) 0 []).2.1∨Br p (Xh ch p N (n*ch) 0 []).2.1 (N-(Xh ch p N (n*ch) 0 []).2.1)≠0 then 12 else 0)):=by
 have h:=Bqx hN hN2 h1 h6 hn (n*ch) 0 Am [] (by simp) (by have:=Ak;omega) (by omega)
 have hat:=(Bjn (ch:=ch) (p:=p) (N:=N) (n*ch) 0 [] (by omega)).1
 have e8:Ax (8:Int) (Ac p)=(N:Int):=by rw[Ac,Fx (by omega) (by omega)];omega
 rw[Aad,Ad8]
 refine Eq.trans h ?_
 generalize Xh ch p N (n*ch) 0 []=V at*
 obtain⟨v,a,e⟩:=V
 simp only at*
 by_cases he:e≠0
 ·rw[if_pos he,if_pos he]
 ·rw[if_neg he,if_neg he,Pe,Aay,e8,Be (by omega) (by omega)]
  by_cases h7:7<N-a
  ·rw[if_pos (by rw[Ao];simp;omega),if_pos (.inl h7)]
  ·rw[if_neg (by rw[Ao];simp;omega),Abd,Bg1 p v N hN hN2 (N-a) a Am (by omega) (by have:=Ak;omega)]
   by_cases hv:Br p a (N-a)=0
   ·rw[if_pos hv,if_neg (by omega)]
   ·rw[if_neg hv,if_pos (.inr hv)]
end Go.Pl
set_option linter.unusedVariables false
set_option linter.unusedSimpArgs false
namespace Go.Pl
open Go Go.Lv
theorem Bis(n:Int):(GI.ofZ n:Int32)=Int32.ofInt n:=rfl
theorem Aj2(a:Int32):GI.toZ a=a.toInt:=rfl
theorem Amf(a b:Int32):Ad a b=a+b:=by
 rw[Ad,Aj2,Aj2,Bis,Int32.ofInt_add,Int32.ofInt_toInt,Int32.ofInt_toInt]
theorem Bd2(a b:Int32):Ah a b=a-b:=by
 rw[Ah,Aj2,Aj2,Bis,Int32.ofInt_sub,Int32.ofInt_toInt,Int32.ofInt_toInt]
theorem Bq8(a b:Int32):geq a b=(a==b):=by
 rw[geq,Aj2,Aj2,Bool.eq_iff_iff];simp[Int32.toInt_inj]
def sel(p:Nat→Bool)(a b:List Int32):List Int32:=(List.range a.length).map fun k=>if p k=true then a.getD k 0 else b.getD k 0
section
variable {p q:Nat→Bool} {a b:List Int32}
theorem Anc:(sel p a b).length=a.length:=by simp[sel]
theorem Kl{k:Nat}(h:k<a.length):a.getD k 0=a[k]:=by simp[List.getD_eq_getElem?_getD,h]
theorem Wt{k:Nat}(h:k<(sel p a b).length):(sel p a b)[k]=if p k=true then a.getD k 0 else b.getD k 0:=by simp[sel]
theorem Ajc{k:Nat}(h:k<a.length):getI (sel p a b) (k:Int)=some (if p k=true then a.getD k 0 else b.getD k 0):=by
 rw[Bw (by rw[Anc];exact h),Wt]
theorem Wb(h:∀k,k<a.length→p k=q k):sel p a b=sel q a b:=by
 apply List.map_congr_left
 intro k hk
 rw[h k (List.mem_range.1 hk)]
theorem Awj{k:Nat}(h:k<a.length):If (sel p a b) (k:Int) (a.getD k 0)=some (sel (fun j=>p j||decide (j=k)) a b):=by
 rw[Th _ (by rw[Anc];exact h)]
 congr 1
 apply List.ext_getElem (by simp[Anc])
 intro i h1 h2
 rw[List.getElem_set,Wt,Wt]
 by_cases hi:k=i
 ·subst hi;simp
 ·have:¬i=k:=fun e=>hi e.symm
  simp[hi,this]
theorem Av8(h:∀k,k<a.length→p k=true):sel p a b=a:=by
 apply List.ext_getElem (by simp[Anc])
 intro i h1 h2
 rw[Wt,if_pos (h i h2),Kl h2]
theorem Axl(hl:b.length=a.length)(h:∀k,k<a.length→p k=false):sel p a b=b:=by
 apply List.ext_getElem (by simp[Anc,hl])
 intro i h1 h2
 rw[Wt,h i (by omega)]
 simp[List.getD_eq_getElem?_getD,h2]
end
end Go.Pl
set_option linter.unusedVariables false
set_option linter.unusedSimpArgs false
namespace Go.Pl
open Go Go.Lv
theorem Bdy(a b:Int32):Ax a b=a*b:=by
 rw[Ax,Aj2,Aj2,Bis,Int32.ofInt_mul,Int32.ofInt_toInt,Int32.ofInt_toInt]
theorem Yt(a:Int32): -2147483648≤a.toInt∧a.toInt<2147483648:=⟨a.le_toInt,a.toInt_lt⟩
theorem Dx(a:Int32):(Ae a:Int)=a.toInt:=by
 have:=Yt a
 show wrap64 a.toInt=_
 rw[Bn]<;>omega
theorem Aga(n:Int):(Ae n:Int32)=Int32.ofInt n:=rfl
theorem Bta(x:Int):Int32.ofInt (x %4294967296)=Int32.ofInt x:=by
 apply Int32.toInt_inj.1
 rw[Int32.toInt_ofInt,Int32.toInt_ofInt]
 exact Int.emod_bmod x 4294967296
theorem Ba2(x:Int):Bs x=some (Int32.ofInt x):=by
 have e1:(Ae x:UInt64).toNat=(x %18446744073709551616).toNat:=by
  rw[Bma,UInt64.toNat_ofNat',Nat.mod_eq_of_lt (by omega)]
 have e2:(Ae (Ae x:UInt64):UInt32).toNat=(x %4294967296).toNat:=by
  have e:(Ae (Ae x:UInt64):UInt32)=UInt32.ofNat (Ae x:UInt64).toNat:=by simp only[Ae,Gs,Dj]
  rw[e,UInt32.toNat_ofNat',e1]
  show(x %18446744073709551616).toNat %4294967296=_
  omega
 have e3:(Ae (Ae (Ae x:UInt64):UInt32):Int32)=Int32.ofInt ((Ae (Ae x:UInt64):UInt32).toNat:Int):=rfl
 rw[Bs,e3,e2,←Bta x]
 congr 2;omega
theorem Av2(a b:Int32):Bs (Ad (Ae a:Int) (Ae b:Int))=some (a+b):=by
 have:=Yt a
 have:=Yt b
 rw[Dx,Dx,Ag (by omega) (by omega),Ba2,Int32.ofInt_add,Int32.ofInt_toInt,Int32.ofInt_toInt]
theorem Bvf(a b:Int32):Bs (Ax (Ae a:Int) (Ae b:Int))=some (a*b):=by
 have ha:=Yt a
 have hb:=Yt b
 have h1: -9223372036854775808≤a.toInt*b.toInt∧a.toInt*b.toInt≤9223372036854775807:=by
  have h2:(a.toInt*b.toInt).natAbs≤2147483648*2147483648:=by
   rw[Int.natAbs_mul];exact Nat.mul_le_mul (by omega) (by omega)
  omega
 rw[Dx,Dx,Fx h1.1 h1.2,Ba2,Int32.ofInt_mul,Int32.ofInt_toInt,Int32.ofInt_toInt]
def OkF(s:Int)(t p:List Int32):Prop:=(s=9∨s=10)∧t.length=16∧p.length=16
theorem Ayt{s:Int}{t p:List Int32}(h:OkF s t p):Abw s t p=some 0:=by
 obtain⟨rfl|rfl,_,_⟩:=h<;>rfl
theorem g32{l:List Int32}{k:Nat}(h:k<l.length):getI l (k:Int)=some (l.getD k 0):=by
 rw[Bw h];simp[List.getD_eq_getElem?_getD,h]
def Arz(t p:List Int32):Nat→Int32
 |0=>0
 |i+1=>Arz t p i+t.getD i 0*p.getD i 0
def half(s:Int):Int32:=if s=9 then 256 else 512
def gF(s:Int)(t p:List Int32):Int32:=Int32.ofInt ((half s+Arz t p 16).toInt.fdiv (if s=9 then 512 else 1024))
theorem Bga{s:Int}{t p:List Int32}(h:OkF s t p):∀(j i q:Nat),i+j=16→j<q→Ot t s p q (half s+Arz t p i) (i:Int)=some (gF s t p,0)
 |0,i,q+1,hi,_=>by
  obtain rfl:i=16:=by omega
  have hs:=h.1
  rw[Ot,Acq,if_neg (by rw[Af];simp),Aks,Atx,Cg (by rw[Du];simp;omega),Aa]
  obtain rfl|rfl:=hs<;>rfl
 |j+1,i,q+1,hi,hq=>by
  obtain⟨hs,ht,hp⟩:=h
  rw[Ot,Acq,if_pos (by rw[Af];simp;omega),g32 (by omega),Aa,g32 (by omega),Aa,Aa,Ag (b:=1) (by omega) (by omega),Amf,Bdy,Int32.add_assoc]
  exact Bga ⟨hs,ht,hp⟩ j (i+1) q (by omega) (by omega)
theorem Bub{s:Int}{t p:List Int32}(h:OkF s t p):Ahz s t p=some (gF s t p,0):=by
 have hs:=h.1
 have h1:=Bga h 16 0 Am (by omega) (by have:=Ak;omega)
 have e:Ct (1:Int32) (GI.toZ (Ah s (1:Int))).toNat=half s+Arz t p 0:=by
  obtain rfl|rfl:=hs<;>rfl
 rw[Ahz,Akd,Ayt h,Aa,if_neg (by rw[Aj];simp),Cg (by rw[Du,Be (by omega) (by omega)];simp;omega),Aa,Akx,e]
 exact h1
theorem Bdv{s:Int}{t p:List Int32}(ht:t.length=16)(hp:p.length=16){g:Int32}(hg:Arz t p 16=g):∀(j i q:Nat),i+j=16→j<q→It s t p q (Arz t p i).toInt (i:Int)=some g
 |0,i,q+1,hi,_=>by
  obtain rfl:i=16:=by omega
  rw[It,Ts,if_neg (by rw[Af];simp),Afn,Afl,Aga,Int32.ofInt_toInt,hg]
 |j+1,i,q+1,hi,hq=>by
  have ih:=Bdv (s:=s) ht hp hg j (i+1) q (by omega) (by omega)
  rw[Arz]at ih
  rw[It,Ts,if_pos (by rw[Af];simp;omega),g32 (by omega),g32 (by omega),Aa,Aa,Aa,Aa,Bvf,Aa,←Dx (Arz t p i),Av2,Aa,Dx,Ag (by omega) (by omega)]
  exact ih
theorem Bvg{s:Int}{t p:List Int32}(h:OkF s t p):Amg s t p=some (Arz t p 16):=
 Bdv h.2.1 h.2.2 rfl 16 0 Am (by omega) (by have:=Ak;omega)
theorem Bs9(x n:Int)(hn:n=512∨n=1024∨n=16∨n=32):(if x.tmod n<0 then x.tdiv n-1 else x.tdiv n)=x.fdiv n:=by
 have hs:n.sign=1:=by obtain rfl|rfl|rfl|rfl:=hn<;>rfl
 rw[Int.tdiv_eq_ediv,Int.tmod_eq_emod,hs,Int.fdiv_eq_ediv_of_nonneg _ (by omega)]
 by_cases h:0≤x∨n∣x
 ·rw[if_pos h,if_pos h]
  obtain rfl|rfl|rfl|rfl:=hn<;>(rw[if_neg (by omega)];omega)
 ·rw[if_neg h,if_neg h]
  obtain rfl|rfl|rfl|rfl:=hn<;>(rw[if_pos (by omega)];omega)
theorem Bc0(x n:Int)(hn:n=512∨n=1024∨n=16∨n=32)(h: -1000000000000≤x)(h':x≤1000000000000): -1000000000000≤x.tdiv n∧x.tdiv n≤1000000000000:=by
 have hs:n.sign=1:=by obtain rfl|rfl|rfl|rfl:=hn<;>rfl
 rw[Int.tdiv_eq_ediv,hs]
 by_cases h:0≤x∨n∣x
 ·rw[if_pos h];obtain rfl|rfl|rfl|rfl:=hn<;>omega
 ·rw[if_neg h];obtain rfl|rfl|rfl|rfl:=hn<;>omega
theorem Cea(x n:Int)(hn:n=512∨n=1024∨n=16∨n=32)(h: -1000000000000≤x)(h':x≤1000000000000):By x n=x.tdiv n:=by
 have:=Bc0 x n hn h h'
 rw[Aew,Bn (by omega) (by omega)]
theorem Bmw(x n:Int)(hn:n=512∨n=1024∨n=16∨n=32)(h: -1000000000000≤x)(h':x≤1000000000000):
  (if(Bl (Fh x n) (0:Int))=true then some (Ae (Ah (By x n) (1:Int)):Int32)else some (Ae (By x n):Int32))=some (Int32.ofInt (x.fdiv n)):=by
 have hb:=Bc0 x n hn h h'
 rw[Af,Fh,Cea x n hn h h',Be (by omega) (by omega),Aga,Aga,←Bs9 x n hn]
 by_cases hx:x.tmod n<0
 ·rw[if_pos (by simpa using hx),if_pos hx]
 ·rw[if_neg (by simpa using hx),if_neg hx]
theorem Bxm{s:Int}{t p:List Int32}(h:OkF s t p):Yb s t p=some (gF s t p):=by
 obtain⟨hs,ht,hp⟩:=h
 have h:OkF s t p:=⟨hs,ht,hp⟩
 have hx:=Yt (Arz t p 16+half s)
 have key:∀n:Int,(n=512∨n=1024)→(half s).toInt=n/2→gF s t p=Int32.ofInt ((half s+Arz t p 16).toInt.fdiv n)→Rs s t p n=some (gF s t p):=by
  intro n hn hh hg
  have e2:By n (2:Int)=(half s).toInt:=by rw[hh];obtain rfl|rfl:=hn<;>rfl
  rw[Rs,Ad7,Bvg h,Aa,e2,←Dx (half s),Av2,Aa,Cg (by rw[Aj];simp;omega),Aa,Aa,Dx,Bmw _ n (by omega) (by omega) (by omega),hg,Int32.add_comm]
 rw[Yb,Aee]
 obtain rfl|rfl:=hs
 ·rw[if_pos (by rw[Az];rfl)];exact key 512 (.inl rfl) rfl rfl
 ·rw[if_neg (by rw[Az];decide)];exact key 1024 (.inr rfl) rfl rfl
def stp(i:Nat):Int32:=if i=0 then 4 else if i<4 then 2 else 1
def sg(x:Int32):Int32:=if x.toInt<0 then -1 else if 0<x.toInt then 1 else 0
def lrn(t p:List Int32)(w:Int32):List Int32:=(List.range 16).map fun i=>t.getD i 0+stp i*sg (p.getD i 0)*sg w
theorem Acl(t p:List Int32)(w:Int32):(lrn t p w).length=16:=by simp[lrn]
theorem Bhx(t p:List Int32)(w:Int32){i:Nat}(h:i<16):(lrn t p w).getD i 0=t.getD i 0+stp i*sg (p.getD i 0)*sg w:=by
 rw[Kl (by rw[Acl];exact h)];simp[lrn]
theorem step_eq(i:Nat):Amo (i:Int)=some (stp i):=by
 rw[Amo,stp]
 by_cases h:i=0
 ·rw[if_pos (by rw[Az];simp[h]),if_pos h]
 ·rw[if_neg (by rw[Az];simp;omega),if_neg h]
  by_cases h2:i<4
  ·rw[if_pos (by rw[Af];simp;omega),if_pos h2]
  ·rw[if_neg (by rw[Af];simp;omega),if_neg h2]
theorem Br6(i:Nat):Aag (i:Int)=some (stp i):=by
 rw[Aag,stp]
 by_cases h:i=0
 ·rw[if_pos (by rw[Az];simp[h]),if_pos h]
 ·rw[if_neg (by rw[Az];simp;omega),if_neg h]
  by_cases h2:i<4
  ·rw[if_pos (by rw[Be6];simp;omega),if_pos h2]
  ·rw[if_neg (by rw[Be6];simp;omega),if_neg h2]
theorem Bh7(a b:Int32):Bl a b=decide (a.toInt<b.toInt):=rfl
theorem Bnu(a b:Int32):Cp a b=decide (b.toInt<a.toInt):=rfl
theorem sign_eq(x:Int32):Qk x=some (sg x):=by
 rw[Qk,sg,Bh7,Bnu,show(0:Int32).toInt=0 from rfl]
 by_cases h:x.toInt<0
 ·rw[if_pos (by simpa using h),if_pos h]
 ·rw[if_neg (by simpa using h),if_neg h]
  by_cases h2:0<x.toInt
  ·rw[if_pos (by simpa using h2),if_pos h2]
  ·rw[if_neg (by simpa using h2),if_neg h2]
theorem Bpx:sg 0=0:=rfl
theorem toInt_ne{x:Int32}(h:x≠0):x.toInt≠0:=fun e=>h (Int32.toInt_inj.1 (by rw[e];rfl))
theorem Bjc{x:Int32}(h:x.toInt<0):sg x= -1:=by rw[sg,if_pos h]
theorem Bhy{x:Int32}(h:x≠0)(h2:¬x.toInt<0):sg x=1:=by
 have:=toInt_ne h
 rw[sg,if_neg h2,if_pos (by omega)]
theorem Asy(i:Nat):stp i=4∨stp i=2∨stp i=1:=by
 unfold stp
 by_cases h:i=0
 ·rw[if_pos h];exact .inl rfl
 ·rw[if_neg h];split;exact .inr (.inl rfl);exact .inr (.inr rfl)
theorem Btp{x w:Int32}(hx:x≠0)(hw:w≠0)(h:(x.toInt<0)=(w.toInt<0))(i:Nat):stp i*sg x*sg w=stp i:=by
 by_cases h1:x.toInt<0
 ·rw[Bjc h1,Bjc (by rw[←h];exact h1)]
  obtain e|e|e:=Asy i<;>rw[e]<;>decide
 ·rw[Bhy hx h1,Bhy hw (by rw[←h];exact h1)]
  obtain e|e|e:=Asy i<;>rw[e]<;>decide
theorem Bn4{x w:Int32}(hx:x≠0)(hw:w≠0)(h:¬(x.toInt<0)=(w.toInt<0))(i:Nat)(a:Int32):a+stp i*sg x*sg w=a-stp i:=by
 have key:stp i*sg x*sg w=-stp i:=by
  by_cases h1:x.toInt<0
  ·have h2:¬w.toInt<0:=fun h2=>h (propext ⟨fun _=>h2,fun _=>h1⟩)
   rw[Bjc h1,Bhy hw h2]
   obtain e|e|e:=Asy i<;>rw[e]<;>decide
  ·have h2:w.toInt<0:=Decidable.by_contra fun h2=>h (propext ⟨fun h3=>absurd h3 h1,fun h3=>absurd h3 h2⟩)
   rw[Bhy hx h1,Bjc h2]
   obtain e|e|e:=Asy i<;>rw[e]<;>decide
 rw[key,Int32.sub_eq_add_neg]
def Awo(i:Nat):Nat→Bool:=fun j=>decide (j<i)
theorem Bcg{a b:List Int32}{i:Nat}(h:i<a.length):If (sel (Awo i) a b) (i:Int) (a.getD i 0)=some (sel (Awo (i+1)) a b):=by
 rw[Awj h]
 congr 1
 apply Wb
 intro k _
 rw[Bool.eq_iff_iff]
 simp only[Awo,Bool.or_eq_true,decide_eq_true_eq];omega
theorem Bsj{a b:List Int32}{i:Nat}(e:a.getD i 0=b.getD i 0):sel (Awo i) a b=sel (Awo (i+1)) a b:=by
 apply List.map_congr_left
 intro k _
 simp only[Awo,decide_eq_true_eq]
 by_cases h1:k<i
 ·rw[if_pos h1,if_pos (by omega)]
 ·by_cases h2:k=i
  ·subst h2;rw[if_neg h1,if_pos (by omega),e]
  ·rw[if_neg h1,if_neg (by omega)]
theorem Bl5{a b:List Int32}{i:Nat}(h:i<a.length):getI (sel (Awo i) a b) (i:Int)=some (b.getD i 0):=by
 rw[Ajc h,if_neg (by simp[Awo])]
theorem Bg5{s:Int}{t p:List Int32}{w:Int32}(hw:w≠0)(ht:t.length=16)(hp:p.length=16):∀(j i q:Nat),i+j=16→j<q→Oq w p s q (i:Int) (sel (Awo i) (lrn t p w) t)=some (s,lrn t p w,p,0)
 |0,i,q+1,hi,_=>by
  obtain rfl:i=16:=by omega
  rw[Oq,Acn,if_neg (by rw[Af];simp),Av8 (fun k hk=>by rw[Acl]at hk;simpa [Awo]using hk)];rfl
 |j+1,i,q+1,hi,hq=>by
  have hl:=Acl t p w
  have hg:=Bhx t p w (i:=i) (by omega)
  rw[Oq,Acn,if_pos (by rw[Af];simp;omega),g32 (by omega),Aa,Ag (b:=1) (by omega) (by omega),Bl5 (by omega),step_eq]
  simp only[Aa]
  rw[Amf,Bd2,Bq8,Bh7,Bh7,show(0:Int32).toInt=0 from rfl]
  have ih:=Bg5 (s:=s) hw ht hp j (i+1) q (by omega) (by omega)
  by_cases hx:p.getD i 0=0
  ·rw[if_pos (by rw[hx];rfl),Bsj (by rw[hg,hx,Bpx,Int32.mul_zero,Int32.zero_mul,Int32.add_zero])]
   exact ih
  ·rw[if_neg (by simpa using hx)]
   by_cases hs:((p.getD i 0).toInt<0)=(w.toInt<0)
   ·rw[if_pos (by rw[beq_iff_eq];simp only[hs]),show t.getD i 0+stp i=(lrn t p w).getD i 0 by rw[hg,Btp hx hw hs],Bcg (by omega),Aa]
    exact ih
   ·rw[if_neg (by rw[beq_iff_eq,decide_eq_decide];exact fun h=>hs (propext h)),show t.getD i 0-stp i=(lrn t p w).getD i 0 by rw[hg,Bn4 hx hw hs],Bcg (by omega),Aa]
    exact ih
theorem Bt8{t:List Int32}(p:List Int32)(ht:t.length=16):lrn t p 0=t:=by
 apply List.ext_getElem (by rw[Acl,ht])
 intro i h1 h2
 have:=Bhx t p 0 (i:=i) (by omega)
 rw[Kl h1,Kl h2]at this
 rw[this,Bpx,Int32.mul_zero,Int32.add_zero]
theorem Bwl{s:Int}{t p:List Int32}(h:OkF s t p)(w:Int32):Anu s t p w=some (s,lrn t p w,p,0):=by
 rw[Anu,Ak6,Ayt h,Aa,if_neg (by rw[Aj];simp),Bq8]
 by_cases hw:w=0
 ·rw[if_pos (by simpa using hw),hw,Bt8 p h.2.1]
 ·have h1:=Bg5 (s:=s) hw h.2.1 h.2.2 16 0 Am (by omega) (by have:=Ak;omega)
  rw[Axl (by rw[Acl,h.2.1]) (fun k _=>by simp[Awo])]at h1
  rw[if_neg (by simpa using hw)]
  exact h1
theorem Av6{s:Int}{t p:List Int32}{w:Int32}(ht:t.length=16)(hp:p.length=16):∀(j i q:Nat),i+j=16→j<q→Fp w s p q (i:Int) (sel (Awo i) (lrn t p w) t)=some (s,lrn t p w,p)
 |0,i,q+1,hi,_=>by
  obtain rfl:i=16:=by omega
  rw[Fp,Mi,if_neg (by rw[Af];simp),Av8 (fun k hk=>by rw[Acl]at hk;simpa [Awo]using hk)];rfl
 |j+1,i,q+1,hi,hq=>by
  have hl:=Acl t p w
  have hg:=Bhx t p w (i:=i) (by omega)
  rw[Fp,Mi,if_pos (by rw[Af];simp;omega),g32 (l:=p) (by omega),Ag (b:=1) (by omega) (by omega),Bl5 (by omega),Br6,sign_eq w,Aa,Aa,Aa,Aa,Aa,sign_eq,Aa,Aa,Aa,Amf,Bdy,Bdy,←hg,Bcg (by omega),Aa]
  exact Av6 ht hp j (i+1) q (by omega) (by omega)
theorem Bo5{s:Int}{t p:List Int32}(h:OkF s t p)(w:Int32):Ady s t p w=some (s,lrn t p w,p):=by
 have h1:=Av6 (s:=s) (w:=w) h.2.1 h.2.2 16 0 Am (by omega) (by have:=Ak;omega)
 rw[Axl (by rw[Acl,h.2.1]) (fun k _=>by simp[Awo])]at h1
 exact h1
theorem Bzn{p:List Int32}(h:p.length=16):∃a0 a1 a2 a3 a4 a5 a6 a7 a8 a9 b0 b1 b2 b3 b4 b5,p=[a0,a1,a2,a3,a4,a5,a6,a7,a8,a9,b0,b1,b2,b3,b4,b5]:=by
 match p,h with
 |[a0,a1,a2,a3,a4,a5,a6,a7,a8,a9,b0,b1,b2,b3,b4,b5],_=>exact⟨a0,a1,a2,a3,a4,a5,a6,a7,a8,a9,b0,b1,b2,b3,b4,b5,rfl⟩
theorem Bzu{s:Int}{t p:List Int32}(h:OkF s t p)(x:Int32):As7 s t p x=some (s,t,x::p.take 15,0):=by
 obtain⟨hs,ht,hp⟩:=h
 rw[As7,Af8,Ayt ⟨hs,ht,hp⟩,Aa,if_neg (by rw[Aj];simp),show vwI (16:Int) 1 16=some ()from rfl,Aa,show vwI (16:Int) 0 16=some ()from rfl,Aa,Anm,Axa]
 obtain⟨a0,a1,a2,a3,a4,a5,a6,a7,a8,a9,b0,b1,b2,b3,b4,b5,rfl⟩:=Bzn hp
 rfl
def shf(p:List Int32)(i:Nat):List Int32:=(List.range 16).map fun k=>if k≤i then p.getD k 0 else p.getD (k-1) 0
theorem Ut(p:List Int32)(i:Nat):(shf p i).length=16:=by simp[shf]
theorem Bx9(p:List Int32)(i k:Nat)(h:k<16):(shf p i).getD k 0=if k≤i then p.getD k 0 else p.getD (k-1) 0:=by
 rw[Kl (by rw[Ut];exact h)];simp[shf]
theorem Bzo(p:List Int32)(i:Nat)(h:i+1<16):If (shf p (i+1)) ((i+1:Nat):Int) (p.getD i 0)=some (shf p i):=by
 rw[Th _ (by rw[Ut];exact h)]
 congr 1
 apply List.ext_getElem (by simp[Ut])
 intro k h1 h2
 rw[Ut]at h2
 rw[List.getElem_set]
 simp only[shf,List.getElem_map,List.getElem_range]
 by_cases hk:i+1=k
 ·subst hk;rw[if_pos rfl,if_neg (by omega)];rfl
 ·rw[if_neg hk]
  by_cases h3:k≤i
  ·rw[if_pos (by omega),if_pos h3]
  ·rw[if_neg (by omega),if_neg h3]
theorem Azy(s:Int)(t p:List Int32)(x:Int32)(hp:p.length=16):∀(i q:Nat),i<16→i<q→Gb x s t q (i:Int) (shf p i)=some (s,t,x::p.take 15)
 |0,q+1,_,_=>by
  have hg:getI (shf p 0) (0:Int)=some ((shf p 0).getD 0 0):=g32 (l:=shf p 0) (k:=0) (by rw[Ut];omega)
  have hset:If (shf p 0) (0:Int) x=some ((shf p 0).set 0 x):=Th (l:=shf p 0) (n:=0) x (by rw[Ut];omega)
  rw[Gb,Nq,if_neg (by rw[Ao];simp),Zk,Zu,hg,Aa,hset,Aa]
  congr 3
  apply List.ext_getElem (by simp[Ut,hp])
  intro k h1 h2
  rw[List.length_set,Ut]at h1
  rw[List.getElem_set]
  cases k with
  |zero=>rw[if_pos rfl];rfl
  |succ k=>
   rw[if_neg (by omega)]
   simp only[shf,List.getElem_map,List.getElem_range,List.getElem_cons_succ,List.getElem_take]
   rw[if_neg (by omega),Nat.add_sub_cancel,Kl (by omega)]
 |i+1,q+1,hi,hq=>by
  have hg:=g32 (l:=shf p (i+1)) (k:=i) (by rw[Ut];omega)
  rw[Bx9 p (i+1) i (by omega),if_pos (by omega)]at hg
  have e1:Ah ((i+1:Nat):Int) (1:Int)=(i:Int):=by rw[Be (by omega) (by omega)];omega
  have hg2:=g32 (l:=shf p (i+1)) (k:=i+1) (by rw[Ut];omega)
  rw[Gb,Nq,if_pos (by rw[Ao];simp),e1,hg,Aa,Aa,hg2,Aa,Bzo p i hi,Aa]
  exact Azy s t p x hp i q (by omega) (by omega)
theorem Bsh{s:Int}{t p:List Int32}(hp:p.length=16)(x:Int32):Afd s t p x=some (s,t,x::p.take 15):=by
 have h:=Azy s t p x hp 15 Am (by omega) (by have:=Ak;omega)
 have e:shf p 15=p:=by
  apply List.ext_getElem (by rw[Ut,hp])
  intro k h1 h2
  rw[Ut]at h1
  simp only[shf,List.getElem_map,List.getElem_range]
  rw[if_pos (by omega),Kl h2]
 rw[e]at h
 exact h
theorem Bw4{s:Int}{t p:List Int32}(h:OkF s t p)(w x:Int32):OkF s (lrn t p w) (x::p.take 15):=⟨h.1,Acl _ _ _,by simp[h.2.2]⟩
theorem Bzw{s:Int}{t p:List Int32}(h:OkF s t p)(y:Int32):Arn s t p y=some (y+gF s t p,s,lrn t p y,(y+gF s t p)::p.take 15,0):=by
 rw[Arn,Bub h,Aa]
 simp only
 rw[if_neg (by rw[Aj];simp),Amf,Anp,Bwl h,Aa]
 simp only
 rw[Bzu (s:=s) (t:=lrn t p y) (p:=p) ⟨h.1,Acl _ _ _,h.2.2⟩,Aa];rfl
theorem Bs5{s:Int}{t p:List Int32}(h:OkF s t p)(y:Int32):Qu s t p y=some (y+gF s t p,s,lrn t p y,(y+gF s t p)::p.take 15):=by
 rw[Qu,Bxm h,Aa,Av2,Aa,Bo5 h,Aa]
 simp only
 rw[Bsh h.2.2,Aa]
def sB(bits:Int):Int:=if bits=16 then 9 else 10
def shB(bits:Int):Int:=if bits=8 then 4 else 5
def Cq(bits:Int):Prop:=bits=8∨bits=16∨bits=24
def gs(sh:Int)(last:Int32):Int32:=Ae (Bjf (Ah (Ct (Ae last:Int) sh.toNat) (Ae last)) sh.toNat)
theorem Cdd(bits:Int):sB bits=9∨sB bits=10:=by unfold sB;split<;>simp
theorem Bya(bits:Int):0≤shB bits:=by unfold shB;split<;>omega
theorem Ceq{bits:Int}(h:Cq bits)(t:List Int32):Awx bits t=some (sB bits,t,List.replicate 16 0,0):=by
 obtain rfl|rfl|rfl:=h<;>rfl
theorem Cbl{bits:Int}(h:Cq bits):Aqm bits=some (shB bits,0):=by
 obtain rfl|rfl|rfl:=h<;>rfl
theorem Ccp{sh:Int}(h:0≤sh)(last:Int32):Ajg sh last=some (gs sh last):=by
 rw[Ajg,Cg (by rw[Du];simpa using h),Aa,Aa];rfl
theorem Ccm{bits:Int}(h:Cq bits)(last:Int32):Rq bits last=some (gs (shB bits) last,0):=by
 rw[Rq,Cbl h,Aa]
 simp only
 rw[if_neg (by rw[Aj];simp),Ccp (Bya bits),Aa]
theorem Bow{bits:Int}(h:Cq bits)(last:Int32)(t p:List Int32):Ra bits last (sB bits) t p=some 0:=by
 rw[Ra,Ceq h,Aa]
 simp only
 rw[if_neg (by rw[Aj,Aj];simp)]
theorem Bsv{bits:Int}(h:Cq bits){t p:List Int32}(hF:OkF (sB bits) t p)(last y:Int32):
  Ih bits last (sB bits) t p y=some (y+gF (sB bits) t p+gs (shB bits) last,bits,y+gF (sB bits) t p+gs (shB bits) last,sB bits,lrn t p y,(y+gF (sB bits) t p)::p.take 15,0):=by
 rw[Ih,Bow h,Aa,if_neg (by rw[Aj];simp),Ccm h,Aa]
 simp only
 rw[Bzw hF,Aa]
 simp only
 rw[Amf]
theorem Axx(sh:Int)(hs:sh=4∨sh=5)(last:Int32):Lz sh last=some (gs sh last):=by
 have hl:=Yt last
 have key:∀n:Int,n=16∨n=32→gs sh last=Int32.ofInt (((n-1)*last.toInt).fdiv n)→Oc last n=some (gs sh last):=by
  intro n hn hg
  have e:Ax (Ah n (1:Int)) (Ae last:Int)=(n-1)*last.toInt:=by
   obtain rfl|rfl:=hn<;>(rw[Dx,Be (by omega) (by omega),Fx (by omega) (by omega)])
  rw[Oc,Xu,Cg (by rw[Aj];simp;omega),Aa,Aa,e,Bmw _ n (by omega) (by obtain rfl|rfl:=hn<;>omega) (by obtain rfl|rfl:=hn<;>omega),hg]
 rw[Lz,Zj]
 obtain rfl|rfl:=hs
 ·rw[if_neg (by rw[Az];decide)]
  refine key 16 (.inl rfl) ?_
  have e:Ct (Ae last:Int) (4:Int).toNat=last.toInt*16:=by
   rw[Dx];show wrap64 (last.toInt*2^4)=_;rw[Bn]<;>omega
  rw[gs,e,Dx,Be (by omega) (by omega),Aga]
  show Int32.ofInt ((last.toInt*16-last.toInt).fdiv 16)=_
  congr 2;omega
 ·rw[if_pos (by rw[Az];rfl)]
  refine key 32 (.inr rfl) ?_
  have e:Ct (Ae last:Int) (5:Int).toNat=last.toInt*32:=by
   rw[Dx];show wrap64 (last.toInt*2^5)=_;rw[Bn]<;>omega
  rw[gs,e,Dx,Be (by omega) (by omega),Aga]
  show Int32.ofInt ((last.toInt*32-last.toInt).fdiv 32)=_
  congr 2;omega
theorem Btv{bits:Int}(h:Cq bits){t p:List Int32}(hF:OkF (sB bits) t p)(last y:Int32):
  Sd bits last (sB bits) t p y=some (y+gF (sB bits) t p+gs (shB bits) last,bits,y+gF (sB bits) t p+gs (shB bits) last,sB bits,lrn t p y,(y+gF (sB bits) t p)::p.take 15):=by
 have hb:Uc bits last (sB bits) t p=some (Ae (gs (shB bits) last):Int):=by
  rw[Uc]
  obtain rfl|rfl|rfl:=h
  ·rw[if_pos (by rw[Az];rfl),Axx 4 (.inl rfl),Aa];rfl
  ·rw[if_neg (by rw[Az];decide),Axx 5 (.inr rfl),Aa];rfl
  ·rw[if_neg (by rw[Az];decide),Axx 5 (.inr rfl),Aa];rfl
 rw[Sd,Bs5 hF,Aa]
 simp only
 rw[hb,Aa,Av2,Aa]
theorem Cd5{bits:Int}(h:Cq bits)(t:List Int32):Amn bits t=some (bits,0,sB bits,t,List.replicate 16 0,0):=by
 obtain rfl|rfl|rfl:=h<;>rfl
def Apb(n:UInt32):Int32:=if n.toNat %2=0 then Int32.ofInt ((n.toNat/2:Nat):Int)else Int32.ofInt (-((n.toNat/2:Nat):Int)-1)
theorem Bk9(a b:Int32):(Sr a b).toBitVec=a.toBitVec^^^b.toBitVec:=by
 show(Int32.ofInt ((BitVec.ofInt 32 a.toBitVec.toInt^^^BitVec.ofInt 32 b.toBitVec.toInt).toNat:Int)).toBitVec=_
 rw[BitVec.ofInt_toInt,BitVec.ofInt_toInt,Int32.toBitVec_ofInt,BitVec.ofInt_natCast,BitVec.ofNat_toNat,BitVec.setWidth_eq]
theorem Cd4(m:Nat)(h:m<2147483648):Sr (Int32.ofInt (m:Int)) (Int32.ofInt (-1))=Int32.ofInt (-(m:Int)-1):=by
 apply Int32.toBitVec_inj.1
 have e1:(Int32.ofInt (-1)).toBitVec=BitVec.allOnes 32:=by decide
 rw[Bk9,e1,BitVec.xor_allOnes,Int32.toBitVec_ofInt,Int32.toBitVec_ofInt]
 apply BitVec.eq_of_toNat_eq
 rw[BitVec.toNat_not,BitVec.toNat_ofInt,BitVec.toNat_ofInt]
 omega
theorem Bxe(n:UInt32):Sn n=some (Apb n):=by
 have hn:=n.toNat_lt
 have e1:(Ae (Bj n (GI.toZ (1:UInt64)).toNat):Int32)=Int32.ofInt ((n.toNat/2:Nat):Int):=by
  show Int32.ofInt ((Bj n 1).toNat:Int)=_
  rw[Ald]
 have e2:(Ae (Cy n (1:UInt32)):Int32)=Int32.ofInt ((n.toNat %2:Nat):Int):=by
  show Int32.ofInt ((Cy n (1:UInt32)).toNat:Int)=_
  rw[Bk3,UInt32.toNat_and]
  show Int32.ofInt ((n.toNat&&&1:Nat):Int)=_
  rw[Nat.and_one_is_mod]
 rw[Sn,e1,e2,Apb]
 congr 1
 by_cases h:n.toNat %2=0
 ·have e3:Axk (Int32.ofInt ((n.toNat %2:Nat):Int))=Int32.ofInt 0:=by rw[h];decide
  rw[if_pos h,e3]
  apply Int32.toBitVec_inj.1
  rw[Bk9,show(Int32.ofInt 0).toBitVec=0#32 from rfl,BitVec.xor_zero]
 ·have e3:Axk (Int32.ofInt ((n.toNat %2:Nat):Int))=Int32.ofInt (-1):=by rw[show n.toNat %2=1 by omega];decide
  rw[if_neg h,e3,Cd4 _ (by omega)]
theorem Bxv(n:UInt32):Zn n=some (Apb n):=by
 have hn:=n.toNat_lt
 have e1:geq (Xg n (2:UInt32)) (0:UInt32)=decide (n.toNat %2=0):=by
  rw[Bi5,Bmp,Bool.eq_iff_iff]
  simp only[beq_iff_eq,←UInt32.toNat_inj,UInt32.toNat_mod,decide_eq_true_eq];rfl
 rw[Zn,e1,Apb]
 by_cases h:n.toNat %2=0
 ·rw[if_pos (by simpa using h),if_pos h,Bmx];rfl
 ·have e2:(Ae n:Int)=(n.toNat:Int):=Bnq n
  rw[if_neg (by simpa using h),if_neg h,e2,Ag (by omega) (by omega),Boi,Bn (by omega) (by omega),Aew,Int.tdiv_eq_ediv,Aga]
  congr 2
  rw[if_pos (.inr (by omega)),Bn (by omega) (by omega)];omega
end Go.Pl
set_option linter.unusedVariables false
set_option linter.unusedSimpArgs false
namespace Go.Pl
open Go Go.Lv
theorem Bjx{c:Prop} [Decidable c](h:c):Hp (decide c)=some ():=by rw[decide_eq_true h];rfl
def unV(f:Nat→Int32)(ch:Nat):Nat→Int32
 |0=>if 1<ch then f (ch-1)+By (f (ch-2)) (2:Int32)else f (ch-1)
 |j+1=>unV f ch j-f (ch-2-j)
def unm(ch:Nat)(m:List Int32):List Int32:=(List.range m.length).map fun k=>unV (fun i=>m.getD (k-k %ch+i) 0) ch (ch-1-k %ch)
theorem Asu(ch:Nat)(m:List Int32):(unm ch m).length=m.length:=by simp[unm]
theorem Ba5{ch:Nat}{m:List Int32}{a i:Nat}(ha:a %ch=0)(hi:i<ch)(h:a+i<m.length):(unm ch m).getD (a+i) 0=unV (fun i=>m.getD (a+i) 0) ch (ch-1-i):=by
 have hb:(a+i) %ch=i:=by rw[Nat.add_mod,ha,Nat.zero_add,Nat.mod_mod,Nat.mod_eq_of_lt hi]
 rw[Kl (by rw[Asu];exact h)]
 simp only[unm,List.getElem_map,List.getElem_range,hb]
 rw[show a+i-i=a by omega]
section
variable (ch:Nat) (m:List Int32)
theorem Bua(h1:1≤ch)(h6:ch≤6)(hm:m.length %ch=0)(hl2:m.length≤4000):Alg (ch:Int) m=some 0:=by
 rw[Alg,if_neg (by simp[Af,Ao];omega),if_neg (by rw[Ao,Ac];simp;omega),Cg (by rw[Aj];simp;omega),Aa,if_neg]
 rw[Aj,Fh,Ac,←Int.ofNat_tmod,hm];simp
theorem Bd0(bk:Int→List Int32→Option (List Int32×Int))(at':Nat)(h1:1≤ch)(h6:ch≤6)(hm:at' %ch=0)(hl:at'+ch≤m.length)(hl2:m.length≤4000):∀(i q:Nat),i≤ch-1→i<q→
  Tc bk (ch:Int) (at':Int) q ((i:Int)-1) (sel (fun k=>decide (k<at'∨(at'+i≤k∧k<at'+ch))) (unm ch m) m)=bk ((at'+ch:Nat):Int) (sel (fun k=>decide (k<at'+ch)) (unm ch m) m)
 |0,q+1,hi,_=>by
  have e4:Ad (at':Int) (ch:Int)=((at'+ch:Nat):Int):=by rw[Ag (by omega) (by omega)];omega
  rw[Tc,Afy,if_neg (by rw[Du];simp),Aoh,Avz,e4]
  congr 1
  apply Wb
  intro k _
  rw[Bool.eq_iff_iff];simp;omega
 |i+1,q+1,hi,hq=>by
  have hlen:=Asu ch m
  have e2:Ad (at':Int) (ch:Int)-(at':Int)=(ch:Int):=by rw[Ag (by omega) (by omega)];omega
  have e3:Ad (i:Int) 1=((i+1:Nat):Int):=by rw[Ag (by omega) (by omega)];omega
  have hv:((unm ch m).getD (at'+(i+1)) 0-m.getD (at'+i) 0)=(unm ch m).getD (at'+i) 0:=by
   rw[Ba5 hm (by omega) (by omega),Ba5 hm (by omega) (by omega),show ch-1-i=(ch-1-(i+1))+1 by omega,unV,show ch-2-(ch-1-(i+1))=i by omega]
  rw[Tc,Afy,show((i+1:Nat):Int)-1=(i:Int) by omega,if_pos (by rw[Du];simp),e2,e3,Bjx (by omega),Aa,Bjx (by omega),Aa,
   show(at':Int)+((i+1:Nat):Int)=((at'+(i+1):Nat):Int) by omega,show(at':Int)+(i:Int)=((at'+i:Nat):Int) by omega,
   Ajc (by omega),Aa,Ajc (by omega),Aa,Aa,if_pos (by simp;omega),if_neg (by simp;omega),Bd2,hv,Awj (by omega),Aa,Be (by omega) (by omega)]
  have ih:=Bd0 bk at' h1 h6 hm hl hl2 i q (by omega) (by omega)
  rw[←ih]
  congr 1
  apply Wb
  intro k _
  rw[Bool.eq_iff_iff];simp;omega
theorem Bmc{at' ch n:Nat}(ha:at' %ch=0)(hm:n %ch=0)(h:at'<n):at'+ch≤n:=by
 have d1:=Nat.div_add_mod at' ch
 have d2:=Nat.div_add_mod n ch
 rw[ha,Nat.add_zero]at d1
 rw[hm,Nat.add_zero]at d2
 have hlt:at'/ch<n/ch:=by
  rcases Nat.lt_or_ge (at'/ch) (n/ch)with h'|h'
  ·exact h'
  ·have:=Nat.mul_le_mul_left ch h';omega
 have:=Nat.mul_le_mul_left ch (show at'/ch+1≤n/ch from hlt)
 rw[Nat.mul_add]at this;omega
theorem Bf6(h1:1≤ch)(h6:ch≤6)(hm:m.length %ch=0)(hl2:m.length≤4000):∀(j at' q:Nat),at' %ch=0→at'≤m.length→m.length-at'≤j→j<q→
  Ni (ch:Int) q (at':Int) (sel (fun k=>decide (k<at')) (unm ch m) m)=some (unm ch m,0)
 |j,at',q+1,ha,hle,hj,hq=>by
  have hlen:=Asu ch m
  have hl:Ac (sel (fun k=>decide (k<at')) (unm ch m) m)=(m.length:Int):=by rw[Ac,Anc,hlen]
  rw[Ni,Aob,hl]
  by_cases h:at'<m.length
  ·have hb:=Bmc ha hm h
   obtain⟨j,rfl⟩:∃k,j=k+1:=⟨j-1,by omega⟩
   have e1:Ah (Ad (at':Int) (ch:Int)-(at':Int)) 1=((ch-1:Nat):Int):=by rw[Ag (by omega) (by omega),Be (by omega) (by omega)];omega
   have e2:Ad (at':Int) (ch:Int)-(at':Int)=(ch:Int):=by rw[Ag (by omega) (by omega)];omega
   have e4:Ad (at':Int) (ch:Int)=((at'+ch:Nat):Int):=by rw[Ag (by omega) (by omega)];omega
   have hi:=Bd0 ch m (Ni (ch:Int) q) at' h1 h6 ha hb hl2 (ch-1) Am (by omega) (by have:=Ak;omega)
   have hrest:=Bf6 h1 h6 hm hl2 j (at'+ch) q (by rw[Nat.add_mod_right,ha]) hb (by omega) (by omega)
   have hstart:Af4 (Ni (ch:Int) q) (ch:Int) (at':Int) (sel (fun k=>decide (k<at'∨(at'+(ch-1)≤k∧k<at'+ch))) (unm ch m) m)=some (unm ch m,0):=by
    have e6:Ah ((ch-1:Nat):Int) 1=((ch-1:Nat):Int)-1:=Be (by omega) (by omega)
    rw[Af4,Amy,An5,e1,e6]
    exact Eq.trans hi hrest
   rw[if_pos (by rw[Af];simp;omega),show vwI (m.length:Int) (at':Int) (Ad (at':Int) (ch:Int))=some () by rw[e4,vwI,Bjx];omega,Aa,e1,e2]
   have hlast:=Ba5 (m:=m) ha (show ch-1<ch by omega) (by omega)
   rw[show ch-1-(ch-1)=0 by omega,unV]at hlast
   by_cases hc:1<ch
   ·have e5:Ah ((ch-1:Nat):Int) 1=((ch-2:Nat):Int):=by rw[Be (by omega) (by omega)];omega
    rw[if_pos hc]at hlast
    rw[if_pos (by rw[Ao];simp;omega),Bjx (by omega),Aa,e5,Bjx (by omega),Aa,show(at':Int)+((ch-1:Nat):Int)=((at'+(ch-1):Nat):Int) by omega,show(at':Int)+((ch-2:Nat):Int)=((at'+(ch-2):Nat):Int) by omega,
     Ajc (by omega),Aa,Ajc (by omega),Aa,Aa,if_neg (by simp),if_neg (by simp),Amf,←hlast,Awj (by omega),Aa]
    rw[←hstart]
    congr 1
    apply Wb
    intro k _
    rw[Bool.eq_iff_iff];simp;omega
   ·have hc1:ch=1:=by omega
    rw[if_neg (by rw[Ao];simp;omega),←hstart]
    congr 1
    rw[if_neg hc]at hlast
    apply List.map_congr_left
    intro k hk
    by_cases hk2:k=at'
    ·subst hk2
     rw[if_neg (by simp),if_pos (by simp;omega)]
     rw[show k+(ch-1)=k by omega]at hlast
     exact hlast.symm
    ·by_cases hk3:k<at'
     ·rw[if_pos (by simp;omega),if_pos (by simp;omega)]
     ·rw[if_neg (by simp;omega),if_neg (by simp;omega)]
  ·rw[if_neg (by rw[Af];simp;omega),Av8 (fun k hk=>by simp;omega)]
   rfl
theorem Bzi(h1:1≤ch)(h6:ch≤6)(hm:m.length %ch=0)(hl2:m.length≤4000):Aw6 (ch:Int) m=some (unm ch m,0):=by
 have hlen:=Asu ch m
 have h:=Bf6 ch m h1 h6 hm hl2 m.length 0 Am (by simp) (by omega) (by omega) (by have:=Ak;omega)
 rw[Aw6,Aqb,Bua ch m h1 h6 hm hl2,Aa,if_neg (by rw[Aj];simp),Di,Fs (by simp;omega),Aa,Aa,List.nil_append,Aog]
 rw[Axl hlen.symm (fun k _=>by simp)]at h
 exact h
end
def Ax0(f:Nat→Int32)(ch:Nat):List Int32:=(List.range ch).map fun i=>unV f ch (ch-1-i)
theorem Alu(f:Nat→Int32)(ch:Nat):(Ax0 f ch).length=ch:=by simp[Ax0]
theorem Awb(f:Nat→Int32){ch i:Nat}(h:i<ch):(Ax0 f ch).getD i 0=unV f ch (ch-1-i):=by
 rw[Kl (by rw[Alu];exact h)];simp[Ax0]
theorem Bwi(a b:Int32):Bs (Ah (Ae a:Int) (Ae b:Int))=some (a-b):=by
 have:=Yt a
 have:=Yt b
 rw[Dx,Dx,Be (by omega) (by omega),Ba2,Int32.ofInt_sub,Int32.ofInt_toInt,Int32.ofInt_toInt]
theorem Bsn(a b:Int32):Bs (Ad (Ae a:Int) (By (Ae b:Int) (2:Int)))=some (a+By b (2:Int32)):=by
 have:=Yt a
 have hb:=Yt b
 have hd: -2147483648≤b.toInt.tdiv 2∧b.toInt.tdiv 2≤2147483648:=by
  rw[Int.tdiv_eq_ediv,show Int.sign 2=1 from rfl]
  by_cases h:0≤b.toInt∨2∣b.toInt
  ·rw[if_pos h];omega
  ·rw[if_neg h];omega
 have e:By b (2:Int32)=Int32.ofInt (b.toInt.tdiv 2):=rfl
 rw[Dx,Dx,Aew,Bn (by omega) (by omega),Ag (by omega) (by omega),Ba2,Int32.ofInt_add,Int32.ofInt_toInt,e]
theorem Axb(seg z:List Int32)(ch:Nat)(h6:ch≤6)(hs:seg.length=ch)(hz:z.length=ch):∀(i q:Nat),i+1≤ch→i<q→
  Fm seg q ((i:Int)-1) (sel (fun k=>decide (i≤k)) (Ax0 (fun i=>seg.getD i 0) ch) z)=some (Ax0 (fun i=>seg.getD i 0) ch)
 |0,q+1,hi,_=>by
  rw[Fm,Mr,if_neg (by rw[Du];simp),Av8 (fun k hk=>by simp)];rfl
 |i+1,q+1,hi,hq=>by
  have hlen:=Alu (fun i=>seg.getD i 0) ch
  have e3:Ad (i:Int) 1=((i+1:Nat):Int):=by rw[Ag (by omega) (by omega)];omega
  have hv:(Ax0 (fun i=>seg.getD i 0) ch).getD (i+1) 0-seg.getD i 0=(Ax0 (fun i=>seg.getD i 0) ch).getD i 0:=by
   rw[Awb _ (by omega),Awb _ (by omega),show ch-1-i=(ch-1-(i+1))+1 by omega,unV,show ch-2-(ch-1-(i+1))=i by omega]
  rw[Fm,Mr,show((i+1:Nat):Int)-1=(i:Int) by omega,if_pos (by rw[Du];simp),e3,Ajc (by omega),Aa,g32 (by omega),Aa,Aa,if_pos (by simp),Bwi,Aa,Ajc (by omega),Aa,hv,Awj (by omega),Aa,Be (by omega) (by omega)]
  have ih:=Axb seg z ch h6 hs hz i q (by omega) (by omega)
  rw[←ih]
  congr 1
  apply Wb
  intro k _
  rw[Bool.eq_iff_iff];simp;omega
theorem Bml{l:List Int32}{i:Nat}(v:Int32)(h:i<l.length):(l.set i v).getD i 0=v:=by
 rw[Kl (by rw[List.length_set];exact h)];simp
theorem Bpf(seg:List Int32)(ch:Nat)(h1:1≤ch)(h6:ch≤6)(hs:seg.length=ch):Rw seg=some (Ax0 (fun i=>seg.getD i 0) ch):=by
 have hlen:=Alu (fun i=>seg.getD i 0) ch
 have hzl:(List.replicate ch (0:Int32)).length=ch:=by simp
 have e1:Ah (Ac seg) 1=((ch-1:Nat):Int):=by rw[Ac,hs,Be (by omega) (by omega)];omega
 have e2:Ah (Ac seg) 2=((ch-1:Nat):Int)-1:=by rw[Ac,hs,Be (by omega) (by omega)];omega
 have hlast:=Awb (fun i=>seg.getD i 0) (show ch-1<ch by omega)
 rw[show ch-1-(ch-1)=0 by omega,unV]at hlast
 have hend:∀z:List Int32,z.length=ch→z.getD (ch-1) 0=(Ax0 (fun i=>seg.getD i 0) ch).getD (ch-1) 0→Mw seg z=some (Ax0 (fun i=>seg.getD i 0) ch):=by
  intro z hz hzl
  have h:=Axb seg z ch h6 hs hz (ch-1) Am (by omega) (by have:=Ak;omega)
  have e:sel (fun k=>decide (ch-1≤k)) (Ax0 (fun i=>seg.getD i 0) ch) z=z:=by
   apply List.ext_getElem (by rw[Anc,hlen,hz])
   intro k k1 k2
   rw[Wt]
   by_cases hk:ch-1≤k
   ·obtain rfl:k=ch-1:=by omega
    rw[if_pos (by simp),←hzl,Kl k2]
   ·rw[if_neg (by simpa using hk),Kl k2]
  rw[e]at h
  rw[Mw,Wu,e2]
  exact h
 rw[Rw,Ws,Ac,hs,Bet (by omega) (by omega),Aa,Cg (by rw[Az];simp),Aa]
 rw[Ac,hs]at e1
 rw[Ac,hs]at e2
 have hz1:(List.replicate (Int.toNat (ch:Int)) (0:Int32)).length=ch:=by simp
 have hs1:=g32 (l:=seg) (k:=ch-1) (by omega)
 rw[e1,hs1,Aa,g32 (by omega),Aa,Th _ (by omega),Aa]
 by_cases hc:1<ch
 ·rw[if_pos hc]at hlast
  have e3:((ch-1:Nat):Int)-1=((ch-2:Nat):Int):=by omega
  have hs2:=g32 (l:=seg) (k:=ch-2) (by omega)
  rw[if_pos (by rw[Ao];simp;omega),Aa,e2,e3,hs2,Aa,Bsn,Aa,g32 (by rw[List.length_set];omega),Aa,Th _ (by rw[List.length_set];omega),Aa]
  refine hend _ (by simp) ?_
  rw[hlast,Bml _ (by rw[List.length_set];omega)]
 ·rw[if_neg hc]at hlast
  rw[if_neg (by rw[Ao];simp;omega)]
  refine hend _ (by simp) ?_
  rw[hlast,Bml _ (by omega)]
theorem By9(ch:Nat)(m:List Int32)(h1:1≤ch)(h6:ch≤6)(hm:m.length %ch=0)(hl2:m.length≤4000):Oa (ch:Int) m=some 0:=by
 rw[Oa,if_neg (by simp[Af,Ao];omega),if_neg (by rw[Ao,Ac];simp;omega),Cg (by rw[Aj];simp;omega),Aa,if_neg]
 rw[Ao,Fh,Ac,←Int.ofNat_tmod,hm];simp
theorem Az6(ch:Nat)(m:List Int32)(h1:1≤ch)(h6:ch≤6)(hm:m.length %ch=0)(hl2:m.length≤4000):∀(j at' q:Nat),at' %ch=0→at'≤m.length→m.length-at'≤j→j<q→
  Lh (ch:Int) m q (at':Int) ((unm ch m).take at')=some (unm ch m,0)
 |j,at',q+1,ha,hle,hj,hq=>by
  have hlen:=Asu ch m
  rw[Lh,Adc]
  by_cases h:at'<m.length
  ·have hb:=Bmc ha hm h
   have e4:Ad (at':Int) (ch:Int)=((at'+ch:Nat):Int):=by rw[Ag (by omega) (by omega)];omega
   have hrest:=Az6 ch m h1 h6 hm hl2 (j-1) (at'+ch) q (by rw[Nat.add_mod_right,ha]) hb (by omega) (by omega)
   have hseg:((m.take (at'+ch)).drop at').length=ch:=by simp;omega
   have htl:((unm ch m).take at').length=at':=by simp[hlen];omega
   rw[if_pos (by rw[Af,Ac];simp;omega),e4,Mx (by omega) (by omega) (by omega),Aa,show((at'+ch:Nat):Int).toNat=at'+ch from rfl,show(at':Int).toNat=at' from rfl,Bpf _ ch h1 h6 hseg,Aa,Fs (by rw[htl,Alu];omega),Aa]
   have e:(unm ch m).take at'++Ax0 (fun i=>((m.take (at'+ch)).drop at').getD i 0) ch=(unm ch m).take (at'+ch):=by
    apply List.ext_getElem (by rw[List.length_append,htl,Alu,List.length_take,hlen];omega)
    intro k k1 k2
    rw[List.length_take,hlen]at k2
    rw[List.getElem_append,List.getElem_take]
    by_cases hk:k<at'
    ·rw[dif_pos (by rw[htl];exact hk),List.getElem_take]
    ·rw[dif_neg (by rw[htl];exact hk)]
     have hu:=Ba5 (m:=m) ha (show k-at'<ch by omega) (by omega)
     rw[show at'+(k-at')=k by omega,Kl (by omega)]at hu
     have hx:∀n,n≤ch→unV (fun i=>((m.take (at'+ch)).drop at').getD i 0) ch n=unV (fun i=>m.getD (at'+i) 0) ch n:=by
      have hf:∀i,i<ch→((m.take (at'+ch)).drop at').getD i 0=m.getD (at'+i) 0:=by
       intro i hi
       rw[Kl (by omega),Kl (by omega)];simp
      intro n
      induction n with
      |zero=>
       intro _;rw[unV,unV,hf _ (by omega)];split
       ·rw[hf _ (by omega)]
       ·rfl
      |succ n ih=>intro hn;rw[unV,unV,ih (by omega),hf _ (by omega)]
     have hy:=Awb (fun i=>((m.take (at'+ch)).drop at').getD i 0) (show k-at'<ch by omega)
     rw[Kl (by rw[Alu];omega)]at hy
     rw[hu,←hx _ (by omega),←hy]
     congr 1
     rw[htl]
   rw[e]
   exact hrest
  ·rw[if_neg (by rw[Af,Ac];simp;omega),List.take_of_length_le (by omega)];rfl
theorem Brz(ch:Nat)(m:List Int32)(h1:1≤ch)(h6:ch≤6)(hm:m.length %ch=0)(hl2:m.length≤4000):Zh (ch:Int) m=some (unm ch m,0):=by
 have h:=Az6 ch m h1 h6 hm hl2 m.length 0 Am (by simp) (by omega) (by omega) (by have:=Ak;omega)
 rw[Zh,Ad3,By9 ch m h1 h6 hm hl2,Aa,if_neg (by rw[Aj];simp)]
 exact h
end Go.Pl
set_option linter.unusedVariables false
set_option linter.unusedSimpArgs false
namespace Go.Pl
open Go Go.Lv
def pre{α:Type}(ch c:Nat)(f:α→Nat→α)(a0:α):Nat→α
 |0=>a0
 |m+1=>if m %ch=c then f (pre ch c f a0 m) m else pre ch c f a0 m
theorem Bq3{α:Type}(ch c:Nat)(f:α→Nat→α)(a0:α):∀m,m≤c→c<ch→pre ch c f a0 m=a0
 |0,_,_=>rfl
 |m+1,h,h2=>by rw[pre,if_neg (by rw[Nat.mod_eq_of_lt (by omega)];omega),Bq3 ch c f a0 m (by omega) h2]
theorem Bmg{α:Type}(ch c i:Nat)(f:α→Nat→α)(a0:α)(hi:i %ch=c)(hc:c<ch):∀j,j<ch→pre ch c f a0 (i+1+j)=pre ch c f a0 (i+1)
 |0,_=>rfl
 |j+1,h=>by
  have hne:(i+1+j) %ch≠c:=by
   intro e
   have h1:(i+(1+j)) %ch=i %ch:=by rw[hi,←e];congr 1;omega
   have h2:(1+j) %ch=0:=by
    have h3:=Nat.sub_mod_eq_zero_of_mod_eq h1
    rwa [Nat.add_sub_cancel_left]at h3
   rw[Nat.mod_eq_of_lt (by omega)]at h2;omega
  rw[show i+1+(j+1)=(i+1+j)+1 by omega,pre,if_neg hne,Bmg ch c i f a0 hi hc j (by omega)]
theorem Bvh{α:Type}(ch c i:Nat)(f:α→Nat→α)(a0:α)(hi:i %ch=c)(hc:c<ch):pre ch c f a0 (i+ch)=f (pre ch c f a0 i) i:=by
 have h:=Bmg ch c i f a0 hi hc (ch-1) (by omega)
 rw[show i+1+(ch-1)=i+ch by omega]at h
 rw[h,pre,if_pos hi]
abbrev CS:=Int32×List Int32×List Int32
def Bwx(bits:Int)(s:CS)(y:Int32):Int32:=y+gF (sB bits) s.2.1 s.2.2+gs (shB bits) s.1
def Bpl(bits:Int)(s:CS)(y:Int32):CS:=(Bwx bits s y,lrn s.2.1 s.2.2 y,(y+gF (sB bits) s.2.1 s.2.2)::s.2.2.take 15)
def cst(bits:Int)(ch:Nat)(t:List Int32)(v:List UInt32)(c:Nat):Nat→CS:=pre ch c (fun s i=>Bpl bits s (Apb (v.getD i 0))) (0,t,List.replicate 16 0)
def OkC(bits:Int)(s:CS):Prop:=OkF (sB bits) s.2.1 s.2.2
theorem Bnj(bits:Int)(ch:Nat){t:List Int32}(ht:t.length=16)(v:List UInt32)(c:Nat):∀m,OkC bits (cst bits ch t v c m)
 |0=>⟨Cdd bits,ht,by simp[cst,pre]⟩
 |m+1=>by
  have ih:=Bnj bits ch ht v c m
  rw[cst,pre]
  split
  ·exact Bw4 ih _ _
  ·exact ih
def smp(bits:Int)(ch:Nat)(t:List Int32)(v:List UInt32):List Int32:=(List.range v.length).map fun i=>Bwx bits (cst bits ch t v (i %ch) i) (Apb (v.getD i 0))
theorem Atc(bits:Int)(ch:Nat)(t:List Int32)(v:List UInt32):(smp bits ch t v).length=v.length:=by simp[smp]
theorem Brn(bits:Int)(ch:Nat)(t:List Int32)(v:List UInt32){i:Nat}(h:i<v.length):(smp bits ch t v).getD i 0=Bwx bits (cst bits ch t v (i %ch) i) (Apb (v.getD i 0)):=by
 rw[Kl (by rw[Atc];exact h)];simp[smp]
abbrev CL:=Int×Int32×(Int×(List Int32)×(List Int32)×Unit)×Unit
def toC(bits:Int)(s:CS):CL:=(bits,s.1,(sB bits,s.2.1,s.2.2,()),())
def cts(bits:Int)(ch:Nat)(t:List Int32)(v:List UInt32)(i:Nat):List CL:=(List.range 6).map fun c=>toC bits (cst bits ch t v c i)
theorem Cap{bits:Int}{ch:Nat}{t:List Int32}{v:List UInt32}{i c:Nat}(h:c<6):getI (cts bits ch t v i) (c:Int)=some (toC bits (cst bits ch t v c i)):=by
 rw[Bw (by simp[cts];exact h)];simp[cts]
theorem Bmi(bits:Int)(ch:Nat)(t:List Int32)(v:List UInt32)(c m:Nat):cst bits ch t v c (m+1)=if m %ch=c then Bpl bits (cst bits ch t v c m) (Apb (v.getD m 0))else cst bits ch t v c m:=rfl
theorem Byh{bits:Int}{ch:Nat}{t:List Int32}{v:List UInt32}{i c:Nat}(h:c<6)(hc:i %ch=c):If (cts bits ch t v i) (c:Int) (toC bits (Bpl bits (cst bits ch t v c i) (Apb (v.getD i 0))))=some (cts bits ch t v (i+1)):=by
 rw[Th _ (by simp[cts];exact h)]
 congr 1
 apply List.ext_getElem (by simp[cts])
 intro k h1 h2
 rw[List.getElem_set]
 simp only[cts,List.getElem_map,List.getElem_range]
 by_cases hk:c=k
 ·subst hk;rw[if_pos rfl,Bmi,if_pos hc]
 ·rw[if_neg hk,Bmi,if_neg (by omega)]
section
variable {bits:Int} {ch:Nat} {t:List Int32} {v:List UInt32}
theorem Blv(hb:Cq bits)(ht:t.length=16)(h1:1≤ch)(h6:ch≤6)(hv:v.length≤4000):∀(j i q:Nat),i+j=v.length→j<q→
  Gh v (ch:Int) bits q (i:Int) (cts bits ch t v i) ((smp bits ch t v).take i)=Ip (ch:Int) bits (smp bits ch t v)
 |0,i,q+1,hi,_=>by
  rw[Gh,Ir,if_neg (by rw[Af,Ac];simp;omega),List.take_of_length_le (by rw[Atc];omega)]
 |j+1,i,q+1,hi,hq=>by
  have hlen:=Atc bits ch t v
  have hc:i %ch<6:=Nat.lt_of_lt_of_le (Nat.mod_lt _ (by omega)) h6
  have hok:=Bnj bits ch ht v (i %ch) i
  have hs:=Byh (bits:=bits) (ch:=ch) (t:=t) (v:=v) (i:=i) hc rfl
  have hx:=Brn bits ch t v (i:=i) (by omega)
  have hcb:=Bsv hb hok (cst bits ch t v (i %ch) i).1 (Apb (v.getD i 0))
  have ih:=Blv hb ht h1 h6 hv j (i+1) q (by omega) (by omega)
  rw[Agh (by omega),←Kl (by omega),hx]at ih
  rw[Gh,Ir,if_pos (by rw[Af,Ac];simp;omega),Bby (by omega),Aa,Cg (by rw[Aj];simp;omega),Aa,Bb5,Cap hc,Aa,Aa,Bxe,Aa]
  refine Eq.trans (congrArg (fun o=>Option.bind o _) hcb) ?_
  rw[Aa]
  simp only
  rw[Tv,Afq,if_neg (by rw[Aj];simp),Bb5]
  refine Eq.trans (congrArg (fun o=>Option.bind o _) hs) ?_
  rw[Aa,Fs (by simp;omega),Aa,Ag (by omega) (by omega)]
  exact ih
theorem Btl(hb:Cq bits)(ht:t.length=16)(h1:1≤ch)(h6:ch≤6)(hv:v.length≤4000):Oj (ch:Int) bits t v=Ip (ch:Int) bits (smp bits ch t v):=by
 have h:=Blv hb ht h1 h6 hv v.length 0 Am (by omega) (by have:=Ak;omega)
 have e:Am=(Am-7)+1+1+1+1+1+1+1:=by have:=Ak;omega
 have hs:Mb v (ch:Int) bits t 0 (List.replicate 6 ((0:Int),(0:Int32),((0:Int),(List.replicate 16 (0:Int32)),(List.replicate 16 (0:Int32)),()),()))=Ti v (ch:Int) bits (cts bits ch t v 0):=by
  rw[Mb,e]
  obtain rfl|rfl|rfl:=hb<;>rfl
 rw[Oj,Va,hs]
 exact h
theorem Bhg(bk:Int→List Int32→Option (List Int32))(hb:Cq bits)(ht:t.length=16)(h1:1≤ch)(h6:ch≤6)(hv:v.length≤4000)(z:List Int32)(c:Nat)(hc:c<ch):∀(j i q:Nat),i %ch=c→v.length-i≤j→i≤5000→j<q→
  Ic bk v (ch:Int) bits t (c:Int) q (i:Int) (sel (fun k=>decide (k %ch<c∨(k %ch=c∧k<i))) (smp bits ch t v) z) bits (cst bits ch t v c i).1 (sB bits) (cst bits ch t v c i).2.1 (cst bits ch t v c i).2.2=
   bk ((c+1:Nat):Int) (sel (fun k=>decide (k %ch<c+1)) (smp bits ch t v) z)
 |j,i,q+1,hi,hj,hi5,hq=>by
  have hlen:=Atc bits ch t v
  rw[Ic,Xa]
  by_cases h:i<v.length
  ·have hok:=Bnj bits ch ht v c i
   have hst:=Btv hb hok (cst bits ch t v c i).1 (Apb (v.getD i 0))
   have hx:=Brn bits ch t v (i:=i) h
   rw[hi]at hx
   have ih:=Bhg bk hb ht h1 h6 hv z c hc (j-1) (i+ch) q (by rw[Nat.add_mod_right];exact hi) (by omega) (by omega) (by omega)
   have hstep:cst bits ch t v c (i+ch)=Bpl bits (cst bits ch t v c i) (Apb (v.getD i 0)):=Bvh ch c i _ _ hi hc
   rw[hstep]at ih
   have hset:=Awj (p:=fun k=>decide (k %ch<c∨(k %ch=c∧k<i))) (a:=smp bits ch t v) (b:=z) (k:=i) (by omega)
   rw[hx]at hset
   have hcong:sel (fun j=>decide (j %ch<c∨(j %ch=c∧j<i))||decide (j=i)) (smp bits ch t v) z=sel (fun k=>decide (k %ch<c∨(k %ch=c∧k<i+ch))) (smp bits ch t v) z:=by
    apply Wb
    intro k _
    rw[Bool.eq_iff_iff]
    simp only[Bool.or_eq_true,decide_eq_true_eq]
    constructor
    ·rintro((h1|h1)|h1)
     ·exact .inl h1
     ·exact .inr ⟨h1.1,by omega⟩
     ·subst h1;exact .inr ⟨hi,by omega⟩
    ·rintro(h1|⟨h1,h2⟩)
     ·exact .inl (.inl h1)
     ·by_cases h3:k<i
      ·exact .inl (.inr ⟨h1,h3⟩)
      ·refine .inr ?_
       have h4:(i+(k-i)) %ch=i %ch:=by rw[show i+(k-i)=k by omega,h1,hi]
       have h5:=Nat.sub_mod_eq_zero_of_mod_eq h4
       rw[Nat.add_sub_cancel_left,Nat.mod_eq_of_lt (by omega)]at h5
       omega
   rw[hcong]at hset
   rw[if_pos (by rw[Af,Ac];simp;omega),Bby h,Aa,Bxv,Aa]
   refine Eq.trans (congrArg (fun o=>Option.bind o _) hst) ?_
   rw[Aa]
   simp only
   rw[Xd,Wr,Ajc (by omega),Aa]
   refine Eq.trans (congrArg (fun o=>Option.bind o _) hset) ?_
   rw[Aa,Wj,Wm,Ag (by omega) (by omega)]
   exact ih
  ·rw[if_neg (by rw[Af,Ac];simp;omega),Wz,Wi,Ag (by omega) (by omega)]
   have hcong:sel (fun k=>decide (k %ch<c∨(k %ch=c∧k<i))) (smp bits ch t v) z=sel (fun k=>decide (k %ch<c+1)) (smp bits ch t v) z:=by
    apply Wb
    intro k hk
    rw[Bool.eq_iff_iff]
    simp only[decide_eq_true_eq]
    omega
   rw[hcong];rfl
theorem Bf9(hb:Cq bits)(ht:t.length=16)(h1:1≤ch)(h6:ch≤6)(hv:v.length≤4000)(z:List Int32):∀(j c q:Nat),c+j=ch→j<q→
  Dy v (ch:Int) bits t q (c:Int) (sel (fun k=>decide (k %ch<c)) (smp bits ch t v) z)=Mq (ch:Int) bits (smp bits ch t v)
 |0,c,q+1,hc,_=>by
  rw[Dy,Ml,if_neg (by rw[Af];simp;omega),Av8 (fun k hk=>by have:=Nat.mod_lt k (show 0<ch by omega);simp;omega)]
 |j+1,c,q+1,hc,hq=>by
  have ih:=Bf9 hb ht h1 h6 hv z j (c+1) q (by omega) (by omega)
  have hin:=Bhg (Dy v (ch:Int) bits t q) hb ht h1 h6 hv z c (by omega) v.length c Am (Nat.mod_eq_of_lt (by omega)) (by omega) (by omega) (by have:=Ak;omega)
  have h0:cst bits ch t v c c=(0,t,List.replicate 16 0):=Bq3 ch c _ _ c (Nat.le_refl _) (by omega)
  rw[h0]at hin
  have hcong:sel (fun k=>decide (k %ch<c∨(k %ch=c∧k<c))) (smp bits ch t v) z=sel (fun k=>decide (k %ch<c)) (smp bits ch t v) z:=by
   apply Wb
   intro k hk
   have:=Nat.mod_le k ch
   rw[Bool.eq_iff_iff]
   simp only[decide_eq_true_eq]
   omega
  rw[hcong]at hin
  rw[Dy,Ml,if_pos (by rw[Af];simp;omega),Cd5 hb,Aa]
  simp only
  rw[Wy]
  exact Eq.trans hin ih
theorem Bsi(hb:Cq bits)(ht:t.length=16)(h1:1≤ch)(h6:ch≤6)(hv:v.length≤4000)(hm:v.length %ch=0):Lw (ch:Int) bits t v=some (unm ch (smp bits ch t v)):=by
 have hlen:=Atc bits ch t v
 have h:=Bf9 hb ht h1 h6 hv (List.replicate v.length 0) ch 0 Am (by omega) (by have:=Ak;omega)
 rw[Axl (by rw[hlen];simp) (fun k _=>by simp)]at h
 rw[Lw,Aap,Ac,Bet (by omega) (by omega),Aa,Cg (by rw[Az];simp),Aa,Wx]
 refine Eq.trans h ?_
 rw[Mq,Xe,Brz ch _ h1 h6 (by rw[hlen];exact hm) (by omega),Aa]
end
def hB(bits:Int):Int:=if bits=8 then 128 else if bits=16 then 32768 else 8388608
theorem Bxg{bits:Int}(h:Cq bits):Ac1 bits=some (Int32.ofInt (-(hB bits)),Int32.ofInt (hB bits-1),0):=by
 obtain rfl|rfl|rfl:=h<;>decide
theorem Bha{bits:Int}(h:Cq bits):Pz bits=some (hB bits):=by
 obtain rfl|rfl|rfl:=h<;>rfl
theorem Bde(bits:Int):0<hB bits∧hB bits≤8388608:=by
 unfold hB;split; · omega
 ·split<;>omega
theorem Bdj{bits:Int}(h:Cq bits)(l:List Int32)(hl:l.length≤4000):∀(j i q:Nat),i+j=l.length→j<q→
  Mp (Int32.ofInt (-(hB bits))) (Int32.ofInt (hB bits-1)) l q (i:Int)=Bt l (hB bits) q (i:Int)
 |0,i,q+1,hi,_=>by
  rw[Mp,Ye,Bt,Ex,if_neg (by rw[Af,Ac];simp;omega),if_neg (by rw[Af,Ac];simp;omega)];rfl
 |j+1,i,q+1,hi,hq=>by
  have hh:=Bde bits
  have ih:=Bdj h l hl j (i+1) q (by omega) (by omega)
  have e1:(Int32.ofInt (-(hB bits))).toInt= -(hB bits):=by rw[Int32.toInt_ofInt,Int.bmod_eq_of_le (by show -(4294967296/2:Int)≤_;omega) (by show _<(4294967296+1)/2;omega)]
  have e2:(Int32.ofInt (hB bits-1)).toInt=hB bits-1:=by rw[Int32.toInt_ofInt,Int.bmod_eq_of_le (by show -(4294967296/2:Int)≤_;omega) (by show _<(4294967296+1)/2;omega)]
  rw[Mp,Ye,Bt,Ex,if_pos (by rw[Af,Ac];simp;omega),if_pos (by rw[Af,Ac];simp;omega),g32 (by omega),Aa,Aa,Aa,Dx,Boi,Bn (by omega) (by omega),Ag (by omega) (by omega),Bh7,Bnu,e1,e2,Af,Du]
  generalize(l.getD i 0).toInt=X
  by_cases h1:X< -(hB bits)
  ·rw[if_pos (by simp;omega),if_pos (by simp;omega)]
  ·rw[if_neg (c:=decide (X<0-hB bits)=true) (by simp;omega)]
   by_cases h2:hB bits≤X
   ·rw[if_pos (by simp;omega),if_pos (by simp;omega)]
   ·rw[if_neg (by simp;omega),if_neg (by simp;omega)];exact ih
theorem Bes{bits:Int}(h:Cq bits)(l:List Int32)(hl:l.length≤4000):Qo bits l=cadenzaref18_Check bits l:=by
 have hh:=Bde bits
 rw[Qo,Ags,Bxg h,Aa,cadenzaref18_Check,Kh,Bha h,Aa]
 simp only
 rw[if_neg (by rw[Aj];simp),if_neg (by rw[Ao,Ac];simp;omega),if_neg (by rw[Az];simp;omega),if_neg (by rw[Ao,Ac];simp;omega)]
 exact Bdj h l hl l.length 0 Am (by omega) (by have:=Ak;omega)
theorem Bo8{bits:Int}(h:Cq bits)(l:List Int32)(hl:l.length≤4000):∃e,cadenzaref18_Check bits l=some e:=by
 have hh:=Bde bits
 have key:∀(j i q:Nat),i+j=l.length→j<q→∃e,Bt l (hB bits) q (i:Int)=some e:=by
  intro j
  induction j with
  |zero=>
   intro i q hi hq
   obtain⟨q,rfl⟩:∃k,q=k+1:=⟨q-1,by omega⟩
   rw[Bt,Ex,if_neg (by rw[Af,Ac];simp;omega)]
   exact⟨_,rfl⟩
  |succ j ih=>
   intro i q hi hq
   obtain⟨q,rfl⟩:∃k,q=k+1:=⟨q-1,by omega⟩
   rw[Bt,Ex,if_pos (by rw[Af,Ac];simp;omega),g32 (by omega),Aa,Aa,Ag (by omega) (by omega)]
   split
   ·exact⟨_,rfl⟩
   ·split
    ·exact⟨_,rfl⟩
    ·exact ih (i+1) q (by omega) (by omega)
 obtain⟨e,he⟩:=key l.length 0 Am (by omega) (by have:=Ak;omega)
 rw[cadenzaref18_Check,Kh,Bha h,Aa,if_neg (by rw[Az];simp;omega),if_neg (by rw[Ao,Ac];simp;omega)]
 exact⟨e,he⟩
theorem Bhw{bits:Int}{ch:Nat}{t:List Int32}{v:List UInt32}(hb:Cq bits)(ht:t.length=16)(h1:1≤ch)(h6:ch≤6)(hv:v.length≤4000)(hm:v.length %ch=0):
  ∃l e,Lw (ch:Int) bits t v=some l∧Ub (ch:Int) bits l=some (if e≠0 then([],e)else(l,0))∧Oj (ch:Int) bits t v=some (if e≠0 then([],e)else(l,0))∧cadenzaref18_Check bits l=some e∧l.length=v.length:=by
 have hlen:=Atc bits ch t v
 have hul:=Asu ch (smp bits ch t v)
 obtain⟨e,he⟩:=Bo8 hb (unm ch (smp bits ch t v)) (by omega)
 refine⟨unm ch (smp bits ch t v),e,Bsi hb ht h1 h6 hv hm,?_,?_,he,by omega⟩
 ·rw[Ub,he,Aa]
  by_cases h:e=0
  ·rw[if_neg (by rw[Aj];simpa using h),if_neg (by simpa using h)]
  ·rw[if_pos (by rw[Aj];simpa using h),if_pos h]
 ·rw[Btl hb ht h1 h6 hv,Ip,Afj,Bzi ch _ h1 h6 (by rw[hlen];exact hm) (by omega),Aa]
  simp only
  rw[if_neg (by rw[Aj];simp),Bes hb _ (by omega),he,Aa]
  by_cases h:e=0
  ·rw[if_neg (by rw[Aj];simpa using h),if_neg (by simpa using h)]
  ·rw[if_pos (by rw[Aj];simpa using h),if_pos h]
end Go.Pl
set_option linter.unusedVariables false
set_option linter.unusedSimpArgs false
namespace Go.Pl
open Go Go.Lv
def Aq1(s:Nat):Nat:=(s/2)^^^ (if s %2=1 then 3988292384 else 0)
theorem Bfc{s:Nat}(h:s<4294967296):Aq1 s<4294967296:=by
 unfold Aq1
 exact Nat.xor_lt_two_pow (n:=32) (by simp;omega) (by split<;>decide)
theorem Bj1(x y:Nat):(x^^^y)/2=(x/2)^^^ (y/2):=by
 have:=Nat.shiftRight_xor_distrib (a:=x) (b:=y) (i:=1)
 simpa [Nat.shiftRight_eq_div_pow]using this
theorem Btf(x y:Nat):Aq1 (x^^^y)=Aq1 x^^^Aq1 y:=by
 have h:(x^^^y) %2=(x %2+y %2) %2:=by
  have:=Nat.xor_mod_two_eq_one (a:=x) (b:=y)
  have h1:(x^^^y) %2<2:=Nat.mod_lt _ (by omega)
  omega
 simp only[Aq1,Bj1,h]
 have hx:x %2=0∨x %2=1:=by omega
 have hy:y %2=0∨y %2=1:=by omega
 rcases hx with hx|hx<;>rcases hy with hy|hy<;>simp only[hx,hy]<;>simp
 ·rw[Nat.xor_assoc]
 ·rw[Nat.xor_assoc,Nat.xor_comm (y/2),Nat.xor_assoc,Nat.xor_comm 3988292384 (y/2)]
 ·rw[Nat.xor_assoc,Nat.xor_comm 3988292384,Nat.xor_assoc,Nat.xor_self];simp
def Td:Nat→Nat→Nat
 |0,s=>s
 |k+1,s=>Td k (Aq1 s)
theorem Bhe:∀(k x y:Nat),Td k (x^^^y)=Td k x^^^Td k y
 |0,_,_=>rfl
 |k+1,x,y=>by rw[Td,Btf,Bhe k];rfl
theorem Bgn:∀(k h:Nat),Td k (2^k*h)=h
 |0,h=>by simp[Td]
 |k+1,h=>by
  have:Aq1 (2^(k+1)*h)=2^k*h:=by
   rw[Nat.pow_succ,Nat.mul_comm (2^k) 2,Nat.mul_assoc,Aq1,if_neg (by omega),Nat.mul_div_cancel_left _ (by omega)];simp
  rw[Td,this,Bgn k]
theorem Bc8:∀(k:Nat) {s:Nat},s<4294967296→Td k s<4294967296
 |0,_,h=>h
 |k+1,_,h=>Bc8 k (Bfc h)
def Azw(s c:Nat):Nat:=Td 8 (s^^^c)
theorem Bfh{s c:Nat}(h:s<4294967296)(hc:c<256):Azw s c<4294967296:=Bc8 8 (Nat.xor_lt_two_pow (n:=32) (by simpa using h) (by simp;omega))
theorem Bm4{s c:Nat}(hc:c<256):Azw s c=(s/256)^^^Td 8 ((s %256)^^^c):=by
 have h:s=(2^8*(s/256))^^^ (s %256):=by
  have h1:s %256<2^8:=by simpa using Nat.mod_lt s (by omega:256>0)
  have:=Nat.two_pow_add_eq_or_of_lt h1 (s/256)
  have h2:2^8*(s/256)|||s %256=(2^8*(s/256))^^^ (s %256):=by
   apply Nat.eq_of_testBit_eq;intro i
   rw[Nat.testBit_or,Nat.testBit_xor]
   by_cases hi:i<8
   ·have:(2^8*(s/256)).testBit i=false:=by rw[Nat.testBit_two_pow_mul];simp;omega
    rw[this];simp
   ·have:(s %256).testBit i=false:=Nat.testBit_lt_two_pow (Nat.lt_of_lt_of_le h1 (Nat.pow_le_pow_right (by omega) (by omega)))
    rw[this];simp
  omega
 rw[Azw]
 conv=>lhs;rw[h]
 rw[Nat.xor_assoc,Bhe,Bgn]
def Bso(s:Nat)(l:List UInt8):Nat:=l.foldl (fun s c=>Azw s c.toNat) s
def Gd(b:List UInt8):UInt32:=4294967295-UInt32.ofNat (Bso 4294967295 b)
theorem By2(s:UInt32)(c:Nat)(hc:c<256):Zw s (Ae (Xg (UInt8.ofNat c) (2:UInt8)):Int)=some (UInt32.ofNat (s.toNat/2^^^ (if(s.toNat^^^c) %2=1 then 3988292384 else 0))):=by
 have h1:(Ae (Xg (UInt8.ofNat c) (2:UInt8)):Int)=((c %2:Nat):Int):=by
  rw[Agd,Byu,UInt8.toNat_mod,UInt8.toNat_ofNat']
  show((c %256 %2:Nat):Int)=_
  omega
 have h2:geq (Xg s (2:UInt32)) (1:UInt32)=decide (s.toNat %2=1):=by
  rw[Bi5,Bmp,Bool.eq_iff_iff]
  simp only[beq_iff_eq,decide_eq_true_eq]
  rw[←UInt32.toNat_inj,UInt32.toNat_mod];rfl
 have h3:By s (2:UInt32)=UInt32.ofNat (s.toNat/2):=by
  apply UInt32.toNat_inj.1
  rw[Bmx,UInt32.toNat_div,UInt32.toNat_ofNat']
  show s.toNat/2=_
  have:=s.toNat_lt
  omega
 have h4:Sr (By s (2:UInt32)) (3988292384:UInt32)=UInt32.ofNat (s.toNat/2^^^3988292384):=by
  apply UInt32.toNat_inj.1
  rw[h3,Awt,UInt32.toNat_xor,UInt32.toNat_ofNat',UInt32.toNat_ofNat']
  have:=s.toNat_lt
  rw[Nat.mod_eq_of_lt (a:=s.toNat/2) (by omega),Nat.mod_eq_of_lt]
  ·rfl
  ·exact Nat.xor_lt_two_pow (n:=32) (by omega) (by decide)
 have hx:(s.toNat^^^c) %2=(s.toNat %2+c %2) %2:=by
  have:=Nat.xor_mod_two_eq_one (a:=s.toNat) (b:=c)
  have h1:(s.toNat^^^c) %2<2:=Nat.mod_lt _ (by omega)
  omega
 have hs:s.toNat %2=0∨s.toNat %2=1:=by omega
 have hc2:c %2=0∨c %2=1:=by omega
 rw[Zw,Ac9,h1,h2,hx]
 rcases hs with hs|hs<;>rcases hc2 with hc2|hc2<;>simp[hs,hc2,Az,Adh,Aed,Awt,h3]
theorem Azx:∀(j i q:Nat) (s:UInt32) (c:Nat),i+j=8→j<q→c<2^j→Hx q s (UInt8.ofNat c) (i:Int)=some (UInt32.ofNat (Td j (s.toNat^^^c)))
 |0,i,q+1,s,c,hi,_,hc=>by
  obtain rfl:i=8:=by omega
  obtain rfl:c=0:=by simpa using hc
  rw[Hx,Rb,if_neg (by rw[Af];simp),Ad9,Adk,Td]
  simp
 |j+1,i,q+1,s,c,hi,hq,hc=>by
  have hc8:c<256:=Nat.lt_of_lt_of_le hc (show 2^(j+1)≤2^8 from Nat.pow_le_pow_right (by omega) (by omega))
  rw[Hx,Rb,if_pos (by rw[Af];simp;omega),By2 s c hc8,Aa,Ag (by omega) (by omega)]
  have e:By (UInt8.ofNat c) (2:UInt8)=UInt8.ofNat (c/2):=by
   apply UInt8.toNat_inj.1
   rw[Bze,UInt8.toNat_div,UInt8.toNat_ofNat',UInt8.toNat_ofNat']
   show c %256/2=_
   omega
  rw[e]
  have h:=Azx j (i+1) q (UInt32.ofNat (s.toNat/2^^^ (if(s.toNat^^^c) %2=1 then 3988292384 else 0))) (c/2) (by omega) (by omega) (by rw[Nat.pow_succ]at hc;omega)
  rw[show((i:Int)+1)=((i+1:Nat):Int) by omega,h,UInt32.toNat_ofNat',Td]
  congr 3
  have:=s.toNat_lt
  rw[Nat.mod_eq_of_lt,Aq1,Bj1,Nat.xor_assoc,Nat.xor_assoc,Nat.xor_comm (c/2)]
  exact Nat.xor_lt_two_pow (n:=32) (by omega) (by split<;>decide)
theorem Bzq(s:UInt32)(c:UInt8):Ajm s c=some (UInt32.ofNat (Azw s.toNat c.toNat)):=by
 have h:=Azx 8 0 Am s c.toNat (by omega) (by have:=Ak;omega) (by simpa using c.toNat_lt)
 rw[UInt8.ofNat_toNat]at h
 exact h
theorem At0(b:List UInt8)(hb:b.length<4611686018427387904):∀(j i q:Nat) (s:UInt32),i+j=b.length→j<q→Ga b q s (i:Int)=some (UInt32.ofNat (Bso s.toNat (b.drop i)))
 |0,i,q+1,s,hi,_=>by
  rw[Ga,Nw,if_neg (by rw[Af,Ac];simp;omega),show i=b.length by omega,List.drop_length]
  simp[Xr,Zs,Bso]
 |j+1,i,q+1,s,hi,hq=>by
  have hlt:i<b.length:=by omega
  rw[Ga,Nw,if_pos (by rw[Af,Ac];simp;omega),Bw hlt,Aa,Bzq,Aa,Ag (by omega) (by omega)]
  have h:=At0 b hb j (i+1) q (UInt32.ofNat (Azw s.toNat b[i].toNat)) (by omega) (by omega)
  rw[show((i:Int)+1)=((i+1:Nat):Int) by omega,h,drop_cons hlt,UInt32.toNat_ofNat',Nat.mod_eq_of_lt (Bfh s.toNat_lt b[i].toNat_lt)]
  rfl
theorem Bwy(b:List UInt8)(hb:b.length<4611686018427387904):Og b=some (Gd b):=by
 have h:=At0 b hb b.length 0 Am 4294967295 (by omega) (by have:=Ak;omega)
 rw[Og,Afs,Yx,Xn,show((0:Int))=((0:Nat):Int)from rfl,h,Aa,Bm1];rfl
theorem Bxu(c:UInt32):Sr (Bj c (GI.toZ (1:UInt64)).toNat) (Ax (3988292384:UInt32) (Cy c (1:UInt32)))=UInt32.ofNat (Aq1 c.toNat):=by
 apply UInt32.toNat_inj.1
 have e:(GI.toZ (1:UInt64)).toNat=1:=rfl
 have h1:(Bj c 1).toNat=c.toNat/2:=by rw[Ald]
 have h2:(Ax (3988292384:UInt32) (Cy c (1:UInt32))).toNat=if c.toNat %2=1 then 3988292384 else 0:=by
  rw[Bvw,Bk3,UInt32.toNat_mul,UInt32.toNat_and]
  show 3988292384*(c.toNat&&&1) %4294967296=_
  rw[Nat.and_one_is_mod]
  have:c.toNat %2=0∨c.toNat %2=1:=by omega
  rcases this with h|h<;>simp[h]
 rw[e,Awt,UInt32.toNat_xor,h1,h2,UInt32.toNat_ofNat',Nat.mod_eq_of_lt (Bfc c.toNat_lt)];rfl
theorem Bl0(bk16:Int→List UInt32→Option (UInt32×Int))(s:UInt32)(b:List UInt8)(x:Int)(t:List UInt32):∀(j i q:Nat) (c:UInt32),i+j=8→j<q→
  Mn bk16 s b x t q c (i:Int)=Zl bk16 s b x (UInt32.ofNat (Td j c.toNat)) t
 |0,i,q+1,c,hi,_=>by
  obtain rfl:i=8:=by omega
  rw[Mn,Xv,if_neg (by rw[Af];simp),Td,UInt32.ofNat_toNat]
 |j+1,i,q+1,c,hi,hq=>by
  rw[Mn,Xv,if_pos (by rw[Af];simp;omega),Bxu,Ag (by omega) (by omega),show((i:Int)+1)=((i+1:Nat):Int) by omega,Bl0 bk16 s b x t j (i+1) q _ (by omega) (by omega),UInt32.toNat_ofNat',Nat.mod_eq_of_lt (Bfc c.toNat_lt)];rfl
def tbl(n:Nat):List UInt32:=(List.range n).map fun i=>UInt32.ofNat (Td 8 i)
theorem Bre(s:UInt32)(b:List UInt8):∀(j i q:Nat),i+j=256→j<q→Jn s b q (i:Int) (tbl i++List.replicate j 0)=Yl s b (tbl 256)
 |0,i,q+1,hi,_=>by
  obtain rfl:i=256:=by omega
  rw[Jn,Yf,if_neg (by rw[Af];simp)];simp
 |j+1,i,q+1,hi,hq=>by
  have hlen:(tbl i++List.replicate (j+1) 0).length=i+(j+1):=by simp[tbl]
  rw[Jn,Yf,if_pos (by rw[Af];simp;omega),Ah1]
  have h:=Bl0 (Jn s b q) s b (i:Int) (tbl i++List.replicate (j+1) 0) 8 0 Am (Ae (i:Int)) (by omega) (by have:=Ak;omega)
  rw[show((0:Int))=((0:Nat):Int)from rfl,h,Zl,Agl,Bw (by rw[hlen];omega),Aa,Th _ (by rw[hlen];omega),Aa,Air,Ar8,Ag (by omega) (by omega)]
  have e:(Ae (i:Int):UInt32).toNat=i:=by rw[Bf4,UInt32.toNat_ofNat',Nat.mod_eq_of_lt (by omega)]
  rw[e,List.replicate_succ,As6 (by simp[tbl])]
  have h2:=Bre s b j (i+1) q (by omega) (by omega)
  have h3:tbl (i+1)=tbl i++[UInt32.ofNat (Td 8 i)]:=by simp[tbl,List.range_succ]
  rw[h3]at h2
  rw[show((i:Int)+1)=((i+1:Nat):Int) by omega,←h2]
  simp
theorem Bx2{i:Nat}(h:i<256):getI (tbl 256) (i:Int)=some (UInt32.ofNat (Td 8 i)):=by
 rw[Bw (by simpa [tbl]using h)];simp[tbl]
theorem Bus(s:UInt32)(c:UInt8):getI (tbl 256) (GI.toZ (Sr (Ae s:UInt8) c))=some (UInt32.ofNat (Td 8 ((s.toNat %256)^^^c.toNat))):=by
 have e:GI.toZ (Sr (Ae s:UInt8) c)=(((s.toNat %256)^^^c.toNat:Nat):Int):=by
  rw[Vp,Bqk,UInt8.toNat_xor,Avs,UInt8.toNat_ofNat']
 rw[e,Bx2]
 exact Nat.xor_lt_two_pow (n:=8) (by simp;omega) (by simpa using c.toNat_lt)
theorem Bts(s:UInt32)(c:UInt8):Sr (Bj s (GI.toZ (8:UInt64)).toNat) (UInt32.ofNat (Td 8 ((s.toNat %256)^^^c.toNat)))=UInt32.ofNat (Azw s.toNat c.toNat):=by
 apply UInt32.toNat_inj.1
 have hlt:Td 8 ((s.toNat %256)^^^c.toNat)<4294967296:=Bc8 8 (Nat.xor_lt_two_pow (n:=32) (by simp;omega) (by have:=c.toNat_lt;simp;omega))
 have e:(GI.toZ (8:UInt64)).toNat=8:=rfl
 rw[e,Awt,UInt32.toNat_xor,Ald,UInt32.toNat_ofNat',UInt32.toNat_ofNat',Nat.mod_eq_of_lt hlt,Nat.mod_eq_of_lt (Bfh s.toNat_lt c.toNat_lt),Bm4 c.toNat_lt]
theorem Blw(b:List UInt8)(hb:b.length<4611686018427387904):∀(j i q:Nat) (s:UInt32),i+j=b.length→j<q→Mv b (tbl 256) q s (i:Int)=some (UInt32.ofNat (Bso s.toNat (b.drop i)),0)
 |0,i,q+1,s,hi,_=>by
  rw[Mv,Zv,if_neg (by rw[Af,Ac];simp;omega),show i=b.length by omega,List.drop_length]
  simp[Ag0,Ar1,Bso]
 |j+1,i,q+1,s,hi,hq=>by
  have hlt:i<b.length:=by omega
  rw[Mv,Zv,if_pos (by rw[Af,Ac];simp;omega),Bw hlt,Aa,Bus,Aa,Aa,Bts,Ag (by omega) (by omega)]
  have h:=Blw b hb j (i+1) q (UInt32.ofNat (Azw s.toNat b[i].toNat)) (by omega) (by omega)
  rw[show((i:Int)+1)=((i+1:Nat):Int) by omega,h,drop_cons hlt,UInt32.toNat_ofNat',Nat.mod_eq_of_lt (Bfh s.toNat_lt b[i].toNat_lt)]
  rfl
theorem Caw(s:UInt32)(b:List UInt8)(hb:b.length≤100000):Aof s b=some (UInt32.ofNat (Bso s.toNat b),0):=by
 have h:=Bre s b 256 0 Am (by omega) (by have:=Ak;omega)
 have h2:=Blw b (by omega) b.length 0 Am s (by omega) (by have:=Ak;omega)
 rw[Aof,Aki,if_neg (by rw[Ao,Ac];simp;omega),Ahi]
 refine Eq.trans h ?_
 rw[Yl,Agy,Ai5,Ai3,Aht]
 exact h2
theorem Bvy(a:UInt32):Bbx a=4294967295-a:=by
 have h:=a.toNat_lt
 have e:Bbx a=UInt32.ofNat (BitVec.ofInt 32 4294967295^^^BitVec.ofInt 32 (a.toNat:Int)).toNat:=Dj _
 apply UInt32.toNat_inj.1
 rw[e,UInt32.toNat_ofNat',UInt32.toNat_sub_of_le _ _ (by rw[UInt32.le_iff_toNat_le];show a.toNat≤4294967295;omega)]
 have h1:BitVec.ofInt 32 (a.toNat:Int)=a.toBitVec:=Bif a
 have h2:(BitVec.ofInt 32 4294967295:BitVec 32)=BitVec.allOnes 32:=by decide
 rw[h1,h2,BitVec.allOnes_xor,BitVec.toNat_not]
 show(4294967296-1-a.toNat) %4294967296=4294967295-a.toNat
 omega
theorem Bo3(b:List UInt8)(hb:b.length≤100000):Sf b=some (Gd b,0):=by
 rw[Sf,Caw _ _ hb,Aa]
 simp only[Aj,Bvy]
 rfl
end Go.Pl
set_option linter.unusedVariables false
set_option linter.unusedSimpArgs false
namespace Go.Pl
open Go Go.Lv
theorem Bq5:∀{l m:List UInt8},l.length=m.length→Dd l=Dd m→l=m
 |[],[],_,_=>rfl
 |x::l,y::m,h,e=>by
  simp only[Dd]at e
  have hx:=x.toNat_lt
  have hy:=y.toNat_lt
  have h1:x=y:=UInt8.toNat_inj.1 (by omega)
  rw[h1,Bq5 (l:=l) (m:=m) (by simpa using h) (by omega)]
theorem Bjp:∀(w n:Nat),Dd (leB n w)=n %256^w
 |0,n=>by simp[leB,Dd,Nat.mod_one]
 |w+1,n=>by
  rw[leB,Dd,Bjp w (n/256),UInt8.toNat_ofNat',show(256:Nat)^(w+1)=256*256^w by rw[Nat.pow_succ,Nat.mul_comm],Nat.mod_mul]
def Wk(b:List UInt8):Int:=
 if b.length<5 then 24 else if 41254<b.length then 4 else if(Gd (b.take (b.length-4))).toNat≠Dd (b.drop (b.length-4))then 22 else 0
theorem Bj5(b:List UInt8):Yy b=some (if Wk b≠0 then([],Wk b)else(b.take (b.length-4),0)):=by
 rw[Yy]
 by_cases h1:b.length<5
 ·have hS:Wk b=24:=by rw[Wk,if_pos h1]
  rw[if_pos (by rw[Af,Ac];simp;omega),hS];rfl
 rw[if_neg (by rw[Af,Ac];simp;omega)]
 by_cases h2:41254<b.length
 ·have hS:Wk b=4:=by rw[Wk,if_neg h1,if_pos h2]
  rw[if_pos (by rw[Ao,Ac];simp;omega),hS];rfl
 have e4:Ah (Ac b) 4=((b.length-4:Nat):Int):=by rw[Ac,Be (by omega) (by omega)];omega
 have hd:(b.drop (b.length-4)).length=4:=by simp;omega
 rw[if_neg (by rw[Ao,Ac];simp;omega),e4,Ib (by omega) (by omega),Aa,show((b.length-4:Nat):Int).toNat=b.length-4 from rfl,Bo3 _ (by simp;omega),Aa]
 simp only
 rw[if_neg (by rw[Aj];simp),Fj (by omega) (by omega),Aa,show((b.length-4:Nat):Int).toNat=b.length-4 from rfl,Bkx _ (by omega) (by omega),Aa]
 have hne:Au (leU (b.drop (b.length-4))) (Ae (Gd (b.take (b.length-4))):UInt64)=decide ((Gd (b.take (b.length-4))).toNat≠Dd (b.drop (b.length-4))):=by
  have hlt:=(Gd (b.take (b.length-4))).toNat_lt
  rw[Af3,Bool.eq_iff_iff]
  simp only[bne_iff_ne,ne_eq,←UInt64.toNat_inj,decide_eq_true_eq]
  rw[Aj4 (by omega),Gk,UInt64.toNat_ofNat',Nat.mod_eq_of_lt (by omega)]
  exact⟨fun h e=>h e.symm,fun h e=>h e.symm⟩
 simp only
 rw[hne,Aa]
 by_cases h3:(Gd (b.take (b.length-4))).toNat≠Dd (b.drop (b.length-4))
 ·have hS:Wk b=22:=by rw[Wk,if_neg h1,if_neg h2,if_pos h3]
  rw[if_pos (by simp[h3]),hS];rfl
 ·have hS:Wk b=0:=by rw[Wk,if_neg h1,if_neg h2,if_neg h3]
  rw[if_neg (by rw[decide_eq_false h3];decide),hS];rfl
theorem Bsb(b:List UInt8)(hb:b.length≤1000000):Ud b=some (b++leB (Gd b).toNat 4):=by
 have h:∀k:Nat,(Ae (Bj (Gd b) k):UInt8)=UInt8.ofNat ((Gd b).toNat/2^k):=by
  intro k;rw[Avs,Ald]
 have h0:(Ae (Gd b):UInt8)=UInt8.ofNat (Gd b).toNat:=Avs _
 have h1:=h 8
 have h2:=h 16
 have h3:=h 24
 rw[Ud,Bwy b (by omega),Aa,Fs (by simp;omega),Aa,Fs (by simp;omega),Aa,h0,show(GI.toZ (8:UInt64)).toNat=8 from rfl,show(GI.toZ (16:UInt64)).toNat=16 from rfl,show(GI.toZ (24:UInt64)).toNat=24 from rfl,h1,h2,h3]
 simp only[leB,Nat.div_div_eq_div_mul,List.nil_append]
theorem Bn6(b:List UInt8):Ma b=some (Wk b):=by
 rw[Ma]
 by_cases h1:b.length<5
 ·rw[if_pos (by rw[Af,Ac];simp;omega),Wk,if_pos h1]
 rw[if_neg (by rw[Af,Ac];simp;omega)]
 by_cases h2:41254<b.length
 ·rw[if_pos (by rw[Ao,Ac];simp;omega),Wk,if_neg h1,if_pos h2]
 have e4:Ah (Ac b) 4=((b.length-4:Nat):Int):=by rw[Ac,Be (by omega) (by omega)];omega
 have hd:(b.drop (b.length-4)).length=4:=by simp;omega
 rw[if_neg (by rw[Ao,Ac];simp;omega),e4,Ib (by omega) (by omega),Aa,show((b.length-4:Nat):Int).toNat=b.length-4 from rfl,Bsb _ (by simp;omega),Aa]
 have hlt:=(Gd (b.take (b.length-4))).toNat_lt
 have hiff:(b.take (b.length-4)++leB (Gd (b.take (b.length-4))).toNat 4 !=b)=decide ((Gd (b.take (b.length-4))).toNat≠Dd (b.drop (b.length-4))):=by
  rw[Bool.eq_iff_iff]
  simp only[bne_iff_ne,ne_eq,decide_eq_true_eq]
  constructor
  ·intro h e
   apply h
   have:leB (Gd (b.take (b.length-4))).toNat 4=b.drop (b.length-4):=Bq5 (by rw[Ld,hd]) (by rw[Bjp,Nat.mod_eq_of_lt (by omega),e])
   rw[this,List.take_append_drop]
  ·intro h e
   apply h
   have hx:leB (Gd (b.take (b.length-4))).toNat 4=b.drop (b.length-4):=by
    have e2:b.take (b.length-4)++leB (Gd (b.take (b.length-4))).toNat 4=b.take (b.length-4)++b.drop (b.length-4):=by rw[e,List.take_append_drop]
    exact List.append_cancel_left e2
   rw[←hx,Bjp,Nat.mod_eq_of_lt (by omega)]
 rw[hiff]
 by_cases h3:(Gd (b.take (b.length-4))).toNat≠Dd (b.drop (b.length-4))
 ·rw[if_pos (by simp[h3]),Wk,if_neg h1,if_neg h2,if_pos h3]
 ·rw[if_neg (by rw[decide_eq_false h3];decide),Wk,if_neg h1,if_neg h2,if_neg h3]
theorem Bu0{b:List UInt8}(h:Wk b=0):5≤b.length∧b.length≤41254:=by
 unfold Wk at h
 split at h
 ·simp at h
 ·split at h
  ·simp at h
  ·omega
theorem Bye{c:Nat}(h1:1≤c)(h6:c≤6):By (4000:Int) (c:Int)=((4000/c:Nat):Int):=by
 have:c=1∨c=2∨c=3∨c=4∨c=5∨c=6:=by omega
 rcases this with rfl|rfl|rfl|rfl|rfl|rfl<;>rfl
theorem Bzr(p:List UInt8)(h:p.length≤41250):okB p (8*p.length):=⟨by omega,by omega,fun k h1 h2=>by omega⟩
theorem Azs{bits:Int}{ch n:Nat}{t:List Int32}(b:List UInt8)(hb:Cq bits)(ht:t.length=16)(h1:1≤ch)(h6:ch≤6)(n1:1≤n)(n2:n≤4000/ch):
  ∃l e,deframe_Decode (ch:Int) bits t (n:Int) b=some (l,e)∧cadenzaref21_Decode (ch:Int) bits t (n:Int) b=some (l,e)∧(e=0→cadenzaref18_Check bits l=some 0∧l.length≤4000∧l.length=n*ch)∧(e≠0→l=[]):=by
 have hn:n*ch≤4000:=by
  have:=Nat.mul_le_mul_right ch n2
  have h2:=Nat.div_mul_le_self 4000 ch
  omega
 have hq4:=Bye h1 h6
 generalize 4000/ch=mm at*
 have hck:Om (ch:Int) bits=some 0:=by
  have hr:∃x y,Ac1 bits=some (x,y,0):=⟨_,_,Bxg hb⟩
  obtain⟨x,y,hr⟩:=hr
  rw[Om,hr,Aa]
  simp only
  rw[if_neg (by simp[Aj,Af,Ao];omega)]
 have hh:=Bde bits
 have hasked:Vg (ch:Int) bits (n:Int)=some 0:=by
  rw[Vg,Ahf,if_neg (by simp[Af,Ao];omega),Bha hb,Aa,if_neg (by rw[Az];simp;omega),Aa,if_neg (by simp[Aj,Af];omega),Cg (by rw[Aj];simp;omega),Aa,hq4,if_neg (by rw[Ao];simp;omega)]
 rw[deframe_Decode,cadenzaref21_Decode,Yw,hck,hasked,Aa,Aa,if_neg (by rw[Aj];simp),if_neg (by rw[Af];simp;omega),Cg (by rw[Aj];simp;omega),Aa,hq4,if_neg (by rw[Ao];simp;omega),if_neg (by rw[Aj];simp),Bj5,Bn6]
 by_cases hs:Wk b≠0
 ·rw[if_pos hs]
  simp only[Aa]
  rw[if_pos (by rw[Aj];simpa using hs),if_pos (by rw[Aj];simpa using hs)]
  exact⟨[],Wk b,rfl,rfl,fun e=>absurd e hs,fun _=>rfl⟩
 have hs0:Wk b=0:=by simpa using hs
 have hlen:=Bu0 hs0
 have e4:Ah (Ac b) 4=((b.length-4:Nat):Int):=by rw[Ac,Be (by omega) (by omega)];omega
 rw[if_neg hs,hs0]
 simp only[Aa]
 rw[if_neg (by rw[Aj];simp),if_neg (by rw[Aj];simp),e4,Ib (by omega) (by omega),Aa,show((b.length-4:Nat):Int).toNat=b.length-4 from rfl]
 have hpl:(b.take (b.length-4)).length=b.length-4:=by simp
 generalize b.take (b.length-4)=p at*
 have e8:Ax (8:Int) (Ac p)=((8*p.length:Nat):Int):=by rw[Ac,Fx (by omega) (by omega)];omega
 have hp:=Bzr p (by omega)
 have hv:=values_eq hp h1 h6 hn
 have hr:=Bzf (N:=8*p.length) (p:=p) rfl (by omega) h1 h6 hn
 have hat:=Bjn (ch:=ch) (p:=p) (N:=8*p.length) (n*ch) 0 [] (by omega)
 rw[Bi4,if_neg (by rw[Ao,Ac];simp;omega),Ej,Fs (by simp;omega),Aa,Aa,Aa,List.nil_append,e8]
 simp only
 rw[if_neg (by rw[Aj];simp),hv,hr,Aa,Aa]
 generalize Xh ch p (8*p.length) (n*ch) 0 []=V at*
 obtain⟨v,at',e⟩:=V
 simp only at*
 by_cases he:e≠0
 ·rw[if_pos he,if_pos he]
  simp only
  rw[if_pos (by rw[Aj];simpa using he),Nm,Oe,if_pos (by rw[Aj];simpa using he)]
  exact⟨[],e,rfl,rfl,fun h=>absurd h he,fun _=>rfl⟩
 have he0:e=0:=by simpa using he
 have hvl:=hat.2.2 he0
 simp only[List.length_nil,Nat.zero_add]at hvl
 rw[if_neg he,if_neg he]
 simp only
 rw[if_neg (by rw[Aj];simp),Be (by omega) (by omega),show((8*p.length:Nat):Int)-(at':Int)=((8*p.length-at':Nat):Int) by omega,Nm,Oe]
 by_cases h7:7<8*p.length-at'
 ·have hE:(if 7<8*p.length-at'∨Br p at' (8*p.length-at')≠0 then(12:Int)else 0)=12:=if_pos (.inl h7)
  rw[if_pos (by rw[Du];simp;omega),hE,if_pos (by decide)]
  exact⟨[],12,rfl,rfl,fun h=>absurd h (by decide),fun _=>rfl⟩
 rw[if_neg (by rw[Du];simp;omega),Aym hp at' _ (by omega),if_neg (by omega),Aa]
 have hz:Au (Ru p at' (8*p.length-at')) (0:UInt64)=decide (Br p at' (8*p.length-at')≠0):=by
  rw[Af3,Bool.eq_iff_iff]
  simp only[bne_iff_ne,ne_eq,←UInt64.toNat_inj,decide_eq_true_eq]
  rw[Xt p _ _ (by omega)];rfl
 simp only
 rw[hz]
 by_cases hv0:Br p at' (8*p.length-at')≠0
 ·have hE:(if 7<8*p.length-at'∨Br p at' (8*p.length-at')≠0 then(12:Int)else 0)=12:=if_pos (.inr hv0)
  rw[if_pos (by simp[hv0]),hE,if_pos (by decide)]
  exact⟨[],12,rfl,rfl,fun h=>absurd h (by decide),fun _=>rfl⟩
 have hm:v.length %ch=0:=by rw[hvl];exact Nat.mul_mod_left n ch
 obtain⟨l,e,g1,g2,g3,g4,g5⟩:=Bhw (v:=v) hb ht h1 h6 (by omega) hm
 have hE:(if 7<8*p.length-at'∨Br p at' (8*p.length-at')≠0 then(12:Int)else 0)=0:=if_neg (by omega)
 rw[if_neg (by rw[decide_eq_false hv0];decide),hE,if_neg (by decide),g1,g3,Aa,Aa,g2]
 by_cases hl:e≠0
 ·rw[if_pos hl]
  exact⟨[],e,rfl,rfl,fun h=>absurd h hl,fun _=>rfl⟩
 ·rw[if_neg hl]
  have hl0:e=0:=by simpa using hl
  exact⟨l,0,rfl,rfl,fun _=>⟨by rw[g4,hl0],by omega,by omega⟩,fun e=>absurd rfl e⟩
end Go.Pl
set_option linter.unusedVariables false
set_option linter.unusedSimpArgs false
namespace Go.Pl
open Go Go.Lv
def P64:Nat:=4823603603198064275
def Aex(s:Nat):Nat:=(2*s %18446744073709551616)^^^ (s/9223372036854775808*P64)
theorem Alv{s:Nat}(h:s<18446744073709551616):Aex s<18446744073709551616:=by
 have h1:s/9223372036854775808=0∨s/9223372036854775808=1:=by omega
 exact Nat.xor_lt_two_pow (n:=64) (Nat.mod_lt _ (by decide)) (by rcases h1 with e|e<;>rw[e]<;>decide)
theorem Brt(x y:Nat):(x^^^y)/9223372036854775808=(x/9223372036854775808)^^^ (y/9223372036854775808):=by
 have:=Nat.shiftRight_xor_distrib (a:=x) (b:=y) (i:=63)
 simpa [Nat.shiftRight_eq_div_pow]using this
theorem Bp2(x y:Nat):2*(x^^^y) %18446744073709551616=(2*x %18446744073709551616)^^^ (2*y %18446744073709551616):=by
 have h1:=Nat.shiftLeft_xor_distrib (a:=x) (b:=y) (i:=1)
 have h2:=Nat.xor_mod_two_pow (a:=2*x) (b:=2*y) (n:=64)
 have e:2*(x^^^y)=(2*x)^^^ (2*y):=by simpa [Nat.shiftLeft_eq,Nat.mul_comm]using h1
 rw[e];exact h2
theorem Bxp{a b:Nat}(ha:a=0∨a=1)(hb:b=0∨b=1)(p:Nat):(a^^^b)*p=(a*p)^^^ (b*p):=by
 rcases ha with rfl|rfl<;>rcases hb with rfl|rfl<;>simp
theorem Cev(a b c d:Nat):(a^^^b)^^^ (c^^^d)=(a^^^c)^^^ (b^^^d):=by
 rw[Nat.xor_assoc,Nat.xor_assoc,←Nat.xor_assoc b c d,Nat.xor_comm b c,Nat.xor_assoc c b d]
theorem Bo4{x y:Nat}(hx:x<18446744073709551616)(hy:y<18446744073709551616):Aex (x^^^y)=Aex x^^^Aex y:=by
 rw[Aex,Aex,Aex,Bp2,Brt,Bxp (by omega) (by omega),Cev]
def Ko:Nat→Nat→Nat
 |0,s=>s
 |k+1,s=>Ko k (Aex s)
theorem Ayn:∀(k:Nat) {s:Nat},s<18446744073709551616→Ko k s<18446744073709551616
 |0,_,h=>h
 |k+1,_,h=>Ayn k (Alv h)
theorem Bc2:∀(k:Nat) {x y:Nat},x<18446744073709551616→y<18446744073709551616→Ko k (x^^^y)=Ko k x^^^Ko k y
 |0,_,_,_,_=>rfl
 |k+1,x,y,hx,hy=>by rw[Ko,Bo4 hx hy,Bc2 k (Alv hx) (Alv hy)];rfl
theorem Bbu:∀(k h:Nat),2^k*h<18446744073709551616→Ko k h=2^k*h
 |0,h,_=>by simp[Ko]
 |k+1,h,hl=>by
  have hpos:0<2^k:=Nat.pow_pos (by omega)
  rw[Nat.pow_succ,Nat.mul_assoc]at hl
  have h2:2*h<18446744073709551616:=Nat.lt_of_le_of_lt (Nat.le_mul_of_pos_left _ hpos) hl
  have:Aex h=2*h:=by rw[Aex,Nat.mod_eq_of_lt h2,show h/9223372036854775808=0 by omega];simp
  rw[Ko,this,Bbu k _ hl,Nat.pow_succ,Nat.mul_assoc]
def Art(s c:Nat):Nat:=Ko 8 (s^^^ (c*72057594037927936))
theorem c56{c:Nat}(hc:c<256):c*72057594037927936<18446744073709551616:=by omega
theorem Axu{s c:Nat}(h:s<18446744073709551616)(hc:c<256):Art s c<18446744073709551616:=Ayn 8 (Nat.xor_lt_two_pow (n:=64) h (c56 hc))
theorem Bx7(s:Nat):s=(s/72057594037927936*72057594037927936)^^^ (s %72057594037927936):=by
 have h1:s %72057594037927936<2^56:=Nat.mod_lt _ (by decide)
 have:=Nat.two_pow_add_eq_or_of_lt h1 (s/72057594037927936)
 have h2:2^56*(s/72057594037927936)|||s %72057594037927936=(2^56*(s/72057594037927936))^^^ (s %72057594037927936):=by
  apply Nat.eq_of_testBit_eq;intro i
  rw[Nat.testBit_or,Nat.testBit_xor]
  by_cases hi:i<56
  ·have:(2^56*(s/72057594037927936)).testBit i=false:=by rw[Nat.testBit_two_pow_mul];simp;omega
   rw[this];simp
  ·have:(s %72057594037927936).testBit i=false:=Nat.testBit_lt_two_pow (Nat.lt_of_lt_of_le h1 (Nat.pow_le_pow_right (by omega) (by omega)))
   rw[this];simp
 rw[Nat.mul_comm (s/72057594037927936)]
 show s=(2^56*(s/72057594037927936))^^^ _
 rw[←h2,←this]
 have:=Nat.div_add_mod s 72057594037927936
 show s=72057594037927936*_+_
 omega
theorem Br3(a c:Nat):(a^^^c)*72057594037927936=(a*72057594037927936)^^^ (c*72057594037927936):=by
 have h1:=Nat.shiftLeft_xor_distrib (a:=a) (b:=c) (i:=56)
 simpa [Nat.shiftLeft_eq]using h1
theorem Bi8{s c:Nat}(h:s<18446744073709551616)(hc:c<256):Art s c=(256*s %18446744073709551616)^^^Ko 8 (((s/72057594037927936)^^^c)*72057594037927936):=by
 have hs:s/72057594037927936<2^8:=by show _<256;omega
 have hx:(s/72057594037927936)^^^c<256:=Nat.xor_lt_two_pow (n:=8) hs (by simpa using hc)
 have hl:s %72057594037927936<72057594037927936:=Nat.mod_lt _ (by decide)
 rw[Art]
 conv=>lhs;rw[Bx7 s]
 rw[Nat.xor_comm (s/72057594037927936*72057594037927936),Nat.xor_assoc,←Br3,Bc2 8 (by omega) (c56 hx),Bbu 8 _ (by show 256*_<_;omega)]
 congr 1
 show 256*(s %72057594037927936)=_
 omega
def Bb6(s:Nat)(l:List UInt8):Nat:=l.foldl (fun s c=>Art s c.toNat) s
theorem Bfu{n:Nat}(h:n<18446744073709551616):(UInt64.ofNat n).toNat=n:=by rw[UInt64.toNat_ofNat'];exact Nat.mod_eq_of_lt h
theorem Ccb(s:UInt64)(bit:Nat)(hb:bit=0∨bit=1):Zt s (bit:Int)=some (UInt64.ofNat ((2*s.toNat %18446744073709551616)^^^ (((s.toNat/9223372036854775808)^^^bit)*P64))):=by
 have hs:=s.toNat_lt
 have ht:s.toNat/9223372036854775808=0∨s.toNat/9223372036854775808=1:=by omega
 have e1:(Ax s (2:UInt64)).toNat=2*s.toNat %18446744073709551616:=by
  rw[Adq,UInt64.toNat_mul];show s.toNat*2 %_=_;rw[Nat.mul_comm]
 have hlt:2*s.toNat %18446744073709551616<18446744073709551616:=Nat.mod_lt _ (by decide)
 have ey:Sr (Ax s (2:UInt64)) (4823603603198064275:UInt64)=UInt64.ofNat ((2*s.toNat %18446744073709551616)^^^P64):=by
  apply UInt64.toNat_inj.1
  rw[Bbp,UInt64.toNat_xor,e1,Bfu (Nat.xor_lt_two_pow (n:=64) hlt (by decide))];rfl
 have en:Ax s (2:UInt64)=UInt64.ofNat (2*s.toNat %18446744073709551616):=by
  apply UInt64.toNat_inj.1
  rw[e1,Bfu hlt]
 have eg:Km s (9223372036854775808:UInt64)=decide (s.toNat/9223372036854775808=1):=by
  rw[Cak,decide_eq_decide]
  show 9223372036854775808≤s.toNat↔_
  omega
 have hp:∀b:Bool,Qw s b=some (if b=true then UInt64.ofNat ((2*s.toNat %18446744073709551616)^^^P64)else UInt64.ofNat (2*s.toNat %18446744073709551616)):=by
  intro b
  rw[Qw,Aef,ey,en];cases b<;>rfl
 rw[Zt,Adb,hp,hp,eg]
 rcases hb with rfl|rfl<;>rcases ht with h|h<;>rw[h]<;>simp[Az]
theorem Aza(c:UInt8):∀(j q:Nat) (s:UInt64),j≤8→j<q→Ht c q s ((2^j/2:Nat):Int)=some (UInt64.ofNat (Ko j (s.toNat^^^ (c.toNat %2^j*2^(64-j)))))
 |0,q+1,s,_,_=>by
  rw[Ht,Ro,if_neg (by rw[Ao];simp),Ac8,Aea]
  simp[Ko,Nat.mod_one]
 |j+1,q+1,s,hj,hq=>by
  have hc:=c.toNat_lt
  have hs:=s.toNat_lt
  have hj2:2^j≤2^7:=Nat.pow_le_pow_right (by omega) (by omega)
  have hpos:0<2^j:=Nat.pow_pos (by omega)
  have e1:2^(j+1)/2=2^j:=by rw[Nat.pow_succ];omega
  have e2:By ((2^j:Nat):Int) 2=((2^j/2:Nat):Int):=by
   generalize 2^j=K at*
   rw[Aew,Int.tdiv_eq_ediv_of_nonneg (by omega),Bn (by omega) (by omega)];omega
  have e3:Fh (By (Ae c:Int) ((2^j:Nat):Int)) (2:Int)=((c.toNat/2^j %2:Nat):Int):=by
   have hX:=Nat.div_le_self c.toNat (2^j)
   rw[Agd,Aew,←Int.ofNat_tdiv]
   generalize c.toNat/2^j=X at*
   rw[Bn (by omega) (by omega),Fh,Int.tmod_eq_emod_of_nonneg (by omega)];omega
  have hbit:c.toNat/2^j %2=0∨c.toNat/2^j %2=1:=by omega
  rw[Ht,Ro,e1,if_pos (by rw[Ao,decide_eq_true_eq];omega),Cg (by rw[Aj,bne_iff_ne];omega),Aa,e3,Ccb s _ hbit,Aa,e2,Aza c j q _ (by omega) (by omega)]
  congr 2
  rw[Ko]
  congr 1
  have hx:c.toNat %2^(j+1)*2^(64-(j+1))=(c.toNat/2^j %2)*9223372036854775808+c.toNat %2^j*2^(63-j):=by
   have h63:(9223372036854775808:Nat)=2^j*2^(63-j):=by rw[←Nat.pow_add,show j+(63-j)=63 by omega]
   rw[Nat.mod_pow_succ,h63,show 64-(j+1)=63-j by omega,Nat.add_mul,Nat.add_comm,Nat.mul_assoc,Nat.mul_left_comm]
  have hr:c.toNat %2^j<2^j:=Nat.mod_lt _ hpos
  have hb63:c.toNat %2^j*2^(63-j)<9223372036854775808:=by
   have h63:(9223372036854775808:Nat)=2^j*2^(63-j):=by rw[←Nat.pow_add,show j+(63-j)=63 by omega]
   rw[h63];exact Nat.mul_lt_mul_of_pos_right hr (Nat.pow_pos (by omega))
  have h64:c.toNat %2^j*2^(64-j)=2*(c.toNat %2^j*2^(63-j)):=by
   rw[show 64-j=(63-j)+1 by omega,Nat.pow_succ,←Nat.mul_assoc,Nat.mul_comm]
  rw[hx,h64]
  generalize c.toNat %2^j*2^(63-j)=R at*
  generalize c.toNat/2^j %2=b at*
  have ht:s.toNat/9223372036854775808=0∨s.toNat/9223372036854775808=1:=by omega
  have hp:((s.toNat/9223372036854775808^^^b)*P64)<18446744073709551616:=by
   rcases ht with h|h<;>rcases hbit with h2|h2<;>rw[h,h2]<;>decide
  rw[Bfu (Nat.xor_lt_two_pow (n:=64) (Nat.mod_lt _ (by decide)) hp),Aex,Bp2,Brt,show(b*9223372036854775808+R)/9223372036854775808=b by omega,show 2*(b*9223372036854775808+R) %18446744073709551616=2*R by omega,Nat.xor_assoc,Nat.xor_assoc,Nat.xor_comm (2*R)]
theorem Cb5(c:UInt8)(s:UInt64):Aj0 s c=some (UInt64.ofNat (Art s.toNat c.toNat)):=by
 have h:=Aza c 8 Am s (Nat.le_refl _) (by have:=Ak;omega)
 have hc:=c.toNat_lt
 rw[Nat.mod_eq_of_lt (show c.toNat<2^8 by simpa using hc)]at h
 exact h
theorem At7(b:List UInt8)(hb:b.length<4611686018427387904):∀(j i q:Nat) (s:UInt64),i+j=b.length→j<q→Fw b q s (i:Int)=some (UInt64.ofNat (Bb6 s.toNat (b.drop i)))
 |0,i,q+1,s,hi,_=>by
  rw[Fw,Nz,if_neg (by rw[Af,Ac];simp;omega),show i=b.length by omega,List.drop_length]
  simp[Aaj,Zp,Bb6]
 |j+1,i,q+1,s,hi,hq=>by
  have hlt:i<b.length:=by omega
  have hc:=b[i].toNat_lt
  rw[Fw,Nz,if_pos (by rw[Af,Ac];simp;omega),Bw hlt,Aa,Cb5,Aa,Ag (by omega) (by omega)]
  have h:=At7 b hb j (i+1) q (UInt64.ofNat (Art s.toNat b[i].toNat)) (by omega) (by omega)
  rw[show((i:Int)+1)=((i+1:Nat):Int) by omega,h,drop_cons hlt,Bfu (Axu s.toNat_lt (by simpa using hc))]
  rfl
def Aas(b:List UInt8):UInt64:=UInt64.ofNat (Bb6 0 b)
theorem Bna(b:List UInt8)(hb:b.length≤100000):Tf 0 b=some (Aas b):=
 At7 b (by omega) b.length 0 Am 0 (by omega) (by have:=Ak;omega)
theorem Boj(c:UInt64):Sr (Ct c (GI.toZ (1:UInt64)).toNat) (Ax (4823603603198064275:UInt64) (Bj c (GI.toZ (63:UInt64)).toNat))=UInt64.ofNat (Aex c.toNat):=by
 have hc:=c.toNat_lt
 apply UInt64.toNat_inj.1
 have h1:(Ct c (GI.toZ (1:UInt64)).toNat).toNat=2*c.toNat %18446744073709551616:=by
  rw[show(GI.toZ (1:UInt64)).toNat=1 from rfl,Al6,Nat.mul_comm]
 have h2:(Ax (4823603603198064275:UInt64) (Bj c (GI.toZ (63:UInt64)).toNat)).toNat=c.toNat/9223372036854775808*P64:=by
  rw[show(GI.toZ (63:UInt64)).toNat=63 from rfl,Adq,UInt64.toNat_mul,Adn]
  show 4823603603198064275*(c.toNat/9223372036854775808) %18446744073709551616=_
  have h1:c.toNat/9223372036854775808=0∨c.toNat/9223372036854775808=1:=by omega
  rcases h1 with e|e<;>rw[e]<;>decide
 rw[Bbp,UInt64.toNat_xor,h1,h2,Bfu (Alv hc)];rfl
theorem Ban(bk16:Int→List UInt64→Option (UInt64×Int))(s:UInt64)(b:List UInt8)(x:Int)(t:List UInt64):∀(j i q:Nat) (c:UInt64),i+j=8→j<q→
  Mz bk16 s b x t q c (i:Int)=Yh bk16 s b x (UInt64.ofNat (Ko j c.toNat)) t
 |0,i,q+1,c,hi,_=>by
  obtain rfl:i=8:=by omega
  rw[Mz,Ya,if_neg (by rw[Af];simp),Ko,UInt64.ofNat_toNat]
 |j+1,i,q+1,c,hi,hq=>by
  rw[Mz,Ya,if_pos (by rw[Af];simp;omega),Boj,Ag (by omega) (by omega),show((i:Int)+1)=((i+1:Nat):Int) by omega,Ban bk16 s b x t j (i+1) q _ (by omega) (by omega),Bfu (Alv c.toNat_lt)];rfl
def Ajk(n:Nat):List UInt64:=(List.range n).map fun i=>UInt64.ofNat (Ko 8 (i*72057594037927936))
theorem Bc9(s:UInt64)(b:List UInt8):∀(j i q:Nat),i+j=256→j<q→Jo s b q (i:Int) (Ajk i++List.replicate j 0)=Yk s b (Ajk 256)
 |0,i,q+1,hi,_=>by
  obtain rfl:i=256:=by omega
  rw[Jo,Yi,if_neg (by rw[Af];simp)];simp
 |j+1,i,q+1,hi,hq=>by
  have hlen:(Ajk i++List.replicate (j+1) 0).length=i+(j+1):=by simp[Ajk]
  rw[Jo,Yi,if_pos (by rw[Af];simp;omega),Ag8]
  have h:=Ban (Jo s b q) s b (i:Int) (Ajk i++List.replicate (j+1) 0) 8 0 Am (Ct (Ae (i:Int):UInt64) (GI.toZ (56:UInt64)).toNat) (by omega) (by have:=Ak;omega)
  rw[show((0:Int))=((0:Nat):Int)from rfl,h,Yh,Aih,Bw (by rw[hlen];omega),Aa,Th _ (by rw[hlen];omega),Aa,Agw,Ar9,Ag (by omega) (by omega)]
  have e:(Ct (Ae (i:Int):UInt64) (GI.toZ (56:UInt64)).toNat).toNat=i*72057594037927936:=by
   rw[Al6,Wd,Bfu (by omega)]
   show i*72057594037927936 %18446744073709551616=_
   omega
  rw[e,List.replicate_succ,As6 (by simp[Ajk])]
  have h2:=Bc9 s b j (i+1) q (by omega) (by omega)
  have h3:Ajk (i+1)=Ajk i++[UInt64.ofNat (Ko 8 (i*72057594037927936))]:=by simp[Ajk,List.range_succ]
  rw[h3]at h2
  rw[show((i:Int)+1)=((i+1:Nat):Int) by omega,←h2]
  simp
theorem Bsw{i:Nat}(h:i<256):getI (Ajk 256) (i:Int)=some (UInt64.ofNat (Ko 8 (i*72057594037927936))):=by
 rw[Bw (by simpa [Ajk]using h)];simp[Ajk]
theorem Bmt(s:UInt64)(c:UInt8):getI (Ajk 256) (GI.toZ (Sr (Ae (Bj s (GI.toZ (56:UInt64)).toNat):UInt8) c))=some (UInt64.ofNat (Ko 8 (((s.toNat/72057594037927936)^^^c.toNat)*72057594037927936))):=by
 have hs:=s.toNat_lt
 have e:GI.toZ (Sr (Ae (Bj s (GI.toZ (56:UInt64)).toNat):UInt8) c)=(((s.toNat/72057594037927936)^^^c.toNat:Nat):Int):=by
  have e2:((Ae (Bj s (GI.toZ (56:UInt64)).toNat):UInt8)).toNat=s.toNat/72057594037927936:=by
   rw[An6,UInt8.toNat_ofNat',Adn]
   show s.toNat/72057594037927936 %256=_
   omega
  rw[Vp,Bqk,UInt8.toNat_xor,e2]
 rw[e,Bsw]
 exact Nat.xor_lt_two_pow (n:=8) (by show _<256;omega) (by simpa using c.toNat_lt)
theorem Bid(s:UInt64)(c:UInt8):Sr (Ct s (GI.toZ (8:UInt64)).toNat) (UInt64.ofNat (Ko 8 (((s.toNat/72057594037927936)^^^c.toNat)*72057594037927936)))=UInt64.ofNat (Art s.toNat c.toNat):=by
 have hs:=s.toNat_lt
 have hc:c.toNat<256:=by simpa using c.toNat_lt
 apply UInt64.toNat_inj.1
 have hlt:Ko 8 (((s.toNat/72057594037927936)^^^c.toNat)*72057594037927936)<18446744073709551616:=Ayn 8 (c56 (Nat.xor_lt_two_pow (n:=8) (by show _<256;omega) (by simpa using c.toNat_lt)))
 have e:(GI.toZ (8:UInt64)).toNat=8:=rfl
 rw[e,Bbp,UInt64.toNat_xor,Al6,Bfu hlt,Bfu (Axu hs hc),Bi8 hs hc,Nat.mul_comm s.toNat]
theorem Azf(b:List UInt8)(s0:UInt64)(hb:b.length<4611686018427387904):∀(j i q:Nat) (s:UInt64),i+j=b.length→j<q→Mo b s0 (Ajk 256) q s (i:Int)=some (UInt64.ofNat (Bb6 s.toNat (b.drop i)),0)
 |0,i,q+1,s,hi,_=>by
  rw[Mo,Aai,if_neg (by rw[Af,Ac];simp;omega),show i=b.length by omega,List.drop_length]
  simp[Aix,Ah3,Ah8,Aqd,Bb6]
 |j+1,i,q+1,s,hi,hq=>by
  have hlt:i<b.length:=by omega
  have hc:=b[i].toNat_lt
  rw[Mo,Aai,if_pos (by rw[Af,Ac];simp;omega),Bw hlt,Aa,Bmt,Aa,Aa,Bid,Ag (by omega) (by omega)]
  have h:=Azf b s0 hb j (i+1) q (UInt64.ofNat (Art s.toNat b[i].toNat)) (by omega) (by omega)
  rw[show((i:Int)+1)=((i+1:Nat):Int) by omega,h,drop_cons hlt,Bfu (Axu s.toNat_lt (by simpa using hc))]
  rfl
theorem Bjz(b:List UInt8)(hb:b.length≤100000):Al4 b=some (Aas b,0):=by
 have h:=Bc9 0 b 256 0 Am (by omega) (by have:=Ak;omega)
 have h2:=Azf b 0 (by omega) b.length 0 Am 0 (by omega) (by have:=Ak;omega)
 have hn:Amu 0 b=some (Aas b,0):=by
  rw[Amu,Akg,if_neg (by rw[Ao,Ac];simp;omega),Aid]
  refine Eq.trans h ?_
  rw[Yk,Ahm,Ah6]
  exact h2
 rw[Al4,hn,Aa]
theorem Bg9(p:List UInt8)(hp:p.length≤64):Yp p=some (leB (Aas p).toNat 8,0):=by
 rw[Yp,Axv,if_neg (by rw[Ao,Ac];simp;omega),Bjz p (by omega),Aa,Aa]
 simp only
 have h:=Bkd (Aas p) 8 (by omega) (by omega) (by simpa using(Aas p).toNat_lt)
 rw[if_neg (by rw[Aj];simp)]
 exact congrArg (fun o=>Option.bind o fun x:List UInt8×Int=>some (x.1,x.2)) h
theorem Ayd(p:List UInt8)(hp:p.length≤64):Li p=some (leB (Aas p).toNat 8):=by
 have h:=Bch (Aas p) 8 (by omega)
 rw[Li,Ajz,Bna p (by omega),Aa,Aa]
 exact congrArg (fun o=>Option.bind o fun l=>some l) h
def s8(n:Nat):Int32:=Int32.ofInt (if n<128 then(n:Int)else(n:Int)-256)
def Aj3(d:UInt64)(n:Nat):List Int32:=(List.range n).map fun i=>s8 (d.toNat/256^i %256)
theorem Amd(d:UInt64)(n:Nat):(Aj3 d n).length=n:=by simp[Aj3]
theorem Bd1(d:UInt64)(n:Nat):Aj3 d (n+1)=Aj3 d n++[s8 (d.toNat/256^n %256)]:=by simp[Aj3,List.range_succ]
theorem bm8(z:Nat):(z:Int).bmod Int8.size=if z %256<128 then((z %256:Nat):Int)else((z %256:Nat):Int)-256:=by
 rw[show Int8.size=256 from rfl,Int.bmod_def]
 split<;>split<;>omega
theorem Bp1(d:UInt64):∀(j i q:Nat),i+j=8→j<q→Abu d q (i:Int) (Aj3 d i++List.replicate (16-i) 0)=some (Aj3 d 8++List.replicate 8 0)
 |0,i,q+1,hi,_=>by
  obtain rfl:i=8:=by omega
  rw[Abu,Aoc,if_neg (by rw[Af];simp)];rfl
 |j+1,i,q+1,hi,hq=>by
  have hlen:(Aj3 d i++List.replicate (16-i) 0).length=16:=by simp[Amd];omega
  have ih:=Bp1 d j (i+1) q (by omega) (by omega)
  have e8:Ax (8:Int) (i:Int)=((8*i:Nat):Int):=by rw[Fx (by omega) (by omega)];omega
  have ev:(Ae (Ae (Bj d (GI.toZ (((8*i:Nat):Int))).toNat):Int8):Int32)=s8 (d.toNat/256^i %256):=by
   have e1:(Bj d (GI.toZ (((8*i:Nat):Int))).toNat).toNat=d.toNat/256^i:=by
    rw[show(GI.toZ (((8*i:Nat):Int))).toNat=8*i from rfl,Adn,Nat.pow_mul]
   show Int32.ofInt (Int8.ofInt ((Bj d (GI.toZ (((8*i:Nat):Int))).toNat).toNat:Int)).toInt=_
   rw[e1,s8,Int8.toInt_ofInt,bm8]
  rw[Abu,Aoc,if_pos (by rw[Af];simp;omega),e8,Cg (by rw[Du];simp;omega),Aa,ev,Bw (by omega),Aa,Th _ (by omega),Aa,Ag (by omega) (by omega),show 16-i=(15-i)+1 by omega,List.replicate_succ,As6 (Amd d i)]
  rw[Bd1,show 16-(i+1)=15-i by omega,List.append_assoc]at ih
  exact ih
theorem Buk(d:UInt64):∀(j i q:Nat) (e:UInt64),i+j=8→j<q→e.toNat=d.toNat/256^i→Hm q e (i:Int) (Aj3 d i++List.replicate (16-i) 0)=some (Aj3 d 8++List.replicate 8 0)
 |0,i,q+1,e,hi,_,he=>by
  obtain rfl:i=8:=by omega
  rw[Hm,Vj,if_neg (by rw[Af];simp)];rfl
 |j+1,i,q+1,e,hi,hq,he=>by
  have hlen:(Aj3 d i++List.replicate (16-i) 0).length=16:=by simp[Amd];omega
  have hq2:(By e (256:UInt64)).toNat=d.toNat/256^(i+1):=by
   rw[Axg,UInt64.toNat_div,he,Nat.pow_succ,←Nat.div_div_eq_div_mul];rfl
  have ih:=Buk d j (i+1) q (By e (256:UInt64)) (by omega) (by omega) hq2
  have ev:(Ae (Xg e (256:UInt64)):Int32)=Int32.ofInt ((d.toNat/256^i %256:Nat):Int):=by
   show Int32.ofInt ((Xg e (256:UInt64)).toNat:Int)=_
   rw[Bj7,UInt64.toNat_mod,he];rfl
  have hz:d.toNat/256^i %256<256:=Nat.mod_lt _ (by omega)
  have et:(Int32.ofInt ((d.toNat/256^i %256:Nat):Int)).toInt=((d.toNat/256^i %256:Nat):Int):=by
   rw[Int32.toInt_ofInt,Int.bmod_eq_of_le (by show -(4294967296/2:Int)≤_;omega) (by show _<(4294967296+1)/2;omega)]
  have hp8:∀x:Int32,x=s8 (d.toNat/256^i %256)→Vo (Hm q) e (i:Int) (Aj3 d i++List.replicate (16-i) 0) x=some (Aj3 d 8++List.replicate 8 0):=by
   intro x hx
   rw[Vo,Agq,hx,Bw (by omega),Aa,Th _ (by omega),Aa,Ag (by omega) (by omega),show 16-i=(15-i)+1 by omega,List.replicate_succ,As6 (Amd d i)]
   rw[Bd1,show 16-(i+1)=15-i by omega,List.append_assoc]at ih
   exact ih
  rw[Hm,Vj,if_pos (by rw[Af];simp;omega),ev,Bnu,et,show(127:Int32).toInt=127 from rfl]
  by_cases h:d.toNat/256^i %256<128
  ·rw[if_neg (by simp only[decide_eq_true_eq];omega)]
   exact hp8 _ (by rw[s8,if_pos h])
  ·rw[if_pos (by simp only[decide_eq_true_eq];omega)]
   refine hp8 _ ?_
   rw[s8,if_neg h,Bd2,Int32.ofInt_sub];rfl
def tapsOf(p:List UInt8):List Int32:=Aj3 (Aas p) 8++List.replicate 8 0
theorem Bdm(p:List UInt8):(tapsOf p).length=16:=by simp[tapsOf,Amd]
theorem Bhj(p:List UInt8)(hp:p.length≤64):Wn p=some (tapsOf p,0):=by
 have h:=Bp1 (Aas p) 8 0 Am (by omega) (by have:=Ak;omega)
 have h2:Bih (Aas p)=some (tapsOf p):=h
 rw[Wn,if_neg (by rw[Ao,Ac];simp;omega),Bjz p (by omega),Aa]
 simp only
 rw[if_neg (by rw[Aj];simp),h2,Aa]
theorem Bct(p:List UInt8)(hp:p.length≤64):Lb p=some (tapsOf p,0):=by
 have h:=Buk (Aas p) 8 0 Am (Aas p) (by omega) (by have:=Ak;omega) (by simp)
 have h2:Ao3 (Aas p)=some (tapsOf p):=h
 rw[Lb,if_neg (by rw[Ao,Ac];simp;omega),Al9,Ajs,if_neg (by rw[Ao,Ac];simp;omega),Bna p (by omega),Aa,Aa,Aa]
 simp only
 rw[h2,Aa]
end Go.Pl
set_option linter.unusedVariables false
set_option linter.unusedSimpArgs false
namespace Go.Pl
open Go Go.Lv
def u8(z:Int):UInt8:=UInt8.ofNat (z %256).toNat
theorem Bjd(z:Int):u8 (z %256)=u8 z:=by rw[u8,u8];congr 2;omega
def wB(bits:Int):Nat:=if bits=8 then 1 else if bits=16 then 2 else 3
theorem Bvz{bits:Int}(h:Cq bits):By bits 8=(wB bits:Int):=by obtain rfl|rfl|rfl:=h<;>rfl
theorem Bri(bits:Int):1≤wB bits∧wB bits≤3:=by
 unfold wB;split; · omega
 ·split<;>omega
def Ab8(bits:Int)(x:Int):List UInt8:=if bits=8 then [u8 (x+128)]else if bits=16 then [u8 x,u8 (x/256)]else [u8 x,u8 (x/256),u8 (x/65536)]
theorem Bln(bits x:Int):(Ab8 bits x).length≤3:=by
 unfold Ab8;split; · simp
 ·split<;>simp
theorem Buq(x:Int32)(k:Nat)(hk:k≤32):(Ae (Bj x k):UInt8)=u8 (x.toInt.fdiv (2^k)):=by
 have h:=Yt x
 have e:Bj x k=Int32.ofInt (x.toInt.fdiv (2^k)):=by
  show Int32.ofInt (x.toInt.fdiv (2^min k 32))=_
  rw[Nat.min_eq_left hk]
 have hb: -2147483648≤x.toInt.fdiv (2^k)∧x.toInt.fdiv (2^k)<2147483648:=by
  have hpos:(0:Int)<2^k:=Int.pow_pos (by omega)
  rw[Int.fdiv_eq_ediv_of_nonneg _ (by omega)]
  constructor
  ·refine(Int.le_ediv_iff_mul_le hpos).2 ?_
   have:(1:Int)≤2^k:=by omega
   have h2: -2147483648*(2^k:Int)≤ -2147483648*1:=Int.mul_le_mul_of_nonpos_left (by omega) this
   omega
  ·refine Int.ediv_lt_of_lt_mul hpos ?_
   have:(1:Int)≤2^k:=by omega
   have h2:(2147483648:Int)*1≤2147483648*2^k:=Int.mul_le_mul_of_nonneg_left this (by omega)
   omega
 show UInt8.ofNat ((Bj x k).toInt %256).toNat=_
 rw[e,Int32.toInt_ofInt,Int.bmod_eq_of_le (by show -(4294967296/2:Int)≤_;omega) (by show _<(4294967296+1)/2;omega)];rfl
section
variable (bk:Int→List UInt8→Option (List UInt8×Int)) (l:List Int32)
theorem Ba9{bits:Int}(h:Cq bits)(c:Int32)(x:Int)(i q:Nat)(acc:List UInt8)(hi:i<wB bits)(ha:acc.length≤100000):
  Gl bk bits l c x (q+1) (i:Int) acc=Gl bk bits l c x q ((i+1:Nat):Int) (acc++[u8 (c.toInt.fdiv (2^(8*i)))]):=by
 have hw:=Bri bits
 have e8:Ax (8:Int) (i:Int)=((8*i:Nat):Int):=by rw[Fx (by omega) (by omega)];omega
 rw[Gl,Uy,Bvz h,if_pos (by rw[Af];simp;omega),e8,Cg (by rw[Du];simp;omega),Aa,show(GI.toZ (((8*i:Nat):Int))).toNat=8*i from rfl,Buq _ _ (by omega),Fs (by simp;omega),Aa,Ag (by omega) (by omega)];rfl
theorem Bo7{bits:Int}(h:Cq bits)(c:Int32)(x:Int)(q:Nat)(acc:List UInt8):Gl bk bits l c x (q+1) ((wB bits:Nat):Int) acc=bk (Ad x 1) acc:=by
 rw[Gl,Uy,Bvz h,if_neg (by rw[Af];simp),Aeo,Aow]
theorem Ccc{bits:Int}(h:Cq bits)(c:Int32)(x:Int)(acc:List UInt8)(ha:acc.length≤90000)(hr: -(hB bits)≤c.toInt∧c.toInt<hB bits):
  Im bk bits l x acc (if bits=8 then Ad c (128:Int32)else c)=bk (Ad x 1) (acc++Ab8 bits c.toInt):=by
 have e:Am=(Am-4)+1+1+1+1:=by have:=Ak;omega
 have hc:=Yt c
 rw[Im,Ae6,Ael,e]
 have g0:=fun(c:Int32) q acc ha=>Ba9 bk l h c x 0 q acc (by have:=Bri bits;omega) ha
 obtain rfl|rfl|rfl:=h
 ·have hh:hB 8=128:=rfl
  rw[hh]at hr
  have e1:(Ad c (128:Int32)).toInt=c.toInt+128:=by
   show(Int32.ofInt (c.toInt+(128:Int32).toInt)).toInt=_
   rw[show(128:Int32).toInt=128 from rfl,Int32.toInt_ofInt,Int.bmod_eq_of_le (by show -(4294967296/2:Int)≤_;omega) (by show _<(4294967296+1)/2;omega)]
  have g1:=Bo7 bk l (bits:=8) (.inl rfl) (Ad c (128:Int32)) x (Am-4+1+1)
  rw[if_pos rfl,show(0:Int)=((0:Nat):Int)from rfl,g0 _ _ _ (by omega)]
  refine Eq.trans (g1 _) ?_
  rw[e1,Ab8,if_pos rfl]
  show bk _ (acc++[u8 ((c.toInt+128).fdiv 1)])=_
  rw[Int.fdiv_one]
 ·have g1:=fun q acc ha=>Ba9 bk l (bits:=16) (.inr (.inl rfl)) c x 1 q acc (by decide) ha
  have g2:=Bo7 bk l (bits:=16) (.inr (.inl rfl)) c x (Am-4+1)
  rw[if_neg (by decide),show(0:Int)=((0:Nat):Int)from rfl,g0 _ _ _ (by omega),g1 _ _ (by simp;omega)]
  refine Eq.trans (g2 _) ?_
  rw[Ab8,if_neg (by decide),if_pos rfl,List.append_assoc]
  show bk _ (acc++[u8 (c.toInt.fdiv 1),u8 (c.toInt.fdiv 256)])=_
  rw[Int.fdiv_one,Int.fdiv_eq_ediv_of_nonneg _ (by omega)]
 ·have g1:=fun q acc ha=>Ba9 bk l (bits:=24) (.inr (.inr rfl)) c x 1 q acc (by decide) ha
  have g2:=fun q acc ha=>Ba9 bk l (bits:=24) (.inr (.inr rfl)) c x 2 q acc (by decide) ha
  have g3:=Bo7 bk l (bits:=24) (.inr (.inr rfl)) c x (Am-4)
  rw[if_neg (by decide),show(0:Int)=((0:Nat):Int)from rfl,g0 _ _ _ (by omega),g1 _ _ (by simp;omega),g2 _ _ (by simp;omega)]
  refine Eq.trans (g3 _) ?_
  rw[Ab8,if_neg (by decide),if_neg (by decide),List.append_assoc,List.append_assoc]
  show bk _ (acc++[u8 (c.toInt.fdiv 1),u8 (c.toInt.fdiv 256),u8 (c.toInt.fdiv 65536)])=_
  rw[Int.fdiv_one,Int.fdiv_eq_ediv_of_nonneg _ (by omega),Int.fdiv_eq_ediv_of_nonneg _ (by omega)]
end
def bytesB(bits:Int)(l:List Int32):List UInt8:=l.flatMap fun x=>Ab8 bits x.toInt
theorem An8(bits:Int):∀l:List Int32,(bytesB bits l).length≤3*l.length
 |[]=>by simp[bytesB]
 |x::l=>by
  have h1:=An8 bits l
  have h2:=Bln bits x.toInt
  simp only[bytesB,List.flatMap_cons,List.length_append,List.length_cons]at*
  omega
def inR(bits:Int)(l:List Int32):Prop:=∀x∈l, -(hB bits)≤x.toInt∧x.toInt<hB bits
theorem Bqt{bits:Int}(h:Cq bits)(l:List Int32)(hl:l.length≤4000)(hr:inR bits l):∀(j i q:Nat),i+j=l.length→j<q→Ei bits l q (i:Int) (bytesB bits (l.take i))=some (bytesB bits l,0)
 |0,i,q+1,hi,_=>by
  rw[Ei,Uz,if_neg (by rw[Af,Ac];simp;omega),List.take_of_length_le (by omega)];rfl
 |j+1,i,q+1,hi,hq=>by
  have hlt:i<l.length:=by omega
  have ih:=Bqt h l hl hr j (i+1) q (by omega) (by omega)
  have hlen:=An8 bits (l.take i)
  have hx:=hr l[i] (List.getElem_mem _)
  have h1:=Ccc (Ei bits l q) l h l[i] (i:Int) (bytesB bits (l.take i)) (by rw[List.length_take]at hlen;omega) hx
  rw[Ei,Uz,if_pos (by rw[Af,Ac];simp;omega),Bw hlt,Aa]
  have e:(if(geq bits (8:Int))=true then Im (Ei bits l q) bits l (i:Int) (bytesB bits (l.take i)) (Ad l[i] (128:Int32))else Im (Ei bits l q) bits l (i:Int) (bytesB bits (l.take i)) l[i])=Im (Ei bits l q) bits l (i:Int) (bytesB bits (l.take i)) (if bits=8 then Ad l[i] (128:Int32)else l[i]):=by
   by_cases h8:bits=8
   ·rw[if_pos (by rw[Az];simpa using h8),if_pos h8]
   ·rw[if_neg (by rw[Az];simpa using h8),if_neg h8]
  rw[e,h1,Ag (by omega) (by omega)]
  rw[Agh hlt]at ih
  have e2:bytesB bits (l.take i++[l[i]])=bytesB bits (l.take i)++Ab8 bits l[i].toInt:=by unfold bytesB;rw[List.flatMap_append,List.flatMap_singleton]
  rw[e2]at ih
  exact ih
theorem Ax3{bits:Int}(h:Cq bits){l:List Int32}(hl:l.length≤4000)(hc:cadenzaref18_Check bits l=some 0):inR bits l:=by
 have hh:=Bde bits
 have key:∀(j i q:Nat),i+j=l.length→j<q→Bt l (hB bits) q (i:Int)=some 0→∀k,i≤k→(hk:k<l.length)→ -(hB bits)≤l[k].toInt∧l[k].toInt<hB bits:=by
  intro j
  induction j with
  |zero=>intro i q hi hq _ k h1 h2;omega
  |succ j ih=>
   intro i q hi hq hs k h1 h2
   obtain⟨q,rfl⟩:∃k,q=k+1:=⟨q-1,by omega⟩
   rw[Bt,Ex,if_pos (by rw[Af,Ac];simp;omega),Bw (by omega),Aa,Aa,Dx,Boi,Bn (by omega) (by omega),Ag (by omega) (by omega),Af,Du]at hs
   by_cases g1:l[i].toInt<0-hB bits
   ·rw[if_pos (by simpa using g1)]at hs;simp at hs
   ·rw[if_neg (by simpa using g1)]at hs
    by_cases g2:hB bits≤l[i].toInt
    ·rw[if_pos (by simpa using g2)]at hs;simp at hs
    ·rw[if_neg (by simpa using g2)]at hs
     by_cases hk:k=i
     ·subst hk;omega
     ·exact ih (i+1) q (by omega) (by omega) hs k (by omega) h2
 rw[cadenzaref18_Check,Kh,Bha h,Aa,if_neg (by rw[Az];simp;omega),if_neg (by rw[Ao,Ac];simp;omega)]at hc
 have:=key l.length 0 Am (by omega) (by have:=Ak;omega) hc
 intro x hx
 obtain⟨k,hk,rfl⟩:=List.getElem_of_mem hx
 exact this k (by omega) hk
theorem Bfk{bits:Int}(h:Cq bits){l:List Int32}(hl:l.length≤4000)(hc:cadenzaref18_Check bits l=some 0):width_Bytes bits l=some (bytesB bits l,0):=by
 have h1:=Bqt h l hl (Ax3 h hl hc) l.length 0 Am (by omega) (by have:=Ak;omega)
 rw[width_Bytes,Ah2,Bes h l hl,hc,Aa,if_neg (by rw[Aj];simp)]
 exact h1
theorem Bz8{bits:Int}(h:Cq bits)(x:Int32)(hr: -(hB bits)≤x.toInt∧x.toInt<hB bits):Acg bits x=some (Ab8 bits x.toInt):=by
 have hx:=Yt x
 have gu:∀z:Int,(Ae z:UInt8)=u8 z:=fun z=>rfl
 have hq:∀n:Int,0≤n→n≤20000000→By n (256:Int)=n/256∧By n (65536:Int)=n/65536:=by
  intro n h1 h2
  constructor<;>(rw[Aew,Int.tdiv_eq_ediv_of_nonneg h1,Bn (by omega) (by omega)])
 have hm:∀n:Int,0≤n→Fh n (256:Int)=n %256:=fun n h1=>by rw[Fh,Int.tmod_eq_emod_of_nonneg h1]
 rw[Acg,Afi,Dx]
 obtain rfl|rfl|rfl:=h
 ·rw[if_pos (by rw[Az];rfl),Ag (by omega) (by omega),gu,Ab8,if_pos rfl]
 ·have hh:hB 16=32768:=rfl
  rw[hh]at hr
  have hp:∀n:Int,0≤n→n≤70000→u8 n=u8 x.toInt→u8 (n/256)=u8 (x.toInt/256)→Iq 16 n=some (Ab8 16 x.toInt):=by
   intro n h1 h2 h3 h4
   rw[Iq,To,if_neg (by rw[Az];decide),hm n h1,(hq n h1 (by omega)).1,hm _ (by omega),gu,gu,Bjd,Bjd,h3,h4,Ab8,if_neg (by decide),if_pos rfl]
  rw[if_neg (by rw[Az];decide)]
  by_cases hn:x.toInt<0
  ·rw[if_pos (by rw[Af];simpa using hn),Bha (.inr (.inl rfl)),Aa,hh,Fx (by omega) (by omega),Ag (by omega) (by omega)]
   refine hp _ (by omega) (by omega) ?_ ?_
   ·rw[u8,u8];congr 2;omega
   ·rw[u8,u8];congr 2;omega
  ·rw[if_neg (by rw[Af];simpa using hn)]
   exact hp _ (by omega) (by omega) rfl rfl
 ·have hh:hB 24=8388608:=rfl
  rw[hh]at hr
  have hp:∀n:Int,0≤n→n≤16777215→u8 n=u8 x.toInt→u8 (n/256)=u8 (x.toInt/256)→u8 (n/65536)=u8 (x.toInt/65536)→Iq 24 n=some (Ab8 24 x.toInt):=by
   intro n h1 h2 h3 h4 h5
   rw[Iq,To,if_pos (by rw[Az];rfl),hm n h1,(hq n h1 (by omega)).1,(hq n h1 (by omega)).2,hm _ (by omega),gu,gu,gu,Bjd,Bjd,h3,h4,h5,Fs (by simp),Aa,Ab8,if_neg (by decide),if_neg (by decide)];rfl
  rw[if_neg (by rw[Az];decide)]
  by_cases hn:x.toInt<0
  ·rw[if_pos (by rw[Af];simpa using hn),Bha (.inr (.inr rfl)),Aa,hh,Fx (by omega) (by omega),Ag (by omega) (by omega)]
   refine hp _ (by omega) (by omega) ?_ ?_ ?_
   ·rw[u8,u8];congr 2;omega
   ·rw[u8,u8];congr 2;omega
   ·rw[u8,u8];congr 2;omega
  ·rw[if_neg (by rw[Af];simpa using hn)]
   exact hp _ (by omega) (by omega) rfl rfl rfl
theorem Bpw{bits:Int}(h:Cq bits)(l:List Int32)(hl:l.length≤4000)(hr:inR bits l):∀(j i q:Nat),i+j=l.length→j<q→Gt bits l q (i:Int) (bytesB bits (l.take i))=some (bytesB bits l,0)
 |0,i,q+1,hi,_=>by
  rw[Gt,Pc,if_neg (by rw[Af,Ac];simp;omega),List.take_of_length_le (by omega)];rfl
 |j+1,i,q+1,hi,hq=>by
  have hlt:i<l.length:=by omega
  have ih:=Bpw h l hl hr j (i+1) q (by omega) (by omega)
  have hlen:=An8 bits (l.take i)
  have hol:=Bln bits l[i].toInt
  rw[List.length_take]at hlen
  have e2:bytesB bits (l.take i++[l[i]])=bytesB bits (l.take i)++Ab8 bits l[i].toInt:=by unfold bytesB;rw[List.flatMap_append,List.flatMap_singleton]
  rw[Agh hlt,e2]at ih
  rw[Gt,Pc,if_pos (by rw[Af,Ac];simp;omega),Bw hlt,Aa,Bz8 h _ (hr l[i] (List.getElem_mem _)),Aa,Fs (by omega),Aa,Ag (by omega) (by omega)]
  exact ih
theorem Bgk{bits:Int}(h:Cq bits){l:List Int32}(hl:l.length≤4000)(hc:cadenzaref18_Check bits l=some 0):Vy bits l=some (bytesB bits l,0):=by
 have h1:=Bpw h l hl (Ax3 h hl hc) l.length 0 Am (by omega) (by have:=Ak;omega)
 rw[Vy,Abm,hc,Aa,if_neg (by rw[Aj];simp)]
 exact h1
end Go.Pl
set_option linter.unusedVariables false
set_option linter.unusedSimpArgs false
namespace Go.Pl
open Go Go.Lv
def Akr:List UInt8→Nat→Int×Int
 |[],n=>((n:Int),0)
 |c::r,n=>if 128≤c.toNat then(0,12)else Akr r (128*n+c.toNat)
theorem Bq9:∀(l:List UInt8) (n k:Nat),n<128^k→0≤(Akr l n).1∧(Akr l n).1<((128^(k+l.length):Nat):Int)
 |[],n,k,h=>by simp[Akr];exact_mod_cast h
 |c::r,n,k,h=>by
  rw[Akr]
  split
  ·have:0<128^(k+(c::r).length):=Nat.pow_pos (by omega)
   exact⟨Int.le_refl _,by simp only;exact_mod_cast this⟩
  ·have:=Bq9 r (128*n+c.toNat) (k+1) (by rw[Nat.pow_succ];omega)
   rw[List.length_cons,show k+(r.length+1)=k+1+r.length by omega]
   exact this
theorem or7(n c:Nat)(hn:n<268435456)(hc:c<128):gor (Ct (n:Int) (GI.toZ (7:UInt64)).toNat) (c:Int)=((128*n+c:Nat):Int):=by
 have e:(GI.toZ (7:UInt64)).toNat=7:=rfl
 have h1:Ct (n:Int) 7=((2^7*n:Nat):Int):=by
  have:Ct (n:Int) 7=wrap64 ((n:Int)*2^7):=rfl
  rw[this,Bn (by omega) (by omega)];omega
 rw[e,h1]
 have h2:gor ((2^7*n:Nat):Int) (c:Int)=wrap64 ((BitVec.ofInt 64 ((2^7*n:Nat):Int)|||BitVec.ofInt 64 (c:Int)).toNat:Int):=rfl
 rw[h2,BitVec.toNat_or,BitVec.toNat_ofInt,BitVec.toNat_ofInt]
 have h3:(((2^7*n:Nat):Int) %((2^64:Nat):Int)).toNat=2^7*n:=by omega
 have h4:((c:Int) %((2^64:Nat):Int)).toNat=c:=by omega
 rw[h3,h4,←Nat.two_pow_add_eq_or_of_lt (by simpa using hc),Bn (by omega) (by omega)]
theorem Bp3(b:List UInt8)(hb:b.length=4):∀(j i q n:Nat),i+j=4→j<q→n<128^i→Je b q (n:Int) (i:Int)=some (Akr (b.drop i) n)
 |0,i,q+1,n,hi,_,_=>by
  rw[Je,So,if_neg (by rw[Af,Ac];simp;omega),show b.drop i=[] by simp;omega];rfl
 |j+1,i,q+1,n,hi,hq,hn=>by
  have hlt:i<b.length:=by omega
  have hn2:n<268435456:=Nat.lt_of_lt_of_le hn (show 128^i≤128^4 from Nat.pow_le_pow_right (by omega) (by omega))
  rw[Je,So,if_pos (by rw[Af,Ac];simp;omega),Bw hlt,Aa,drop_cons hlt,Akr,Bvv]
  by_cases hc:128≤b[i].toNat
  ·rw[if_pos (by simp;omega),if_pos hc]
  ·rw[if_neg (by simp;omega),if_neg hc,Agd,or7 n _ hn2 (by omega),Ag (by omega) (by omega)]
   exact Bp3 b hb j (i+1) q _ (by omega) (by omega) (by rw[Nat.pow_succ];omega)
theorem Bur(b:List UInt8)(hb:b.length=4):∀(j i q n:Nat),i+j=4→j<q→n<128^i→Gv b q (n:Int) (i:Int)=some (Akr (b.drop i) n)
 |0,i,q+1,n,hi,_,_=>by
  rw[Gv,Pm,if_neg (by rw[Af];simp;omega),show b.drop i=[] by simp;omega];rfl
 |j+1,i,q+1,n,hi,hq,hn=>by
  have hlt:i<b.length:=by omega
  have hn2:n<268435456:=Nat.lt_of_lt_of_le hn (show 128^i≤128^4 from Nat.pow_le_pow_right (by omega) (by omega))
  rw[Gv,Pm,if_pos (by rw[Af];simp;omega),Bw hlt,Aa,drop_cons hlt,Akr,Bw9]
  have h128:(128:UInt8).toNat=128:=rfl
  by_cases hc:128≤b[i].toNat
  ·rw[if_pos (by simpa using hc),if_pos hc]
  ·have h3:=b[i].toNat_lt
   rw[if_neg (by simpa using hc),if_neg hc,Aa,Agd,Fx (by omega) (by omega),Ag (by omega) (by omega),Ag (by omega) (by omega)]
   have:=Bur b hb j (i+1) q (128*n+b[i].toNat) (by omega) (by omega) (by rw[Nat.pow_succ];omega)
   rw[←this];rfl
theorem Bng(b:List UInt8)(hb:b.length=4):Acx b=some (Akr b 0):=by
 have h:=Bp3 b hb 4 0 Am 0 (by omega) (by have:=Ak;omega) (by simp)
 rw[Acx,Ab1,if_neg (by rw[Aj,Ac];simp;omega),Acd];exact h
theorem Bru(b:List UInt8)(hb:b.length=4):Vl b=some (Akr b 0):=by
 have h:=Bur b hb 4 0 Am 0 (by omega) (by have:=Ak;omega) (by simp)
 rw[Vl,Abp,if_neg (by rw[Aj,Ac];simp;omega),Abi];exact h
theorem Boy{b:List UInt8}(hb:b.length=4):0≤(Akr b 0).1∧(Akr b 0).1<268435456:=by
 have:=Bq9 b 0 0 (by simp)
 rw[hb]at this
 simpa using this
theorem Am3(s p:List UInt8):Ig s p=some (decide (p.length≤s.length∧s.take p.length=p)):=by
 rw[Ig]
 by_cases h:p.length≤s.length
 ·rw[if_pos (by rw[Du,Ac,Ac];simp;omega),show Ac p=(p.length:Int)from rfl,Ib (by omega) (by omega),Aa,Fo,Aa,Int.toNat_natCast]
  congr 1
  rw[Bool.eq_iff_iff];simp[h]
 ·rw[if_neg (by rw[Du,Ac,Ac];simp;omega)]
  simp[h]
def Alr(b:List UInt8)(n:Int):Int×Int:=
 if 4000<n then(0,4)else if(b.length:Int)<n then(0,24)else
 if b.getD 5 0=16∧(b.take n.toNat).drop (n-10).toNat≠ [51,68,73]++part b 3 7 then(0,12)else(n,0)
def Bbr(b:List UInt8)(r:Int):Int×Int:=Alr b (r+10+(if b.getD 5 0=16 then 10 else 0))
def Up(b:List UInt8):Int×Int:=
 if ¬(3≤b.length∧b.take 3=[73,68,51])then(0,6)else if b.length<10 then(0,24)else
 if(Akr (part b 6 4) 0).2≠0∨b.getD 4 0≠0∨¬((b.getD 5 0=0∧2≤(b.getD 3 0).toNat∧(b.getD 3 0).toNat≤4)∨(b.getD 5 0=16∧b.getD 3 0=4))then(0,12)else
 Bbr b (Akr (part b 6 4) 0).1
theorem Aut{b:List UInt8}{i:Nat}(h:i<b.length):getI b (i:Int)=some (b.getD i 0):=by
 rw[Bw h];simp[List.getD_eq_getElem?_getD,h]
theorem Lg{b:List UInt8}(a w:Nat)(h:a+w≤b.length):Bp b (a:Int) ((a+w:Nat):Int)=some (part b a w):=by
 rw[Mx (by omega) (by omega) (by omega)];rfl
theorem By1(b:List UInt8)(r:Int)(h10:10≤b.length)(h0:0≤r)(h1:r<268435456):Rp b r=some (Bbr b r):=by
 have g5:getI b (5:Int)=some (b.getD 5 0):=Aut (i:=5) (by omega)
 have key:∀n:Int,10≤n→n<268435500→Rh b n=some (Alr b n):=by
  intro n hn hn2
  rw[Rh,Ado,Alr]
  by_cases c1:4000<n
  ·rw[if_pos (by rw[Ao];simpa using c1),if_pos c1]
  ·rw[if_neg (by rw[Ao];simpa using c1),if_neg c1]
   by_cases c2:(b.length:Int)<n
   ·rw[if_pos (by rw[Af,Ac];simpa using c2),if_pos c2]
   ·have e3:Bp b (3:Int) (10:Int)=some (part b 3 7):=Lg 3 7 (by omega)
    rw[if_neg (by rw[Af,Ac];simpa using c2),if_neg c2,g5,Aa]
    by_cases c3:b.getD 5 0=16
    ·rw[if_pos (by rw[An2];simpa using c3),Be (by omega) (by omega),Mx (by omega) (by omega) (by omega),Aa,e3,Aa,Fs (by rw[Cl (by omega)];simp),Aa]
     by_cases c4:(b.take n.toNat).drop (n-10).toNat=[51,68,73]++part b 3 7
     ·rw[if_neg (by simpa using c4),if_neg (by intro h;exact h.2 c4)]
     ·rw[if_pos (by simpa using c4),if_pos ⟨c3,c4⟩]
    ·rw[if_neg (by rw[An2];simpa using c3),if_neg (fun h=>c3 h.1)]
 rw[Rp,Aek,g5,Aa,Bbr]
 by_cases c3:b.getD 5 0=16
 ·rw[if_pos (by rw[An2];simpa using c3),Ag (by rw[Ag]<;>omega) (by rw[Ag]<;>omega),Ag (by omega) (by omega),key _ (by omega) (by omega),if_pos c3,show 10+r+10=r+10+10 by omega]
 ·rw[if_neg (by rw[An2];simpa using c3),Ag (by omega) (by omega),key _ (by omega) (by omega),if_neg c3,show 10+r=r+10+0 by omega]
theorem Bt6(b:List UInt8)(hb:b.length<4611686018427387904):Yu b=some (Up b):=by
 rw[Yu,Ad1,Up]
 by_cases h3:3≤b.length
 ·rw[if_neg (by rw[Af,Ac];simp;omega),Ib (by omega) (by omega),Aa]
  by_cases hp:b.take 3=[73,68,51]
  ·rw[if_neg (by simpa using hp),if_neg (by simp[h3,hp]),Adx,Adw]
   by_cases h10:b.length<10
   ·rw[if_pos (by rw[Af,Ac];simp;omega),if_pos h10]
   ·have e6:Bp b (6:Int) (10:Int)=some (part b 6 4):=Lg 6 4 (by omega)
    have g3:getI b (3:Int)=some (b.getD 3 0):=Aut (i:=3) (by omega)
    have g4:getI b (4:Int)=some (b.getD 4 0):=Aut (i:=4) (by omega)
    have g5:getI b (5:Int)=some (b.getD 5 0):=Aut (i:=5) (by omega)
    obtain⟨v1,v2⟩:=Boy (b:=part b 6 4) (Cl (by omega))
    rw[if_neg (by rw[Af,Ac];simp;omega),if_neg h10,e6,Aa,Bru _ (Cl (by omega)),Aa]
    have ht:=By1 b (Akr (part b 6 4) 0).1 (by omega) v1 v2
    generalize Akr (part b 6 4) 0=v at*
    obtain⟨v,e⟩:=v
    simp only at ht v1 v2⊢
    simp only[Aa,g3,g4,g5,ht]
    generalize b.getD 3 0=x at*
    generalize b.getD 4 0=y at*
    generalize b.getD 5 0=z at*
    simp only[Bot,Ccg,Bvv,Aj]
    by_cases he:e=0<;>by_cases hy:y=0<;>by_cases hz:z=0<;>by_cases hz2:z=16<;>by_cases hx:x=4<;>by_cases hx2:x.toNat<2<;>by_cases hx4:4<x.toNat<;>simp_all<;>(rw[if_neg (by omega),if_neg (by omega)])
  ·rw[if_pos (by simpa using hp),if_pos (by simp[hp])]
 ·rw[if_pos (by rw[Af,Ac];simp;omega),if_pos (by simp[h3])]
theorem Bgt(b:List UInt8)(n:Int)(h10:10≤b.length)(hn:10≤n)(hn2:n<268435500):Ur b (b.getD 5 0) n=some (Alr b n):=by
 rw[Ur,Ao2]
 by_cases c1:4000<n
 ·rw[if_pos (by rw[Ao];simpa using c1),Alr,if_pos c1]
 ·rw[if_neg (by rw[Ao];simpa using c1)]
  by_cases c2:(b.length:Int)<n
  ·rw[if_pos (by rw[Af,Ac];simpa using c2),Alr,if_neg c1,if_pos c2]
  ·have e3:Bp b (3:Int) (10:Int)=some (part b 3 7):=Lg 3 7 (by omega)
   rw[if_neg (by rw[Af,Ac];simpa using c2)]
   by_cases c3:b.getD 5 0=16
   ·have hl:((b.take n.toNat).drop (n-10).toNat).length=10:=by simp;omega
    have ht:Alr b n=if(b.take n.toNat).drop (n-10).toNat≠ [51,68,73]++part b 3 7 then(0,12)else(n,0):=by rw[Alr,if_neg c1,if_neg c2];simp only[c3,true_and]
    rw[if_pos (by rw[An2];simpa using c3),Be (by omega) (by omega),Mx (by omega) (by omega) (by omega),Aa,ht]
    generalize(b.take n.toNat).drop (n-10).toNat=f at*
    rw[Ib (by omega) (by omega),Aa,Fj (by omega) (by omega),Aa,e3,Aa,Fo,Aa]
    have hf:f=f.take 3++f.drop 3:=(List.take_append_drop 3 f).symm
    by_cases c4:f=[51,68,73]++part b 3 7
    ·subst c4
     simp
    ·by_cases c5:f.take 3=[51,68,73]
     ·have:f.drop 3≠part b 3 7:=fun h=>c4 (by rw[hf,c5,h])
      simp only[List.cons_append,List.nil_append]at c4
      simp[c4,c5,this]
     ·simp only[List.cons_append,List.nil_append]at c4
      simp[c4,c5]
   ·rw[if_neg (by rw[An2];simpa using c3),Alr,if_neg c1,if_neg c2,if_neg (fun h=>c3 h.1)]
theorem Bvd(b:List UInt8)(r:Int)(h10:10≤b.length)(h0:0≤r)(h1:r<268435456):Us b r (b.getD 5 0)=some (Bbr b r):=by
 rw[Us,Aep,Bbr]
 by_cases c3:b.getD 5 0=16
 ·rw[if_pos (by rw[An2];simpa using c3),Ag (by rw[Ag]<;>omega) (by rw[Ag]<;>omega),Ag (by omega) (by omega),Bgt b _ h10 (by omega) (by omega),if_pos c3]
 ·rw[if_neg (by rw[An2];simpa using c3),Ag (by omega) (by omega),Bgt b _ h10 (by omega) (by omega),if_neg c3];simp
theorem Bs2(b:List UInt8)(hb:b.length<4611686018427387904):Afv b=some (Up b):=by
 rw[Afv,Ux,Am3,Aa]
 by_cases hp:3≤b.length∧b.take 3=[73,68,51]
 ·rw[if_neg (by simpa using hp)]
  by_cases h10:b.length<10
  ·rw[if_pos (by rw[Af,Ac];simp;omega),Up,if_neg (fun h=>h hp),if_pos h10]
  ·have e6:Bp b (6:Int) (10:Int)=some (part b 6 4):=Lg 6 4 (by omega)
   have g3:getI b (3:Int)=some (b.getD 3 0):=Aut (i:=3) (by omega)
   have g4:getI b (4:Int)=some (b.getD 4 0):=Aut (i:=4) (by omega)
   have g5:getI b (5:Int)=some (b.getD 5 0):=Aut (i:=5) (by omega)
   obtain⟨v1,v2⟩:=Boy (b:=part b 6 4) (Cl (by omega))
   have ht:=Bvd b (Akr (part b 6 4) 0).1 (by omega) v1 v2
   rw[if_neg (by rw[Af,Ac];simp;omega),g3,Aa,g5,Aa,Ae1,Ae5,e6,Aa,Bng _ (Cl (by omega)),Aa,Up,if_neg (fun h=>h hp),if_neg h10]
   generalize Akr (part b 6 4) 0=v at*
   obtain⟨v,e⟩:=v
   simp only at ht v1 v2⊢
   simp only[Aa,g4,Ae4,Aeq]
   generalize b.getD 3 0=x at*
   generalize b.getD 4 0=y at*
   generalize b.getD 5 0=z at*
   simp only[Bot,Cbg,An2,Bw9,Aj]
   have e2:(2:UInt8).toNat=2:=rfl
   have e4:(4:UInt8).toNat=4:=rfl
   by_cases he:e=0<;>by_cases hy:y=0<;>by_cases hz:z=0<;>by_cases hz2:z=16<;>by_cases hx:x=4<;>by_cases hx2:2≤x.toNat<;>by_cases hx4:x.toNat≤4<;>simp_all
 ·rw[if_pos (by rw[Bool.not_eq_true',decide_eq_false_iff_not];exact hp),Up,if_pos hp]
theorem Bmd{b:List UInt8}{n:Int}(h:Up b=(n,0)):10≤n∧n≤b.length∧n≤4000:=by
 unfold Up at h
 split at h; · simp at h
 split at h; · simp at h
 split at h; · simp at h
 rename_i h10 _
 obtain⟨v1,v2⟩:=Boy (b:=part b 6 4) (Cl (by omega))
 unfold Bbr at h
 generalize hm:(Akr (part b 6 4) 0).1+10+(if b.getD 5 0=16 then 10 else 0)=m at h
 unfold Alr at h
 split at h; · simp at h
 split at h; · simp at h
 split at h; · simp at h
 simp only[Prod.mk.injEq,and_true]at h
 subst h
 refine⟨?_,by omega,by omega⟩
 rw[←hm]
 split<;>omega
end Go.Pl
set_option linter.unusedVariables false
set_option linter.unusedSimpArgs false
namespace Go.Pl
open Go Go.Lv
def APE:List UInt8:=[65,80,69,84,65,71,69,88]
def Kw(n m fl:Nat):List UInt8:=APE++leB 2000 4++leB (n+32) 4++leB m 4++leB fl 4++List.replicate 8 0
theorem Ajx{n:Nat}(h:n<18446744073709551616):(UInt64.ofNat n).toNat=n:=by rw[UInt64.toNat_ofNat',Nat.mod_eq_of_lt h]
theorem Atb(n m:Int)(fl:UInt64)(c:UInt64)(i q:Nat)(acc:List UInt8)(hi:i<6)(hc:getI ([(2000:UInt64),(Ae (Ad n (32:Int)):UInt64),(Ae m:UInt64),fl,(0:UInt64),(0:UInt64)]:List UInt64) (i:Int)=some c)(h:c.toNat<4294967296)(ha:acc.length≤1000000):
  Wa n m fl (q+1) (i:Int) acc=Wa n m fl q ((i+1:Nat):Int) (acc++leB c.toNat 4):=by
 have hb:=Bkd c 4 (by omega) (by omega) (by simpa using h)
 rw[Wa,Ani,if_pos (by rw[Af,Ac];simp;omega),hc,Aa,Aa,show((4:Int))=((4:Nat):Int)from rfl,hb,Aa]
 simp only
 rw[Fs (by rw[Ld];omega),Aa,Ag (by omega) (by omega)];rfl
theorem Bda(n m:Nat)(fl:UInt64)(hn:n≤3000)(hm:m≤1000)(hf:fl.toNat<4294967296):Asr (n:Int) (m:Int) fl=some (Kw n m fl.toNat):=by
 have e1:(Ae (Ad (n:Int) (32:Int)):UInt64).toNat=n+32:=by rw[Ag (by omega) (by omega),show(n:Int)+32=((n+32:Nat):Int) by omega,Wd,Ajx (by omega)]
 have e2:(Ae (m:Int):UInt64).toNat=m:=by rw[Wd,Ajx (by omega)]
 have hF:Am=(Am-7)+1+1+1+1+1+1+1:=by have:=Ak;omega
 rw[Asr,Avg,Avx,hF]
 rw[show((0:Int))=((0:Nat):Int)from rfl,Atb n m fl 2000 0 _ _ (by omega) rfl (by decide) (by simp),Atb n m fl _ 1 _ _ (by omega) rfl (by rw[e1];omega) (by simp[Ld]),Atb n m fl _ 2 _ _ (by omega) rfl (by rw[e2];omega) (by simp[Ld]),
  Atb n m fl fl 3 _ _ (by omega) rfl hf (by simp[Ld]),Atb n m fl 0 4 _ _ (by omega) rfl (by decide) (by simp[Ld]),Atb n m fl 0 5 _ _ (by omega) rfl (by decide) (by simp[Ld]),e1,e2]
 rw[Wa,Ani,if_neg (by rw[Af,Ac];simp),Avm,Bfb,Kw]
 have z:leB (0:UInt64).toNat 4++leB (0:UInt64).toNat 4=List.replicate 8 0:=by decide
 have z2:leB (2000:UInt64).toNat 4=leB 2000 4:=rfl
 rw[List.append_assoc _ (leB (0:UInt64).toNat 4),z,z2];rfl
theorem Axc(n m:Nat)(fl:UInt64)(hn:n≤3000)(hm:m≤1000)(hf:fl.toNat<4294967296):Mm (n:Int) (m:Int) fl=some (Kw n m fl.toNat):=by
 have e1:(Ae (Ad (n:Int) (32:Int)):UInt64).toNat=n+32:=by rw[Ag (by omega) (by omega),show(n:Int)+32=((n+32:Nat):Int) by omega,Wd,Ajx (by omega)]
 have e2:(Ae (m:Int):UInt64).toNat=m:=by rw[Wd,Ajx (by omega)]
 have w:∀c:UInt64,Cr c 4=some (leB c.toNat 4):=fun c=>Bch c 4 (by omega)
 have z2:leB (2000:UInt64).toNat 4=leB 2000 4:=rfl
 rw[Mm]
 simp only[w,e1,e2,Aa]
 rw[Fs (by simp[Ld]),Aa,Fs (by simp[Ld]),Aa,Fs (by simp[Ld]),Aa,Fs (by simp[Ld]),Aa,Bet (by omega) (by omega),Aa,Fs (by simp[Ld]),Aa,z2];rfl
theorem My{b:List UInt8}{a w k:Nat}(h:a+w≤k):part (b.take k) a w=part b a w:=by rw[part,part,List.take_take,Nat.min_eq_left h]
def Xi(b:List UInt8):Bool:=decide (Dd (part b 12 4)<32∨3032<Dd (part b 12 4)∨1000<Dd (part b 16 4))
theorem Bwj(b:List UInt8)(h:20≤b.length):(((Bl (leU (part b 12 4)) (32:UInt64))||(Cp (leU (part b 12 4)) (3032:UInt64)))||(Cp (leU (part b 16 4)) (1000:UInt64)))=Xi b:=by
 rw[Ba1,Aje,Aje,Aj4 (by rw[Cl (by omega)];omega),Aj4 (by rw[Cl (by omega)];omega),Xi]
 show((decide (Dd (part b 12 4)<32)||decide (3032<Dd (part b 12 4)))||decide (1000<Dd (part b 16 4)))=_
 simp[Bool.or_assoc]
theorem Aya(b:List UInt8)(h:20≤b.length)(hb:Xi b=false):Ah (Ae (leU (part b 12 4)):Int) (32:Int)=((Dd (part b 12 4)-32:Nat):Int)∧(Ae (leU (part b 16 4)):Int)=((Dd (part b 16 4):Nat):Int)∧Dd (part b 12 4)-32≤3000∧Dd (part b 16 4)≤1000:=by
 simp only[Xi,decide_eq_false_iff_not]at hb
 refine⟨?_,Acy (by rw[Cl (by omega)];omega),by omega,by omega⟩
 rw[Acy (by rw[Cl (by omega)];omega),Be (by omega) (by omega)];omega
theorem An0(b:List UInt8)(fl:UInt64)(h:20≤b.length)(hl:b.length<4611686018427387904)(hf:fl.toNat<4294967296):
  Agb b fl=some (if Xi b=true then(0,0,false)else(((Dd (part b 12 4)-32:Nat):Int),((Dd (part b 16 4):Nat):Int),b==Kw (Dd (part b 12 4)-32) (Dd (part b 16 4)) fl.toNat)):=by
 have a1:Al5 b 12 4=some (leU (part b 12 4),0):=Bgi b 12 4 (by omega) (by omega) (by omega) hl
 have a2:Al5 b 16 4=some (leU (part b 16 4),0):=Bgi b 16 4 (by omega) (by omega) (by omega) hl
 rw[Agb,a1,Aa]
 simp only
 rw[a2,Aa]
 simp only
 rw[Bwj b h]
 cases hb:Xi b with
 |true=>rfl
 |false=>
  obtain⟨i1,i2,i3,i4⟩:=Aya b h hb
  rw[i1,i2,Bda _ _ _ i3 i4 hf]
  rfl
theorem Blj(b:List UInt8)(h:20≤b.length)(hl:b.length<4611686018427387904):
  Qj b=some (if Xi b=true then(0,0,false)else(((Dd (part b 12 4)-32:Nat):Int),((Dd (part b 16 4):Nat):Int),true)):=by
 have a1:Bp b 12 16=some (part b 12 4):=Lg 12 4 (by omega)
 have a2:Bp b 16 20=some (part b 16 4):=Lg 16 4 (by omega)
 rw[Qj,a1,Aa,Blm _ (by rw[Cl (by omega)];omega),Aa,a2,Aa,Blm _ (by rw[Cl (by omega)];omega),Aa,Bwj b h]
 cases hb:Xi b with
 |true=>rfl
 |false=>
  obtain⟨i1,i2,i3,i4⟩:=Aya b h hb
  rw[i1,i2];rfl
def Iw(b:List UInt8):Int×Int:=
 if ¬(8≤b.length∧b.take 8=APE)then(0,6)else if b.length<32 then(0,24)else
 if Xi b=true∨b.take 32≠Kw (Dd (part b 12 4)-32) (Dd (part b 16 4)) 2684354560 then(0,12)else
 if b.length<Dd (part b 12 4)+32 then(0,24)else
 if(b.take (Dd (part b 12 4)+32)).drop (Dd (part b 12 4))≠Kw (Dd (part b 12 4)-32) (Dd (part b 16 4)) 2147483648 then(0,12)else(((Dd (part b 12 4)+32:Nat):Int),0)
theorem Bl3(b:List UInt8):Xi (b.take 32)=Xi b:=by rw[Xi,Xi,My (by omega),My (by omega)]
section
variable {b:List UInt8}
theorem fa1(h:¬(8≤b.length∧b.take 8=APE)):Iw b=(0,6):=by rw[Iw,if_pos h]
theorem fa2(h:8≤b.length∧b.take 8=APE)(h2:b.length<32):Iw b=(0,24):=by rw[Iw,if_neg (fun h'=>h' h),if_pos h2]
variable (h:8≤b.length∧b.take 8=APE) (h2:¬b.length<32)
include h h2
theorem fa3(h3:Xi b=true):Iw b=(0,12):=by rw[Iw,if_neg (fun h'=>h' h),if_neg h2,if_pos (.inl h3)]
theorem fa4(h4:b.take 32≠Kw (Dd (part b 12 4)-32) (Dd (part b 16 4)) 2684354560):Iw b=(0,12):=by rw[Iw,if_neg (fun h'=>h' h),if_neg h2,if_pos (.inr h4)]
variable (h3:Xi b=false) (h4:b.take 32=Kw (Dd (part b 12 4)-32) (Dd (part b 16 4)) 2684354560)
include h3 h4
theorem fa5(h5:b.length<Dd (part b 12 4)+32):Iw b=(0,24):=by
 rw[Iw,if_neg (fun h'=>h' h),if_neg h2,if_neg (fun h'=>h'.elim (fun e=>by rw[h3]at e;cases e) fun e=>e h4),if_pos h5]
theorem fa6(h5:¬b.length<Dd (part b 12 4)+32)(h6:(b.take (Dd (part b 12 4)+32)).drop (Dd (part b 12 4))≠Kw (Dd (part b 12 4)-32) (Dd (part b 16 4)) 2147483648):Iw b=(0,12):=by
 rw[Iw,if_neg (fun h'=>h' h),if_neg h2,if_neg (fun h'=>h'.elim (fun e=>by rw[h3]at e;cases e) fun e=>e h4),if_neg h5,if_pos h6]
theorem fa7(h5:¬b.length<Dd (part b 12 4)+32)(h6:(b.take (Dd (part b 12 4)+32)).drop (Dd (part b 12 4))=Kw (Dd (part b 12 4)-32) (Dd (part b 16 4)) 2147483648):Iw b=(((Dd (part b 12 4)+32:Nat):Int),0):=by
 rw[Iw,if_neg (fun h'=>h' h),if_neg h2,if_neg (fun h'=>h'.elim (fun e=>by rw[h3]at e;cases e) fun e=>e h4),if_neg h5,if_neg (fun h'=>h' h6)]
end
theorem Bpg(b:List UInt8)(hl:b.length<4611686018427387904):Asv b=some (Iw b):=by
 rw[Asv,Am3,Aa]
 by_cases hp:8≤b.length∧b.take 8=APE
 ·rw[if_neg (by simpa [APE]using hp)]
  by_cases h32:b.length<32
  ·rw[if_pos (by rw[Af,Ac];simp;omega),fa2 hp h32]
  ·have t:=An0 (b.take 32) 2684354560 (by simp;omega) (by simp;omega) (by decide)
   rw[Bl3,My (by omega),My (by omega)]at t
   rw[if_neg (by rw[Af,Ac];simp;omega),Ib (by omega) (by omega),Aa,show(32:Int).toNat=32 from rfl,t,Aa]
   cases hb:Xi b with
   |true=>rw[fa3 hp h32 hb];simp
   |false=>
    obtain⟨i1,i2,i3,i4⟩:=Aya b (by omega) hb
    have i5:32≤Dd (part b 12 4):=by simp only[Xi,decide_eq_false_iff_not]at hb;omega
    simp only[Bool.false_eq_true,if_false,false_or]
    by_cases c1:b.take 32=Kw (Dd (part b 12 4)-32) (Dd (part b 16 4)) 2684354560
    ·have c1':b.take 32=Kw (Dd (part b 12 4)-32) (Dd (part b 16 4)) (2684354560:UInt64).toNat:=c1
     rw[if_neg (by simpa using c1'),Ag (by omega) (by omega)]
     have e1:((Dd (part b 12 4)-32:Nat):Int)+64=((Dd (part b 12 4)+32:Nat):Int):=by omega
     rw[e1]
     by_cases c2:b.length<Dd (part b 12 4)+32
     ·rw[if_pos (by rw[Af,Ac];simp;omega),fa5 hp h32 hb c1 c2]
     ·rw[if_neg (by rw[Af,Ac];simp;omega),Be (by omega) (by omega),Mx (by omega) (by omega) (by omega),Aa,Bda _ _ _ i3 i4 (by decide),Aa,Fo,Aa]
      rw[show(((Dd (part b 12 4)+32:Nat):Int)).toNat=Dd (part b 12 4)+32 by omega,show(((Dd (part b 12 4)+32:Nat):Int)-32).toNat=Dd (part b 12 4) by omega]
      by_cases c3:(b.take (Dd (part b 12 4)+32)).drop (Dd (part b 12 4))=Kw (Dd (part b 12 4)-32) (Dd (part b 16 4)) 2147483648
      ·have c3':(b.take (Dd (part b 12 4)+32)).drop (Dd (part b 12 4))=Kw (Dd (part b 12 4)-32) (Dd (part b 16 4)) (2147483648:UInt64).toNat:=c3
       rw[if_neg (by simpa using c3'),fa7 hp h32 hb c1 c2 c3]
      ·have c3':¬(b.take (Dd (part b 12 4)+32)).drop (Dd (part b 12 4))=Kw (Dd (part b 12 4)-32) (Dd (part b 16 4)) (2147483648:UInt64).toNat:=c3
       rw[if_pos (by simpa using c3'),fa6 hp h32 hb c1 c2 c3]
    ·have c1':¬b.take 32=Kw (Dd (part b 12 4)-32) (Dd (part b 16 4)) (2684354560:UInt64).toNat:=c1
     rw[if_pos (by simpa using c1'),fa4 hp h32 c1]
 ·rw[if_pos (by rw[Bool.not_eq_true',decide_eq_false_iff_not];exact hp),fa1 hp]
theorem Bsq(b:List UInt8)(hl:b.length<4611686018427387904):Vx b=some (Iw b):=by
 rw[Vx,Aa0]
 by_cases h8:8≤b.length
 ·rw[if_neg (by rw[Af,Ac];simp;omega),Ib (by omega) (by omega),Aa,show(8:Int).toNat=8 from rfl]
  by_cases ha:b.take 8=APE
  ·have hp:=And.intro h8 ha
   rw[if_neg (by simpa [APE]using ha),Abn,Aav]
   by_cases h32:b.length<32
   ·rw[if_pos (by rw[Af,Ac];simp;omega),fa2 hp h32]
   ·have t:=Blj (b.take 32) (by simp;omega) (by simp;omega)
    rw[Bl3,My (by omega),My (by omega)]at t
    rw[if_neg (by rw[Af,Ac];simp;omega),Ib (by omega) (by omega),Aa,show(32:Int).toNat=32 from rfl,t,Aa]
    cases hb:Xi b with
    |true=>rw[fa3 hp h32 hb];simp
    |false=>
     obtain⟨i1,i2,i3,i4⟩:=Aya b (by omega) hb
     have i5:32≤Dd (part b 12 4):=by simp only[Xi,decide_eq_false_iff_not]at hb;omega
     simp only[Bool.false_eq_true,if_false,false_or,Aa,Bool.not_true]
     rw[Qc,Axc _ _ _ i3 i4 (by decide),Aa,Aa]
     by_cases c1:b.take 32=Kw (Dd (part b 12 4)-32) (Dd (part b 16 4)) 2684354560
     ·have c1':b.take 32=Kw (Dd (part b 12 4)-32) (Dd (part b 16 4)) (2684354560:UInt64).toNat:=c1
      rw[if_neg (by simpa using c1'),Aax,Abl,Ag (by omega) (by omega)]
      have e1:64+((Dd (part b 12 4)-32:Nat):Int)=((Dd (part b 12 4)+32:Nat):Int):=by omega
      rw[e1]
      by_cases c2:b.length<Dd (part b 12 4)+32
      ·rw[if_pos (by rw[Af,Ac];simp;omega),fa5 hp h32 hb c1 c2]
      ·rw[if_neg (by rw[Af,Ac];simp;omega),Be (by omega) (by omega),Mx (by omega) (by omega) (by omega),Aa,Ie,if_pos rfl,Axc _ _ _ i3 i4 (by decide),Aa,Aa]
       rw[show(((Dd (part b 12 4)+32:Nat):Int)).toNat=Dd (part b 12 4)+32 by omega,show(((Dd (part b 12 4)+32:Nat):Int)-32).toNat=Dd (part b 12 4) by omega]
       by_cases c3:(b.take (Dd (part b 12 4)+32)).drop (Dd (part b 12 4))=Kw (Dd (part b 12 4)-32) (Dd (part b 16 4)) 2147483648
       ·have c3':(b.take (Dd (part b 12 4)+32)).drop (Dd (part b 12 4))=Kw (Dd (part b 12 4)-32) (Dd (part b 16 4)) (2147483648:UInt64).toNat:=c3
        rw[if_neg (by simpa using c3'),fa7 hp h32 hb c1 c2 c3]
       ·have c3':¬(b.take (Dd (part b 12 4)+32)).drop (Dd (part b 12 4))=Kw (Dd (part b 12 4)-32) (Dd (part b 16 4)) (2147483648:UInt64).toNat:=c3
        rw[if_pos (by simpa using c3'),fa6 hp h32 hb c1 c2 c3]
     ·have c1':¬b.take 32=Kw (Dd (part b 12 4)-32) (Dd (part b 16 4)) (2684354560:UInt64).toNat:=c1
      rw[if_pos (by simpa using c1'),fa4 hp h32 c1]
  ·rw[if_pos (by simpa [APE]using ha),fa1 (fun h=>ha h.2)]
 ·rw[if_pos (by rw[Af,Ac];simp;omega),fa1 (fun h=>h8 h.1)]
theorem Ayl{b:List UInt8}{n:Int}(h:Iw b=(n,0)):64≤n∧n≤b.length:=by
 unfold Iw at h
 split at h; · simp at h
 split at h; · simp at h
 split at h; · simp at h
 rename_i hb
 split at h; · simp at h
 split at h; · simp at h
 simp only[Prod.mk.injEq,and_true]at h
 have hb':¬Xi b=true:=fun e=>hb (.inl e)
 simp only[Xi,decide_eq_true_eq]at hb'
 omega
end Go.Pl
set_option linter.unusedVariables false
set_option linter.unusedSimpArgs false
namespace Go.Pl
open Go Go.Lv
def Cc(b:List UInt8):Int×Int:=if(Up b).2≠6 then Up b else Iw b
theorem size_eq(b:List UInt8)(hl:b.length<4611686018427387904):Sa b=some (Cc b):=by
 rw[Sa,Bs2 b hl,Aa,Bpg b hl]
 by_cases h:(Up b).2=6
 ·simp[Cc,h,Aj]
 ·simp[Cc,h,Aj]
theorem Aru{b:List UInt8}{n:Int}(h:Cc b=(n,0)):10≤n∧n≤b.length:=by
 unfold Cc at h
 split at h
 ·have:=Bmd h;omega
 ·have:=Ayl h;omega
def Bo(b:List UInt8):Nat→Nat→List Int×Int
 |0,_=>([],6)
 |j+1,p=>if(Cc (b.drop p)).2=6 then([],0)else if(Cc (b.drop p)).2≠0 then([],(Cc (b.drop p)).2)else
  if 4000<(p:Int)+(Cc (b.drop p)).1 then([],4)else
  if(Bo b j (p+(Cc (b.drop p)).1.toNat)).2=0 then((Cc (b.drop p)).1::(Bo b j (p+(Cc (b.drop p)).1.toNat)).1,0)else([],(Bo b j (p+(Cc (b.drop p)).1.toNat)).2)
theorem Al7(b:List UInt8):∀(j p:Nat),p≤b.length→p≤4000→(Bo b j p).2=0→(∀x∈(Bo b j p).1,10≤x)∧(p:Int)+(Bo b j p).1.sum≤b.length∧(p:Int)+(Bo b j p).1.sum≤4000
 |0,p,_,_,h=>by simp[Bo]at h
 |j+1,p,hp,hq,h=>by
  rw[Bo]at h⊢
  split at h
  ·rename_i h6;rw[if_pos h6];simp;omega
  ·rename_i h6
   split at h
   ·rename_i h0;exact absurd h h0
   ·rename_i h0
    rw[if_neg h6,if_neg h0]
    have hz:Cc (b.drop p)=((Cc (b.drop p)).1,0):=by rw[Prod.ext_iff];exact⟨rfl,Classical.not_not.1 h0⟩
    have hs:=Aru hz
    rw[List.length_drop]at hs
    split at h
    ·simp at h
    ·rename_i h4
     rw[if_neg h4]
     split at h
     ·rename_i h00
      rw[if_pos h00]
      obtain⟨i1,i2,i3⟩:=Al7 b j _ (by omega) (by omega) h00
      refine⟨fun x hx=>?_,?_,?_⟩
      ·rcases List.mem_cons.1 hx with rfl|hx
       ·exact hs.1
       ·exact i1 x hx
      ·simp only[List.sum_cons];omega
      ·simp only[List.sum_cons];omega
     ·rename_i h00;exact absurd h h00
def Bn5(b:List UInt8)(j p:Nat):Int×Int:=if(Bo b j p).2=0 then((p:Int)+(Bo b j p).1.sum,0)else(0,(Bo b j p).2)
theorem Bd7(b:List UInt8)(hl:b.length<4611686018427387904):∀(j p q:Nat),p≤b.length→p≤4000→b.length-p<j→j≤q→Oo b q (p:Int)=some (Bn5 b j p)
 |0,p,q,_,_,h,_=>by omega
 |j+1,p,q,hp,hp4,hj,hq=>by
  obtain⟨q,rfl⟩:∃k,q=k+1:=⟨q-1,by omega⟩
  rw[Oo,Fj (by omega) (by omega),Aa,Int.toNat_natCast,size_eq _ (by simp;omega),Aa,Az,Az,Aj,Bn5]
  by_cases h6:(Cc (b.drop p)).2=6
  ·rw[if_pos (by simpa using h6)]
   have:Bo b (j+1) p=([],0):=by rw[Bo,if_pos h6]
   rw[this];simp
  ·rw[if_neg (by simpa using h6)]
   by_cases h0:(Cc (b.drop p)).2=0
   ·have hz:Cc (b.drop p)=((Cc (b.drop p)).1,0):=by rw[Prod.ext_iff];exact⟨rfl,h0⟩
    have hs:=Aru hz
    rw[List.length_drop]at hs
    rw[Ag (by omega) (by omega),Ao]
    by_cases h4:4000<(p:Int)+(Cc (b.drop p)).1
    ·rw[if_pos (by simp[h0];omega)]
     have:Bo b (j+1) p=([],4):=by rw[Bo,if_neg h6,if_neg (fun h=>h h0),if_pos h4]
     rw[this];simp
    ·rw[if_neg (by simp[h0];omega),if_neg (by simpa using h0)]
     have ih:=Bd7 b hl j (p+(Cc (b.drop p)).1.toNat) q (by omega) (by omega) (by omega) (by omega)
     rw[show(p:Int)+(Cc (b.drop p)).1=((p+(Cc (b.drop p)).1.toNat:Nat):Int) by omega,ih,Bn5]
     have:Bo b (j+1) p=if(Bo b j (p+(Cc (b.drop p)).1.toNat)).2=0 then((Cc (b.drop p)).1::(Bo b j (p+(Cc (b.drop p)).1.toNat)).1,0)else([],(Bo b j (p+(Cc (b.drop p)).1.toNat)).2):=by
      rw[Bo,if_neg h6,if_neg (fun h=>h h0),if_neg h4]
     rw[this]
     by_cases hr:(Bo b j (p+(Cc (b.drop p)).1.toNat)).2=0
     ·simp only[hr,if_true,List.sum_cons];congr 2;omega
     ·simp only[hr,if_false]
   ·rw[if_neg (by simp[h0]),if_pos (by simpa using h0)]
    have:Bo b (j+1) p=([],(Cc (b.drop p)).2):=by rw[Bo,if_neg h6,if_pos h0]
    rw[this];simp[h0]
def Bv5(b:List UInt8)(j p:Nat)(xs:List Int):List Int×Int:=if(Bo b j p).2=0 then(xs++(Bo b j p).1,0)else([],(Bo b j p).2)
theorem Bwp(bk:Int→List Int→Option (List Int×Int))(b:List UInt8)(p:Nat)(hp:p≤b.length)(xs:List Int)(hx:xs.length≤4000)(hl:b.length<4611686018427387904):Pp (Kf bk b) b (p:Int) xs=Kf bk b (p:Int) xs (Cc (b.drop p)).1 (Cc (b.drop p)).2:=by
 have hf:=Bsq (b.drop p) (by simp;omega)
 rw[Pp,Fj (by omega) (by omega),Aa,Int.toNat_natCast,Bt6 _ (by simp;omega),Aa]
 by_cases h:(Up (b.drop p)).2=6
 ·simp[Cc,h,Az,hf]
 ·simp[Cc,h,Az]
theorem Bge(b:List UInt8)(hl:b.length<4611686018427387904):∀(j p q:Nat) (xs:List Int),p≤b.length→p≤4000→b.length-p<j→j≤q→xs.length≤p→Ke b q (p:Int) xs=some (Bv5 b j p xs)
 |0,p,q,_,_,_,h,_,_=>by omega
 |j+1,p,q,xs,hp,hp4,hj,hq,hx=>by
  obtain⟨q,rfl⟩:∃k,q=k+1:=⟨q-1,by omega⟩
  rw[Ke,Bwp _ b p hp xs (by omega) hl,Kf,Aat,Az,Aj,Bv5]
  by_cases h6:(Cc (b.drop p)).2=6
  ·rw[if_pos (by simpa using h6)]
   have:Bo b (j+1) p=([],0):=by rw[Bo,if_pos h6]
   rw[this];simp
  ·rw[if_neg (by simpa using h6)]
   by_cases h0:(Cc (b.drop p)).2=0
   ·have hz:Cc (b.drop p)=((Cc (b.drop p)).1,0):=by rw[Prod.ext_iff];exact⟨rfl,h0⟩
    have hs:=Aru hz
    rw[List.length_drop]at hs
    rw[if_neg (by simpa using h0),Ag (by omega) (by omega),Ao]
    by_cases h4:4000<(p:Int)+(Cc (b.drop p)).1
    ·rw[if_pos (by simp;omega)]
     have:Bo b (j+1) p=([],4):=by rw[Bo,if_neg h6,if_neg (fun h=>h h0),if_pos h4]
     rw[this];simp
    ·rw[if_neg (by simp;omega),Fs (by simp;omega),Aa]
     have ih:=Bge b hl j (p+(Cc (b.drop p)).1.toNat) q (xs++[(Cc (b.drop p)).1]) (by omega) (by omega) (by omega) (by omega) (by simp;omega)
     rw[show(p:Int)+(Cc (b.drop p)).1=((p+(Cc (b.drop p)).1.toNat:Nat):Int) by omega,ih,Bv5]
     have:Bo b (j+1) p=if(Bo b j (p+(Cc (b.drop p)).1.toNat)).2=0 then((Cc (b.drop p)).1::(Bo b j (p+(Cc (b.drop p)).1.toNat)).1,0)else([],(Bo b j (p+(Cc (b.drop p)).1.toNat)).2):=by
      rw[Bo,if_neg h6,if_neg (fun h=>h h0),if_neg h4]
     rw[this]
     by_cases hr:(Bo b j (p+(Cc (b.drop p)).1.toNat)).2=0
     ·simp only[hr,if_true];simp
     ·simp only[hr,if_false]
   ·rw[if_pos (by simpa using h0)]
    have:Bo b (j+1) p=([],(Cc (b.drop p)).2):=by rw[Bo,if_neg h6,if_pos h0]
    rw[this];simp[h0]
theorem As4:∀{l:List Int},(∀x∈l,10≤x)→0≤l.sum∧(l.length:Int)≤l.sum
 |[],_=>by simp
 |x::l,h=>by
  have h1:=h x List.mem_cons_self
  have h2:=As4 (l:=l) fun y hy=>h y (List.mem_cons_of_mem _ hy)
  simp only[List.sum_cons,List.length_cons];omega
theorem Bc6(r:Int)(l:List Int)(hl:l.length≤4000)(hx:∀x∈l,10≤x):∀(j i q:Nat) (n:Int),i+j=l.length→j<q→0≤n→n+(l.drop i).sum≤4000→Ha r l q n (i:Int)=some (n+(l.drop i).sum,r)
 |0,i,q+1,n,hi,_,_,_=>by
  rw[Ha,Pj,if_neg (by rw[Af,Ac];simp;omega),show i=l.length by omega,List.drop_length]
  simp[Aa9,Aaw]
 |j+1,i,q+1,n,hi,hq,hn,hs=>by
  have hlt:i<l.length:=by omega
  rw[drop_cons hlt,List.sum_cons]at hs⊢
  have h1:=hx l[i] (List.getElem_mem hlt)
  have h2:=As4 (l:=l.drop (i+1)) fun y hy=>hx y (List.mem_of_mem_drop hy)
  rw[Ha,Pj,if_pos (by rw[Af,Ac];simp;omega),Bw hlt,Aa,Aa,Ag (by omega) (by omega),Ag (by omega) (by omega)]
  have ih:=Bc6 r l hl hx j (i+1) q (n+l[i]) (by omega) (by omega) (by omega) (by omega)
  rw[show((i:Int)+1)=((i+1:Nat):Int) by omega,ih]
  congr 2;omega
def frontS(b:List UInt8):Int×Int:=Bn5 b (b.length+1) 0
theorem Qr(b:List UInt8)(hl:b.length<4611686018427387904):Nf b=some (frontS b):=by
 have:=Bd7 b hl (b.length+1) 0 Am (by omega) (by omega) (by omega) (by have:=Ak;omega)
 exact this
theorem Sj(b:List UInt8)(hl:b.length<4611686018427387904):Jm b=some (frontS b):=by
 have h:=Bge b hl (b.length+1) 0 Am [] (by omega) (by omega) (by omega) (by have:=Ak;omega) (by simp)
 have h':Agr b=some (Bv5 b (b.length+1) 0 []):=h
 rw[Jm,Abg,h',Aa,frontS,Bn5,Bv5]
 have ho:=Al7 b (b.length+1) 0 (by omega) (by omega)
 by_cases h0:(Bo b (b.length+1) 0).2=0
 ·obtain⟨i1,i2,i3⟩:=ho h0
  have hp:=As4 i1
  simp only[h0,if_true,List.nil_append]
  have:=Bc6 0 (Bo b (b.length+1) 0).1 (by omega) i1 (Bo b (b.length+1) 0).1.length 0 Am 0 (by omega) (by have:=Ak;omega) (by omega) (by simpa using i3)
  simpa [Pd]using this
 ·simp only[h0,if_false]
  have:=Bc6 (Bo b (b.length+1) 0).2 [] (by simp) (by simp) 0 0 Am 0 (by simp) (by have:=Ak;omega) (by omega) (by simp)
  simpa [Pd]using this
theorem Af9{b:List UInt8}(h:(frontS b).2=0):0≤(frontS b).1∧(frontS b).1≤b.length∧(frontS b).1≤4000:=by
 unfold frontS Bn5 at h⊢
 split at h
 ·rename_i h0
  rw[if_pos h0]
  obtain⟨i1,i2,i3⟩:=Al7 b (b.length+1) 0 (by omega) (by omega) h0
  have hp:=As4 i1
  exact⟨by simp;omega,i2,i3⟩
 ·rename_i h0;exact absurd h h0
end Go.Pl
set_option linter.unusedVariables false
set_option linter.unusedSimpArgs false
namespace Go.Pl
open Go Go.Lv
def longN(r:Nat):Nat:=max 1 (256*r/245)
theorem Agf(r:Nat):1≤longN r:=Nat.le_max_left _ _
theorem Beh{r:Nat}(h:r≤1048576):longN r≤1100000:=by unfold longN;omega
theorem Bj2{r:Nat}(h:r≤1048576):Ato (1:Int) (By (Ax (256:Int) (r:Int)) (245:Int))=(longN r:Int):=by
 rw[Fx (by omega) (by omega),Aew,Int.tdiv_eq_ediv_of_nonneg (by omega),Bn (by omega) (by omega),Bo2,longN];omega
def framesL(g n:Nat):List Int:=List.replicate ((n-1)/g) (g:Int)++[((n-(n-1)/g*g:Nat):Int)]
theorem Az5(g n:Nat):(framesL g n).length=(n-1)/g+1:=by simp[framesL]
theorem Bfp{g n:Nat}(h:n≤g)(h1:1≤n):framesL g n=[(n:Int)]:=by
 rw[framesL,Nat.div_eq_of_lt (by omega)];simp
theorem Bkw{g n:Nat}(hg:1≤g)(h:g<n):framesL g n=(g:Int)::framesL g (n-g):=by
 have e:(n-1)/g=(n-g-1)/g+1:=by rw[←Nat.add_div_right _ (by omega)];congr 1;omega
 rw[framesL,framesL,e,List.replicate_succ,List.cons_append]
 congr 4
 have:=Nat.div_mul_le_self (n-g-1) g
 rw[Nat.add_mul,Nat.one_mul];omega
theorem Av4{g n:Nat}(hg:1≤g)(h1:1≤n):(n+g-1)/g=(n-1)/g+1:=by
 rw[←Nat.add_div_right _ (by omega)];congr 1;omega
theorem Bf0{r:Nat}(h1:1≤r)(h:r≤1048576):Xl (r:Int)=some ((longN r:Int),0):=by
 rw[Xl,if_neg (by simp[Af,Ao];omega),Bj2 h]
theorem Bwn{r:Nat}(h:r≤1048576):Pu (r:Int)=some (longN r:Int):=by rw[Pu,Bj2 h]
theorem Bdz{r n:Nat}(h1:1≤r)(h:r≤1048576)(n1:1≤n)(n2:n≤4000):Ox (r:Int) (n:Int)=some (if 1000<(n-1)/longN r+1 then(0,4)else((((n-1)/longN r+1:Nat):Int),0)):=by
 have hp:=Agf r
 have hl:=Beh h
 have e:By (Ah (Ad (n:Int) (longN r:Int)) (1:Int)) (longN r:Int)=(((n-1)/longN r+1:Nat):Int):=by
  have:(n+longN r-1)/longN r≤n+longN r-1:=Nat.div_le_self _ _
  rw[Ag (by omega) (by omega),Be (by omega) (by omega),Aew,Int.tdiv_eq_ediv_of_nonneg (by omega),show(n:Int)+(longN r:Int)-1=((n+longN r-1:Nat):Int) by omega,←Int.natCast_ediv,Av4 hp n1]
  rw[Av4 hp n1]at this
  generalize(n-1)/longN r=k at*
  exact Bn (by omega) (by omega)
 rw[Ox,Bf0 h1 h,Aa]
 simp only
 rw[if_neg (by rw[Aj];simp),if_neg (by simp[Af,Ao];omega),Cg (by rw[Aj];simp;omega),Aa,e]
 by_cases hk:1000<(n-1)/longN r+1
 ·rw[if_pos (by rw[Ao];simp;omega),if_pos hk]
 ·rw[if_neg (by rw[Ao];simp;omega),if_neg hk]
theorem Bed{r:Nat}(h:r≤1048576):∀(j n q:Nat) (acc:List Int),n≤4000→n≤j→j<q→acc.length+n≤10000→Dq (r:Int) q (n:Int) acc=some (acc++(if n=0 then []else framesL (longN r) n))
 |0,n,q+1,acc,hn,hj,hq,ha=>by
  obtain rfl:n=0:=by omega
  rw[Dq,Gz,if_neg (by rw[Ao];simp)]
  simp[Kg,Kj]
 |j+1,n,q+1,acc,hn,hj,hq,ha=>by
  have hp:=Agf r
  have hl:=Beh h
  by_cases h0:n=0
  ·subst h0
   rw[Dq,Gz,if_neg (by rw[Ao];simp)]
   simp[Kg,Kj]
  ·rw[Dq,Gz,if_pos (by rw[Ao];simp;omega),Bwn h,Aa,Fs (by simp;omega),Aa,Aa,Be (by omega) (by omega),Ahb]
   by_cases hs:n≤longN r
   ·rw[show min (n:Int) (longN r:Int)=(n:Int) by omega,if_neg h0,Bfp hs (by omega)]
    have hz:∃k,q=k+1:=⟨q-1,by omega⟩
    obtain⟨q,rfl⟩:=hz
    rw[Dq,Gz,if_neg (by rw[Ao];simp;omega)]
    simp[Kg,Kj]
   ·rw[show min (n:Int) (longN r:Int)=(longN r:Int) by omega,show(n:Int)-(longN r:Int)=((n-longN r:Nat):Int) by omega,Bed h j (n-longN r) q _ (by omega) (by omega) (by omega) (by simp;omega),if_neg (by omega),if_neg h0,Bkw hp (show longN r<n by omega)]
    simp
theorem Ama{r n:Nat}(h:r≤1048576)(n1:1≤n)(n2:n≤4000):Cv (r:Int) (n:Int)=some (framesL (longN r) n):=by
 have:=Bed h n n Am [] n2 (Nat.le_refl _) (by have:=Ak;omega) (by simp;omega)
 rw[Cv,Aa6,Abh,this,if_neg (by omega)];rfl
theorem mul_one(m:Nat)(h:m≤100000):Acr (1:UInt64) (UInt64.ofNat m)=some (0,UInt64.ofNat m):=by
 have y1:(UInt64.ofNat m).toNat=m:=Ajx (by omega)
 have s1:Bj (1:UInt64) (GI.toZ (32:UInt64)).toNat=0:=by decide
 have s2:Bj (UInt64.ofNat m) (GI.toZ (32:UInt64)).toNat=0:=by
  apply UInt64.toNat_inj.1
  rw[Adn,y1]
  exact Nat.div_eq_of_lt (Nat.lt_of_le_of_lt h (by decide))
 have s0:Bj (0:UInt64) (GI.toZ (32:UInt64)).toNat=0:=by decide
 have a1:Cy (1:UInt64) (4294967295:UInt64)=1:=by decide
 have a0:Cy (0:UInt64) (4294967295:UInt64)=0:=by decide
 have a2:Cy (UInt64.ofNat m) (4294967295:UInt64)=UInt64.ofNat m:=by
  apply UInt64.toNat_inj.1
  rw[Ber,UInt64.toNat_and,y1]
  show m&&& (2^32-1)=m
  rw[Nat.and_two_pow_sub_one_eq_mod,Nat.mod_eq_of_lt (by omega)]
 have m1:∀x:UInt64,Ax 1 x=x:=fun x=>by rw[Adq,UInt64.one_mul]
 have m0:∀x:UInt64,Ax 0 x=0:=fun x=>by rw[Adq,UInt64.zero_mul]
 have p0:∀x:UInt64,Ad 0 x=x:=fun x=>by rw[Ad4,UInt64.zero_add]
 have p1:∀x:UInt64,Ad x 0=x:=fun x=>by rw[Ad4,UInt64.add_zero]
 rw[Acr,Aem]
 simp only[s1,s2,a1,a2,m1,m0,p0,p1,s0,a0,Aa]
theorem Azc(v:Int)(m:Nat)(hm:m≤100000):∀(j n q:Nat),1≤n→n≤m→m-n≤j→j<q→Df q (n:Int) (List.replicate n v++List.replicate (m-n) 0)=some (List.replicate m v)
 |j,n,q+1,hn,hnm,hj,hq=>by
  have hlen:Ac (List.replicate n v++List.replicate (m-n) 0)=(m:Int):=by simp[Ac];omega
  rw[Df,Ez,hlen]
  by_cases h:n<m
  ·obtain⟨j,rfl⟩:∃k,j=k+1:=⟨j-1,by omega⟩
   rw[if_pos (by rw[Af];simp;omega)]
   have v1:vwI (m:Int) (n:Int) (m:Int)=some ():=by rw[vwI,Cg];simp;omega
   have v2:vwI (m:Int) (0:Int) (n:Int)=some ():=by rw[vwI,Cg];simp;omega
   have e1:Akm (List.replicate n v++List.replicate (m-n) 0) (0:Int) ((n:Int)-0)=List.replicate n v:=by
    simp[Akm]
   rw[v1,Aa,v2,Aa,e1]
   have e2:Agm ((m:Int)-(n:Int)) (List.replicate n v).length=((min n (m-n):Nat):Int):=by
    rw[Agm,List.length_replicate];split<;>omega
   have e3:Pn (List.replicate n v++List.replicate (m-n) 0) (n:Int) ((m:Int)-(n:Int)) (List.replicate n v)=List.replicate (n+min n (m-n)) v++List.replicate (m-(n+min n (m-n))) 0:=by
    have t1:((m:Int)-(n:Int)).toNat=m-n:=by omega
    have t2:(List.replicate n v++List.replicate (m-n) (0:Int)).take n=List.replicate n v:=by simp
    rw[Pn,t1,Int.toNat_natCast,t2,List.take_replicate,List.length_replicate,←List.append_assoc,List.replicate_append_replicate,List.drop_append,List.length_replicate,Nat.min_comm (m-n) n]
    simp only[List.drop_replicate]
    rw[show n-(n+min n (m-n))=0 by omega,List.replicate_zero,List.nil_append,show m-n-(n+min n (m-n)-n)=m-(n+min n (m-n)) by omega]
   rw[e2,e3,Ag (by omega) (by omega),show(n:Int)+((min n (m-n):Nat):Int)=((n+min n (m-n):Nat):Int) by omega]
   exact Azc v m hm j (n+min n (m-n)) q (by omega) (by omega) (by omega) (by omega)
  ·rw[if_neg (by rw[Af];simp;omega)]
   obtain rfl:n=m:=by omega
   simp[Gq,Kv]
theorem Brv(v:Int)(m:Nat)(hm:m≤100000):Kc [v] (m:Int)=some (List.replicate m v):=by
 have y1:(UInt64.ofNat m).toNat=m:=Ajx (by omega)
 have c1:(Ae (Ac [v]):UInt64)=1:=by rfl
 have c2:(Ae (m:Int):UInt64)=UInt64.ofNat m:=Wd m
 have c3:(Ae (UInt64.ofNat m):Int)=(m:Int):=by rw[Ax2 (by omega),y1]
 rw[Kc,Ll,if_neg (by rw[Af];simp),Lr,Lk,c1,c2,mul_one m hm,Aa]
 simp only
 rw[if_neg (by rw[Aje,Aje,y1];simp;show m≤9223372036854775807;omega),Ln,Lm,c3,Bet (by omega) (by omega),Aa,Cg (by rw[Az];simp),Aa,Lu,Int.toNat_natCast]
 by_cases h0:m=0
 ·subst h0
  have hF:Am=(Am-1)+1:=by have:=Ak;omega
  rw[hF,Df,Ez]
  simp[Ac,Bex,Agm,Af,Gq,Kv]
 ·have:=Azc v m hm m 1 Am (by omega) (by omega) (by omega) (by have:=Ak;omega)
  have e1:Agm (Ac (List.replicate m (0:Int))) [v].length=((1:Nat):Int):=by simp[Agm,Ac];omega
  have e2:Bex (List.replicate m (0:Int)) [v]=List.replicate 1 v++List.replicate (m-1) 0:=by
   obtain⟨k,rfl⟩:∃k,m=k+1:=⟨m-1,by omega⟩
   simp[Bex]
  rw[e1,e2,this]
theorem Bsx(l m:List Int)(h:l.length+m.length≤1000000):Kk [l,m]=some (l++m):=by
 have hF:Am=(Am-3)+1+1+1:=by have:=Ak;omega
 rw[Kk,Lp,Lo]
 have g0:getI [l,m] (0:Int)=some l:=rfl
 have g1:getI [l,m] (1:Int)=some m:=rfl
 have l2:Ac [l,m]=2:=rfl
 have h3:Gn [l,m] []=some (l++m):=by
  rw[Gn,Kr,Kn,hF,Cu,Eo,l2,if_pos (by decide),g0,Aa,Fs (by simp;omega),Aa,List.nil_append,show Ad (0:Int) 1=1 by decide,
   Cu,Eo,l2,if_pos (by decide),g1,Aa,Fs (by omega),Aa,show Ad (1:Int) 1=2 by decide,Cu,Eo,l2,if_neg (by decide)]
  rfl
 rw[hF,De,Fa,l2,if_pos (by decide),g0,Aa,Ag (by unfold Ac;omega) (by unfold Ac;omega),if_neg (by rw[Af,Ac];simp),show Ad (0:Int) 1=1 by decide,
  De,Fa,l2,if_pos (by decide),g1,Aa,Ag (by unfold Ac;omega) (by unfold Ac;omega),if_neg (by rw[Af,Ac,Ac];simp;omega),show Ad (1:Int) 1=2 by decide,
  De,Fa,l2,if_neg (by decide),Ks,Kt,if_neg (by rw[Af,Ac,Ac];simp;omega),Kq,Kx]
 have z:Ah (0:Int) 0=0:=by decide
 have n0:(0:Int)+Ac l+Ac m=((l.length+m.length:Nat):Int):=by simp[Ac]
 rw[z,n0,Be (by omega) (by omega),Int.sub_zero]
 by_cases hp:0<l.length+m.length
 ·rw[if_pos (by rw[Ao];simp;omega),show vwI (0:Int) 0 0=some ()from rfl,Aa,Bet (by omega) (by omega),Aa,Fs (by simp;omega),Aa]
  rw[show vwI (Ac ([]++List.replicate ((l.length+m.length:Nat):Int).toNat (0:Int))) 0 0=some () by rw[vwI,Cg];simp[Ac];omega,Aa]
  simp only[Akm,Int.sub_self,Int.toNat_zero,List.take_zero]
  exact h3
 ·rw[if_neg (by rw[Ao];simp;omega)];exact h3
theorem Bug{r n:Nat}(h1:1≤r)(h:r≤1048576)(n1:1≤n)(n2:n≤4000)(hk:(n-1)/longN r+1≤1000):Rg (r:Int) (n:Int)=some (framesL (longN r) n,0):=by
 have hp:=Agf r
 have hl:=Beh h
 have hd:=Nat.div_mul_le_self (n-1) (longN r)
 rw[Rg,Bdz h1 h n1 n2,if_neg (by omega),Aa]
 simp only
 rw[if_neg (by rw[Aj];simp),Bf0 h1 h,Aa]
 simp only
 rw[framesL]
 generalize(n-1)/longN r=k at*
 have e1:Ah ((k+1:Nat):Int) 1=(k:Int):=by rw[Be (by omega) (by omega)];omega
 have e2:(k:Int)*(longN r:Int)=((k*longN r:Nat):Int):=by simp
 rw[e1,Brv _ _ (by omega),Aa,Fx (by rw[e2];omega) (by rw[e2];omega),e2,Be (by omega) (by omega),Ain,Bsx _ _ (by simp;omega),Aa,Aa,show(n:Int)-((k*longN r:Nat):Int)=((n-k*longN r:Nat):Int) by omega]
end Go.Pl
set_option linter.unusedVariables false
set_option linter.unusedSimpArgs false
namespace Go.Pl
open Go Go.Lv
def shapeB(f c w r n:Nat):Bool:=decide ((f=1∨f=2)∧(1≤c∧c≤6)∧(w=8∨w=16∨w=24)∧(1≤r∧r≤1048576)∧1≤n)
def fitB(c r n:Nat):Bool:=decide (n≤4000/c∧(n-1)/longN r+1≤1000)
theorem Az8(f c w r n:Nat):Ui (f:Int) (c:Int) (w:Int) (r:Int) (n:Int)=some (shapeB f c w r n):=by
 have e2:Sm (f:Int) (c:Int) (w:Int) (r:Int) (n:Int)=some (decide ((f=1∨f=2)∧(1≤c∧c≤6)∧(1≤r∧r≤1048576)∧1≤n)):=by
  rw[Sm,Alb]
  congr 1
  rw[Bool.eq_iff_iff]
  simp only[Az,Ao,Be6,Bool.and_eq_true,Bool.or_eq_true,beq_iff_eq,decide_eq_true_eq]
  omega
 have g:∀k:Nat,geq (w:Int) (k:Int)=decide (w=k):=fun k=>by rw[Az,Bool.eq_iff_iff];simp;omega
 have g8:geq (w:Int) (8:Int)=decide (w=8):=g 8
 have g16:geq (w:Int) (16:Int)=decide (w=16):=g 16
 have g24:geq (w:Int) (24:Int)=decide (w=24):=g 24
 rw[Ui,Ach,e2,g8,g16,g24,shapeB]
 by_cases h8:w=8
 ·subst h8;simp
 ·by_cases h16:w=16
  ·subst h16;simp
  ·by_cases h24:w=24
   ·subst h24;simp
   ·simp[h8,h16,h24]
theorem Bph(f c w r n:Nat):Tr (f:Int) (c:Int) (w:Int) (r:Int) (n:Int)=some (shapeB f c w r n):=by
 rw[Tr,shapeB]
 simp only[Az,Du,Be6,Bool.and_eq_true,Bool.or_eq_true,beq_iff_eq,decide_eq_true_eq,Bool.false_and]
 split
 ·rename_i h
  congr 1
  rw[Bool.eq_iff_iff]
  simp only[Bool.and_eq_true,Bool.or_eq_true,beq_iff_eq,decide_eq_true_eq]
  omega
 ·rename_i h
  congr 1
  symm
  rw[decide_eq_false_iff_not]
  omega
theorem Ca4{c:Nat}(h:1≤c):By (4000:Int) (c:Int)=((4000/c:Nat):Int):=by
 have:4000/c≤4000:=Nat.div_le_self _ _
 rw[Aew,Int.tdiv_eq_ediv_of_nonneg (by omega),show(4000:Int)=((4000:Nat):Int)from rfl,←Int.natCast_ediv]
 generalize 4000/c=k at*
 exact Bn (by omega) (by omega)
theorem Bhf{f c w r n:Nat}(h:shapeB f c w r n=true):Ac6 (f:Int) (c:Int) (w:Int) (r:Int) (n:Int)=some (fitB c r n):=by
 simp only[shapeB,decide_eq_true_eq]at h
 have hd:4000/c≤4000:=Nat.div_le_self _ _
 rw[Ac6,Cg (by rw[Aj];simp;omega),Aa,Ca4 (by omega),fitB]
 generalize 4000/c=m at*
 by_cases h1:n≤m
 ·rw[if_neg (by rw[Ao];simp;omega),Bdz (by omega) (by omega) (by omega) (by omega),Aa]
  generalize(n-1)/longN r+1=k
  by_cases h2:1000<k
  ·rw[if_pos h2]
   simp[Az,Be6]
   omega
  ·rw[if_neg h2]
   simp[Az,Be6,h1]
   omega
 ·rw[if_pos (by rw[Ao];simp;omega)]
  simp[h1]
theorem Buu{f c w r n:Nat}(h:shapeB f c w r n=true):Xq (f:Int) (c:Int) (w:Int) (r:Int) (n:Int)=some (!fitB c r n):=by
 simp only[shapeB,decide_eq_true_eq]at h
 have hd:4000/c≤4000:=Nat.div_le_self _ _
 rw[Xq,Cg (by rw[Aj];simp;omega),Aa,Ca4 (by omega),fitB]
 generalize 4000/c=m at*
 by_cases h1:n≤m
 ·rw[if_neg (by rw[Ao];simp;omega),Ama (by omega) (by omega) (by omega),Aa,Ac,Az5]
  generalize(n-1)/longN r+1=k
  congr 1
  rw[Ao,Bool.eq_iff_iff]
  simp only[decide_eq_true_eq,Bool.not_eq_true',decide_eq_false_iff_not]
  omega
 ·rw[if_pos (by rw[Ao];simp;omega)]
  simp[h1]
def Aqg:List UInt8:=[84,84,65,49]
def f0(b:List UInt8):Nat:=Dd (part b 4 2)
def f1(b:List UInt8):Nat:=Dd (part b 6 2)
def f2(b:List UInt8):Nat:=Dd (part b 8 2)
def f3(b:List UInt8):Nat:=Dd (part b 10 4)
def f4(b:List UInt8):Nat:=Dd (part b 14 4)
abbrev H6:=Int×Int×Int×Int×Int×Int
def readS(b:List UInt8):H6:=
 if b.take (min 4 b.length)≠Aqg.take (min 4 b.length)then(0,0,0,0,0,12)else if b.length<22 then(0,0,0,0,0,24)else
 if(Gd (b.take 18)).toNat≠Dd (part b 18 4)then(0,0,0,0,0,22)else
 if shapeB (f0 b) (f1 b) (f2 b) (f3 b) (f4 b)=false then(0,0,0,0,0,12)else
 if fitB (f1 b) (f3 b) (f4 b)=false then(0,0,0,0,0,4)else((f0 b:Int),(f1 b:Int),(f2 b:Int),(f3 b:Int),(f4 b:Int),0)
section
variable {b:List UInt8}
theorem rs1(h:b.take (min 4 b.length)≠Aqg.take (min 4 b.length)):readS b=(0,0,0,0,0,12):=by rw[readS,if_pos h]
variable (h:b.take (min 4 b.length)=Aqg.take (min 4 b.length))
include h
theorem rs2(h2:b.length<22):readS b=(0,0,0,0,0,24):=by rw[readS,if_neg (fun e=>e h),if_pos h2]
variable (h2:¬b.length<22)
include h2
theorem rs3(h3:(Gd (b.take 18)).toNat≠Dd (part b 18 4)):readS b=(0,0,0,0,0,22):=by rw[readS,if_neg (fun e=>e h),if_neg h2,if_pos h3]
variable (h3:(Gd (b.take 18)).toNat=Dd (part b 18 4))
include h3
theorem rs4(h4:shapeB (f0 b) (f1 b) (f2 b) (f3 b) (f4 b)=false):readS b=(0,0,0,0,0,12):=by rw[readS,if_neg (fun e=>e h),if_neg h2,if_neg (fun e=>e h3),if_pos h4]
variable (h4:shapeB (f0 b) (f1 b) (f2 b) (f3 b) (f4 b)=true)
include h4
theorem rs5(h5:fitB (f1 b) (f3 b) (f4 b)=false):readS b=(0,0,0,0,0,4):=by rw[readS,if_neg (fun e=>e h),if_neg h2,if_neg (fun e=>e h3),if_neg (by rw[h4];simp),if_pos h5]
theorem rs6(h5:fitB (f1 b) (f3 b) (f4 b)=true):readS b=((f0 b:Int),(f1 b:Int),(f2 b:Int),(f3 b:Int),(f4 b:Int),0):=by rw[readS,if_neg (fun e=>e h),if_neg h2,if_neg (fun e=>e h3),if_neg (by rw[h4];simp),if_neg (by rw[h5];simp)]
end
theorem Bui(b:List UInt8)(h2:¬b.length<22):Au (Ae (Gd (b.take 18)):UInt64) (leU (part b 18 4))=decide ((Gd (b.take 18)).toNat≠Dd (part b 18 4)):=by
 rw[Af3,Gk,Bool.eq_iff_iff]
 simp only[bne_iff_ne,ne_eq,decide_eq_true_eq]
 rw[←UInt64.toNat_inj,Ajx (by have:=(Gd (b.take 18)).toNat_lt;omega),Aj4 (by rw[Cl (by omega)];omega)]
theorem Arl(b:List UInt8)(a w:Nat)(i q:Nat)(l:List Int)(hi:i<5)(hl:l.length=5)(hw:getI ([2,2,2,4,4]:List Int) (i:Int)=some (w:Int))(h1:1≤w)(h4:w≤4)(ha:a+w≤b.length)(hb:b.length<4611686018427387904):
  Js b (q+1) (a:Int) (i:Int) l=Js b q ((a+w:Nat):Int) ((i+1:Nat):Int) (l.set i (Dd (part b a w):Int)):=by
 rw[Js,Yo,if_pos (by rw[Af];simp;omega),hw,Aa,Bgi b a w h1 (by omega) ha hb,Aa]
 simp only
 rw[Bw (by omega),Aa,Th _ (by omega),Aa,Acy (by rw[Cl ha];omega),Ag (by omega) (by omega),Ag (by omega) (by omega)]
 rfl
theorem Bww(b:List UInt8)(h22:¬b.length<22)(hb:b.length<4611686018427387904):Xj b 4 0 (List.replicate 5 0)=Xo [(f0 b:Int),(f1 b:Int),(f2 b:Int),(f3 b:Int),(f4 b:Int)]:=by
 have hF:Am=(Am-6)+1+1+1+1+1+1:=by have:=Ak;omega
 rw[Xj,hF,show(4:Int)=((4:Nat):Int)from rfl,show(0:Int)=((0:Nat):Int)from rfl]
 rw[Arl b 4 2 0 _ _ (by omega) (by simp) rfl (by omega) (by omega) (by omega) hb,Arl b 6 2 1 _ _ (by omega) (by simp) rfl (by omega) (by omega) (by omega) hb,Arl b 8 2 2 _ _ (by omega) (by simp) rfl (by omega) (by omega) (by omega) hb,
  Arl b 10 4 3 _ _ (by omega) (by simp) rfl (by omega) (by omega) (by omega) hb,Arl b 14 4 4 _ _ (by omega) (by simp) rfl (by omega) (by omega) (by omega) hb,Js,Yo,if_neg (by rw[Af];simp)]
 rfl
theorem Ceu(b:List UInt8):Qg [84,84,65,49] (b.take (min 4 b.length))=some (decide (b.take (min 4 b.length)=Aqg.take (min 4 b.length))):=by
 have hl:(b.take (min 4 b.length)).length=min 4 b.length:=by rw[List.length_take];omega
 rw[Qg,Hh,if_pos (by rw[Du,Ac,Ac,hl];simp;omega),Ac,hl,Ib (by omega) (by simp;omega),Aa,Aa,Int.toNat_natCast]
 congr 1
 rw[Bool.eq_iff_iff]
 rw[decide_eq_true_eq,beq_iff_eq]
 exact eq_comm
theorem Cdi(b:List UInt8):Da (4:Int) (Ac b)=((min 4 b.length:Nat):Int):=by rw[Ahb,Ac];omega
theorem Al0(b:List UInt8)(hb:b.length<4611686018427387904):Xc b=some (readS b):=by
 rw[Xc,Aie,Cdi,Ib (by omega) (by omega),Aa,Int.toNat_natCast,Ceu,Aa]
 by_cases h:b.take (min 4 b.length)=Aqg.take (min 4 b.length)
 ·rw[if_neg (by simpa using h)]
  by_cases h2:b.length<22
  ·rw[if_pos (by rw[Af,Ac];simp;omega),rs2 h h2]
  ·have a1:Al5 b 18 4=some (leU (part b 18 4),0):=Bgi b 18 4 (by omega) (by omega) (by omega) hb
   rw[if_neg (by rw[Af,Ac];simp;omega),a1,Aa]
   simp only
   rw[Ib (by omega) (by omega),Aa,show(18:Int).toNat=18 from rfl,Bo3 _ (by simp;omega),Aa]
   simp only
   rw[Bui b h2]
   by_cases h3:(Gd (b.take 18)).toNat=Dd (part b 18 4)
   ·rw[if_neg (by simpa using h3),Bww b h2 hb,Xo,Asn]
    rw[show getI [(f0 b:Int),(f1 b:Int),(f2 b:Int),(f3 b:Int),(f4 b:Int)] 0=some (f0 b:Int)from rfl,show getI [(f0 b:Int),(f1 b:Int),(f2 b:Int),(f3 b:Int),(f4 b:Int)] 1=some (f1 b:Int)from rfl,show getI [(f0 b:Int),(f1 b:Int),(f2 b:Int),(f3 b:Int),(f4 b:Int)] 2=some (f2 b:Int)from rfl,
     show getI [(f0 b:Int),(f1 b:Int),(f2 b:Int),(f3 b:Int),(f4 b:Int)] 3=some (f3 b:Int)from rfl,show getI [(f0 b:Int),(f1 b:Int),(f2 b:Int),(f3 b:Int),(f4 b:Int)] 4=some (f4 b:Int)from rfl]
    simp only[Aa,Az8]
    cases h4:shapeB (f0 b) (f1 b) (f2 b) (f3 b) (f4 b)with
    |false=>rw[rs4 h h2 h3 h4];rfl
    |true=>
     rw[Bhf h4,if_neg (by simp),Aa]
     cases h5:fitB (f1 b) (f3 b) (f4 b)with
     |false=>rw[rs5 h h2 h3 h4 h5];rfl
     |true=>rw[rs6 h h2 h3 h4 h5];rfl
   ·rw[if_pos (by simpa using h3),rs3 h h2 h3]
 ·rw[if_pos (by simpa using h),rs1 h]
theorem Aly(b:List UInt8)(hb:b.length<4611686018427387904):Lc b=some (readS b):=by
 rw[Lc,Adg,Cdi,Ib (by omega) (by omega),Aa,Int.toNat_natCast,Ib (by omega) (by simp;omega),Aa,Int.toNat_natCast]
 by_cases h:b.take (min 4 b.length)=Aqg.take (min 4 b.length)
 ·rw[if_neg (by rw[h];simp[Aqg]),Adl,Aec]
  by_cases h2:b.length<22
  ·rw[if_pos (by rw[Af,Ac];simp;omega),rs2 h h2]
  ·have a1:Bp b 18 22=some (part b 18 4):=Lg 18 4 (by omega)
   have c1:Bp b 4 6=some (part b 4 2):=Lg 4 2 (by omega)
   have c2:Bp b 6 8=some (part b 6 2):=Lg 6 2 (by omega)
   have c3:Bp b 8 10=some (part b 8 2):=Lg 8 2 (by omega)
   have c4:Bp b 10 14=some (part b 10 4):=Lg 10 4 (by omega)
   have c5:Bp b 14 18=some (part b 14 4):=Lg 14 4 (by omega)
   have hs:Au (leU (part b 18 4)) (Ae (Gd (b.take 18)):UInt64)=decide ((Gd (b.take 18)).toNat≠Dd (part b 18 4)):=by
    rw[←Bui b h2,Af3,Af3,Bool.eq_iff_iff];simp only[bne_iff_ne,ne_eq];exact not_congr eq_comm
   have lp:∀a w,a+w≤b.length→Cd (part b a w)=some (leU (part b a w)):=fun a w h=>Blm _ (by rw[Cl h];omega)
   rw[if_neg (by rw[Af,Ac];simp;omega),a1,Aa,Ib (by omega) (by omega),Aa,show(18:Int).toNat=18 from rfl,lp _ _ (by omega),Aa,Bwy _ (by simp;omega),Aa,hs]
   by_cases h3:(Gd (b.take 18)).toNat=Dd (part b 18 4)
   ·rw[if_neg (by simpa using h3),Ad0,Aej,c1,Aa,c2,Aa,c3,Aa,c4,Aa,c5,Aa,lp _ _ (by omega),Aa,lp _ _ (by omega),Aa,lp _ _ (by omega),Aa,lp _ _ (by omega),Aa,lp _ _ (by omega),Aa,
     Adm,Aeb,Acy (by rw[Cl (by omega)];omega),Acy (by rw[Cl (by omega)];omega),Acy (by rw[Cl (by omega)];omega),Acy (by rw[Cl (by omega)];omega),Acy (by rw[Cl (by omega)];omega)]
    rw[show Dd (part b 4 2)=f0 b from rfl,show Dd (part b 6 2)=f1 b from rfl,show Dd (part b 8 2)=f2 b from rfl,show Dd (part b 10 4)=f3 b from rfl,show Dd (part b 14 4)=f4 b from rfl,Bph,Aa]
    cases h4:shapeB (f0 b) (f1 b) (f2 b) (f3 b) (f4 b)with
    |false=>rw[rs4 h h2 h3 h4];rfl
    |true=>
     rw[Buu h4,if_neg (by simp),Aa]
     cases h5:fitB (f1 b) (f3 b) (f4 b)with
     |false=>rw[rs5 h h2 h3 h4 h5];rfl
     |true=>rw[rs6 h h2 h3 h4 h5];rfl
   ·rw[if_pos (by simpa using h3),rs3 h h2 h3]
 ·rw[if_pos (by simpa [Aqg]using h),rs1 h]
theorem Agj{b:List UInt8}(h:(readS b).2.2.2.2.2=0):readS b=((f0 b:Int),(f1 b:Int),(f2 b:Int),(f3 b:Int),(f4 b:Int),0)∧22≤b.length∧shapeB (f0 b) (f1 b) (f2 b) (f3 b) (f4 b)=true∧fitB (f1 b) (f3 b) (f4 b)=true:=by
 unfold readS at h⊢
 split at h; · simp at h
 rename_i c1;rw[if_neg c1]
 split at h; · simp at h
 rename_i c2;rw[if_neg c2]
 split at h; · simp at h
 rename_i c3;rw[if_neg c3]
 split at h; · simp at h
 rename_i c4;rw[if_neg c4]
 split at h; · simp at h
 rename_i c5;rw[if_neg c5]
 exact⟨rfl,by omega,by simpa using c4,by simpa using c5⟩
theorem Ad5{f c w r n:Nat}(h:shapeB f c w r n=true)(h2:fitB c r n=true):Lt (f:Int) (c:Int) (w:Int) (r:Int) (n:Int)=some (framesL (longN r) n,0):=by
 have hc:Aaf (f:Int) (c:Int) (w:Int) (r:Int) (n:Int)=some 0:=by
  rw[Aaf,Az8,Aa,h,if_neg (by simp),Bhf h,Aa,h2];rfl
 have hd:4000/c≤4000:=Nat.div_le_self _ _
 simp only[shapeB,decide_eq_true_eq]at h
 simp only[fitB,decide_eq_true_eq]at h2
 rw[Lt,hc,Aa,if_neg (by rw[Aj];simp),Bug (by omega) (by omega) (by omega) (by omega) h2.2]
 rfl
end Go.Pl
set_option linter.unusedVariables false
set_option linter.unusedSimpArgs false
namespace Go.Pl
open Go Go.Lv
def okL:List Int→Int→Bool
 |[],_=>true
 |x::l,left=>decide (5≤x∧x≤left)&&okL l (left-x)
theorem Bn0:∀l:List Int,(∀x∈l,5≤x)→0≤l.sum
 |[],_=>by simp
 |x::l,h=>by
  have h1:=h x List.mem_cons_self
  have h2:=Bn0 l fun y hy=>h y (List.mem_cons_of_mem _ hy)
  rw[List.sum_cons];omega
theorem Ba0:∀(l:List Int) (left:Int),0≤left→(okL l left=true↔(∀x∈l,5≤x)∧l.sum≤left)
 |[],left,h=>by simp[okL];exact h
 |x::l,left,h=>by
  rw[okL,Bool.and_eq_true,decide_eq_true_eq,List.sum_cons]
  by_cases hx:5≤x∧x≤left
  ·rw[Ba0 l (left-x) (by omega)]
   constructor
   ·rintro⟨_,h1,h2⟩
    exact⟨fun y hy=>(List.mem_cons.1 hy).elim (fun e=>e▸hx.1) (h1 y),by omega⟩
   ·rintro⟨h1,h2⟩
    exact⟨hx,fun y hy=>h1 y (List.mem_cons_of_mem _ hy),by omega⟩
  ·constructor
   ·rintro⟨h1,_⟩;exact absurd h1 hx
   ·rintro⟨h1,h2⟩
    have h3:=h1 x List.mem_cons_self
    have:0≤l.sum:=Bn0 l fun y hy=>h1 y (List.mem_cons_of_mem _ hy)
    omega
theorem Bbm(l:List Int)(hl:l.length≤1000):∀(j i q:Nat) (left:Int),i+j=l.length→j<q→0≤left→left≤100000→Ms l q left (i:Int)=some (if okL (l.drop i) left=true then 0 else 8)
 |0,i,q+1,left,hi,_,_,_=>by
  rw[Ms,Yn,if_neg (by rw[Af,Ac];simp;omega),show i=l.length by omega,List.drop_length];rfl
 |j+1,i,q+1,left,hi,hq,h0,h1=>by
  have hlt:i<l.length:=by omega
  rw[Ms,Yn,if_pos (by rw[Af,Ac];simp;omega),Bw hlt,Aa,drop_cons hlt]
  by_cases h:5≤l[i]∧l[i]≤left
  ·rw[if_neg (by simp[Af,Ao];omega),Be (by omega) (by omega),Ag (by omega) (by omega)]
   have ih:=Bbm l hl j (i+1) q (left-l[i]) (by omega) (by omega) (by omega) (by omega)
   rw[show((i:Int)+1)=((i+1:Nat):Int) by omega,ih]
   simp[okL,h]
  ·rw[if_pos (by simp[Af,Ao];omega)]
   have:okL (l[i]::l.drop (i+1)) left=false:=by rw[okL,decide_eq_false h];rfl
   rw[this];rfl
def Ap2(l:List Int):Bool:=decide (1≤l.length∧l.length≤1000)&&okL l 100000
theorem Bim(l:List Int)(hl:l.length≤1000):Lf l=some (if Ap2 l=true then 0 else 8):=by
 rw[Lf,Aaa,Ap2]
 by_cases h:1≤l.length
 ·rw[if_neg (by rw[Az,Ao,Ac];simp;constructor;(intro e;subst e;simp at h);omega),Aim]
  have:=Bbm l hl l.length 0 Am 100000 (by omega) (by have:=Ak;omega) (by omega) (by omega)
  rw[List.drop_zero]at this
  rw[decide_eq_true (show 1≤l.length∧l.length≤1000 from⟨h,hl⟩),Bool.true_and]
  exact this
 ·have:l=[]:=by
   cases l with
   |nil=>rfl
   |cons _ _=>simp at h
  subst this;rfl
theorem Bf3(l:List Int)(hl:l.length≤1000):∀(j i q:Nat) (s:Int),i+j=l.length→j<q→0≤s→s≤100000*(i:Int)→Gy l q s (i:Int)=some (if(∀x∈l.drop i,5≤x∧x≤100000)∧s+(l.drop i).sum≤100000 then 0 else 8)
 |0,i,q+1,s,hi,_,_,_=>by
  rw[Gy,Po,if_neg (by rw[Af,Ac];simp;omega),show i=l.length by omega,List.drop_length,Xk,Xs]
  by_cases h:s≤100000
  ·rw[if_neg (by rw[Ao];simp;omega),if_pos (by simp;omega)]
  ·rw[if_pos (by rw[Ao];simp;omega),if_neg (by simp;omega)]
 |j+1,i,q+1,s,hi,hq,h0,h1=>by
  have hlt:i<l.length:=by omega
  rw[Gy,Po,if_pos (by rw[Af,Ac];simp;omega),Bw hlt,Aa,drop_cons hlt]
  by_cases h5:l[i]<5
  ·rw[if_pos (by rw[Af];simpa using h5),if_neg (fun h=>by have:=(h.1 l[i] List.mem_cons_self).1;omega)]
  ·rw[if_neg (by rw[Af];simpa using h5),Aa]
   by_cases h6:100000<l[i]
   ·rw[if_pos (by rw[Ao];simpa using h6),if_neg (fun h=>by have:=(h.1 l[i] List.mem_cons_self).2;omega)]
   ·rw[if_neg (by rw[Ao];simpa using h6),Aa1,Aa5,Bw hlt,Aa,Ag (by omega) (by omega),Ag (by omega) (by omega)]
    have ih:=Bf3 l hl j (i+1) q (s+l[i]) (by omega) (by omega) (by omega) (by omega)
    rw[show((i:Int)+1)=((i+1:Nat):Int) by omega,ih]
    have e:((∀x∈l.drop (i+1),5≤x∧x≤100000)∧s+l[i]+(l.drop (i+1)).sum≤100000)↔((∀x∈l[i]::l.drop (i+1),5≤x∧x≤100000)∧s+(l[i]::l.drop (i+1)).sum≤100000):=by
     rw[List.sum_cons,List.forall_mem_cons,Int.add_assoc]
     constructor
     ·rintro⟨a,b⟩;exact⟨⟨by omega,a⟩,b⟩
     ·rintro⟨⟨_,a⟩,b⟩;exact⟨a,b⟩
    simp only[e]
theorem Bns:∀{l:List Int},(∀x∈l,5≤x)→∀x∈l,x≤l.sum
 |[],_,x,hx=>by simp at hx
 |y::l,h,x,hx=>by
  have h1:=h y List.mem_cons_self
  have h2:=Bn0 l fun z hz=>h z (List.mem_cons_of_mem _ hz)
  rw[List.sum_cons]
  rcases List.mem_cons.1 hx with rfl|hx
  ·omega
  ·have:=Bns (l:=l) (fun z hz=>h z (List.mem_cons_of_mem _ hz)) x hx
   omega
theorem Bm6(l:List Int)(hl:l.length≤1000):Hj l=some (if Ap2 l=true then 0 else 8):=by
 rw[Hj,Pa,Ap2]
 by_cases h:1≤l.length
 ·have:=Bf3 l hl l.length 0 Am 0 (by omega) (by have:=Ak;omega) (by omega) (by omega)
  rw[if_neg (by rw[Af,Ao,Ac];simp;omega),Aau]
  refine Eq.trans this ?_
  rw[List.drop_zero,decide_eq_true (show 1≤l.length∧l.length≤1000 from⟨h,hl⟩),Bool.true_and]
  have e:((∀x∈l,5≤x∧x≤100000)∧0+l.sum≤100000)↔okL l 100000=true:=by
   rw[Ba0 l 100000 (by omega),Int.zero_add]
   constructor
   ·rintro⟨a,b⟩;exact⟨fun x hx=>(a x hx).1,b⟩
   ·rintro⟨a,b⟩;exact⟨fun x hx=>⟨a x hx,Int.le_trans (Bns a x hx) b⟩,b⟩
  simp only[e]
 ·have:l=[]:=by
   cases l with
   |nil=>rfl
   |cons _ _=>simp at h
  subst this;rfl
theorem Bdk(l:List Int):Lf l=some (if Ap2 l=true then 0 else 8):=by
 by_cases hl:l.length≤1000
 ·exact Bim l hl
 ·rw[Lf,Aaa,if_pos (by rw[Ao,Ac];simp;omega),Ap2,decide_eq_false (by omega)];rfl
theorem Bfv(l:List Int):Hj l=some (if Ap2 l=true then 0 else 8):=by
 by_cases hl:l.length≤1000
 ·exact Bm6 l hl
 ·rw[Hj,Pa,if_pos (by rw[Ao,Ac];simp;omega),Ap2,decide_eq_false (by omega)];rfl
theorem Bfn(l:List Int)(hl:l.length≤1000)(hx:∀x∈l,0≤x∧x<4294967296):Lf l=some (if Ap2 l=true then 0 else 8):=Bdk l
theorem Btb(l:List Int)(hl:l.length≤1000)(hx:∀x∈l,0≤x∧x<4294967296):Hj l=some (if Ap2 l=true then 0 else 8):=Bfv l
def Ako(b:List UInt8)(n:Nat):List Int:=(List.range n).map fun i=>(Dd (part b (4*i) 4):Int)
theorem Adj(b:List UInt8)(n:Nat):(Ako b n).length=n:=by simp[Ako]
theorem Bgw(b:List UInt8)(n:Nat):Ako b (n+1)=Ako b n++[(Dd (part b (4*n) 4):Int)]:=by simp[Ako,List.range_succ]
theorem Brs(b:List UInt8)(n:Nat)(h:4*n≤b.length):∀x∈Ako b n,0≤x∧x<4294967296:=by
 intro x hx
 simp only[Ako,List.mem_map,List.mem_range]at hx
 obtain⟨i,hi,rfl⟩:=hx
 have:=Bqg (l:=part b (4*i) 4) (by rw[Cl (by omega)];omega)
 omega
def seekS(b:List UInt8)(n:Nat):List Int×Int:=
 if ¬(1≤n∧n≤1000)then([],2)else if b.length<4*n+4 then([],24)else if(Gd (b.take (4*n))).toNat≠Dd (part b (4*n) 4)then([],22)else
 if Ap2 (Ako b n)=true then(Ako b n,0)else([],12)
theorem Brb{b:List UInt8}{n:Nat}(h:1≤n∧n≤1000)(h2:¬b.length<4*n+4):Au (Ae (Gd (b.take (4*n))):UInt64) (leU (part b (4*n) 4))=decide ((Gd (b.take (4*n))).toNat≠Dd (part b (4*n) 4)):=by
 rw[Af3,Gk,Bool.eq_iff_iff]
 simp only[bne_iff_ne,ne_eq,decide_eq_true_eq]
 rw[←UInt64.toNat_inj,Ajx (by have:=(Gd (b.take (4*n))).toNat_lt;omega),Aj4 (by rw[Cl (by omega)];omega)]
section
variable {b:List UInt8} {n:Nat}
theorem ss1(h:¬(1≤n∧n≤1000)):seekS b n=([],2):=by rw[seekS,if_pos h]
variable (h:1≤n∧n≤1000)
include h
theorem ss2(h2:b.length<4*n+4):seekS b n=([],24):=by rw[seekS,if_neg (fun e=>e h),if_pos h2]
variable (h2:¬b.length<4*n+4)
include h2
theorem ss3(h3:(Gd (b.take (4*n))).toNat≠Dd (part b (4*n) 4)):seekS b n=([],22):=by rw[seekS,if_neg (fun e=>e h),if_neg h2,if_pos h3]
theorem ss4(h3:(Gd (b.take (4*n))).toNat=Dd (part b (4*n) 4)):seekS b n=if Ap2 (Ako b n)=true then(Ako b n,0)else([],12):=by rw[seekS,if_neg (fun e=>e h),if_neg h2,if_neg (fun e=>e h3)]
end
theorem Bgf(b:List UInt8)(l8:List Int)(n:Nat)(hn:n≤1000)(h8:l8.length=n)(hb:4*n+4≤b.length)(hb2:b.length<4611686018427387904):∀(j i q:Nat),i+j=n→j<q→On b l8 q (i:Int) (Ako b i++List.replicate j 0)=Acv (Ako b n)
 |0,i,q+1,hi,_=>by
  obtain rfl:i=n:=by omega
  rw[On,Aco,if_neg (by rw[Af,Ac];simp;omega)];simp
 |j+1,i,q+1,hi,hq=>by
  have hlen:(Ako b i++List.replicate (j+1) 0).length=i+(j+1):=by simp[Adj]
  have ha:=Bgi b (4*i) 4 (by omega) (by omega) (by omega) hb2
  rw[On,Aco,if_pos (by rw[Af,Ac];simp;omega),Fx (by omega) (by omega),show(4:Int)*(i:Int)=((4*i:Nat):Int) by omega,show(4:Int)=((4:Nat):Int)from rfl,ha,Aa]
  simp only
  rw[Bw (by rw[hlen];omega),Aa,Th _ (by rw[hlen];omega),Aa,Acy (by rw[Cl (by omega)];omega),Ag (by omega) (by omega),List.replicate_succ,As6 (Adj _ _)]
  have ih:=Bgf b l8 n hn h8 hb hb2 j (i+1) q (by omega) (by omega)
  rw[Bgw]at ih
  rw[show((i:Int)+1)=((i+1:Nat):Int) by omega,←ih]
  simp
theorem Ayc(b:List UInt8)(n:Nat)(hb:b.length≤100100):Aca b (n:Int)=some (seekS b n):=by
 rw[Aca,Akn]
 by_cases h:1≤n∧n≤1000
 ·rw[if_neg (by simp[Af,Ao];omega),Fx (by omega) (by omega),Ag (by omega) (by omega)]
  by_cases h2:b.length<4*n+4
  ·rw[if_pos (by rw[Af,Ac];simp;omega),ss2 h h2]
  ·have ha:Al5 b (4*(n:Int)) 4=some (leU (part b (4*n) 4),0):=by
    rw[show(4:Int)*(n:Int)=((4*n:Nat):Int) by omega]
    exact Bgi b (4*n) 4 (by omega) (by omega) (by omega) (by omega)
   rw[if_neg (by rw[Af,Ac];simp;omega),ha,Aa]
   simp only
   rw[Ib (by omega) (by omega),Aa,show(4*(n:Int)).toNat=4*n by omega,Bo3 _ (by simp;omega),Aa]
   simp only
   rw[Brb h h2]
   by_cases h3:(Gd (b.take (4*n))).toNat=Dd (part b (4*n) 4)
   ·have hlp:=Bgf b (List.replicate n 0) n (by omega) (by simp) (by omega) (by omega) n 0 Am (by omega) (by have:=Ak;omega)
    rw[if_neg (by simpa using h3),Bet (by omega) (by omega),Aa,Cg (by rw[Az];simp),Aa,Ak3,Int.toNat_natCast]
    refine Eq.trans (hlp) ?_
    rw[Acv,At2,Bfn _ (by rw[Adj];omega) (Brs b n (by omega)),Aa,ss4 h h2 h3]
    cases Ap2 (Ako b n)<;>rfl
   ·rw[if_pos (by simpa using h3),ss3 h h2 h3]
 ·rw[if_pos (by simp[Af,Ao];omega),ss1 h]
theorem Auf(b:List UInt8)(n:Nat)(hn:n≤1000)(hb:4*n+4≤b.length)(hb2:b.length<4611686018427387904):∀(j i q:Nat),i+j=n→j<q→Hs b (n:Int) q (i:Int) (Ako b i)=Rl (Ako b n)
 |0,i,q+1,hi,_=>by
  obtain rfl:i=n:=by omega
  rw[Hs,Qn,if_neg (by rw[Af];simp)]
 |j+1,i,q+1,hi,hq=>by
  have hc:Bp b ((4:Int)*(i:Int)) ((4:Int)*(i:Int)+4)=some (part b (4*i) 4):=by
   rw[show(4:Int)*(i:Int)=((4*i:Nat):Int) by omega]
   exact Lg (4*i) 4 (by omega)
  rw[Hs,Qn,if_pos (by rw[Af];simp;omega),Fx (by omega) (by omega),Ag (by omega) (by omega),hc,Aa,Blm _ (by rw[Cl (by omega)];omega),Aa,Fs (by rw[Adj];simp;omega),Aa,
   Acy (by rw[Cl (by omega)];omega),Ag (by omega) (by omega),←Bgw]
  exact Auf b n hn hb hb2 j (i+1) q (by omega) (by omega)
theorem Bb1(b:List UInt8)(n:Nat)(hb:b.length≤100100):Py b (n:Int)=some (seekS b n):=by
 rw[Py,Ad2]
 by_cases h:1≤n∧n≤1000
 ·rw[if_neg (by simp[Af,Ao];omega),Fx (by omega) (by omega),Ag (by omega) (by omega)]
  by_cases h2:b.length<4*n+4
  ·rw[if_pos (by rw[Af,Ac];simp;omega),ss2 h h2]
  ·have hc:Bp b ((4:Int)*(n:Int)) ((4:Int)*(n:Int)+4)=some (part b (4*n) 4):=by
    rw[show(4:Int)*(n:Int)=((4*n:Nat):Int) by omega]
    exact Lg (4*n) 4 (by omega)
   have hs:Au (leU (part b (4*n) 4)) (Ae (Gd (b.take (4*n))):UInt64)=decide ((Gd (b.take (4*n))).toNat≠Dd (part b (4*n) 4)):=by
    rw[←Brb h h2,Af3,Af3,Bool.eq_iff_iff];simp only[bne_iff_ne,ne_eq];exact not_congr eq_comm
   rw[if_neg (by rw[Af,Ac];simp;omega),hc,Aa,Ib (by omega) (by omega),Aa,show(4*(n:Int)).toNat=4*n by omega,Blm _ (by rw[Cl (by omega)];omega),Aa,Bwy _ (by simp;omega),Aa,hs]
   by_cases h3:(Gd (b.take (4*n))).toNat=Dd (part b (4*n) 4)
   ·have hlp:=Auf b n (by omega) (by omega) (by omega) n 0 Am (by omega) (by have:=Ak;omega)
    rw[if_neg (by simpa using h3),Ac4,Aeg,Adr]
    refine Eq.trans hlp ?_
    rw[Rl,Ac0,Btb _ (by rw[Adj];omega) (Brs b n (by omega)),Aa,ss4 h h2 h3]
    cases Ap2 (Ako b n)<;>rfl
   ·rw[if_pos (by simpa using h3),ss3 h h2 h3]
 ·rw[if_pos (by simp[Af,Ao];omega),ss1 h]
theorem Bcp{b:List UInt8}{n:Nat}(h:(seekS b n).2=0):seekS b n=(Ako b n,0)∧1≤n∧n≤1000∧4*n+4≤b.length∧(∀x∈Ako b n,5≤x)∧(Ako b n).sum≤100000:=by
 unfold seekS at h⊢
 split at h; · simp at h
 rename_i c1;rw[if_neg c1]
 split at h; · simp at h
 rename_i c2;rw[if_neg c2]
 split at h; · simp at h
 rename_i c3;rw[if_neg c3]
 split at h
 ·rename_i c4
  rw[if_pos c4]
  have c4':=c4
  rw[Ap2,Bool.and_eq_true,Ba0 _ _ (by omega)]at c4'
  exact⟨rfl,by omega,by omega,by omega,c4'.2.1,c4'.2.2⟩
 ·simp at h
end Go.Pl
set_option linter.unusedVariables false
set_option linter.unusedSimpArgs false
namespace Go.Pl
open Go Go.Lv
def hdr(b:List UInt8):List UInt8:=b.drop (frontS b).1.toNat
abbrev Op8:=Int×Int×Int×Int×Int×Int×(List Int)×Int
def Afw(e:Int):Op8:=(0,0,0,0,0,0,[],e)
theorem Bwk(A K:Nat)(h:A≤200000)(hk:K≤1000):Ad (Ad (A:Int) (Ax 4 (K:Int))) 4=((A+4*K+4:Nat):Int):=by
 rw[Fx (by omega) (by omega),Ag (a:=(A:Int)) (by omega) (by omega),Ag (by omega) (by omega)];omega
theorem Ax8{f c w r n:Nat}(h1:shapeB f c w r n=true)(h2:fitB c r n=true)(b:List UInt8)(hb:b.length≤100100)(A:Nat)(hA:A≤b.length):
  Jh b (f:Int) (c:Int) (w:Int) (r:Int) (n:Int) (A:Int)=
   some (if(seekS (b.drop A) (framesL (longN r) n).length).2≠0 then Afw (seekS (b.drop A) (framesL (longN r) n).length).2 else((f:Int),(c:Int),(w:Int),(r:Int),(n:Int),((A+4*(framesL (longN r) n).length+4:Nat):Int),(seekS (b.drop A) (framesL (longN r) n).length).1,0)):=by
 rw[Jh,Arq,Ad5 h1 h2,Aa]
 simp only
 rw[if_neg (by rw[Aj];simp),Fj (by omega) (by omega),Aa,Ac,show(A:Int).toNat=A from rfl,Ayc _ _ (by simp;omega),Aa]
 by_cases h:(seekS (b.drop A) (framesL (longN r) n).length).2≠0
 ·rw[if_pos h,if_pos (by rw[Aj];simpa using h)];rfl
 ·have h0:(seekS (b.drop A) (framesL (longN r) n).length).2=0:=by simpa using h
  obtain⟨g1,g2,g3,g4,g5,g6⟩:=Bcp h0
  have gl:(seekS (b.drop A) (framesL (longN r) n).length).1.length=(framesL (longN r) n).length:=by rw[g1];exact Adj _ _
  rw[if_neg h,if_neg (by rw[Aj];simpa using h),Ac,gl,Bwk _ _ (by omega) (by omega)]
theorem Blh{f c w r n:Nat}(h1:shapeB f c w r n=true)(h2:fitB c r n=true)(b:List UInt8)(hb:b.length≤100100)(A:Nat)(hA:A≤b.length):
  Iy b (f:Int) (c:Int) (w:Int) (r:Int) (n:Int) (A:Int)=
   some (if(seekS (b.drop A) (framesL (longN r) n).length).2≠0 then Afw (seekS (b.drop A) (framesL (longN r) n).length).2 else((f:Int),(c:Int),(w:Int),(r:Int),(n:Int),((A+4*(framesL (longN r) n).length+4:Nat):Int),(seekS (b.drop A) (framesL (longN r) n).length).1,0)):=by
 have hs:(1≤r∧r≤1048576)∧1≤n∧1≤c:=by
  simp only[shapeB,decide_eq_true_eq]at h1;omega
 have hf:n≤4000:=by
  simp only[fitB,decide_eq_true_eq]at h2
  have:=Nat.div_le_self 4000 c
  omega
 rw[Iy,Aan,Fj (by omega) (by omega),Aa,Ama hs.1.2 hs.2.1 hf,Aa,Ac,show(A:Int).toNat=A from rfl,Bb1 _ _ (by simp;omega),Aa]
 simp only
 rw[Zf,Aam]
 by_cases h:(seekS (b.drop A) (framesL (longN r) n).length).2≠0
 ·rw[if_pos h,if_pos (by rw[Aj];simpa using h)];rfl
 ·have h0:(seekS (b.drop A) (framesL (longN r) n).length).2=0:=by simpa using h
  obtain⟨g1,g2,g3,g4,g5,g6⟩:=Bcp h0
  have gl:(seekS (b.drop A) (framesL (longN r) n).length).1.length=(framesL (longN r) n).length:=by rw[g1];exact Adj _ _
  rw[if_neg h,if_neg (by rw[Aj];simpa using h),Ac,gl,Bwk _ _ (by omega) (by omega)]
structure Opn (b p:List UInt8) (f c w r n A:Nat) (l:List Int):Prop where
 prog:seekto_Open b p=some ((f:Int),(c:Int),(w:Int),(r:Int),(n:Int),(A:Int),l,0)
 ref:cadenzaref40_Opened b p=some ((f:Int),(c:Int),(w:Int),(r:Int),(n:Int),(A:Int),l,0)
 pass:p.length≤64
 file:b.length≤100000
 shape:shapeB f c w r n=true
 fit:fitB c r n=true
 len:l.length=(framesL (longN r) n).length
 some1:1≤l.length∧l.length≤1000
 five:∀x∈l,5≤x
 sum:l.sum≤100000
 at':A≤b.length
 tag:(frontS b).2=0
 head:readS (hdr b)=((f:Int),(c:Int),(w:Int),(r:Int),(n:Int),0)
 tab:seekS (b.drop ((frontS b).1.toNat+22+(if f=2 then 8 else 0))) l.length=(l,0)
 pos:A=(frontS b).1.toNat+22+(if f=2 then 8 else 0)+4*l.length+4
theorem Ba3(b p:List UInt8)(hb:b.length≤100100)(hp:p.length≤64):
  (∃e:Int,e≠0∧seekto_Open b p=some (Afw e)∧cadenzaref40_Opened b p=some (Afw e))∨(∃f c w r n A l,Opn b p f c w r n A l):=by
 by_cases h1:100000<b.length
 ·refine .inl ⟨4,by omega,?_,?_⟩
  ·rw[seekto_Open,Mj,if_neg (by rw[Ao,Ac];simp;omega),if_pos (by rw[Ao,Ac];simp;omega)];rfl
  ·rw[cadenzaref40_Opened,Iv,if_pos (by rw[Ao,Ac];simp;omega)];rfl
 have hP:seekto_Open b p=seekto_Open b p:=rfl
 have hR:cadenzaref40_Opened b p=cadenzaref40_Opened b p:=rfl
 conv at hP=>rhs;rw[seekto_Open,Mj,if_neg (by rw[Ao,Ac];simp;omega),if_neg (by rw[Ao,Ac];simp;omega),Qr b (by omega),Aa]
 conv at hR=>rhs;rw[cadenzaref40_Opened,Iv,if_neg (by rw[Ao,Ac];simp;omega),Sj b (by omega),Aa]
 by_cases h2:(frontS b).2=0
 ·obtain⟨p0,p1,p2⟩:=Af9 h2
  have hc:=Fj (l:=b) p0 p1
  simp only[h2]at hP hR
  rw[if_neg (by rw[Aj];simp),hc,Aa,show b.drop (frontS b).1.toNat=hdr b from rfl,Al0 _ (by simp[hdr];omega),Aa]at hP
  rw[if_neg (by rw[Aj];simp),hc,Aa,show b.drop (frontS b).1.toNat=hdr b from rfl,Aly _ (by simp[hdr];omega),Aa]at hR
  by_cases h3:(readS (hdr b)).2.2.2.2.2=0
  ·obtain⟨g1,g2,g3,g4⟩:=Agj h3
   have hlen:(hdr b).length=b.length-(frontS b).1.toNat:=by simp[hdr]
   generalize hF:(frontS b).1.toNat=F at*
   have hF':(frontS b).1=(F:Int):=by omega
   rw[g1,hF']at hP hR
   simp only at hP hR
   generalize f0 (hdr b)=f at*
   generalize f1 (hdr b)=c at*
   generalize f2 (hdr b)=w at*
   generalize f3 (hdr b)=r at*
   generalize f4 (hdr b)=n at*
   have t22:Ad (F:Int) 22=((F+22:Nat):Int):=by rw[Ag (by omega) (by omega)];omega
   have t30:Ad ((F+22:Nat):Int) 8=((F+30:Nat):Int):=by rw[Ag (by omega) (by omega)];omega
   have hf12:f=1∨f=2:=by simp only[shapeB,decide_eq_true_eq]at g3;omega
   rw[if_neg (by rw[Aj];simp),t22,t30]at hP hR
   have hend:∀A:Nat,A≤b.length→A=F+22+(if f=2 then 8 else 0)→seekto_Open b p=Jh b (f:Int) (c:Int) (w:Int) (r:Int) (n:Int) (A:Int)→cadenzaref40_Opened b p=Iy b (f:Int) (c:Int) (w:Int) (r:Int) (n:Int) (A:Int)→
     (∃e:Int,e≠0∧seekto_Open b p=some (Afw e)∧cadenzaref40_Opened b p=some (Afw e))∨(∃f c w r n A l,Opn b p f c w r n A l):=by
    intro A hA hA2 e1 e2
    rw[Ax8 g3 g4 b hb A hA]at e1
    rw[Blh g3 g4 b hb A hA]at e2
    by_cases h:(seekS (b.drop A) (framesL (longN r) n).length).2≠0
    ·rw[if_pos h]at e1 e2
     exact .inl ⟨_,h,e1,e2⟩
    ·have h0:(seekS (b.drop A) (framesL (longN r) n).length).2=0:=by simpa using h
     obtain⟨k1,k2,k3,k4,k5,k6⟩:=Bcp h0
     have gl:(seekS (b.drop A) (framesL (longN r) n).length).1.length=(framesL (longN r) n).length:=by rw[k1];exact Adj _ _
     rw[if_neg h]at e1 e2
     rw[List.length_drop]at k4
     refine .inr ⟨f,c,w,r,n,_,_,⟨e1,e2,hp,by omega,g3,g4,gl,by omega,by rw[k1];exact k5,by rw[k1];exact k6,by omega,h2,g1,by rw[gl,hF,←hA2];exact Prod.ext rfl h0,by rw[gl,hF,←hA2]⟩⟩
   by_cases hpass:((p==([]:List UInt8)) !=(geq (f:Int) (1:Int)))=true
   ·rw[if_pos hpass]at hP hR
    exact .inl ⟨26,by omega,hP,hR⟩
   ·rw[if_neg hpass]at hP hR
    have hpf:(p=[]↔f=1):=by
     rw[Az]at hpass
     have h5:(p==([]:List UInt8))=((f:Int)==1):=by simpa using hpass
     have h6:(p==([]:List UInt8))=true↔((f:Int)==1)=true:=by rw[h5]
     rw[beq_iff_eq,beq_iff_eq]at h6
     rw[h6];omega
    by_cases h5:f=2
    ·have hpne:p≠ []:=fun e=>by have:=hpf.1 e;omega
     have h64:(p !=([]:List UInt8))=true:=by simpa using hpne
     rw[if_pos h64]at hP
     rw[if_pos (by rw[Az,h5];rfl),Be (by rw[Ac];omega) (by rw[Ac];omega)]at hR
     by_cases h6:b.length<F+30
     ·rw[if_pos (by rw[Af,Ac];simp;omega)]at hP hR
      exact .inl ⟨24,by omega,hP,hR⟩
     ·have hseg:((b.take (F+30)).drop (F+22)).length=8:=by simp;omega
      rw[if_neg (by rw[Af,Ac];simp;omega),Mx (by omega) (by omega) (by omega),Aa]at hP hR
      rw[Sp,Bg9 p hp,Aa]at hP
      rw[Ayd p hp,Aa]at hR
      simp only at hP
      rw[if_neg (by rw[Aj,Aj,Ac,Ac,Ld,show((F+30:Nat):Int).toNat=F+30 from rfl,show((F+22:Nat):Int).toNat=F+22 from rfl,hseg];simp),Fo,Aa,Aa]at hP
      simp only at hP
      rw[if_neg (by rw[Aj];simp)]at hP
      generalize(b.take ((F+30:Nat):Int).toNat).drop ((F+22:Nat):Int).toNat=seg at*
      by_cases h7:seg=leB (Aas p).toNat 8
      ·rw[if_neg (by simp[h7])]at hP
       rw[if_neg (by simp[h7])]at hR
       exact hend (F+30) (by omega) (by rw[if_pos h5]) hP hR
      ·rw[if_pos (by simpa using h7)]at hP
       rw[if_pos (by simpa using h7)]at hR
       exact .inl ⟨26,by omega,hP,hR⟩
    ·have hpe:p=[]:=hpf.2 (by omega)
     rw[if_neg (by rw[hpe];simp)]at hP
     rw[if_neg (by rw[Az];simp;omega)]at hR
     exact hend (F+22) (by omega) (by rw[if_neg h5]) hP hR
  ·generalize readS (hdr b)=v at*
   obtain⟨v1,v2,v3,v4,v5,v6⟩:=v
   simp only at h3 hP hR
   rw[if_pos (by rw[Aj];simpa using h3)]at hP hR
   exact .inl ⟨v6,h3,hP,hR⟩
 ·generalize frontS b=v at*
  obtain⟨v,e⟩:=v
  simp only at h2 hP hR
  rw[if_pos (by rw[Aj];simpa using h2)]at hP hR
  exact .inl ⟨e,h2,hP,hR⟩
end Go.Pl
set_option linter.unusedVariables false
set_option linter.unusedSimpArgs false
namespace Go.Pl
open Go Go.Lv
theorem Bf5(l:List Int)(i:Nat):(l.take i).sum+(l.drop i).sum=l.sum:=by
 conv=>rhs;rw[←List.take_append_drop i l,List.sum_append]
theorem Ds{l:List Int}(h5:∀x∈l,5≤x)(i:Nat):0≤(l.take i).sum∧(l.take i).sum≤l.sum:=by
 have h1:=Bn0 (l.take i) fun x hx=>h5 x (List.mem_of_mem_take hx)
 have h2:=Bn0 (l.drop i) fun x hx=>h5 x (List.mem_of_mem_drop hx)
 have:=Bf5 l i
 omega
theorem Fu{l:List Int}{i:Nat}(h:i<l.length):(l.take (i+1)).sum=(l.take i).sum+l[i]:=by
 rw[Agh h,List.sum_append];simp
def Baq(l:List Int)(n:Nat):List Int:=(List.range n).map fun i=>(l.take i).sum
theorem Bmq(l:List Int)(n:Nat):(Baq l n).length=n:=by simp[Baq]
theorem Bst(l:List Int)(n:Nat):Baq l (n+1)=Baq l n++[(l.take n).sum]:=by simp[Baq,List.range_succ]
theorem Be3(l:List Int){n i:Nat}(h:i<n):getI (Baq l n) (i:Int)=some ((l.take i).sum):=by
 rw[Bw (by rw[Bmq];exact h)];simp[Baq]
section
variable {l:List Int} (hl:l.length≤1000) (h5:∀x∈l,5≤x) (hs:l.sum≤100000)
include hl h5 hs
theorem Bgm:∀(j i q:Nat),i+j=l.length→j<q→Jg l q (i:Int) ((l.take i).sum) (Baq l (i+1))=some (Baq l (l.length+1),0)
 |0,i,q+1,hi,_=>by
  rw[Jg,Ta,if_neg (by rw[Af,Ac];simp;omega),show i=l.length by omega];rfl
 |j+1,i,q+1,hi,hq=>by
  have hlt:i<l.length:=by omega
  have ih:=Bgm j (i+1) q (by omega) (by omega)
  have b1:=Ds h5 i
  have b2:=Ds h5 (i+1)
  have e:=Fu hlt
  rw[Bst l (i+1),e]at ih
  rw[Jg,Ta,if_pos (by rw[Af,Ac];simp;omega),Bw hlt,Aa,Ag (by omega) (by omega),Fs (by simp[Bmq];omega),Aa,Abs,Aln,Ag (by omega) (by omega),Ag (by omega) (by omega)]
  exact ih
theorem Bzx(h1:1≤l.length):Acp l=some (Baq l (l.length+1),0):=by
 have h:=Bgm hl h5 hs l.length 0 Am (by omega) (by have:=Ak;omega)
 have hx:∀x∈l,0≤x∧x<4294967296:=fun x hx=>by
  have:=Bns h5 x hx
  have:=h5 x hx
  omega
 have ht:Ap2 l=true:=by
  rw[Ap2,Bool.and_eq_true]
  exact⟨by simpa using⟨h1,hl⟩,(Ba0 l 100000 (by omega)).2 ⟨h5,hs⟩⟩
 rw[Acp,Ab4,Bfn l hl hx,Aa,if_pos ht,if_neg (by rw[Aj];simp)]
 exact h
theorem Bfg(f c w r n A:Int)(hA:0≤A)(hA2:A≤200000)(k:Nat)(hk:k≤l.length):∀(j i q:Nat),i+j=k→j<q→Gx (k:Int) f c w r n A l q (A+(l.take i).sum) (i:Int)=some (A+(l.take k).sum)
 |0,i,q+1,hi,_=>by
  rw[Gx,Pf,if_neg (by rw[Af];simp;omega),show i=k by omega];rfl
 |j+1,i,q+1,hi,hq=>by
  have hlt:i<l.length:=by omega
  have ih:=Bfg f c w r n A hA hA2 k hk j (i+1) q (by omega) (by omega)
  have b1:=Ds h5 i
  have b2:=Ds h5 (i+1)
  have e:=Fu hlt
  rw[e,←Int.add_assoc]at ih
  rw[Gx,Pf,if_pos (by rw[Af];simp;omega),Bw hlt,Aa,Ag (by omega) (by omega),Ag (by omega) (by omega)]
  exact ih
theorem Bf7(f c w r n A:Int)(hA:0≤A)(hA2:A≤200000)(k:Nat)(hk:k≤l.length):Agn f c w r n A l (k:Int)=some (A+(l.take k).sum):=by
 have h:=Bfg hl h5 hs f c w r n A hA hA2 k hk k 0 Am (by omega) (by have:=Ak;omega)
 rw[List.take_zero,List.sum_nil,Int.add_zero]at h
 exact h
end
theorem Avq{g n:Nat}(hg:1≤g)(hn:1≤n){x:Int}(h:x∈framesL g n):∃m:Nat,x=m∧1≤m∧m≤n:=by
 have hmul:=Nat.div_mul_le_self (n-1) g
 rw[framesL,List.mem_append]at h
 rcases h with h|h
 ·rw[List.mem_replicate]at h
  have h1:1≤(n-1)/g:=Nat.pos_of_ne_zero h.1
  have:=Nat.mul_le_mul_right g h1
  exact⟨g,h.2,hg,by omega⟩
 ·rw[List.mem_singleton]at h
  exact⟨_,h,by omega,by omega⟩
theorem Yd{f c w r n:Nat}(h:shapeB f c w r n=true):(1≤c∧c≤6)∧Cq (w:Int)∧(1≤r∧r≤1048576)∧1≤n∧(f=1∨f=2):=by
 simp only[shapeB,decide_eq_true_eq]at h
 refine⟨h.2.1,?_,h.2.2.2.1,h.2.2.2.2,h.1⟩
 rcases h.2.2.1 with rfl|rfl|rfl
 ·exact .inl rfl
 ·exact .inr (.inl rfl)
 ·exact .inr (.inr rfl)
theorem Btw{b p:List UInt8}{f c w r n A:Nat}{l:List Int}(o:Opn b p f c w r n A l)(k:Nat)(hk:k<l.length):
  ∃y:List UInt8×Int,Ok (k:Int) (framesL (longN r) n) (f:Int) (c:Int) (w:Int) (r:Int) (n:Int) (A:Int) b (tapsOf p) l (Baq l (l.length+1))=some y∧
   cadenzaref40_Got b p (f:Int) (c:Int) (w:Int) (r:Int) (n:Int) (A:Int) l (k:Int)=some y:=by
 obtain⟨hc,hw,hr,hn,_⟩:=Yd o.shape
 have hfit:n≤4000/c:=by have:=o.fit;simp only[fitB,decide_eq_true_eq]at this;exact this.1
 have hn4:n≤4000:=by have:=Nat.div_le_self 4000 c;omega
 have hA:=o.at'
 have hfile:=o.file
 have hlen:=o.len
 have b1:=Ds o.five k
 have b2:=Ds o.five (k+1)
 have e:=Fu hk
 have h5:=o.five l[k] (List.getElem_mem _)
 have hsum:=o.sum
 have hs1:=o.some1
 have hkf:k<(framesL (longN r) n).length:=by omega
 obtain⟨m,hm,m1,m2⟩:=Avq (Agf r) hn (List.getElem_mem hkf)
 have e1:Ad (k:Int) 1=((k+1:Nat):Int):=by rw[Ag (by omega) (by omega)];omega
 rw[Ok,Aer,if_neg (by rw[Aj];simp),if_neg (by simp[Af,Du,Ac];omega),e1,Be3 l (by omega),Be3 l (by omega),Aa,Aa,Aa,Aa,Afb,Aeu,Ag (a:=(A:Int)) (b:=(l.take (k+1)).sum) (by omega) (by omega),Ag (by omega) (by omega)]
 rw[cadenzaref40_Got,Tu,Bf7 hs1.2 o.five o.sum _ _ _ _ _ (A:Int) (by omega) (by omega) k (by omega),Aa,Bw hk,Aa,Be (by rw[Ac];omega) (by rw[Ac];omega)]
 by_cases hto:(b.length:Int)<(A:Int)+(l.take (k+1)).sum
 ·rw[if_pos (by rw[Ao,Ac,decide_eq_true_eq];omega),if_pos (by rw[Af,Ac,decide_eq_true_eq];omega)]
  exact⟨_,rfl,rfl⟩
 ·rw[if_neg (by rw[Ao,Ac,decide_eq_true_eq];omega),if_neg (by rw[Af,Ac,decide_eq_true_eq];omega),Bct p o.pass,Ama hr.2 hn hn4]
  simp only[Aa]
  rw[Ag (a:=(A:Int)+(l.take k).sum) (b:=l[k]) (by omega) (by omega),Int.add_assoc,←e,Bw hkf,hm]
  simp only[Aa]
  rw[Mx (by omega) (by omega) (by omega),Aa,Aa]
  obtain⟨x,er,g1,g2,g3,_⟩:=Azs (ch:=c) (n:=m) (t:=tapsOf p) ((b.take ((A:Int)+(l.take (k+1)).sum).toNat).drop ((A:Int)+(l.take k).sum).toNat) hw (Bdm p) hc.1 hc.2 m1 (by omega)
  rw[g1,g2,Aa,Aa]
  simp only
  rw[Ae7,Aen,Tx,Tw]
  by_cases her:er=0
  ·obtain⟨g4,g5,_⟩:=g3 her
   rw[if_neg (by rw[Aj];simpa using her),if_neg (by rw[Aj];simpa using her),Bfk hw g5 g4,Bgk hw g5 g4,Aa,Aa]
   exact⟨_,rfl,rfl⟩
  ·rw[if_pos (by rw[Aj];simpa using her),if_pos (by rw[Aj];simpa using her)]
   exact⟨_,rfl,rfl⟩
theorem Bl8{b p:List UInt8}{f c w r n A:Nat}{l:List Int}(o:Opn b p f c w r n A l)(k:Int):Zo b p k=Ok k (framesL (longN r) n) (f:Int) (c:Int) (w:Int) (r:Int) (n:Int) (A:Int) b (tapsOf p) l (Baq l (l.length+1)):=by
 have hs1:=o.some1
 rw[Zo,Aet,o.prog,Aa]
 simp only
 rw[if_neg (by rw[Aj];simp),Ad5 o.shape o.fit,Aa]
 simp only
 rw[if_neg (by rw[Aj];simp),Bzx hs1.2 o.five o.sum hs1.1,Aa]
 simp only
 rw[if_neg (by rw[Aj];simp),Bhj p o.pass,Aa]
 simp only
 rw[if_neg (by rw[Aj];simp),Ac,←o.len,Be3 l (by omega),Aa,Aa]
end Go.Pl
set_option linter.unusedVariables false
set_option linter.unusedSimpArgs false
namespace Go.Pl
open Go Go.Lv
theorem Cc1(n m:Nat):Kw n m 0≠Kw n m 2147483648:=by
 intro h
 simp[Kw,leB,APE]at h
def Bk(b:List UInt8):List UInt8:=b.drop (b.length-32)
theorem Blg{b:List UInt8}(h:32≤b.length):(Bk b).length=32:=by rw[Bk,List.length_drop];omega
def itA(t:List UInt8):Nat:=Dd (part t 12 4)-32
def mnA(t:List UInt8):Nat:=Dd (part t 16 4)
def Rz(b:List UInt8):Int×Int:=
 if ¬(32≤b.length∧(Bk b).take 8=APE)then(0,6)else if Xi (Bk b)=true then(0,12)else
 if Bk b=Kw (itA (Bk b)) (mnA (Bk b)) 0 then(if b.length<itA (Bk b)+32 then(0,24)else(((itA (Bk b)+32:Nat):Int),0))else
 if Bk b≠Kw (itA (Bk b)) (mnA (Bk b)) 2147483648 then(0,12)else
 if b.length<itA (Bk b)+64 then(0,24)else
 if(b.take (b.length-(itA (Bk b)+64)+32)).drop (b.length-(itA (Bk b)+64))≠Kw (itA (Bk b)) (mnA (Bk b)) 2684354560 then(0,12)else(((itA (Bk b)+64:Nat):Int),0)
section
variable {b:List UInt8}
theorem ba1(h:¬(32≤b.length∧(Bk b).take 8=APE)):Rz b=(0,6):=by rw[Rz,if_pos h]
variable (h:32≤b.length∧(Bk b).take 8=APE)
include h
theorem ba2(h2:Xi (Bk b)=true):Rz b=(0,12):=by rw[Rz,if_neg (fun h'=>h' h),if_pos h2]
variable (h2:Xi (Bk b)=false)
include h2
theorem ba3(h3:Bk b=Kw (itA (Bk b)) (mnA (Bk b)) 0):Rz b=if b.length<itA (Bk b)+32 then(0,24)else(((itA (Bk b)+32:Nat):Int),0):=by
 rw[Rz,if_neg (fun h'=>h' h),if_neg (by rw[h2];simp),if_pos h3]
variable (h3:Bk b≠Kw (itA (Bk b)) (mnA (Bk b)) 0)
include h3
theorem ba4(h4:Bk b≠Kw (itA (Bk b)) (mnA (Bk b)) 2147483648):Rz b=(0,12):=by
 rw[Rz,if_neg (fun h'=>h' h),if_neg (by rw[h2];simp),if_neg h3,if_pos h4]
variable (h4:Bk b=Kw (itA (Bk b)) (mnA (Bk b)) 2147483648)
include h4
theorem ba5(h5:b.length<itA (Bk b)+64):Rz b=(0,24):=by
 rw[Rz,if_neg (fun h'=>h' h),if_neg (by rw[h2];simp),if_neg h3,if_neg (fun e=>e h4),if_pos h5]
theorem ba6(h5:¬b.length<itA (Bk b)+64):Rz b=if(b.take (b.length-(itA (Bk b)+64)+32)).drop (b.length-(itA (Bk b)+64))≠Kw (itA (Bk b)) (mnA (Bk b)) 2684354560 then(0,12)else(((itA (Bk b)+64:Nat):Int),0):=by
 rw[Rz,if_neg (fun h'=>h' h),if_neg (by rw[h2];simp),if_neg h3,if_neg (fun e=>e h4),if_neg h5]
end
theorem Bmy{b:List UInt8}{n:Int}(h:Rz b=(n,0)):32≤n∧n≤b.length:=by
 unfold Rz at h
 split at h; · simp at h
 rename_i h32
 split at h; · simp at h
 split at h
 ·split at h; · simp at h
  simp only[Prod.mk.injEq,and_true]at h;omega
 split at h; · simp at h
 split at h; · simp at h
 split at h; · simp at h
 simp only[Prod.mk.injEq,and_true]at h;omega
theorem Br4{b:List UInt8}(h:(Rz b).2≠0):(Rz b).1=0:=by
 revert h
 unfold Rz
 split; · simp
 split; · simp
 split
 ·split<;>simp
 split; · simp
 split; · simp
 split<;>simp
theorem Bv4{b:List UInt8}(h:32≤b.length)(hl:b.length<4611686018427387904):Ah (Ac b) 32=((b.length-32:Nat):Int)∧Bp b ((b.length-32:Nat):Int) (Ac b)=some (Bk b):=by
 refine⟨by rw[Ac,Be (by omega) (by omega)];omega,?_⟩
 rw[Fj (by omega) (by omega)];rfl
theorem Brw(b:List UInt8)(hl:b.length<4611686018427387904):Aws b=some (Rz b):=by
 rw[Aws,Arm]
 by_cases h32:32≤b.length
 ·obtain⟨e1,e2⟩:=Bv4 h32 hl
  have hl3:=Blg h32
  rw[if_neg (by rw[e1,Af];simp),e1,e2,Aa,Am3,Aa]
  by_cases hp:(Bk b).take 8=APE
  ·have h:=And.intro h32 hp
   rw[if_neg (by simpa [APE,hl3]using hp),Aqo,Bag,e1,e2,Aa,An0 _ 0 (by omega) (by omega) (by decide),Aa]
   cases hb:Xi (Bk b)with
   |true=>
    rw[ba2 h hb]
    simp only[if_true,Bool.false_eq_true,if_false]
    rw[Aa,An0 _ 2147483648 (by omega) (by omega) (by decide),Aa,hb];rfl
   |false=>
    obtain⟨i1,i2,i3,i4⟩:=Aya (Bk b) (by omega) hb
    have eI:Dd (part (Bk b) 12 4)-32=itA (Bk b):=rfl
    have eM:Dd (part (Bk b) 16 4)=mnA (Bk b):=rfl
    simp only[Bool.false_eq_true,if_false]
    rw[eI]at i3
    rw[eM]at i4
    rw[eI,eM]
    by_cases c1:Bk b=Kw (itA (Bk b)) (mnA (Bk b)) 0
    ·have c1':Bk b=Kw (itA (Bk b)) (mnA (Bk b)) (0:UInt64).toNat:=c1
     rw[if_pos (by simpa using c1'),ba3 h hb c1]
     by_cases c2:b.length<itA (Bk b)+32
     ·rw[if_pos (by rw[Af];simp;omega),if_pos c2]
     ·rw[if_neg (by rw[Af];simp;omega),if_neg c2,Ag (by omega) (by omega)];rfl
    ·have c1':¬Bk b=Kw (itA (Bk b)) (mnA (Bk b)) (0:UInt64).toNat:=c1
     rw[if_neg (by simpa using c1'),Aa,An0 _ 2147483648 (by omega) (by omega) (by decide),Aa,hb]
     simp only[Bool.false_eq_true,if_false]
     rw[eI,eM]
     by_cases c2:Bk b=Kw (itA (Bk b)) (mnA (Bk b)) 2147483648
     ·have c2':Bk b=Kw (itA (Bk b)) (mnA (Bk b)) (2147483648:UInt64).toNat:=c2
      rw[if_neg (by simpa using c2'),Ag (by omega) (by omega)]
      by_cases c3:b.length<itA (Bk b)+64
      ·rw[if_pos (by rw[Af,Ac];simp;omega),ba5 h hb c1 c2 c3]
      ·rw[if_neg (by rw[Af,Ac];simp;omega),Ac,Be (by omega) (by omega),Ag (by omega) (by omega),Mx (by omega) (by omega) (by omega),Aa,Bda _ _ _ i3 i4 (by decide),Aa,Fo,Aa,ba6 h hb c1 c2 c3]
       rw[show((b.length:Int)-(((itA (Bk b):Nat):Int)+64)).toNat=b.length-(itA (Bk b)+64) by omega,show((b.length:Int)-(((itA (Bk b):Nat):Int)+64)+32).toNat=b.length-(itA (Bk b)+64)+32 by omega]
       have e7:(2684354560:UInt64).toNat=2684354560:=rfl
       rw[e7]
       by_cases c4:(b.take (b.length-(itA (Bk b)+64)+32)).drop (b.length-(itA (Bk b)+64))=Kw (itA (Bk b)) (mnA (Bk b)) 2684354560
       ·rw[if_neg (by simpa using c4),if_neg (fun e=>e c4)];rfl
       ·rw[if_pos (by simpa using c4),if_pos c4]
     ·have c2':¬Bk b=Kw (itA (Bk b)) (mnA (Bk b)) (2147483648:UInt64).toNat:=c2
      rw[if_pos (by simpa using c2'),ba4 h hb c1 c2]
  ·rw[if_pos (by rw[Bool.not_eq_true',decide_eq_false_iff_not];intro h;exact hp h.2),ba1 (fun h=>hp h.2)]
 ·rw[if_pos (by rw[Ac,Be (by omega) (by omega),Af];simp;omega),ba1 (fun h=>h32 h.1)]
theorem Byo{b:List UInt8}(h:32≤b.length):(b.take (b.length-32+8)).drop (b.length-32)=(Bk b).take 8:=by
 rw[Bk,List.take_drop]
theorem Bwq(b:List UInt8)(hl:b.length<4611686018427387904):Ym b=some (Rz b):=by
 rw[Ym,Ad6]
 by_cases h32:32≤b.length
 ·obtain⟨e1,e2⟩:=Bv4 h32 hl
  have hl3:=Blg h32
  rw[if_neg (by rw[Af,Ac];simp;omega),e1,Ag (by omega) (by omega),Mx (by omega) (by omega) (by omega),Aa,show((b.length-32:Nat):Int).toNat=b.length-32 from rfl,show(((b.length-32:Nat):Int)+8).toNat=b.length-32+8 by omega,Byo h32]
  by_cases hp:(Bk b).take 8=APE
  ·have h:=And.intro h32 hp
   rw[if_neg (by simpa [APE]using hp),Adu,Adi,e1,e2,Aa,Blj _ (by omega) (by omega),Aa]
   cases hb:Xi (Bk b)with
   |true=>rw[ba2 h hb];rfl
   |false=>
    obtain⟨i1,i2,i3,i4⟩:=Aya (Bk b) (by omega) hb
    have eI:Dd (part (Bk b) 12 4)-32=itA (Bk b):=rfl
    have eM:Dd (part (Bk b) 16 4)=mnA (Bk b):=rfl
    simp only[Bool.false_eq_true,if_false,Bool.not_true]
    rw[eI]at i3
    rw[eM]at i4
    rw[eI,eM,Ie,if_pos rfl,Axc _ _ _ i3 i4 (by decide),Aa,Aa]
    have e7:(2147483648:UInt64).toNat=2147483648:=rfl
    have e8:(2684354560:UInt64).toNat=2684354560:=rfl
    rw[e7]
    by_cases c2:Bk b=Kw (itA (Bk b)) (mnA (Bk b)) 2147483648
    ·have c1:Bk b≠Kw (itA (Bk b)) (mnA (Bk b)) 0:=fun e=>Cc1 (itA (Bk b)) (mnA (Bk b)) (e.symm.trans c2)
     rw[if_neg (by simpa using c2),Rk,Qq,if_pos (by simpa using c2),Rt,Se,Ag (a:=32) (by omega) (by omega),Ag (by omega) (by omega)]
     by_cases c3:b.length<itA (Bk b)+64
     ·rw[if_pos (by rw[Af,Ac];simp;omega),ba5 h hb c1 c2 c3]
     ·rw[if_neg (by rw[Af,Ac];simp;omega),if_pos (by simpa using c2),Ac,Be (by omega) (by omega),Ag (by omega) (by omega),Mx (by omega) (by omega) (by omega),Aa,Qc,Axc _ _ _ i3 i4 (by decide),Aa,Aa,ba6 h hb c1 c2 c3,e8]
      rw[show((b.length:Int)-(32+((itA (Bk b):Nat):Int)+32)).toNat=b.length-(itA (Bk b)+64) by omega,show((b.length:Int)-(32+((itA (Bk b):Nat):Int)+32)+32).toNat=b.length-(itA (Bk b)+64)+32 by omega]
      by_cases c4:(b.take (b.length-(itA (Bk b)+64)+32)).drop (b.length-(itA (Bk b)+64))=Kw (itA (Bk b)) (mnA (Bk b)) 2684354560
      ·rw[if_neg (by simpa using c4),if_neg (fun e=>e c4),show(32+((itA (Bk b):Nat):Int)+32)=((itA (Bk b)+64:Nat):Int) by omega]
      ·rw[if_pos (by simpa using c4),if_pos c4]
    ·rw[if_pos (by simpa using c2),Ie,if_neg (by simp),Axc _ _ _ i3 i4 (by decide),Aa,Aa]
     have e9:(0:UInt64).toNat=0:=rfl
     rw[e9]
     by_cases c1:Bk b=Kw (itA (Bk b)) (mnA (Bk b)) 0
     ·rw[if_neg (by simpa using c1),Rk,Qq,if_neg (by simpa using c2),Rt,Se,Ag (by omega) (by omega),ba3 h hb c1,if_neg (c:=(Bk b==Kw (itA (Bk b)) (mnA (Bk b)) 2147483648)=true) (by simpa using c2)]
      by_cases c3:b.length<itA (Bk b)+32
      ·rw[if_pos (by rw[Af,Ac];simp;omega),if_pos c3]
      ·rw[if_neg (by rw[Af,Ac];simp;omega),if_neg c3,show(32+((itA (Bk b):Nat):Int))=((itA (Bk b)+32:Nat):Int) by omega]
     ·rw[if_pos (by simpa using c1),ba4 h hb c1 c2]
  ·rw[if_pos (by simpa [APE]using hp),ba1 (fun h=>hp h.2)]
 ·rw[if_pos (by rw[Af,Ac];simp;omega),ba1 (fun h=>h32 h.1)]
def Bsm:Nat→List UInt8→Nat→Int×Int
 |0,_,_=>(0,38)
 |j+1,b,a=>if b=[]then((a:Int),0)else if(Rz b).2≠0 then(0,38)else Bsm j (b.take (b.length-(Rz b).1.toNat)) (a+1)
theorem Bkm:∀(j q a:Nat) (b:List UInt8),b.length<j→j≤q→b.length≤4000→a+b.length≤4000→Oh q (a:Int) b=some (Bsm j b a)
 |0,_,_,_,h,_,_,_=>by omega
 |j+1,q+1,a,b,h,hq,h4,ha=>by
  rw[Oh,Ae0,Bsm]
  by_cases hb:b=[]
  ·subst hb;rw[if_neg (by decide),if_pos rfl];rfl
  ·have hpos:0<b.length:=List.length_pos_iff.2 hb
   rw[if_pos (by rw[Ao,Ac];simp;omega),if_neg hb,Brw b (by omega),Aa]
   have hbad:=Br4 (b:=b)
   have hok:=fun n=>Bmy (b:=b) (n:=n)
   generalize Rz b=v at*
   obtain⟨n,e⟩:=v
   simp only at hbad⊢
   rw[Ab0,Aci]
   by_cases he:e≠0
   ·rw[if_pos he,hbad he,if_pos (by decide)]
   ·obtain⟨k1,k2⟩:=hok n (by rw[show e=0 by simpa using he])
    rw[if_neg he,if_neg (by rw[Az];simp;omega),Ac,Be (by omega) (by omega),Ib (by omega) (by omega),Aa,Abv,Amh,Ag (by omega) (by omega)]
    rw[show((b.length:Int)-n).toNat=b.length-n.toNat by omega]
    have ih:=Bkm j q (a+1) (b.take (b.length-n.toNat)) (by rw[List.length_take];omega) (by omega) (by rw[List.length_take];omega) (by rw[List.length_take];omega)
    rw[←ih];rfl
theorem Bql:∀(j q a:Nat) (b:List UInt8),b.length<j→j≤q→b.length≤4000→a+b.length≤4000→Ja q b (a:Int)=some (Bsm j b a)
 |0,_,_,_,h,_,_,_=>by omega
 |j+1,q+1,a,b,h,hq,h4,ha=>by
  rw[Ja,Xw,Bsm]
  by_cases hb:b=[]
  ·subst hb;rw[if_neg (by decide),if_pos rfl];rfl
  ·have hpos:0<b.length:=List.length_pos_iff.2 hb
   rw[if_pos (by rw[Ao,Ac];simp;omega),if_neg hb,Bwq b (by omega),Aa]
   have hok:=fun n=>Bmy (b:=b) (n:=n)
   generalize Rz b=v at*
   obtain⟨n,e⟩:=v
   simp only
   by_cases he:e≠0
   ·rw[if_pos he,if_pos (by rw[Aj];simpa using he)]
   ·obtain⟨k1,k2⟩:=hok n (by rw[show e=0 by simpa using he])
    rw[if_neg he,if_neg (by rw[Aj];simpa using he),Ac,Be (by omega) (by omega),Ib (by omega) (by omega),Aa,Ag (by omega) (by omega)]
    rw[show((b.length:Int)-n).toNat=b.length-n.toNat by omega]
    have ih:=Bql j q (a+1) (b.take (b.length-n.toNat)) (by rw[List.length_take];omega) (by omega) (by rw[List.length_take];omega) (by rw[List.length_take];omega)
    rw[←ih];rfl
def Am2(b:List UInt8):Int×Int:=if 4000<b.length then(0,38)else Bsm (b.length+1) b 0
theorem Bkh(b:List UInt8)(hl:b.length<4611686018427387904):Afz b=some (Am2 b):=by
 rw[Afz,Ae8,Am2]
 by_cases h:4000<b.length
 ·rw[if_pos (by rw[Ao,Ac];simp;omega),if_pos h]
 ·rw[if_neg (by rw[Ao,Ac];simp;omega),if_neg h]
  exact Bkm _ Am 0 b (by omega) (by have:=Ak;omega) (by omega) (by omega)
theorem Bpe(b:List UInt8)(hl:b.length<4611686018427387904):Tj b=some (Am2 b):=by
 rw[Tj,Zx,Am2]
 by_cases h:4000<b.length
 ·rw[if_pos (by rw[Ao,Ac];simp;omega),if_pos h]
 ·rw[if_neg (by rw[Ao,Ac];simp;omega),if_neg h]
  exact Bql _ Am 0 b (by omega) (by have:=Ak;omega) (by omega) (by omega)
end Go.Pl
set_option linter.unusedVariables false
set_option linter.unusedSimpArgs false
namespace Go.Pl
open Go Go.Lv
theorem Cch{a b:Nat}(h:a<9223372036854775808):By (a:Int) (b:Int)=((a/b:Nat):Int):=by
 have:a/b≤a:=Nat.div_le_self _ _
 rw[Aew,Int.tdiv_eq_ediv_of_nonneg (by omega),←Int.natCast_ediv]
 generalize a/b=k at*
 exact Bn (by omega) (by omega)
theorem Axt{bits:Int}(h:Cq bits)(x:Int):(Ab8 bits x).length=wB bits:=by
 obtain rfl|rfl|rfl:=h<;>rfl
theorem Asa{bits:Int}(h:Cq bits):∀l:List Int32,(bytesB bits l).length=l.length*wB bits
 |[]=>by simp[bytesB]
 |x::l=>by
  have h1:=Asa h l
  have h2:=Axt h x.toInt
  simp only[bytesB,List.flatMap_cons,List.length_append,List.length_cons,Nat.succ_mul]at*
  omega
def segF(b:List UInt8)(A:Nat)(l:List Int)(k:Nat):List UInt8:=(b.take ((A:Int)+(l.take (k+1)).sum).toNat).drop ((A:Int)+(l.take k).sum).toNat
structure Gts (b p:List UInt8) (f c w r n A:Nat) (l:List Int) (k m:Nat) (x:List Int32) (s:List UInt8) (e:Int):Prop where
 mom:getI (framesL (longN r) n) (k:Int)=some (m:Int)
 pos:1≤m∧m*c≤4000
 got:cadenzaref40_Got b p (f:Int) (c:Int) (w:Int) (r:Int) (n:Int) (A:Int) l (k:Int)=some (s,e)
 none':e≠0→s=[]∧x=[]
 some':e=0→s=bytesB (w:Int) x∧x.length=m*c∧cadenzaref18_Check (w:Int) x=some 0∧width_Bytes (w:Int) x=some (s,0)∧(A:Int)+(l.take (k+1)).sum≤b.length
 way:((b.length:Int)<(A:Int)+(l.take (k+1)).sum∧e=24)∨((A:Int)+(l.take (k+1)).sum≤b.length∧deframe_Decode (c:Int) (w:Int) (tapsOf p) (m:Int) (segF b A l k)=some (x,e)∧cadenzaref21_Decode (c:Int) (w:Int) (tapsOf p) (m:Int) (segF b A l k)=some (x,e))
theorem Aml{b p:List UInt8}{f c w r n A:Nat}{l:List Int}(o:Opn b p f c w r n A l)(k:Nat)(hk:k<l.length):∃m x s e,Gts b p f c w r n A l k m x s e:=by
 obtain⟨hc,hw,hr,hn,_⟩:=Yd o.shape
 have hfit:n≤4000/c:=by have:=o.fit;simp only[fitB,decide_eq_true_eq]at this;exact this.1
 have hn4:n≤4000:=by have:=Nat.div_le_self 4000 c;omega
 have hA:=o.at'
 have hfile:=o.file
 have hlen:=o.len
 have b1:=Ds o.five k
 have b2:=Ds o.five (k+1)
 have e:=Fu hk
 have h5:=o.five l[k] (List.getElem_mem _)
 have hsum:=o.sum
 have hs1:=o.some1
 have hkf:k<(framesL (longN r) n).length:=by omega
 obtain⟨m,hm,m1,m2⟩:=Avq (Agf r) hn (List.getElem_mem hkf)
 have hmom:getI (framesL (longN r) n) (k:Int)=some (m:Int):=by rw[Bw hkf,hm]
 have hpos:1≤m∧m*c≤4000:=by
  refine⟨m1,?_⟩
  have:=Nat.mul_le_mul_right c (Nat.le_trans m2 hfit)
  have:=Nat.div_mul_le_self 4000 c
  omega
 have hR:cadenzaref40_Got b p (f:Int) (c:Int) (w:Int) (r:Int) (n:Int) (A:Int) l (k:Int)=cadenzaref40_Got b p (f:Int) (c:Int) (w:Int) (r:Int) (n:Int) (A:Int) l (k:Int):=rfl
 conv at hR=>rhs;rw[cadenzaref40_Got,Tu,Bf7 hs1.2 o.five o.sum _ _ _ _ _ (A:Int) (by omega) (by omega) k (by omega),Aa,Bw hk,Aa,Be (by rw[Ac];omega) (by rw[Ac];omega)]
 by_cases hto:(b.length:Int)<(A:Int)+(l.take (k+1)).sum
 ·rw[if_pos (by rw[Af,Ac,decide_eq_true_eq];omega)]at hR
  exact⟨m,[],[],24,hmom,hpos,hR,fun _=>⟨rfl,rfl⟩,fun h=>by simp at h, .inl ⟨hto,rfl⟩⟩
 ·rw[if_neg (by rw[Af,Ac,decide_eq_true_eq];omega),Bct p o.pass,Ama hr.2 hn hn4]at hR
  simp only[Aa]at hR
  rw[Ag (a:=(A:Int)+(l.take k).sum) (b:=l[k]) (by omega) (by omega),Int.add_assoc,←e,hmom]at hR
  simp only[Aa]at hR
  rw[Mx (by omega) (by omega) (by omega),Aa]at hR
  obtain⟨x,er,g1,g2,g3,g4⟩:=Azs (ch:=c) (n:=m) (t:=tapsOf p) (segF b A l k) hw (Bdm p) hc.1 hc.2 m1 (by omega)
  rw[show(b.take ((A:Int)+(l.take (k+1)).sum).toNat).drop ((A:Int)+(l.take k).sum).toNat=segF b A l k from rfl,g2,Aa]at hR
  simp only at hR
  rw[Tx,Tw]at hR
  by_cases her:er=0
  ·obtain⟨g5,g6,g7⟩:=g3 her
   rw[if_neg (by rw[Aj];simpa using her),Bgk hw g6 g5,Aa]at hR
   subst her
   exact⟨m,x,_,0,hmom,hpos,hR,fun h=>absurd rfl h,fun _=>⟨rfl,g7,g5,Bfk hw g6 g5,by omega⟩, .inr ⟨by omega,g1,g2⟩⟩
  ·rw[if_pos (by rw[Aj];simpa using her)]at hR
   exact⟨m,x,_,er,hmom,hpos,hR,fun h=>⟨rfl,g4 h⟩,fun h=>absurd h her, .inr ⟨by omega,g1,g2⟩⟩
theorem Gts.lens{b p:List UInt8}{f c w r n A:Nat}{l:List Int}{k m:Nat}{x:List Int32}{s:List UInt8}{e:Int}(hw:Cq (w:Int))(g:Gts b p f c w r n A l k m x s e):s.length≤12000∧x.length≤4000∧(e=0→s.length=m*c*wB (w:Int)):=by
 by_cases he:e=0
 ·obtain⟨h1,h2,_⟩:=g.some' he
  have h3:=An8 (w:Int) x
  have h4:=Asa hw x
  have h5:=g.pos
  rw[←h1]at h3 h4
  refine⟨by omega,by omega,fun _=>by rw[h4,h2]⟩
 ·obtain⟨h1,h2⟩:=g.none' he
  exact⟨by simp[h1],by simp[h2],fun h=>absurd h he⟩
def Ayv(b p:List UInt8)(f c w r n A:Nat)(l:List Int)(k:Nat):List UInt8×Int:=(cadenzaref40_Got b p (f:Int) (c:Int) (w:Int) (r:Int) (n:Int) (A:Int) l (k:Int)).getD ([],0)
theorem Gts.eq{b p:List UInt8}{f c w r n A:Nat}{l:List Int}{k m:Nat}{x:List Int32}{s:List UInt8}{e:Int}(g:Gts b p f c w r n A l k m x s e):Ayv b p f c w r n A l k=(s,e):=by rw[Ayv,g.got];rfl
def Bsl(b:List UInt8)(A:Nat)(l:List Int):Int:=(Am2 (b.drop ((A:Int)+l.sum).toNat)).2
end Go.Pl
set_option linter.unusedVariables false
set_option linter.unusedSimpArgs false
namespace Go.Pl
open Go Go.Lv
def by'(b:List UInt8)(k:Nat):Nat:=(b.getD k 0).toNat
def sx(n:Nat)(b:List UInt8)(a:Nat):Int:=
 if n=1 then(by' b a:Int)-128 else
 if n=2 then(if by' b a+256*by' b (a+1)<32768 then(by' b a+256*by' b (a+1):Nat)else((by' b a+256*by' b (a+1):Nat):Int)-65536)else
 (if by' b a+256*by' b (a+1)+65536*by' b (a+2)<8388608 then(by' b a+256*by' b (a+1)+65536*by' b (a+2):Nat)else((by' b a+256*by' b (a+1)+65536*by' b (a+2):Nat):Int)-16777216)
def sxs(n m:Nat)(b:List UInt8):List Int32:=(List.range m).map fun x=>Int32.ofInt (sx n b (x*n))
theorem Byi(n m:Nat)(b:List UInt8):(sxs n m b).length=m:=by simp[sxs]
theorem sx2(b:List UInt8)(a:Nat):sx 2 b a=if by' b a+256*by' b (a+1)<32768 then((by' b a+256*by' b (a+1):Nat):Int)else((by' b a+256*by' b (a+1):Nat):Int)-65536:=rfl
theorem sx3(b:List UInt8)(a:Nat):sx 3 b a=if by' b a+256*by' b (a+1)+65536*by' b (a+2)<8388608 then((by' b a+256*by' b (a+1)+65536*by' b (a+2):Nat):Int)else((by' b a+256*by' b (a+1)+65536*by' b (a+2):Nat):Int)-16777216:=rfl
variable (b:List UInt8)
end Go.Pl
set_option linter.unusedVariables false
set_option linter.unusedSimpArgs false
namespace Go.Pl
open Go Go.Lv
theorem Cbx{w:Nat}(hw:Cq (w:Int)):8*wB (w:Int)=w∧w≤24:=by
 have h:w=8∨w=16∨w=24:=by unfold Cq at hw;omega
 rcases h with rfl|rfl|rfl<;>exact⟨rfl,by omega⟩
theorem Cck{t c w:Nat}(ht:t≤4000)(hc:c≤6)(hw:Cq (w:Int)):By (Ax (Ax (t:Int) (c:Int)) (w:Int)) 8=((t*(c*wB (w:Int)):Nat):Int):=by
 obtain⟨h1,h2⟩:=Cbx hw
 have e1:(t:Int)*(c:Int)=((t*c:Nat):Int):=by simp
 have b1:t*c≤4000*6:=Nat.mul_le_mul ht hc
 have b2:t*c*w≤24000*24:=Nat.mul_le_mul b1 h2
 rw[Fx (a:=(t:Int)) (by rw[e1];omega) (by rw[e1];omega),e1,Fx (by rw[←Int.natCast_mul];omega) (by rw[←Int.natCast_mul];omega),←Int.natCast_mul,show(8:Int)=((8:Nat):Int)from rfl,Cch (by omega)]
 congr 1
 generalize wB (w:Int)=W at*
 subst h1
 rw[Nat.mul_left_comm,Nat.mul_div_cancel_left _ (by omega),Nat.mul_assoc]
end Go.Pl
set_option linter.unusedVariables false
set_option linter.unusedSimpArgs false
namespace Go.Pl
open Go Go.Lv
section
variable {b p:List UInt8} {f c w r n A:Nat} {l:List Int} (o:Opn b p f c w r n A l)
include o
theorem Bs7{k m:Nat}{x:List Int32}{s:List UInt8}{e:Int}(hk:k<l.length)(g:Gts b p f c w r n A l k m x s e):Zo b p (k:Int)=some (s,e):=by
 obtain⟨y,h1,h2⟩:=Btw o k hk
 rw[Bl8 o,h1,←g.got,h2]
end
def smF(w:Nat)(y:List UInt8×Int):List Int32:=if y.2≠0 then []else sxs (wB (w:Int)) (y.1.length/wB (w:Int)) y.1
end Go.Pl
